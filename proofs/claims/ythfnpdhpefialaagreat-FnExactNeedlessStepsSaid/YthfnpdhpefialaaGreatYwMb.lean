/- What is held of the marks of a deck. -/
import Derived.Test.YthfnpdhpefialaaGreatYwRa
import Derived.Test.YthfnpdhpefialaaGreatVuM
import Derived.Test.YthfnpdhpefialaaGreatYwC
set_option linter.all false
set_option maxHeartbeats 8000000
namespace Go.Proofs.YthfnpdhpefialaaGreat
open Go.Vs
section
variable [Vs.Envs]
attribute [local irreducible] Vs.Fn
def mI (k:Nat) (j:Nat):Int:=(k+j:Nat)
theorem markInt64S (l:List Int) (k:Nat) (hl:l.length≤1048576) (hk:k≤2 ^ 61):Vs.Fn Tryz.prog F.l_markInt64S [.arr 1 (E cI l) false] [.loc (.b 0) 0 l.length,.v (.int .i64 k)] (.v (.int .i64 (k+l.length:Nat))) [some (.arr 1 (E cI (mkR (mI k) l l.length)) false)]:=by
 refine fn1 Cd.l_markInt64S_k [.b 0] [.arr 1 (E cI (mkR (mI k) l l.length)) false] fun X=>?_
 unfold Cd.l_markInt64S
 simp -dsimp only[go_sem]
 refine LoopK.at dM (X:={i:Nat // i≤l.length}) (fun i=>[(0,.loc (.b 0) 0 l.length),(1,.v (.int .i64 (k+i.1:Nat))),(5,.v (.int .i64 i.1))]) (fun i=>[(.b 0,.arr 1 (E cI (mkR (mI k) l i.1)) false)]) (fun i=>l.length-i.1) ⟨0,by omega⟩ ?_ ?_
 ·simp[Vs.LeL,Vs.look,Vs.hlook,Vs.sput,Vs.sputs,Vs.hset,Vs.hputs,mkR_zero]
 ·rintro⟨i,hi⟩
  simp -dsimp only[go_sem]
  refine Br.mk (fun hc=>?_) fun hc=>?_
  ·have hlt:i<l.length:=by simpa using hc
   have hw:=wrap_succ hlt hl
   have hw2:IntKind.i64.wrap (((k+i:Nat):Int)+1)=((k+(i+1):Nat):Int):=by rw[wrap_in (by omega) (by omega)];omega
   have hgi:(E cI (mkR (mI k) l i)).getD i []=[.v (.int .i64 l[i])]:=mkR_get (c:=cI) _ l hlt
   have hst:(E cI (mkR (mI k) l i)).set i [.v (.int .i64 (k+i:Nat))]=E cI (mkR (mI k) l (i+1)):=mkR_set (c:=cI) (mI k) l hlt
   have hlr:(mkR (mI k) l i).length=l.length:=mkR_length _ l (by omega)
   repeat' first|simp -dsimp only[go_sem,hw,hw2,hgi,hst,hlr,E_len]|apply Br.mk<;>intro h<;>try simp -dsimp only[h]|refine aC ?_|fail
   all_goals(exact⟨⟨i+1,by omega⟩,by simp[Vs.LeL,Vs.look,Vs.hlook,Vs.sput,Vs.sputs,Vs.hset,Vs.hputs],by simp only;omega⟩)
  ·have hge:i=l.length:=by
    have:¬i<l.length:=by simpa using hc
    omega
   subst hge
   simp -dsimp only[go_sem]
   exact⟨⟨_,_,rfl,rfl⟩,fun h=>h rfl⟩
theorem heldInt64S (l:List Int) (k:Nat) (hl:l.length≤1048576) (hk:k≤2 ^ 61):Fz F.l_heldInt64S [.sl 1 (E cI (mkR (mI k) l l.length)),.v (.int .i64 k)] (.v (.int .i64 (k+l.length:Nat))):=by
 have hlr:(mkR (mI k) l l.length).length=l.length:=mkR_length _ l (Nat.le_refl _)
 refine fn0 Cd.l_heldInt64S_k fun X=>?_
 simp -dsimp only[go_sem]
 refine LoopK.at dM (X:={i:Nat // i≤l.length}) (fun i=>[(1,.v (.int .i64 (k+i.1:Nat))),(5,.v (.int .i64 i.1))]) (fun i=>[]) (fun i=>l.length-i.1) ⟨0,by omega⟩ ?_ ?_
 ·exact le0
 ·rintro⟨i,hi⟩
  simp -dsimp only[go_sem,E_len,hlr]
  refine Br.mk (fun hc=>?_) fun hc=>?_
  ·have hlt:i<l.length:=by simpa using hc
   have hw:=wrap_succ hlt hl
   have hw2:IntKind.i64.wrap (((k+i:Nat):Int)+1)=((k+(i+1):Nat):Int):=by rw[wrap_in (by omega) (by omega)];omega
   have hgi:(E cI (mkR (mI k) l l.length)).getD i []=[.v (.int .i64 (k+i:Nat))]:=by
    rw[E_get (by rw[hlr];exact hlt)]
    simp only[mkR_all,List.getElem_map,List.getElem_range]
    rfl
   have hbe:(((k+i:Nat):Int) != ((k+i:Nat):Int))=false:=by simp
   repeat' first|simp -dsimp only[go_sem,hw,hw2,hgi,hlr,hbe,E_len]|apply Br.mk<;>intro h<;>try simp -dsimp only[h]|refine aC ?_|fail
   all_goals(exact⟨⟨i+1,by omega⟩,by simp[Vs.LeL,Vs.look,Vs.hlook,Vs.sput,Vs.sputs,Vs.hset,Vs.hputs],by simp only;omega⟩)
  ·have hge:i=l.length:=by
    have:¬i<l.length:=by simpa using hc
    omega
   subst hge
   simp -dsimp only[go_sem]
   simp
def mkD (k:Nat):List (List Int)→List (List Int)
 | []=>[]
 |c::r=>mkR (mI k) c c.length::mkD (k+c.length) r
def totD:List (List Int)→Nat
 | []=>0
 |c::r=>c.length+totD r
theorem mkD_len:∀(k:Nat) (l:List (List Int)),(mkD k l).length=l.length
 |_,[]=>rfl
 |k,c::r=>by simp[mkD,mkD_len _ r]
theorem totD_snoc:∀(l:List (List Int)) (c:List Int),totD (l++[c])=totD l+c.length
 | [],c=>by simp[totD]
 |d::r,c=>by simp only[List.cons_append,totD,totD_snoc r c];omega
theorem mkD_snoc:∀(k:Nat) (l:List (List Int)) (c:List Int),mkD k (l++[c])=mkD k l++[mkR (mI (k+totD l)) c c.length]
 |k,[],c=>by simp[mkD,totD]
 |k,d::r,c=>by simp only[List.cons_append,mkD,mkD_snoc _ r c,totD,Nat.add_assoc]
theorem totD_le:∀{l:List (List Int)},(∀c,c∈l→c.length≤1048576)→totD l≤l.length*1048576
 | [],_=>by simp[totD]
 | d::r,h=>by
  have h1:=h d List.mem_cons_self
  have h2:=totD_le (l:=r) fun c hc=>h c (List.mem_cons_of_mem _ hc)
  simp only[totD,List.length_cons]
  omega
attribute [local go_sem] Int.reduceBEq Int.reduceBNe cC E_len List.replicate_succ List.replicate_zero List.flatten_cons List.flatten_nil List.cons_append List.nil_append List.set_cons_zero List.set_cons_succ List.length_cons List.length_nil List.length_set List.mem_singleton List.mem_cons List.not_mem_nil or_false false_or Vs.Name.t.injEq List.getD_cons_zero List.getD_cons_succ Vs.Name.b.injEq List.getElem?_cons_zero List.getElem?_cons_succ in
theorem markCardS_own (k0:Nat) (hk0:k0≤2 ^ 60) {S:Nat→Prop}{w:World}{v:Value}{l:List (List Int)}{ss:List Value}{xs:Nat→Option Nat}{cs:Nat→Nat} (hk:smallC l) (hS:∀b,S b→b<w.heap.size) (he:Env S w) (h0:RC S w (.sl 1 (ss.map fun s=>[AV.v s])) v)
  (ho:Vs.OwnL S w 1 (l.map (E cI)) ss xs cs) (hx:∀i b,i<ss.length→xs i=some b→b<w.heap.size) :
  Calls Tryz.prog F.l_markCardS #[v,.int .i64 k0] w fun e w'=>e=.returned (.int .i64 (k0+totD l:Nat))∧w.heap.size≤w'.heap.size∧(∀b,b<w.heap.size→(∀i,i<ss.length→xs i≠some b)→w'.heap[b]? = w.heap[b]?)∧(w'.os=w.os∧w'.output=w.output)∧Vs.OwnL S w' 1 ((mkD k0 l).map (E cI)) ss xs cs:=by
 obtain⟨h1,h2,_⟩:=Cd.l_markCardS_k.o
 obtain⟨body,hb,hc⟩:=Option.bind_eq_some_iff.1 h2
 have hz:(Tryz.f14.body.map (zB Tryz.f14.ntmps (drawnG Tryz.prog)))=some true:=by kernel_rfl
 rw[hb] at hz
 have hdr:=drawn_ok Tryz.mixed
 have hlen:l.length=ss.length:=by simpa using ho.len
 refine calls_at (dr:=drawnG Tryz.prog) (ac:=Cd.l_markCardS) h1 hb hc (by simpa using hz) (args:=[.sl 1 (ss.map fun s=>[AV.v s]),.v (.int .i64 (k0:Int))]) (by rw[Cd.l_markCardS_k.n];exact Nat.le_of_ble_eq_true rfl) hS he rfl (fun j hj=>?_) (fun b=>∃i,i<ss.length∧xs i=some b) fun a hok=>?_
 ·match j,hj with
  |0,_=>exact h0
  |1,_=>exact .v _
 generalize hC0:(⟨Tryz.f14.ntmps,w,S,fun b=>∃i,i<ss.length∧xs i=some b,fun _=>none,fun _=>0,fun _=>none⟩:Ctx)=C0 at hok
 have hnt:C0.nt=Tryz.f14.ntmps:=by rw[←hC0]
 have hw0:C0.w0=w:=by rw[←hC0]
 let D:Nat→Prop:=fun b=>∃i,i<ss.length∧xs i=some b
 have hM:∀b,D b→C0.Mut b:=fun b h=>by rw[←hC0];exact h
 have hl1:=hok.later
 have hh1:=hok.hid (D:=D) (fun b ⟨i,hi,hb⟩=>hx i b hi hb) (fun b ⟨i,hi,hb⟩=>(ho.row i hi).no hb) (fun b _ n hn=>by simp[St.f,Vs.hlook] at hn)
 have hok1:=hok.anew
 generalize hC1:C0.anew w S _ _=C1 at hl1 hh1 hok1
 have how1:Vs.OwnL C1.S0 C1.w0 1 (l.map (E cI)) ss xs cs:=by rw[←hC1];exact ho
 have hcnt1:C1.nt=Tryz.f14.ntmps:=hl1.nt.trans hnt
 unfold Cd.l_markCardS
 refine At.step ⟨[(0,.sl 1 (ss.map fun s=>[AV.v s])),(1,.v (.int .i64 (k0:Int)))],[]⟩ hdr hok1 hcnt1 ?_ fun a w1 S1 ρ1 κ1 hok=>?_
 ·simp -dsimp only[go_sem]
  try simp[Vs.LeL,Vs.look,Vs.hlook]
 refine At.seq (At.step ⟨[(0,.sl 1 (ss.map fun s=>[AV.v s])),(1,.v (.int .i64 (k0:Int))),(5,.v (.int .i64 ((0:Nat):Int)))],[]⟩ hdr hok hcnt1 ?_ fun a w3 S3 ρ3 κ3 hok=>?_)
 ·simp -dsimp only[go_sem]
  try simp[Vs.LeL,Vs.look,Vs.hlook]
 refine At.block ?_
 let T:Nat→Nat→St:=fun i kk=>⟨[(0,.sl 1 (ss.map fun s=>[AV.v s])),(1,.v (.int .i64 (kk:Int))),(5,.v (.int .i64 (i:Int)))],[]⟩
 let I:Nat→Act→World→Prop:=fun n a w=>∃(i kk:Nat) (m:List (List Int)) (C:Ctx) (S:Nat→Prop) (ρ:Vs.Name→Option Nat) (κ:Vs.Name→Nat),n=ss.length-i∧i≤ss.length∧kk=k0+totD (l.take i)∧m=mkD k0 (l.take i)++l.drop i∧C.nt=Tryz.f14.ntmps∧Later C0 C∧OK C (T i kk).f a w S ρ κ∧Hid C D (.v undef) undef∧smallC m∧Vs.OwnL C.S0 C.w0 1 (m.map (E cI)) ss xs cs
 have hsl:ss.length≤1048576:=by rw[←hlen];exact hk.1
 refine At.loop I (fun n a w hI=>?_) (n:=ss.length) ⟨0,k0,l,C1,S3,ρ3,κ3,by omega,by omega,by simp[totD],by simp[mkD],hcnt1,hl1,hok,hh1,hk,how1⟩
 obtain⟨i,kk,m,C,S,ρ,κ,hn,hi,hkk,hme,hcnt,hla,hok,hh,hm,how⟩:=hI
 have hkb:totD (l.take i)≤2 ^ 40:=by
  have h1:=totD_le (l:=l.take i) fun c hc=>hk.2 c (List.mem_of_mem_take hc)
  have h2:(l.take i).length≤1048576:=by rw[List.length_take];have:=hk.1;omega
  have:=Nat.mul_le_mul_right 1048576 h2
  omega
 have hsm:(ss.map fun s=>[AV.v s]).length=ss.length:=List.length_map _
 refine At.seq (At.fw hdr hok hcnt (N:=fun σ'=>LeL σ' (T i kk)∧i<ss.length) (E:=fun e σ'=>match e with|.exit j=>j=0∧LeL σ' (T i kk)∧i=ss.length|.ret=>False) ?_ (fun a w hg=>?_) (fun j a w hg=>?_) (fun a w hg=>hg.no.elim))
 ·simp only[T]
  simp -dsimp only[go_sem,hsm]
  refine Br.mk (fun hc=>?_) fun hc=>?_
  ·have hlt:i<ss.length:=by have:=of_decide_eq_true hc;omega
   try simp -dsimp only[go_sem,hsm]
   exact⟨by simp[Vs.LeL,Vs.look,Vs.hlook],hlt⟩
  ·have hge:i=ss.length:=by have:=of_decide_eq_false hc;omega
   try simp -dsimp only[go_sem,hsm]
   exact⟨by simp[Vs.LeL,Vs.look,Vs.hlook],hge⟩
 rotate_left
 ·obtain⟨σ',S',ρ',κ',⟨rfl,hle,rfl⟩,hok'⟩:=hg
  have hok:=hok'.le hle
  simp only[Exit.then,Exit.inBlock,if_true]
  refine At.step ⟨[(4,.v (.int .i64 (kk:Int)))],[]⟩ hdr hok hcnt ?_ fun a w4 S4 ρ4 κ4 hok4=>?_
  ·simp only[T]
   try simp -dsimp only[go_sem,hsm]
   simp[Vs.LeL,Vs.look,Vs.hlook]
  refine At.ret ⟨.inl rfl,hok4.defers,?_⟩
  obtain ⟨x,v,hx',hxv,hrun⟩:=Vs.res_run hok4 (fn:=Tryz.f14) (K:=fun x=>x=.v (.int .i64 (kk:Int))) (by
    show Vs.resL Tryz.prog _ _ [_]
    simp[Vs.resL,Vs.resV,Vs.look,Vs.oneOr])
  subst hx'
  have hb4:=hok4.back hla
  refine⟨v,hrun,by rw[inv_v hxv,hkk,←hlen,List.take_length],?_,fun b hb hno=>?_,?_,?_⟩
  ·have:=hb4.size;rw[hw0] at this;exact this
  ·have:=hb4.old b (by rw[hw0];exact hb) (by rw[←hC0];rintro⟨i,hi,hb⟩;exact hno i hi hb);rw[hw0] at this;exact this
  ·have:=hb4.out;rw[hw0] at this;exact this
  ·rw[hme,←hlen,List.take_length,List.drop_length,List.append_nil] at how
   exact how.mono (fun j b hj hb hs=>(hh.same hok4).2.2.1 b ⟨j,hj,hb⟩ (hb4.S0 b (by rw[←hC0];exact hs))) (fun j b hj hb=>(hh.same hok4).1 b ⟨j,hj,hb⟩)
 obtain⟨σ',S',ρ',κ',⟨hle,hlt⟩,hok'⟩:=hg
 have hok:=hok'.le hle
 have hml0:m.length=ss.length:=by simpa using how.len
 have hlm:i<m.length:=by omega
 have hgt:(ss.map fun s=>[AV.v s]).getD i []=[.v ss[i]]:=by simp[hlt]
 obtain ⟨sb,sn,sc,hsv⟩:∃b n c,ss[i]=.slice b n c:=by
  have:=(how.row i hlt).loc 1 _ false rfl
  obtain⟨_,b,c,e,_⟩:=this
  exact⟨_,_,_,by simpa[hlt] using e⟩
 show At Tryz.prog _ _ (.seq _ _) _ a w
 refine At.seq (At.block (At.region (pre:=[⟨some 12,.mv (.tmp 0),none⟩,⟨some 13,.mv (.tmp 5),none⟩,⟨some 14,.idxSl 1 (.tmp 12) (.tmp 13),none⟩,⟨some 15,.fieldAddr 0 (.tmp 14),none⟩,⟨some 16,.load false 1 (.tmp 15),none⟩,⟨some 17,.mv (.tmp 1),none⟩]) (o:=⟨some 18,.call (.func F.l_markInt64S) [(.tmp 16),(.tmp 17)] [0],none⟩) (post:=[⟨some 1,.mv (.tmp 18),none⟩]) hok hcnt rfl ?_))
 let τ:St:=⟨[(16,.v ss[i]),(17,.v (.int .i64 (kk:Int))),(0,.sl 1 (ss.map fun s=>[AV.v s])),(1,.v (.int .i64 (kk:Int))),(5,.v (.int .i64 (i:Int)))],[]⟩
 refine Vs.vc_mono (K:=fun σ'=>LeL σ' τ) (fun σ1 hle1=>?_) _ _ ?_
 rotate_left
 ·simp only[T]
  simp -dsimp only[go_sem,hsm,hgt]
  exact⟨⟨by omega,by omega⟩,by simp[τ,Vs.LeL,Vs.look,Vs.hlook]⟩
 intro a w S2 ρ2 κ2 op ops hokx hcop
 have hok2:=hokx.le hle1
 have hml:m.length=ss.length:=by simpa using how.len
 have hmi:m[i].length≤1048576:=hm.2 _ (List.getElem_mem _)
 have hM64:=markInt64S m[i] kk hmi (by omega)
 have how2:Vs.OwnL S2 w 1 (m.map (E cI)) ss xs cs:=how.mono (fun j b hj hb=>(hh.same hok2).2.2.1 b ⟨j,hj,hb⟩) (fun j b hj hb=>(hh.same hok2).1 b ⟨j,hj,hb⟩)
 have hr:=how2.row i hlt
 have e1:(m.map (E cI)).getD i []=E cI m[i]:=by simp[hml,hlt]
 have e2:ss.getD i undef=ss[i]:=by simp[hlt]
 rw[e1,e2] at hr
 have hE:(E cI m[i]).length=m[i].length:=E_len _
 have h16:a.tmps.getD 16 undef=ss[i]:=inv_v (hok2.slots 16)
 have h17:a.tmps.getD 17 undef=.int .i64 (kk:Int):=inv_v (hok2.slots 17)
 have hargs:([Operand.tmp 16,.tmp 17].map a.eval).toArray=#[ss[i],.int .i64 (kk:Int)]:=by
  show #[a.tmps.getD 16 undef,a.tmps.getD 17 undef]=_
  rw[h16,h17]
 refine op_call (by rw[hcnt];exact hcop) rfl hok2 hM64.has ?_
 rw[hargs]
 refine (calls_own (by rw[hE];exact hM64) (fun r hr=>by
   obtain⟨y,_,rfl⟩:=List.mem_map.1 hr
   rfl) hr hok2.hok.dom hok2.hok.env).mono ?_
 rintro e w' ⟨rfl,q1,q2,q3,q4,q5⟩
 have hD2:=hh.same hok2
 have hw1:∀b,b<w.heap.size→¬D b→w'.heap[b]? = w.heap[b]?:=fun b hb hd=>q2 b hb fun hx=>hd ⟨i,hlt,hx⟩
 have hok3:=OK.wrote hh hok2 q1 hw1 q3
 have hla3:=OK.wroteM hla (fun b hb=>.inr (hM b hb)) hok2 q1 hw1 q3
 have hh3:Hid (C.anew w' S2 τ.f.h ρ2) D (.v undef) undef:=⟨.v _,fun b hb=>Nat.lt_of_lt_of_le (hD2.2.1 b hb) q1,fun b hb=>⟨hD2.2.2.1 b hb,fun⟨n,g1,g2⟩=>hD2.2.2.2 b hb n g1 g2⟩⟩
 have how3:Vs.OwnL S2 w' 1 ((m.set i (mkR (mI kk) m[i] m[i].length)).map (E cI)) ss xs cs:=by
  rw[List.map_set]
  exact how2.write hlt (by rw[e2];exact q4) (fun j b hj hb hx=>q2 b (hD2.2.1 b ⟨j,hj,hb⟩) hx) (fun j b hj hb=>hD2.2.2.1 b ⟨j,hj,hb⟩)
 have hm3:smallC (m.set i (mkR (mI kk) m[i] m[i].length)):=by
  refine⟨by rw[List.length_set];exact hm.1,fun c hc=>?_⟩
  rcases List.mem_or_eq_of_mem_set hc with h|h
  ·exact hm.2 c h
  ·rw[h,mkR_length _ _ (Nat.le_refl _)];exact hmi
 let σ4:St:=⟨(18,.v (.int .i64 ((kk+m[i].length:Nat):Int)))::τ.s,τ.h⟩
 have hok4:OK (C.anew w' S2 τ.f.h ρ2) σ4.f (a.put (some 18) (.int .i64 ((kk+m[i].length:Nat):Int))) w' S2 ρ2 κ2:=hok3.put (x:=.v (.int .i64 ((kk+m[i].length:Nat):Int))) (v:=.int .i64 ((kk+m[i].length:Nat):Int)) (d:=some 18) (.clo (.v _)) (fun d hd=>by
   obtain rfl:=Option.some.inj hd
   show 18<C.nt
   rw[hcnt,Cd.l_markCardS_k.n];omega)
 refine⟨_,rfl,C.anew w' S2 τ.f.h ρ2,σ4,S2,ρ2,κ2,fun σ'=>LeL σ' (T i (kk+m[i].length)),hcnt,hok4,?_,fun a w hg=>?_⟩
 ·simp only[σ4,τ,T]
  simp -dsimp only[go_sem,hsm,hgt]
  simp[Vs.LeL,Vs.look,Vs.hlook]
 obtain⟨S5,ρ5,κ5,hok5⟩:=hg.le
 have hw2:=wrap_succ hlt hsl
 show At Tryz.prog _ _ (.region _ _ _) _ a w
 refine At.fw hdr hok5 hcnt (N:=fun σ'=>LeL σ' (T (i+1) (kk+m[i].length))) (E:=fun _ _=>False) ?_ (fun a w hg=>?_) (fun j a w hg=>hg.no.elim) (fun a w hg=>hg.no.elim)
 ·simp only[T]
  simp -dsimp only[go_sem,hsm,hgt]
  simp[Vs.LeL,Vs.look,Vs.hlook,hw2]
 obtain⟨S6,ρ6,κ6,hok6⟩:=hg.le
 have hli:i<l.length:=by omega
 have hmil:m[i]=l[i]:=by
  have hq:(mkD k0 (l.take i)).length=i:=by rw[mkD_len,List.length_take];omega
  simp only[hme]
  rw[List.getElem_append_right (by omega)]
  simp[hq]
 refine⟨ss.length-(i+1),by omega,i+1,kk+m[i].length,_,C.anew w' S2 τ.f.h ρ2,S6,ρ6,κ6,rfl,by omega,?_,?_,hcnt,hla3,hok6,hh3,hm3,how3⟩
 ·rw[take_succ hli,totD_snoc,hkk,hmil];omega
 ·rw[take_succ hli,mkD_snoc]
  simp only[hmil]
  rw[hme,←hkk]
  have hq:(mkD k0 (l.take i)).length=i:=by rw[mkD_len,List.length_take];omega
  rw[List.set_append_right _ _ (by omega),hq,Nat.sub_self,List.drop_eq_getElem_cons hli,List.set_cons_zero]
  simp
theorem deckE (l:List (List Int)):(l.map (E cI)).map (fun r=>[AV.sl 1 r])=E cC l:=by simp[E,cC,List.map_map]
theorem toCardS_dk (l:List (List Int)) (hk:smallC l) {S:Nat→Prop}{w:World}{v0:Value} (hS:∀b,S b→b<w.heap.size) (he:Env S w) (h0:RC S w (.sl 1 (E cC l)) v0) :
  Calls Tryz.prog F.l_toCardS #[v0] w fun e w'=>∃v,e=.returned v∧Vs.Grew w w'∧Vs.NewDk w w' (l.map (E cI)) v:=by
 refine(toCardS_new l hk hS he h0).mono ?_
 rintro e w' ⟨v,D,ss,xs,cs,x0,rfl,q1,q2,q3,q4,q5,q6,q7,q8,q9⟩
 have hD:∀b,Vs.Mem.D ⟨x0,ss,xs,cs⟩ b→D b:=fun b hb=>hb.elim (fun h=>q7 b h) fun⟨i,hi,h⟩=>q8 i b hi h
 exact⟨v,rfl,⟨q1,q2,q3⟩,⟨x0,ss,xs,cs⟩,⟨q6,q9.mono (fun i b hi hb hs=>(q9.row i hi).no hb (.inr hs)) fun _ _ _ _=>rfl,fun b hb=>(q5 b (hD b hb)).2⟩,fun b hb=>(q5 b (hD b hb)).1⟩
theorem markCardS_dk (k0:Nat) (hk0:k0≤2 ^ 60) {S:Nat→Prop}{w:World}{v:Value}{l:List (List Int)}{m:Vs.Mem} (hk:smallC l) (hS:∀b,S b→b<w.heap.size) (he:Env S w) (hno:∀b,m.D b→¬S b) (hd:Vs.Dk w (l.map (E cI)) v m) :
  Calls Tryz.prog F.l_markCardS #[v,.int .i64 k0] w fun e w'=>e=.returned (.int .i64 (k0+totD l:Nat))∧w.heap.size≤w'.heap.size∧(∀b,b<w.heap.size→¬m.D b→w'.heap[b]? = w.heap[b]?)∧(w'.os=w.os∧w'.output=w.output)∧Vs.Dk w' ((mkD k0 l).map (E cI)) v m:=by
 have hx:∀i b,i<m.ss.length→m.xs i=some b→b<w.heap.size:=fun i b hi hb=>hd.lt b (.inr ⟨i,hi,hb⟩)
 refine(markCardS_own k0 hk0 (S:=fun b=>S b∨m.x0=some b) hk (fun b hb=>hb.elim (hS b) fun h=>hd.lt b (.inl h)) (he.mono (fun _ h=>.inl h) fun _ _=>rfl) (hd.root.mono (fun _ h=>.inr h) fun _ _=>rfl) (hd.rows.mono (fun i b hi hb hs=>hs.elim (hno b (.inr ⟨i,hi,hb⟩)) ((hd.rows.row i hi).no hb)) fun _ _ _ _=>rfl) hx).mono ?_
 rintro e w' ⟨rfl,q1,q2,q3,q4⟩
 refine⟨rfl,q1,fun b hb hD=>q2 b hb fun i hi h=>hD (.inr ⟨i,hi,h⟩),q3,hd.root.mono (fun _ h=>h) fun b hb=>q2 b (hd.lt b (.inl hb)) fun i hi h=>(hd.rows.row i hi).no h hb,q4.mono (fun i b hi hb hs=>(q4.row i hi).no hb (.inr hs)) fun _ _ _ _=>rfl,fun b hb=>Nat.lt_of_lt_of_le (hd.lt b hb) q1⟩
end
section
variable [Vs.Envs]
attribute [local irreducible] Vs.Fn
end
end Go.Proofs.YthfnpdhpefialaaGreat
