/- The marks of a deck, and what is held of them. -/
import Derived.Test.YtkgeiaideklmoaaGreatZwRh
import Derived.Test.YtkgeiaideklmoaaGreatVuD
set_option linter.all false
set_option maxHeartbeats 8000000
namespace Go.Proofs.YtkgeiaideklmoaaGreat
open Go.Vs
variable [Vs.Envs]
attribute [local irreducible] Vs.Fn
def mI (k:Nat) (j:Nat):Int:=(k+j:Nat)
theorem aFF (l:List Int) (k:Nat) (hl:l.length≤1048576) (hk:k≤2 ^ 61):Vs.Fn Tryz.prog F.iL [.arr 1 (E cI l) false] [.loc (.b 0) 0 l.length,.v (.int .i64 k)] (.v (.int .i64 (k+l.length:Nat))) [some (.arr 1 (E cI (mkR (mI k) l l.length)) false)]:=by
 refine fn1 Cd.l_markInt64S_k [.b 0] [.arr 1 (E cI (mkR (mI k) l l.length)) false] fun X=>?_;unfold Cd.iL;simp -dsimp only[go_sem];refine aN.at dM (X:={i:Nat // i≤l.length}) (fun i=>[(0,.loc (.b 0) 0 l.length),(1,.v (.int .i64 (k+i.1:Nat))),(5,.v (.int .i64 i.1))]) (fun i=>[(.b 0,.arr 1 (E cI (mkR (mI k) l i.1)) false)]) (fun i=>l.length-i.1) ⟨0,by omega⟩ ?_ ?_
 ·simp[Vs.LeL,Vs.look,Vs.aB,Vs.aQ,Vs.aL,Vs.hset,Vs.aM,aBU]
 ·rintro⟨i,hi⟩;simp -dsimp only[go_sem];refine Br.mk (fun hc=>?_) fun hc=>?_
  ·have hlt:i<l.length:=by simpa using hc
   have hw:=aH hlt hl;have hw2:IntKind.i64.wrap (((k+i:Nat):Int)+1)=((k+(i+1):Nat):Int):=by rw[aP (by omega) (by omega)];omega
   have hgi:(E cI (mkR (mI k) l i)).getD i []=[.v (.int .i64 l[i])]:=aDE (c:=cI) _ l hlt;have hst:(E cI (mkR (mI k) l i)).set i [.v (.int .i64 (k+i:Nat))]=E cI (mkR (mI k) l (i+1)):=aDD (c:=cI) (mI k) l hlt;have hlr:(mkR (mI k) l i).length=l.length:=gU _ l (by omega)
   repeat' first|simp -dsimp only[go_sem,hw,hw2,hgi,hst,hlr,aI]|apply Br.mk<;>intro h<;>try simp -dsimp only[h]|refine aC ?_|fail
   all_goals(exact⟨⟨i+1,by omega⟩,by simp[Vs.LeL,Vs.look,Vs.aB,Vs.aQ,Vs.aL,Vs.hset,Vs.aM],by simp only;omega⟩)
  ·have hge:i=l.length:=by
    have:¬i<l.length:=by simpa using hc
    omega
   subst hge;simp -dsimp only[go_sem];exact⟨⟨_,_,rfl,rfl⟩,fun h=>h rfl⟩
def mkD (k:Nat):List (List Int)→List (List Int)
 | []=>[]
 |c::r=>mkR (mI k) c c.length::mkD (k+c.length) r
def rQ:List (List Int)→Nat
 | []=>0
 |c::r=>c.length+rQ r
theorem aDF:∀(k:Nat) (l:List (List Int)),(mkD k l).length=l.length
 |_,[]=>rfl
 |k,c::r=>by simp[mkD,aDF _ r]
theorem aCA:∀(l:List (List Int)) (c:List Int),rQ (l++[c])=rQ l+c.length
 | [],c=>by simp[rQ]
 |d::r,c=>by simp only[List.cons_append,rQ,aCA r c];omega
theorem aEx:∀(k:Nat) (l:List (List Int)) (c:List Int),mkD k (l++[c])=mkD k l++[mkR (mI (k+rQ l)) c c.length]
 |k,[],c=>by simp[mkD,rQ]
 |k,d::r,c=>by simp only[List.cons_append,mkD,aEx _ r c,rQ,Nat.add_assoc]
theorem aGk:∀{l:List (List Int)},(∀c,c∈l→c.length≤1048576)→rQ l≤l.length*1048576
 | [],_=>by simp[rQ]
 | d::r,h=>by
  have G:=h d List.mem_cons_self;have h2:=aGk (l:=r) fun c F=>h c (List.mem_cons_of_mem _ F);simp only[rQ,List.length_cons];omega
attribute [local go_sem] Int.reduceBEq Int.reduceBNe cC aI List.replicate_succ List.replicate_zero List.flatten_cons List.flatten_nil List.cons_append List.nil_append List.set_cons_zero List.set_cons_succ List.length_cons List.length_nil List.length_set List.mem_singleton List.mem_cons List.not_mem_nil or_false false_or Vs.Name.t.injEq List.getD_cons_zero List.getD_cons_succ Vs.Name.b.injEq List.getElem?_cons_zero List.getElem?_cons_succ in
theorem aCt (k0:Nat) (jc:k0≤2 ^ 60) {S:Nat→Prop}{w:World}{v:Value}{l:List (List Int)}{ss:List Value}{xs:Nat→Option Nat}{cs:Nat→Nat} (hk:aU l) (hS:∀b,S b→b<w.heap.size) (he:Env S w) (h0:RC S w (.sl 1 (ss.map fun s=>[AV.v s])) v)
  (ho:Vs.pM S w 1 (l.map (E cI)) ss xs cs) (hx:∀i b,i<ss.length→xs i=some b→b<w.heap.size) :
  Calls Tryz.prog F.iG #[v,.int .i64 k0] w fun e w'=>e=.returned (.int .i64 (k0+rQ l:Nat))∧w.heap.size≤w'.heap.size∧(∀b,b<w.heap.size→(∀i,i<ss.length→xs i≠some b)→w'.heap[b]? = w.heap[b]?)∧(w'.os=w.os∧w'.output=w.output)∧Vs.pM S w' 1 ((mkD k0 l).map (E cI)) ss xs cs:=by
 obtain⟨h1,h2,_⟩:=Cd.l_markCardS_k.o;obtain⟨ja,H,hc⟩:=Option.bind_eq_some_iff.1 h2;have hz:(Tryz.f16.body.map (zB Tryz.f16.ntmps (bE Tryz.prog)))=some true:=by kernel_rfl
 rw[H] at hz;have ht:=dB Tryz.mixed;have hu:l.length=ss.length:=by simpa using ho.len
 refine aAp (dr:=bE Tryz.prog) (ac:=Cd.iG) h1 H hc (by simpa using hz) (args:=[.sl 1 (ss.map fun s=>[AV.v s]),.v (.int .i64 (k0:Int))]) (by rw[Cd.l_markCardS_k.n];exact Nat.le_of_ble_eq_true rfl) hS he rfl (fun j hj=>?_) (fun b=>∃i,i<ss.length∧xs i=some b) fun a J=>?_
 ·match j,hj with
  |0,_=>exact h0
  |1,_=>exact .v _
 generalize hl:(⟨Tryz.f16.ntmps,w,S,fun b=>∃i,i<ss.length∧xs i=some b,fun _=>none,fun _=>0,fun _=>none⟩:Ctx)=C0 at J;have q0:C0.nt=Tryz.f16.ntmps:=by rw[←hl]
 have hy:C0.w0=w:=by rw[←hl]
 let D:Nat→Prop:=fun b=>∃i,i<ss.length∧xs i=some b
 have hM:∀b,D b→C0.Mut b:=fun b h=>by rw[←hl];exact h
 have qa:=J.later;have qf:=J.hid (D:=D) (fun b ⟨i,hi,H⟩=>hx i b hi H) (fun b ⟨i,hi,H⟩=>(ho.row i hi).no H) (fun b _ n hn=>by simp[St.f,Vs.aB] at hn);have h5:=J.anew;generalize qu:C0.anew w S _ _=C1 at qa qf h5;have qo:Vs.pM C1.S0 C1.w0 1 (l.map (E cI)) ss xs cs:=by rw[←qu];exact ho
 have Y:C1.nt=Tryz.f16.ntmps:=qa.nt.trans q0;unfold Cd.iG;refine At.step ⟨[(0,.sl 1 (ss.map fun s=>[AV.v s])),(1,.v (.int .i64 (k0:Int)))],[]⟩ ht h5 Y ?_ fun a w1 S1 ρ1 κ1 J=>?_
 ·simp -dsimp only[go_sem]
  try simp[Vs.LeL,Vs.look,Vs.aB]
 refine At.seq (At.step ⟨[(0,.sl 1 (ss.map fun s=>[AV.v s])),(1,.v (.int .i64 (k0:Int))),(5,.v (.int .i64 ((0:Nat):Int)))],[]⟩ ht J Y ?_ fun a w3 S3 ρ3 κ3 J=>?_)
 ·simp -dsimp only[go_sem]
  try simp[Vs.LeL,Vs.look,Vs.aB]
 refine At.block ?_
 let T:Nat→Nat→St:=fun i U=>⟨[(0,.sl 1 (ss.map fun s=>[AV.v s])),(1,.v (.int .i64 (U:Int))),(5,.v (.int .i64 (i:Int)))],[]⟩
 let I:Nat→Act→World→Prop:=fun n a w=>∃(i U:Nat) (m:List (List Int)) (C:Ctx) (S:Nat→Prop) (ρ:Vs.Name→Option Nat) (κ:Vs.Name→Nat),n=ss.length-i∧i≤ss.length∧U=k0+rQ (l.take i)∧m=mkD k0 (l.take i)++l.drop i∧C.nt=Tryz.f16.ntmps∧Later C0 C∧OK C (T i U).f a w S ρ κ∧Hid C D (.v undef) undef∧aU m∧Vs.pM C.S0 C.w0 1 (m.map (E cI)) ss xs cs
 have q6:ss.length≤1048576:=by rw[←hu];exact hk.1
 refine At.loop I (fun n a w hI=>?_) (n:=ss.length) ⟨0,k0,l,C1,S3,ρ3,κ3,by omega,by omega,by simp[rQ],by simp[mkD],Y,qa,J,qf,hk,qo⟩;obtain⟨i,U,m,C,S,ρ,κ,hn,hi,h9,qd,L,qg,J,hh,hm,hf⟩:=hI
 have jd:rQ (l.take i)≤2 ^ 40:=by
  have h1:=aGk (l:=l.take i) fun c hc=>hk.2 c (List.mem_of_mem_take hc);have h2:(l.take i).length≤1048576:=by rw[List.length_take];have:=hk.1;omega
  have:=Nat.mul_le_mul_right 1048576 h2;omega
 have ha:(ss.map fun s=>[AV.v s]).length=ss.length:=List.length_map _;refine At.seq (At.fw ht J L (N:=fun σ'=>LeL σ' (T i U)∧i<ss.length) (E:=fun e σ'=>match e with|.exit j=>j=0∧LeL σ' (T i U)∧i=ss.length|.ret=>False) ?_ (fun a w hg=>?_) (fun j a w hg=>?_) (fun a w hg=>hg.no.elim))
 ·simp only[T];simp -dsimp only[go_sem,ha];refine Br.mk (fun hc=>?_) fun hc=>?_
  ·have M:i<ss.length:=by have:=of_decide_eq_true hc;omega
   try simp -dsimp only[go_sem,ha]
   exact⟨by simp[Vs.LeL,Vs.look,Vs.aB],M⟩
  ·have qv:i=ss.length:=by have:=of_decide_eq_false hc;omega
   try simp -dsimp only[go_sem,ha]
   exact⟨by simp[Vs.LeL,Vs.look,Vs.aB],qv⟩
 rotate_left
 ·obtain⟨σ',S',ρ',κ',⟨rfl,qb,rfl⟩,hv⟩:=hg;have J:=hv.le qb;simp only[Exit.then,Exit.inBlock,if_true];refine At.step ⟨[(4,.v (.int .i64 (U:Int)))],[]⟩ ht J L ?_ fun a w4 S4 ρ4 κ4 O=>?_
  ·simp only[T]
   try simp -dsimp only[go_sem,ha]
   simp[Vs.LeL,Vs.look,Vs.aB]
  refine At.ret ⟨.inl rfl,O.defers,?_⟩
  obtain ⟨x,v,q8,q9,qq⟩:=Vs.uR O (fn:=Tryz.f16) (K:=fun x=>x=.v (.int .i64 (U:Int))) (by
    show Vs.rR Tryz.prog _ _ [_]
    simp[Vs.rR,Vs.aEq,Vs.look,Vs.oJ])
  subst q8;have hw:=O.back qg;refine⟨v,qq,by rw[bM q9,h9,←hu,List.take_length],?_,fun b H qz=>?_,?_,?_⟩
  ·have:=hw.size;rw[hy] at this;exact this
  ·have:=hw.old b (by rw[hy];exact H) (by rw[←hl];rintro⟨i,hi,H⟩;exact qz i hi H);rw[hy] at this;exact this
  ·have:=hw.out;rw[hy] at this;exact this
  ·rw[qd,←hu,List.take_length,List.drop_length,List.append_nil] at hf;exact hf.mono (fun j b hj H hs=>(hh.same O).2.2.1 b ⟨j,hj,H⟩ (hw.S0 b (by rw[←hl];exact hs))) (fun j b hj H=>(hh.same O).1 b ⟨j,hj,H⟩)
 obtain⟨σ',S',ρ',κ',⟨qb,M⟩,hv⟩:=hg;have J:=hv.le qb;have jb:m.length=ss.length:=by simpa using hf.len
 have je:i<m.length:=by omega
 have h8:(ss.map fun s=>[AV.v s]).getD i []=[.v ss[i]]:=by simp[M]
 obtain ⟨sb,sn,sc,jf⟩:∃b n c,ss[i]=.slice b n c:=by
  have:=(hf.row i M).loc 1 _ false rfl;obtain⟨_,b,c,e,_⟩:=this;exact⟨_,_,_,by simpa[M] using e⟩
 show At Tryz.prog _ _ (.seq _ _) _ a w
 refine At.seq (At.block (At.region (pre:=[⟨some 12,.mv (.tmp 0),none⟩,⟨some 13,.mv (.tmp 5),none⟩,⟨some 14,.idxSl 1 (.tmp 12) (.tmp 13),none⟩,⟨some 15,.fieldAddr 0 (.tmp 14),none⟩,⟨some 16,.load false 1 (.tmp 15),none⟩,⟨some 17,.mv (.tmp 1),none⟩]) (o:=⟨some 18,.call (.func F.iL) [(.tmp 16),(.tmp 17)] [0],none⟩) (post:=[⟨some 1,.mv (.tmp 18),none⟩]) J L rfl ?_))
 let τ:St:=⟨[(16,.v ss[i]),(17,.v (.int .i64 (U:Int))),(0,.sl 1 (ss.map fun s=>[AV.v s])),(1,.v (.int .i64 (U:Int))),(5,.v (.int .i64 (i:Int)))],[]⟩
 refine Vs.aDg (K:=fun σ'=>LeL σ' τ) (fun σ1 qi=>?_) _ _ ?_
 rotate_left
 ·simp only[T];simp -dsimp only[go_sem,ha,h8];exact⟨⟨by omega,by omega⟩,by simp[τ,Vs.LeL,Vs.look,Vs.aB]⟩
 intro a w S2 ρ2 κ2 op ops qn qe;have G:=qn.le qi;have qy:m.length=ss.length:=by simpa using hf.len
 have qj:m[i].length≤1048576:=hm.2 _ (List.getElem_mem _);have h3:=aFF m[i] U qj (by omega);have h6:Vs.pM S2 w 1 (m.map (E cI)) ss xs cs:=hf.mono (fun j b hj H=>(hh.same G).2.2.1 b ⟨j,hj,H⟩) (fun j b hj H=>(hh.same G).1 b ⟨j,hj,H⟩);have hr:=h6.row i M;have e1:(m.map (E cI)).getD i []=E cI m[i]:=by simp[qy,M]
 have e2:ss.getD i undef=ss[i]:=by simp[M]
 rw[e1,e2] at hr;have hE:(E cI m[i]).length=m[i].length:=aI _;have qs:a.tmps.getD 16 undef=ss[i]:=bM (G.slots 16);have qt:a.tmps.getD 17 undef=.int .i64 (U:Int):=bM (G.slots 17)
 have h7:([Operand.tmp 16,.tmp 17].map a.eval).toArray=#[ss[i],.int .i64 (U:Int)]:=by
  show #[a.tmps.getD 16 undef,a.tmps.getD 17 undef]=_
  rw[qs,qt]
 refine aDB (by rw[L];exact qe) rfl G h3.has ?_;rw[h7]
 refine (aHU (by rw[hE];exact h3) (fun r hr=>by
   obtain⟨y,_,rfl⟩:=List.mem_map.1 hr;rfl) hr G.hok.dom G.hok.env).mono ?_
 rintro e w' ⟨rfl,q1,q2,q3,q4,q5⟩;have hp:=hh.same G;have qr:∀b,b<w.heap.size→¬D b→w'.heap[b]? = w.heap[b]?:=fun b H hd=>q2 b H fun hx=>hd ⟨i,M,hx⟩;have qk:=OK.wrote hh G q1 qr q3;have qh:=OK.wroteM qg (fun b H=>.inr (hM b H)) G q1 qr q3;have qw:Hid (C.anew w' S2 τ.f.h ρ2) D (.v undef) undef:=⟨.v _,fun b H=>Nat.lt_of_lt_of_le (hp.2.1 b H) q1,fun b H=>⟨hp.2.2.1 b H,fun⟨n,g1,g2⟩=>hp.2.2.2 b H n g1 g2⟩⟩
 have qp:Vs.pM S2 w' 1 ((m.set i (mkR (mI U) m[i] m[i].length)).map (E cI)) ss xs cs:=by
  rw[List.map_set];exact h6.write M (by rw[e2];exact q4) (fun j b hj H hx=>q2 b (hp.2.1 b ⟨j,hj,H⟩) hx) (fun j b hj H=>hp.2.2.1 b ⟨j,hj,H⟩)
 have qx:aU (m.set i (mkR (mI U) m[i] m[i].length)):=by
  refine⟨by rw[List.length_set];exact hm.1,fun c hc=>?_⟩;rcases List.mem_or_eq_of_mem_set hc with h|h
  ·exact hm.2 c h
  ·rw[h,gU _ _ (Nat.le_refl _)];exact qj
 let σ4:St:=⟨(18,.v (.int .i64 ((U+m[i].length:Nat):Int)))::τ.s,τ.h⟩
 have O:OK (C.anew w' S2 τ.f.h ρ2) σ4.f (a.put (some 18) (.int .i64 ((U+m[i].length:Nat):Int))) w' S2 ρ2 κ2:=qk.put (x:=.v (.int .i64 ((U+m[i].length:Nat):Int))) (v:=.int .i64 ((U+m[i].length:Nat):Int)) (d:=some 18) (.clo (.v _)) (fun d hd=>by
   obtain rfl:=Option.some.inj hd;show 18<C.nt
   rw[L,Cd.l_markCardS_k.n];omega)
 refine⟨_,rfl,C.anew w' S2 τ.f.h ρ2,σ4,S2,ρ2,κ2,fun σ'=>LeL σ' (T i (U+m[i].length)),L,O,?_,fun a w hg=>?_⟩
 ·simp only[σ4,τ,T];simp -dsimp only[go_sem,ha,h8];simp[Vs.LeL,Vs.look,Vs.aB]
 obtain⟨S5,ρ5,κ5,ql⟩:=hg.le;have q7:=aH M q6;show At Tryz.prog _ _ (.region _ _ _) _ a w
 refine At.fw ht ql L (N:=fun σ'=>LeL σ' (T (i+1) (U+m[i].length))) (E:=fun _ _=>False) ?_ (fun a w hg=>?_) (fun j a w hg=>hg.no.elim) (fun a w hg=>hg.no.elim)
 ·simp only[T];simp -dsimp only[go_sem,ha,h8];simp[Vs.LeL,Vs.look,Vs.aB,q7]
 obtain⟨S6,ρ6,κ6,qm⟩:=hg.le;have qc:i<l.length:=by omega
 have h4:m[i]=l[i]:=by
  have hq:(mkD k0 (l.take i)).length=i:=by rw[aDF,List.length_take];omega
  simp only[qd];rw[List.getElem_append_right (by omega)];simp[hq]
 refine⟨ss.length-(i+1),by omega,i+1,U+m[i].length,_,C.anew w' S2 τ.f.h ρ2,S6,ρ6,κ6,rfl,by omega,?_,?_,L,qh,qm,qw,qx,qp⟩
 ·rw[bJ qc,aCA,h9,h4];omega
 ·rw[bJ qc,aEx];simp only[h4];rw[qd,←h9];have hq:(mkD k0 (l.take i)).length=i:=by rw[aDF,List.length_take];omega
  rw[List.set_append_right _ _ (by omega),hq,Nat.sub_self,List.drop_eq_getElem_cons qc,List.set_cons_zero];simp
theorem aGW (l:List (List Int)):(l.map (E cI)).map (fun r=>[AV.sl 1 r])=E cC l:=by simp[E,cC,List.map_map]
theorem aBC (l:List (List Int)) (O:aU l) {S:Nat→Prop}{w:World}{I:Value} (L:∀b,S b→b<w.heap.size) (M:Env S w) (J:RC S w (.sl 1 (E cC l)) I) :
  Calls Tryz.prog F.gF #[I] w fun e w'=>∃v,e=.returned v∧Vs.mZ w w'∧Vs.aJL w w' (l.map (E cI)) v:=by
 refine(aD4 l O L M J).mono ?_;rintro e w' ⟨v,D,ss,xs,cs,x0,rfl,q1,q2,q3,q4,q5,q6,q7,q8,q9⟩;have H:∀b,Vs.Mem.D ⟨x0,ss,xs,cs⟩ b→D b:=fun b G=>G.elim (fun h=>q7 b h) fun⟨i,hi,h⟩=>q8 i b hi h;exact⟨v,rfl,⟨q1,q2,q3⟩,⟨x0,ss,xs,cs⟩,⟨q6,q9.mono (fun i b hi G U=>(q9.row i hi).no G (.inr U)) fun _ _ _ _=>rfl,fun b G=>(q5 b (H b G)).2⟩,fun b G=>(q5 b (H b G)).1⟩
theorem aFB (l:List (List Int)) (O:aU l) {S:Nat→Prop}{w:World}{I:Value} (L:∀b,S b→b<w.heap.size) (M:Env S w) (J:RC S w (.sl 1 (E cC l)) I) :
  Calls Tryz.prog F.bZ #[I] w fun e w'=>∃v,e=.returned v∧Vs.mZ w w'∧∃m,Vs.Dk w' (l.map (E cI)) v m∧(∀b,m.D b→w.heap.size≤b)∧∃c,Vs.Own (fun _=>False) w' m.x0 c 1 (m.ss.map fun s=>[AV.v s]) v:=by
 refine(aEw l O L M J).mono ?_;rintro e w' ⟨v,D,ss,xs,cs,x0,rfl,q1,q2,q3,q4,q5,q6,⟨c,qo⟩,q7,q8,q9⟩;have H:∀b,Vs.Mem.D ⟨x0,ss,xs,cs⟩ b→D b:=fun b G=>G.elim (fun h=>q7 b h) fun⟨i,hi,h⟩=>q8 i b hi h;exact⟨v,rfl,⟨q1,q2,q3⟩,⟨x0,ss,xs,cs⟩,⟨q6,q9.mono (fun i b hi G U=>(q9.row i hi).no G (.inr U)) fun _ _ _ _=>rfl,fun b G=>(q5 b (H b G)).2⟩,fun b G=>(q5 b (H b G)).1,c,qo⟩
theorem zY (I:Nat) (J:I≤2 ^ 60) {S:Nat→Prop}{w:World}{v:Value}{l:List (List Int)}{m:Vs.Mem} (hk:aU l) (U:∀b,S b→b<w.heap.size) (Y:Env S w) (L:∀b,m.D b→¬S b) (H:Vs.Dk w (l.map (E cI)) v m) :
  Calls Tryz.prog F.iG #[v,.int .i64 I] w fun e w'=>e=.returned (.int .i64 (I+rQ l:Nat))∧w.heap.size≤w'.heap.size∧(∀b,b<w.heap.size→¬m.D b→w'.heap[b]? = w.heap[b]?)∧(w'.os=w.os∧w'.output=w.output)∧Vs.Dk w' ((mkD I l).map (E cI)) v m:=by
 have hx:∀i b,i<m.ss.length→m.xs i=some b→b<w.heap.size:=fun i b hi G=>H.lt b (.inr ⟨i,hi,G⟩);refine(aCt I J (S:=fun b=>S b∨m.x0=some b) hk (fun b G=>G.elim (U b) fun h=>H.lt b (.inl h)) (Y.mono (fun _ h=>.inl h) fun _ _=>rfl) (H.root.mono (fun _ h=>.inr h) fun _ _=>rfl) (H.rows.mono (fun i b hi G M=>M.elim (L b (.inr ⟨i,hi,G⟩)) ((H.rows.row i hi).no G)) fun _ _ _ _=>rfl) hx).mono ?_;rintro e w' ⟨rfl,q1,q2,q3,q4⟩;refine⟨rfl,q1,fun b G O=>q2 b G fun i hi h=>O (.inr ⟨i,hi,h⟩),q3,H.root.mono (fun _ h=>h) fun b G=>q2 b (H.lt b (.inl G)) fun i hi h=>(H.rows.row i hi).no h G,q4.mono (fun i b hi G M=>(q4.row i hi).no G (.inr M)) fun _ _ _ _=>rfl,fun b G=>Nat.lt_of_lt_of_le (H.lt b G) q1⟩
end Go.Proofs.YtkgeiaideklmoaaGreat
