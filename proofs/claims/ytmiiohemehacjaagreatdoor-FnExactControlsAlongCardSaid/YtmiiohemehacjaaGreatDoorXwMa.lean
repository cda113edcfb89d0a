/- The marks of a deck, and what is held of them. -/
import Derived.Test.YtmiiohemehacjaaGreatDoorXwRh
import Derived.Test.YtmiiohemehacjaaGreatDoorVuD
set_option linter.all false
set_option maxHeartbeats 8000000
namespace Go.Proofs.YtmiiohemehacjaaGreatDoor
open Go.Vs
variable [Vs.Envs]
attribute [local irreducible] Vs.Fn
def mI (k:Nat) (j:Nat):Int:=(k+j:Nat)
theorem aGV (l:List Int) (k:Nat) (hl:l.length<=1048576) (hk:k<=2 ^ 61):Vs.Fn Tryz.prog F.iJ [.arr 1 (E cI l) false] [.loc (.b 0) 0 l.length,.v (.int .i64 k)] (.v (.int .i64 (k+l.length:Nat))) [some (.arr 1 (E cI (mkR (mI k) l l.length)) false)]:=by
 refine fn1 Cd.l_markInt64S_k [.b 0] [.arr 1 (E cI (mkR (mI k) l l.length)) false] λX=>?_;unfold Cd.iJ;simp -dsimp only[go_sem];refine aN.at dM (X:={i:Nat // i<=l.length}) (λi=>[(0,.loc (.b 0) 0 l.length),(1,.v (.int .i64 (k+i.1:Nat))),(5,.v (.int .i64 i.1))]) (λi=>[(.b 0,.arr 1 (E cI (mkR (mI k) l i.1)) false)]) (λi=>l.length-i.1) ⟨0,by omega⟩ ?_ ?_
 .simp[Vs.LeL,Vs.look,Vs.aB,Vs.aR,Vs.aK,Vs.hset,Vs.aL,aAA]
 .rintro⟨i,hi⟩;simp -dsimp only[go_sem];refine Br.mk (λhc=>?_) λhc=>?_
  .have hlt:i<l.length:=by simpa using hc
   have hw:=aH hlt hl;have hw2:IntKind.i64.wrap (((k+i:Nat):Int)+1)=((k+(i+1):Nat):Int):=by rw[aO (by omega) (by omega)];omega
   have hgi:(E cI (mkR (mI k) l i)).getD i []=[.v (.int .i64 l[i])]:=aB1 (c:=cI) _ l hlt;have hst:(E cI (mkR (mI k) l i)).set i [.v (.int .i64 (k+i:Nat))]=E cI (mkR (mI k) l (i+1)):=aB0 (c:=cI) (mI k) l hlt;have hlr:(mkR (mI k) l i).length=l.length:=fI _ l (by omega)
   repeat' first|simp -dsimp only[go_sem,hw,hw2,hgi,hst,hlr,aI]|apply Br.mk<;>intro h<;>try simp -dsimp only[h]|refine aC ?_|fail
   all_goals(exact⟨⟨i+1,by omega⟩,by simp[Vs.LeL,Vs.look,Vs.aB,Vs.aR,Vs.aK,Vs.hset,Vs.aL],by simp only;omega⟩)
  .have hge:i=l.length:=by
    have:¬i<l.length:=by simpa using hc
    omega
   subst hge;simp -dsimp only[go_sem];exact⟨⟨_,_,rfl,rfl⟩,λh=>h rfl⟩
def mkD (k:Nat):List (List Int)->List (List Int)
 | []=>[]
 |c::r=>mkR (mI k) c c.length::mkD (k+c.length) r
def gW:List (List Int)->Nat
 | []=>0
 |c::r=>c.length+gW r
theorem aEF:∀(k:Nat) (l:List (List Int)),(mkD k l).length=l.length
 |_,[]=>rfl
 |k,c::r=>by simp[mkD,aEF _ r]
theorem aDC:∀(l:List (List Int)) (c:List Int),gW (l++[c])=gW l+c.length
 | [],c=>by simp[gW]
 |d::r,c=>by simp only[List.cons_append,gW,aDC r c];omega
theorem aFy:∀(k:Nat) (l:List (List Int)) (c:List Int),mkD k (l++[c])=mkD k l++[mkR (mI (k+gW l)) c c.length]
 |k,[],c=>by simp[mkD,gW]
 |k,d::r,c=>by simp only[List.cons_append,mkD,aFy _ r c,gW,Nat.add_assoc]
theorem aHB:∀{l:List (List Int)},(∀c,c∈l->c.length<=1048576)->gW l<=l.length*1048576
 | [],_=>by simp[gW]
 | d::r,h=>by
  have H:=h d List.mem_cons_self;have h2:=aHB (l:=r) λc F=>h c (List.mem_cons_of_mem _ F);simp only[gW,List.length_cons];omega
attribute [local go_sem] Int.reduceBEq Int.reduceBNe cC aI List.replicate_succ List.replicate_zero List.flatten_cons List.flatten_nil List.cons_append List.nil_append List.set_cons_zero List.set_cons_succ List.length_cons List.length_nil List.length_set List.mem_singleton List.mem_cons List.not_mem_nil or_false false_or Vs.Name.t.injEq List.getD_cons_zero List.getD_cons_succ Vs.Name.b.injEq List.getElem?_cons_zero List.getElem?_cons_succ in
theorem aDv (k0:Nat) (jd:k0<=2 ^ 60) {S:Nat->Prop}{w:World}{v:Value}{l:List (List Int)}{ss:List Value}{xs:Nat->Option Nat}{cs:Nat->Nat} (hk:bJ l) (hS:∀b,S b->b<w.heap.size) (he:Env S w) (h0:RC S w (.sl 1 (ss.map λs=>[AV.v s])) v)
  (ho:Vs.wQ S w 1 (l.map (E cI)) ss xs cs) (hx:∀i b,i<ss.length->xs i=some b->b<w.heap.size) :
  Calls Tryz.prog F.iG #[v,.int .i64 k0] w λe w'=>e=.returned (.int .i64 (k0+gW l:Nat))∧w.heap.size<=w'.heap.size∧(∀b,b<w.heap.size->(∀i,i<ss.length->xs i≠some b)->w'.heap[b]? = w.heap[b]?)∧(w'.os=w.os∧w'.output=w.output)∧Vs.wQ S w' 1 ((mkD k0 l).map (E cI)) ss xs cs:=by
 obtain⟨h1,h2,_⟩:=Cd.l_markCardS_k.o;obtain⟨jb,J,hc⟩:=Option.bind_eq_some_iff.1 h2;have hz:(Tryz.f79.body.map (zB Tryz.f79.ntmps (bG Tryz.prog)))=some true:=by kernel_rfl
 rw[J] at hz;have hu:=bZ Tryz.mixed;have hv:l.length=ss.length:=by simpa using ho.len
 refine yC (dr:=bG Tryz.prog) (ac:=Cd.iG) h1 J hc (by simpa using hz) (args:=[.sl 1 (ss.map λs=>[AV.v s]),.v (.int .i64 (k0:Int))]) (by rw[Cd.l_markCardS_k.n];exact Nat.le_of_ble_eq_true rfl) hS he rfl (λj hj=>?_) (λb=>∃i,i<ss.length∧xs i=some b) λa L=>?_
 .match j,hj with
  |0,_=>exact h0
  |1,_=>exact .v _
 generalize hp:(⟨Tryz.f79.ntmps,w,S,λb=>∃i,i<ss.length∧xs i=some b,λ_=>none,λ_=>0,λ_=>none⟩:Ctx)=C0 at L;have q6:C0.nt=Tryz.f79.ntmps:=by rw[←hp]
 have h3:C0.w0=w:=by rw[←hp]
 let D:Nat->Prop:=λb=>∃i,i<ss.length∧xs i=some b
 have hM:∀b,D b->C0.Mut b:=λb h=>by rw[←hp];exact h
 have qb:=L.later;have qg:=L.hid (D:=D) (λb ⟨i,hi,J⟩=>hx i b hi J) (λb ⟨i,hi,J⟩=>(ho.row i hi).no J) (λb _ n hn=>by simp[St.f,Vs.aB] at hn);have h6:=L.anew;generalize qv:C0.anew w S _ _=C1 at qb qg h6;have qp:Vs.wQ C1.S0 C1.w0 1 (l.map (E cI)) ss xs cs:=by rw[←qv];exact ho
 have ha:C1.nt=Tryz.f79.ntmps:=qb.nt.trans q6;unfold Cd.iG;refine At.step ⟨[(0,.sl 1 (ss.map λs=>[AV.v s])),(1,.v (.int .i64 (k0:Int)))],[]⟩ hu h6 ha ?_ λa w1 S1 ρ1 κ1 L=>?_
 .simp -dsimp only[go_sem]
  try simp[Vs.LeL,Vs.look,Vs.aB]
 refine At.seq (At.step ⟨[(0,.sl 1 (ss.map λs=>[AV.v s])),(1,.v (.int .i64 (k0:Int))),(5,.v (.int .i64 ((0:Nat):Int)))],[]⟩ hu L ha ?_ λa w3 S3 ρ3 κ3 L=>?_)
 .simp -dsimp only[go_sem]
  try simp[Vs.LeL,Vs.look,Vs.aB]
 refine At.block ?_
 let T:Nat->Nat->St:=λi Z=>⟨[(0,.sl 1 (ss.map λs=>[AV.v s])),(1,.v (.int .i64 (Z:Int))),(5,.v (.int .i64 (i:Int)))],[]⟩
 let I:Nat->Act->World->Prop:=λn a w=>∃(i Z:Nat) (m:List (List Int)) (C:Ctx) (S:Nat->Prop) (ρ:Vs.Name->Option Nat) (κ:Vs.Name->Nat),n=ss.length-i∧i<=ss.length∧Z=k0+gW (l.take i)∧m=mkD k0 (l.take i)++l.drop i∧C.nt=Tryz.f79.ntmps∧Later C0 C∧OK C (T i Z).f a w S ρ κ∧Hid C D (.v undef) undef∧bJ m∧Vs.wQ C.S0 C.w0 1 (m.map (E cI)) ss xs cs
 have q7:ss.length<=1048576:=by rw[←hv];exact hk.1
 refine At.loop I (λn a w hI=>?_) (n:=ss.length) ⟨0,k0,l,C1,S3,ρ3,κ3,by omega,by omega,by simp[gW],by simp[mkD],ha,qb,L,qg,hk,qp⟩;obtain⟨i,Z,m,C,S,ρ,κ,hn,hi,qa,qe,O,qh,L,hh,hm,hl⟩:=hI
 have je:gW (l.take i)<=2 ^ 40:=by
  have h1:=aHB (l:=l.take i) λc hc=>hk.2 c (List.mem_of_mem_take hc);have h2:(l.take i).length<=1048576:=by rw[List.length_take];have:=hk.1;omega
  have:=Nat.mul_le_mul_right 1048576 h2;omega
 have hf:(ss.map λs=>[AV.v s]).length=ss.length:=List.length_map _;refine At.seq (At.fw hu L O (N:=fun σ'=>LeL σ' (T i Z)∧i<ss.length) (E:=λe σ'=>match e with|.exit j=>j=0∧LeL σ' (T i Z)∧i=ss.length|.ret=>False) ?_ (λa w hg=>?_) (λj a w hg=>?_) (λa w hg=>hg.no.elim))
 .simp only[T];simp -dsimp only[go_sem,hf];refine Br.mk (λhc=>?_) λhc=>?_
  .have U:i<ss.length:=by have:=of_decide_eq_true hc;omega
   try simp -dsimp only[go_sem,hf]
   exact⟨by simp[Vs.LeL,Vs.look,Vs.aB],U⟩
  .have qw:i=ss.length:=by have:=of_decide_eq_false hc;omega
   try simp -dsimp only[go_sem,hf]
   exact⟨by simp[Vs.LeL,Vs.look,Vs.aB],qw⟩
 rotate_left
 .obtain⟨σ',S',ρ',κ',⟨rfl,qc,rfl⟩,hw⟩:=hg;have L:=hw.le qc;simp only[Exit.then,Exit.inBlock,if_true];refine At.step ⟨[(4,.v (.int .i64 (Z:Int)))],[]⟩ hu L O ?_ λa w4 S4 ρ4 κ4 Y=>?_
  .simp only[T]
   try simp -dsimp only[go_sem,hf]
   simp[Vs.LeL,Vs.look,Vs.aB]
  refine At.ret ⟨.inl rfl,Y.defers,?_⟩
  obtain ⟨x,v,q9,ja,qr⟩:=Vs.tL Y (fn:=Tryz.f79) (K:=λx=>x=.v (.int .i64 (Z:Int))) (by
    show Vs.uE Tryz.prog _ _ [_]
    simp[Vs.uE,Vs.aDu,Vs.look,Vs.uZ])
  subst q9;have hy:=Y.back qh;refine⟨v,qr,by rw[bL ja,qa,←hv,List.take_length],?_,λb J q0=>?_,?_,?_⟩
  .have:=hy.size;rw[h3] at this;exact this
  .have:=hy.old b (by rw[h3];exact J) (by rw[←hp];rintro⟨i,hi,J⟩;exact q0 i hi J);rw[h3] at this;exact this
  .have:=hy.out;rw[h3] at this;exact this
  .rw[qe,←hv,List.take_length,List.drop_length,List.append_nil] at hl;exact hl.mono (λj b hj J hs=>(hh.same Y).2.2.1 b ⟨j,hj,J⟩ (hy.S0 b (by rw[←hp];exact hs))) (λj b hj J=>(hh.same Y).1 b ⟨j,hj,J⟩)
 obtain⟨σ',S',ρ',κ',⟨qc,U⟩,hw⟩:=hg;have L:=hw.le qc;have jc:m.length=ss.length:=by simpa using hl.len
 have jf:i<m.length:=by omega
 have h9:(ss.map λs=>[AV.v s]).getD i []=[.v ss[i]]:=by simp[U]
 obtain ⟨sb,sn,sc,jg⟩:∃b n c,ss[i]=.slice b n c:=by
  have:=(hl.row i U).loc 1 _ false rfl;obtain⟨_,b,c,e,_⟩:=this;exact⟨_,_,_,by simpa[U] using e⟩
 show At Tryz.prog _ _ (.seq _ _) _ a w
 refine At.seq (At.block (At.region (pre:=[⟨some 12,.mv (.tmp 0),none⟩,⟨some 13,.mv (.tmp 5),none⟩,⟨some 14,.idxSl 1 (.tmp 12) (.tmp 13),none⟩,⟨some 15,.fieldAddr 0 (.tmp 14),none⟩,⟨some 16,.load false 1 (.tmp 15),none⟩,⟨some 17,.mv (.tmp 1),none⟩]) (o:=⟨some 18,.call (.func F.iJ) [(.tmp 16),(.tmp 17)] [0],none⟩) (post:=[⟨some 1,.mv (.tmp 18),none⟩]) L O rfl ?_))
 let τ:St:=⟨[(16,.v ss[i]),(17,.v (.int .i64 (Z:Int))),(0,.sl 1 (ss.map λs=>[AV.v s])),(1,.v (.int .i64 (Z:Int))),(5,.v (.int .i64 (i:Int)))],[]⟩
 refine Vs.aBS (K:=fun σ'=>LeL σ' τ) (fun σ1 qj=>?_) _ _ ?_
 rotate_left
 .simp only[T];simp -dsimp only[go_sem,hf,h9];exact⟨⟨by omega,by omega⟩,by simp[τ,Vs.LeL,Vs.look,Vs.aB]⟩
 intro a w S2 ρ2 κ2 op ops qo qf;have H:=qo.le qj;have qz:m.length=ss.length:=by simpa using hl.len
 have qk:m[i].length<=1048576:=hm.2 _ (List.getElem_mem _);have h4:=aGV m[i] Z qk (by omega);have h7:Vs.wQ S2 w 1 (m.map (E cI)) ss xs cs:=hl.mono (λj b hj J=>(hh.same H).2.2.1 b ⟨j,hj,J⟩) (λj b hj J=>(hh.same H).1 b ⟨j,hj,J⟩);have hr:=h7.row i U;have e1:(m.map (E cI)).getD i []=E cI m[i]:=by simp[qz,U]
 have e2:ss.getD i undef=ss[i]:=by simp[U]
 rw[e1,e2] at hr;have hE:(E cI m[i]).length=m[i].length:=aI _;have qt:a.tmps.getD 16 undef=ss[i]:=bL (H.slots 16);have qu:a.tmps.getD 17 undef=.int .i64 (Z:Int):=bL (H.slots 17)
 have h8:([Operand.tmp 16,.tmp 17].map a.eval).toArray=#[ss[i],.int .i64 (Z:Int)]:=by
  show #[a.tmps.getD 16 undef,a.tmps.getD 17 undef]=_
  rw[qt,qu]
 refine aBY (by rw[O];exact qf) rfl H h4.has ?_;rw[h8]
 refine (aEc (by rw[hE];exact h4) (λr hr=>by
   obtain⟨y,_,rfl⟩:=List.mem_map.1 hr;rfl) hr H.hok.dom H.hok.env).mono ?_
 rintro e w' ⟨rfl,q1,q2,q3,q4,q5⟩;have ht:=hh.same H;have qs:∀b,b<w.heap.size->¬D b->w'.heap[b]? = w.heap[b]?:=λb J hd=>q2 b J λhx=>hd ⟨i,U,hx⟩;have ql:=OK.wrote hh H q1 qs q3;have qi:=OK.wroteM qh (λb J=>.inr (hM b J)) H q1 qs q3;have qx:Hid (C.anew w' S2 τ.f.h ρ2) D (.v undef) undef:=⟨.v _,λb J=>Nat.lt_of_lt_of_le (ht.2.1 b J) q1,λb J=>⟨ht.2.2.1 b J,λ⟨n,g1,g2⟩=>ht.2.2.2 b J n g1 g2⟩⟩
 have qq:Vs.wQ S2 w' 1 ((m.set i (mkR (mI Z) m[i] m[i].length)).map (E cI)) ss xs cs:=by
  rw[List.map_set];exact h7.write U (by rw[e2];exact q4) (λj b hj J hx=>q2 b (ht.2.1 b ⟨j,hj,J⟩) hx) (λj b hj J=>ht.2.2.1 b ⟨j,hj,J⟩)
 have qy:bJ (m.set i (mkR (mI Z) m[i] m[i].length)):=by
  refine⟨by rw[List.length_set];exact hm.1,λc hc=>?_⟩;rcases List.mem_or_eq_of_mem_set hc with h|h
  .exact hm.2 c h
  .rw[h,fI _ _ (Nat.le_refl _)];exact qk
 let σ4:St:=⟨(18,.v (.int .i64 ((Z+m[i].length:Nat):Int)))::τ.s,τ.h⟩
 have Y:OK (C.anew w' S2 τ.f.h ρ2) σ4.f (a.put (some 18) (.int .i64 ((Z+m[i].length:Nat):Int))) w' S2 ρ2 κ2:=ql.put (x:=.v (.int .i64 ((Z+m[i].length:Nat):Int))) (v:=.int .i64 ((Z+m[i].length:Nat):Int)) (d:=some 18) (.clo (.v _)) (λd hd=>by
   obtain rfl:=Option.some.inj hd;show 18<C.nt
   rw[O,Cd.l_markCardS_k.n];omega)
 refine⟨_,rfl,C.anew w' S2 τ.f.h ρ2,σ4,S2,ρ2,κ2,fun σ'=>LeL σ' (T i (Z+m[i].length)),O,Y,?_,λa w hg=>?_⟩
 .simp only[σ4,τ,T];simp -dsimp only[go_sem,hf,h9];simp[Vs.LeL,Vs.look,Vs.aB]
 obtain⟨S5,ρ5,κ5,qm⟩:=hg.le;have q8:=aH U q7;show At Tryz.prog _ _ (.region _ _ _) _ a w
 refine At.fw hu qm O (N:=fun σ'=>LeL σ' (T (i+1) (Z+m[i].length))) (E:=λ_ _=>False) ?_ (λa w hg=>?_) (λj a w hg=>hg.no.elim) (λa w hg=>hg.no.elim)
 .simp only[T];simp -dsimp only[go_sem,hf,h9];simp[Vs.LeL,Vs.look,Vs.aB,q8]
 obtain⟨S6,ρ6,κ6,qn⟩:=hg.le;have qd:i<l.length:=by omega
 have h5:m[i]=l[i]:=by
  have hq:(mkD k0 (l.take i)).length=i:=by rw[aEF,List.length_take];omega
  simp only[qe];rw[List.getElem_append_right (by omega)];simp[hq]
 refine⟨ss.length-(i+1),by omega,i+1,Z+m[i].length,_,C.anew w' S2 τ.f.h ρ2,S6,ρ6,κ6,rfl,by omega,?_,?_,O,qi,qn,qx,qy,qq⟩
 .rw[bB qd,aDC,qa,h5];omega
 .rw[bB qd,aFy];simp only[h5];rw[qe,←qa];have hq:(mkD k0 (l.take i)).length=i:=by rw[aEF,List.length_take];omega
  rw[List.set_append_right _ _ (by omega),hq,Nat.sub_self,List.drop_eq_getElem_cons qd,List.set_cons_zero];simp
theorem deckE (l:List (List Int)):(l.map (E cI)).map (λr=>[AV.sl 1 r])=E cC l:=by simp[E,cC,List.map_map]
theorem aGz (l:List (List Int)) (Y:bJ l) {S:Nat->Prop}{w:World}{J:Value} (O:∀b,S b->b<w.heap.size) (U:Env S w) (L:RC S w (.sl 1 (E cC l)) J) :
  Calls Tryz.prog F.jC #[J] w λe w'=>∃v,e=.returned v∧Vs.tF w w'∧Vs.aLh w w' (l.map (E cI)) v:=by
 refine(aE7 l Y O U L).mono ?_;rintro e w' ⟨v,D,ss,xs,cs,x0,rfl,q1,q2,q3,q4,q5,q6,q7,q8,q9⟩;have I:∀b,Vs.Mem.D ⟨x0,ss,xs,cs⟩ b->D b:=λb H=>H.elim (λh=>q7 b h) λ⟨i,hi,h⟩=>q8 i b hi h;exact⟨v,rfl,⟨q1,q2,q3⟩,⟨x0,ss,xs,cs⟩,⟨q6,q9.mono (λi b hi H Z=>(q9.row i hi).no H (.inr Z)) λ_ _ _ _=>rfl,λb H=>(q5 b (I b H)).2⟩,λb H=>(q5 b (I b H)).1⟩
theorem aEJ (J:Nat) (L:J<=2 ^ 60) {S:Nat->Prop}{w:World}{v:Value}{l:List (List Int)}{m:Vs.Mem} (hk:bJ l) (Z:∀b,S b->b<w.heap.size) (he:Env S w) (O:∀b,m.D b->¬S b) (I:Vs.Dk w (l.map (E cI)) v m) :
  Calls Tryz.prog F.iG #[v,.int .i64 J] w λe w'=>e=.returned (.int .i64 (J+gW l:Nat))∧w.heap.size<=w'.heap.size∧(∀b,b<w.heap.size->¬m.D b->w'.heap[b]? = w.heap[b]?)∧(w'.os=w.os∧w'.output=w.output)∧Vs.Dk w' ((mkD J l).map (E cI)) v m:=by
 have hx:∀i b,i<m.ss.length->m.xs i=some b->b<w.heap.size:=λi b hi H=>I.lt b (.inr ⟨i,hi,H⟩);refine(aDv J L (S:=λb=>S b∨m.x0=some b) hk (λb H=>H.elim (Z b) λh=>I.lt b (.inl h)) (he.mono (λ_ h=>.inl h) λ_ _=>rfl) (I.root.mono (λ_ h=>.inr h) λ_ _=>rfl) (I.rows.mono (λi b hi H U=>U.elim (O b (.inr ⟨i,hi,H⟩)) ((I.rows.row i hi).no H)) λ_ _ _ _=>rfl) hx).mono ?_;rintro e w' ⟨rfl,q1,q2,q3,q4⟩;refine⟨rfl,q1,λb H Y=>q2 b H λi hi h=>Y (.inr ⟨i,hi,h⟩),q3,I.root.mono (λ_ h=>h) λb H=>q2 b (I.lt b (.inl H)) λi hi h=>(I.rows.row i hi).no h H,q4.mono (λi b hi H U=>(q4.row i hi).no H (.inr U)) λ_ _ _ _=>rfl,λb H=>Nat.lt_of_lt_of_le (I.lt b H) q1⟩
end Go.Proofs.YtmiiohemehacjaaGreatDoor
