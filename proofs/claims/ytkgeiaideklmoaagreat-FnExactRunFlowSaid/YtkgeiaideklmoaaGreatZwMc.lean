/- Cards that lie in memory of their own, deleted out of a row. -/
import Derived.Test.YtkgeiaideklmoaaGreatZwVg
import Derived.Test.YtkgeiaideklmoaaGreatZwSp
import Derived.Test.YtkgeiaideklmoaaGreatZwMa
import Derived.Test.YtkgeiaideklmoaaGreatZwRh
import Derived.Test.YtkgeiaideklmoaaGreatVuN
import Derived.Test.YtkgeiaideklmoaaGreatZwQh
import Derived.Test.YtkgeiaideklmoaaGreatVuD
set_option linter.all false
set_option maxHeartbeats 8000000
namespace Go.Proofs.YtkgeiaideklmoaaGreat
open Go.Vs
section
variable [Vs.Envs]
attribute [local irreducible] Vs.Fn dR iP aV bA mgC bK aO bL bM l03 chB rk cd3 chI stp aP
abbrev Sl:=Option Addr×Nat×Nat
def slW (x:Sl):Value:=.slice x.1 x.2.1 x.2.2
def sV (x:Sl):List AV:=[.v (.slice x.1 x.2.1 x.2.2)]
theorem aX {V:List Sl}:∀r,r∈E sV V->fJ r=true:=λr F=>by
 obtain⟨x,_,rfl⟩:=Bq.1 F;rfl
theorem aID {l:List Int}:∀r,r∈E cI l->fJ r=true:=λr F=>by
 obtain⟨x,_,rfl⟩:=Bq.1 F;rfl
theorem aEL (V:List Sl):(V.map slW).map (λs=>[AV.v s])=E sV V:=by rw[Cc];rfl
theorem aCA (V:List Sl) (x:Sl):E sV V++[[.v (.slice x.1 x.2.1 x.2.2)]]=E sV (V++[x]):=by rw[bH];rfl
attribute [local go_sem] Bh Bz Int.reduceBEq Int.reduceBNe cC Af Ag Al Aq Ae Ai Ac Ak Ab Ah Am aH in
theorem aBJ (l:List (List Int)) (fr to:Int) (ho:∀c,c∈l->okF fr to c) (hl:l.length<=40) (hs:∀x,x∈l->x.length<=1048576) {S:Nat->Prop}{w:World}{vs:Array Value} (hS:∀b,S b->b<w.heap.size) (he:Env S w) (qp:vs.size=2) (hg:∀j,j<2->RC S w (([.sl 1 (E cC l),.agg (cFd fr to)]:List AV).getD j .junk) (vs.getD j undef)):Calls Tryz.prog F.gM vs w (λe0 w0=>∃v,e0=.returned v∧kY w w0∧aBb w w0 ((iP fr to l).map (E cI)) v):=by
 have OB:=aH8 l fr to ho hl;have qs:(dR fr to l).length<=40:=by rw[u7];exact hl
 obtain⟨h1,h2,_⟩:=Cd.i_sortedBy_k.o;obtain⟨qr,H,hc⟩:=AY.1 h2;have hz:(Tryz.f151.body.map (zB Tryz.f151.ntmps (aW Tryz.prog)))=some true:=by kernel_rfl
 rw[H] at hz;have qv:=bB Tryz.mixed;refine Vs.Pt.calls (dr:=aW Tryz.prog) (ac:=Cd.gM) h1 H hc (by simpa using hz) (args:=[.sl 1 (E cC l),.agg (cFd fr to)]) (by rw[Cd.i_sortedBy_k.n];exact Bc rfl) hS he qp hg λC1 a I hw qt hp=>?_;unfold Cd.gM;refine hp.goT dM I 2 _ (τ:=⟨[(0,.sl 1 (E cC l)),(3,.ptr (.t 3 0) 0 0),(5,.loc (.t 5 0) 0 0)],[(.t 5 0,.arr 1 [] false),(.t 3 0,.var (cFd fr to) false)]⟩) (hτ:=(fvC ⟨λr hr=>(by cases hr),rfl⟩ (fvC ⟨rfl,rfl⟩ fvN))) (λC hC=>?_) λa1 w1 S1 p1 hk=>?_
 .simp -dsimp only[go_sem,cFd]
  repeat' first|simp -dsimp only[go_sem,cFd]|apply Br.mk<;>intro h<;>try simp -dsimp only[h]|refine aC ?_|fail
  all_goals first|(simp[Vs.LeL,Vs.look,aA];done)|exact⟨by simp[Vs.LeL,Vs.look,aA],trivial⟩|omega
 refine At.seq (?_);refine hk.goT dM I 1 _ (τ:=⟨[(0,.sl 1 (E cC l)),(5,.loc (.t 5 0) 0 (([]:List Sl)).length),(11,.sl 1 (E cI (dR fr to l))),(12,.v (.int .i64 ((dR fr to l).length:Nat))),(13,.v (.int .i64 (0:Nat)))],[(.t 5 0,.arr 1 (E sV (([]:List Sl))) false)]⟩) (λC hC=>?_) λa2 w2 S2 p2 L=>?_
 .have qa:E sV ([]:List Sl)=[]:=rfl
  repeat' first|simp -dsimp only[go_sem,qa,cFd]|apply Br.mk<;>intro h<;>try simp -dsimp only[h]|refine aB.c (by first|exact OB) ?_|refine aC ?_|fail
  all_goals first|(simp[Vs.LeL,Vs.look,aA];done)|exact⟨by simp[Vs.LeL,Vs.look,aA],trivial⟩|omega
 let IV:Nat->Act->World->Prop:=λnn a' w'=>∃(i:Nat) (V:List Sl) (S':Nat->Prop) (I':Vs.Envs) (xs:Nat->Option Nat) (cs:Nat->Nat),nn=(dR fr to l).length-i∧i<=(dR fr to l).length∧V.length=i∧Vs.Pt I' C1 (⟨[(0,.sl 1 (E cC l)),(5,.loc (.t 5 0) 0 (V).length),(11,.sl 1 (E cI (dR fr to l))),(12,.v (.int .i64 ((dR fr to l).length:Nat))),(13,.v (.int .i64 (i:Nat)))],[(.t 5 0,.arr 1 (E sV (V)) false)]⟩:St) a' w' S'∧mD (λ_=>False) w' 1 ((((dR fr to l).take i).map λz=>l.getD z.toNat []).map (E cI)) (V.map slW) xs cs∧∀j b,j<V.length->xs j=some b->S' b∧C1.w0.heap.size<=b
 refine At.block (At.loop IV (λnn a1 w1 hI=>?_) (n:=(dR fr to l).length) ⟨0,[],S2,_,λ_=>none,λ_=>0,by omega,by omega,rfl,L,⟨rfl,by simp,by simp⟩,by simp⟩);obtain⟨i,V,S1,I1,xs,cs,hn,hi,qc,hk,J,U⟩:=hI;refine hk.goT dM I 1 _ (τ:=⟨[(14,.v (.bool (decide ((i:Nat)<((dR fr to l).length:Nat))))),(0,.sl 1 (E cC l)),(5,.loc (.t 5 0) 0 (V).length),(11,.sl 1 (E cI (dR fr to l))),(12,.v (.int .i64 ((dR fr to l).length:Nat))),(13,.v (.int .i64 (i:Nat)))],[(.t 5 0,.arr 1 (E sV (V)) false)]⟩) (λC hC=>?_) λa2 w2 S2 p2 L=>?_
 .simp -dsimp only[go_sem,cFd]
  repeat' first|simp -dsimp only[go_sem,cFd]|apply Br.mk<;>intro h<;>try simp -dsimp only[h]|refine aC ?_|fail
  all_goals first|(simp[Vs.LeL,Vs.look,aA];done)|exact⟨by simp[Vs.LeL,Vs.look,aA],trivial⟩|omega
 refine At.seq (L.cond (b:=decide ((i:Nat)<((dR fr to l).length:Nat))) rfl (λht=>At.skip ?_) (λhf=>At.exit ?_))
 .have ha:i<(dR fr to l).length:=BJ ht;have qq:=aG ha (by omega)
  obtain ⟨q,hq,hv⟩:∃q:Nat,(dR fr to l)[i]=q∧q<l.length:=by
   obtain⟨g1,g2⟩:=aCc ho hl _ (Aa ha);exact⟨((dR fr to l)[i]).toNat,by omega,by omega⟩
  have hy:(E cI (dR fr to l)).getD i []=[.v (.int .i64 (q:Nat))]:=by rw[aN ha,hq];rfl
  have hm:(E cC l).getD q []=[.sl 1 (E cI (l.getD q []))]:=by rw[aN hv,show l.getD q []=l[q] by simp[List.getD,hv]];rfl
  have NC:=aCU (l.getD q []) (hs _ (by rw[show l.getD q []=l[q] by simp[List.getD,hv]];exact Aa _));have qe:(E cI (l.getD q [])).length=(l.getD q []).length:=aH _;have qh:(E sV V).length=V.length:=aH _;refine At.seq (At.block ?_);refine L.goT dM I 1 _ (τ:=⟨[(7,.v (.int .i64 (q:Nat))),(0,.sl 1 (E cC l)),(5,.loc (.t 5 0) 0 V.length),(11,.sl 1 (E cI (dR fr to l))),(12,.v (.int .i64 ((dR fr to l).length:Nat))),(13,.v (.int .i64 (i:Nat)))],[(.t 5 0,.arr 1 (E sV V) false)]⟩) (λC hC=>?_) λa3 w3 S3 p3 qi=>?_
  .simp -dsimp only[go_sem,hy,cFd]
   repeat' first|simp -dsimp only[go_sem,hy,cFd]|apply Br.mk<;>intro h<;>try simp -dsimp only[h]|refine aC ?_|fail
   all_goals first|(simp[Vs.LeL,Vs.look,aA];done)|exact⟨by simp[Vs.LeL,Vs.look,aA],trivial⟩|omega
  refine At.naming (At.rg (qi.rgN I 6 (τ:=⟨[(22,.agg [.loc (.t 22 0) 0 (l.getD q []).length]),(17,.loc (.t 5 0) 0 V.length),(0,.sl 1 (E cC l)),(11,.sl 1 (E cI (dR fr to l))),(12,.v (.int .i64 ((dR fr to l).length:Nat))),(13,.v (.int .i64 (i:Nat)))],[(.t 22 0,.arr 1 (E cI (l.getD q [])) false),(.t 5 0,.arr 1 (E sV V) false)]⟩) ?_ λa4 w4 S4 p4 h4=>?_))
  .simp -dsimp only[go_sem,hm,cFd]
   repeat' first|simp -dsimp only[go_sem,hm,cFd]|apply Br.mk<;>intro h<;>try simp -dsimp only[h]|refine aC ?_|fail
   all_goals first|omega|(refine aB.own NC rfl ?_;simp -dsimp only[go_sem,hm,cFd];first|(simp[Vs.LeL,Vs.look,aA];done)|exact⟨by simp[Vs.LeL,Vs.look,aA],trivial⟩)
  rw[←qe] at h4
  obtain ⟨s,x6,c6,⟨sb,sm,sc,rfl⟩,h3,h7,qb⟩:=h4.bury (n:=.t 22 0) (k:=1) (rows:=E cI (l.getD q [])) rfl aID (t:=22) rfl (by
    simp only[bW];intro p hp;simp[rF] at hp;rcases hp with rfl
    exact⟨λr hr=>aX r hr,rfl⟩)
  have qj:=qb [(22,.agg [.v (.slice sb sm sc)]),(17,.loc (.t 5 0) 0 V.length),(0,.sl 1 (E cC l)),(11,.sl 1 (E cI (dR fr to l))),(12,.v (.int .i64 ((dR fr to l).length:Nat))),(13,.v (.int .i64 (i:Nat)))] (λp hp=>by
      simp only[Ap,Ao,AX] at hp;rcases hp with rfl|rfl|rfl|rfl|rfl|rfl
      . exact .inr (.inr rfl)
      all_goals first|exact .inl ⟨rfl,rfl⟩|exact .inr (.inl ⟨rfl,rfl⟩))
  letI I6:=Vs.keepE (λb=>S4 b∨x6=some b) w4
  have qd:=aCA V (sb,sm,sc);have h5:=qj.le (τ:=⟨[(22,.agg [.v (.slice sb sm sc)]),(17,.loc (.t 5 0) 0 V.length),(0,.sl 1 (E cC l)),(11,.sl 1 (E cI (dR fr to l))),(12,.v (.int .i64 ((dR fr to l).length:Nat))),(13,.v (.int .i64 (i:Nat)))],[(.t 5 0,.arr 1 (E sV V) false)]⟩) (by simp[Vs.LeL,Vs.look,aA,bW,rF,Vs.scr,Vs.AV.has]) (fvC ⟨aX,rfl⟩ fvN);refine h5.rgN I 3 (τ:=⟨[(5,.loc (.t 24 0) 0 (V.length+1)),(0,.sl 1 (E cC l)),(11,.sl 1 (E cI (dR fr to l))),(12,.v (.int .i64 ((dR fr to l).length:Nat))),(13,.v (.int .i64 (i:Nat)))],[(.t 24 0,.arr 1 (E sV (V++[(sb,sm,sc)])) false)]⟩) ?_ λa7 w7 S7 p7 qk=>RgL.nil ?_
  .simp -dsimp only[go_sem,qd,qh,cFd]
   and_intros
   all_goals first|omega|(simp[Vs.LeL,Vs.look,aA];done)
  have ql:=(qk.ren (n:=.t 24 0) (m:=.t 5 0) (by decide) (by rfl) (λpp hp=>by
    have e:pp∈[((.t 5 0:Vs.Name),Blk.arr 1 (E sV (V++[(sb,sm,sc)])) false)]:=by simpa[nN,Vs.rnB,Vs.nmF,Vs.rn,Vs.rnL] using hp
    simp only[Ap,Ao,AX] at e;subst e;exact⟨λr hr=>aX r hr,rfl⟩)).le (τ:=⟨[(5,.loc (.t 5 0) 0 (V.length+1)),(0,.sl 1 (E cC l)),(11,.sl 1 (E cI (dR fr to l))),(12,.v (.int .i64 ((dR fr to l).length:Nat))),(13,.v (.int .i64 (i:Nat)))],[(.t 5 0,.arr 1 (E sV (V++[(sb,sm,sc)])) false)]⟩) (by simp[Vs.LeL,Vs.look,aA,nN,Vs.rnB,Vs.nmF,Vs.rn,Vs.rnL]) (fvC ⟨aX,rfl⟩ fvN)
  show Vs.At Tryz.prog Tryz.f151.ntmps (aW Tryz.prog) (.region [⟨some 25,.bin .add (.tmp 13) (.const (.int .i64 (1))),none⟩,⟨some 13,.mv (.tmp 25),none⟩] _ []) _ a7 w7
  refine At.rg (ql.rgN I 2 (τ:=⟨[(0,.sl 1 (E cC l)),(5,.loc (.t 5 0) 0 ((V++[(sb,sm,sc)])).length),(11,.sl 1 (E cI (dR fr to l))),(12,.v (.int .i64 ((dR fr to l).length:Nat))),(13,.v (.int .i64 (i+1:Nat)))],[(.t 5 0,.arr 1 (E sV ((V++[(sb,sm,sc)]))) false)]⟩) ?_ λa9 w9 S9 p9 qm=>RgL.nil ?_)
  .simp -dsimp only[go_sem,qq,AQ,cFd]
   first|(simp[Vs.LeL,Vs.look,aA];done)
  have hd:Vs.Past S1 w1 S4 w4:=(p2.trans p3).trans p4;have h9:∀b,(S4 b∨x6=some b)->S9 b:=λb H=>p9.sub b (p7.sub b H);have h8:∀b,(S4 b∨x6=some b)->w9.heap[b]? = w4.heap[b]?:=λb H=>(p9.old b (p7.sub b H)).trans (p7.old b H);have qu:(V.map slW).length=V.length:=Bg _;have hh:=J.mono (w':=w4) (λj b Z H h=>h) λj b Z H=>hd.old b (U j b (by omega) H).1;have qn:=hh.snoc h3 (λj b Z H e=>(h7 b e).2.2 (hd.sub b (U j b (by omega) H).1));refine⟨(dR fr to l).length-(i+1),by omega,i+1,V++[(sb,sm,sc)],S9,I6,λj=>if j=(V.map slW).length then x6 else xs j,λj=>if j=(V.map slW).length then c6 else cs j,rfl,by omega,by simp[qc],qm,?_,λj b Z H=>?_⟩
  .have e:(((dR fr to l).take (i+1)).map λz=>l.getD z.toNat []).map (E cI)=(((dR fr to l).take i).map λz=>l.getD z.toNat []).map (E cI)++[E cI (l.getD q [])]:=by rw[aY ha,Bu,Bu,hq];rfl
   rw[e,Bu]
   exact qn.mono (λj b Z H h=>h) λj b Z H=>h8 b (by
     try dsimp only at H
     split at H
     . exact .inr H
     . exact .inl (hd.sub b (U j b (by simp at Z;omega) H).1))
  .try dsimp only at H
   split at H
   .exact⟨h9 b (.inr H),(h7 b H).1⟩
   .have g:=U j b (by simp at Z;omega) H;exact⟨h9 b (.inl (hd.sub b g.1)),g.2⟩
 .have qg:i=(dR fr to l).length:=by have:=BQ hf;omega
  subst qg;simp only[Exit.then,Exit.inBlock,Bj];have qo:(E sV V).take V.length=E sV V:=Aj (by rw[aH];exact Ar _);refine At.seq (At.rg (L.rgN I 2 (τ:=⟨[(4,.loc (.t 5 0) 0 V.length)],[(.t 5 0,.arr 1 (E sV V) false)]⟩) ?_ λa5 w5 S5 p5 hu=>RgL.nil ?_))
  .simp -dsimp only[go_sem,cFd]
   first|(simp[Vs.LeL,Vs.look,aA];done)
  obtain ⟨qf,u,x,h6,O,hx⟩:=hu.resOne (fn:=Tryz.f151) (n:=.t 5 0) rfl (λr hr=>aX r hr) (len:=V.length) (by
    show dQ Tryz.prog _ _ [_]
    simp[dQ,qX,Vs.look,dU])
  rw[qo] at O
  have Y:∀j b,j<V.length->xs j=some b->S5 b∧w5.heap[b]? = w1.heap[b]?∧C1.w0.heap.size<=b:=λj b Z H=>by
   obtain⟨g1,g2⟩:=U j b Z H;exact⟨p5.sub b (p2.sub b g1),(p5.old b (p2.sub b g1)).trans (p2.old b g1),g2⟩
  refine At.ret ⟨.inl rfl,qf,_,h6,u,rfl,hw ▸ hu.out,⟨x,V.map slW,xs,cs⟩,⟨?_,?_,λb H=>?_⟩,λb H=>?_⟩
  .show RC _ w5 (.sl 1 ((V.map slW).map λs=>[AV.v s])) u
   rw[aEL];exact O
  .show mD _ w5 1 ((iP fr to l).map (E cI)) (V.map slW) xs cs
   rw[Bv] at J;unfold iP;exact J.mono (λi b hi H e=>(hx b e).2.2 (Y i b (by simpa using hi) H).1) λi b hi H=>(Y i b (by simpa using hi) H).2.1
  .rcases H with H|⟨i,hi,H⟩
   .exact(hx b H).2.1
   .exact hu.dom b (Y i b (by simpa using hi) H).1
  .rcases H with H|⟨i,hi,H⟩
   .rw[←hw];exact(hx b H).1
   .rw[←hw];exact(Y i b (by simpa using hi) H).2.2
end
section
variable [Vs.Envs]
attribute [local irreducible] Vs.Fn bK aO bL bM l03 chB rk cd3 chI stp aP
abbrev Slc:=(Option Addr×Nat×Nat)×List Int
def slV (x:Slc):Value:=.slice x.1.1 x.1.2.1 x.1.2.2
def cV (x:Slc):List AV:=[.v (.slice x.1.1 x.1.2.1 x.1.2.2)]
def qV (q:List Int->Bool) (x:Slc):Bool:=q x.2
def dH (q:Slc->Bool) (l:List Slc):List Slc:=l.filter λx=>!q x
theorem zN {q:Slc->Bool}{l:List Slc}{j:Nat} (h:j<l.length):dH q (l.take (j+1))=dH q (l.take j)++(if q l[j] then[] else[l[j]]):=by
 unfold dH;rw[aY h,List.filter_append];congr 1;cases hq:q l[j]<;>simp[DI,hq]
theorem aGb (q:Slc->Bool) (l:List Slc):(dH q l).length<=l.length:=List.length_filter_le ..
theorem aEb {q:Slc->Bool}{l:List Slc} (h:l.all (λx=>!q x)=true):dH q l=l:=by
 unfold dH;exact List.filter_eq_self.2 (Az.1 h)
theorem aHd (q:Slc->Bool) (l:List Slc):(qI q l=-1∧l.all (λx=>!q x)=true)∨∃i:Nat,∃h:i<l.length,qI q l=i∧q l[i]=true∧(l.take i).all (λx=>!q x)=true:=by
 unfold qI;cases h:l.findIdx? q with
 | none =>
  rw[List.findIdx?_eq_none_iff] at h;exact .inl ⟨rfl,Az.2 λx F=>by simp[h x F]⟩
 | some i =>
  rw[Dv] at h;obtain⟨hi,H,h2⟩:=h;refine .inr ⟨i,hi,rfl,H,Az.2 λx F=>?_⟩;obtain⟨j,I,rfl⟩:=List.mem_take_iff_getElem.1 F;simpa using h2 j (by omega)
theorem aM0 (m:List Slc) (i:Nat) (x:Slc):(E cV m).set i [.v (.slice x.1.1 x.1.2.1 x.1.2.2)]=E cV (m.set i x):=by simp[E,De,cV]
theorem aHF (l:List Slc):(E cV l).take l.length=E cV l:=Aj (by simp[E])
theorem aLu {m:List Slc}{i n:Nat} (H:m.length=n) (hi:i<=n):yK (E cV m) i (n-i) [.v (.slice none 0 0)]=E cV (m.take i)++zR (n-i):=by
 unfold yK zR;have F:(E cV m).take i=E cV (m.take i):=by simp[E,CG]
 have h2:(E cV m).drop (i+(n-i))=[]:=List.drop_eq_nil_of_le (by rw[aH];omega);rw[F,h2,Be]
attribute [local irreducible] dH qI zR yK
attribute [local go_sem] Af Ag Al Aq Ae Ai Ac Ak Ab Ah Am in
theorem delV (q:Slc->Bool) (g:FuncId) (caps:List AV) (hcaps:dS caps=true) (l:List Slc) (hl:l.length<=1048576) (hq:∀x,x∈l->Vs.Fn Tryz.prog g [] (.agg (cV x)::caps) (.v (.bool (q x))) []) :
  Vs.Fn Tryz.prog F.kV [.arr 1 (E cV l) false] [.loc (.b 0) 0 l.length,.fn g caps] (.loc (.b 0) 0 (dH q l).length) [some (.arr 1 (E cV (dH q l)++zR (l.length-(dH q l).length)) false)]:=by
 have hidx:Fz F.kG [.sl 1 (E cV l),.fn g caps] (.v (.int .i64 (qI q l))):=
  aEZ Tryz.mixed (k:=1) Cd.ixf_Card_k.o Cd.ixf_Card_k.n Cd.ixf_Card_k.r rfl q g caps hcaps (λ_=>rfl) (λ_=>rfl) hq hl
 refine fn1 Cd.dlf_Card_k [.b 0] [.arr 1 (E cV (dH q l)++zR (l.length-(dH q l).length)) false] λX=>?_;unfold Cd.kV;simp -dsimp only[go_sem,aF hcaps _ 6,aF hcaps _ 7,aHF,aH];refine aB.flat hidx rfl ?_;rcases aHd q l with⟨hn,hall⟩|⟨i0,hi0,hn,hq0,hall⟩
 .have e1:((-1:Int) == -1)=true:=rfl;rw[hn];have hfl:=aEb hall;rw[hfl];have hz0:E cV l++zR (l.length-l.length)=E cV l:=by unfold zR;simp
  simp -dsimp only[go_sem,e1,aH];exact⟨[],[],rfl,by rw[hz0]⟩
 .have e1:((i0:Int) == -1)=false:=AC.2 (by omega);have hw0:=aG hi0 hl;rw[hn];simp -dsimp only[go_sem,e1,hw0,aH];refine aM.at dM (X:={zz:Nat×Nat×List Slc // (zz.1<=l.length∧zz.2.1<zz.1)∧zz.2.2.length=l.length∧zz.2.2.take zz.2.1=dH q (l.take zz.1)∧zz.2.2.drop zz.1=l.drop zz.1}) (λzz=>[(5,.v (.int .i64 zz.1.2.1)),(6,.v (.int .i64 zz.1.1))]) (λzz=>[(.b 0,.arr 1 (E cV zz.1.2.2) false)]) (λzz=>l.length-zz.1.1) ⟨(i0+1,i0,l),⟨show i0+1<=l.length by omega,show i0<i0+1 by omega⟩,rfl,?_,rfl⟩ ?_ ?_
  .show l.take i0=dH q (l.take (i0+1))
   rw[zN hi0,aEb hall,hq0];simp
  .exact le0
  .rintro⟨⟨j,i,m⟩,⟨hj,hij⟩,hm,ht,hd⟩;dsimp only at hj hij hm ht hd;simp -dsimp only[go_sem];refine Br.mk (λhc=>?_) λhc=>?_
   .have hlt:j<l.length:=by simpa using hc
    have hw:=aG hlt hl;have hwi:=aG (show i<l.length by omega) hl;have hjm:j<m.length:=by omega
    have him:i<m.length:=by omega
    have hmj:m[j]=l[j]:=by
     have h1:=Cj (λx=>x[0]?) hd;simpa[Dr,hjm,hlt] using h1
    have hgm:(E cV m).getD j []=[.v (.slice l[j].1.1 l[j].1.2.1 l[j].1.2.2)]:=by rw[aN hjm,hmj];rfl
    have hgi:(E cV m).getD i []=[.v (.slice m[i].1.1 m[i].1.2.1 m[i].1.2.2)]:=aN him;have hlm:(E cV m).length=l.length:=by rw[aH];exact hm
    have hcj:Vs.Fn Tryz.prog g [] (.agg [.v (.slice l[j].1.1 l[j].1.2.1 l[j].1.2.2)]::caps) (.v (.bool (q l[j]))) []:=hq _ (Aa hlt);have hsm:=aM0 m i l[j]
    have hdd:m.drop (j+1)=l.drop (j+1):=by
     have h1:=Cj (List.drop 1) hd;simpa[List.drop_drop] using h1
    cases hqj:q l[j]
    .have htt:(m.set i l[j]).take (i+1)=dH q (l.take (j+1)):=by
      rw[zN hlt,hqj,←ht,aY (show i<(m.set i l[j]).length by simpa using him)];simp only[List.append_cancel_right_eq,List.getElem_set_self,Bd,AR];rw[List.take_set_of_le (Ar _)]
     have hd2:(m.set i l[j]).drop (j+1)=l.drop (j+1):=by rw[List.drop_set_of_lt (by omega),hdd]
     repeat' first|simp -dsimp only[go_sem,hw,hwi,hgm,hgi,hlm,hsm,hqj,aF hcaps _ 6,aF hcaps _ 7,zI hcaps]|apply Br.mk<;>intro h<;>try simp -dsimp only[h]|refine aB.c (by first|exact hcj) ?_|refine aC ?_|fail
     all_goals first|omega|(exact⟨⟨(j+1,i+1,m.set i l[j]),⟨by dsimp only;omega,by dsimp only;omega⟩,by simpa using hm,htt,hd2⟩,by simp[Vs.LeL,Vs.look,aA,aS,aJ,Vs.hset,aK],by simp only;omega⟩)
    .have htt:m.take i=dH q (l.take (j+1)):=by rw[zN hlt,hqj,←ht];simp
     repeat' first|simp -dsimp only[go_sem,hw,hwi,hgm,hgi,hlm,hsm,hqj,aF hcaps _ 6,aF hcaps _ 7,zI hcaps]|apply Br.mk<;>intro h<;>try simp -dsimp only[h]|refine aB.c (by first|exact hcj) ?_|refine aC ?_|fail
     all_goals first|omega|(exact⟨⟨(j+1,i,m),⟨by dsimp only;omega,by dsimp only;omega⟩,hm,htt,hdd⟩,by simp[Vs.LeL,Vs.look,aA,aS,aJ,Vs.hset,aK],by simp only;omega⟩)
   .have hge:j=l.length:=by
     have:¬j<l.length:=by simpa using hc
     omega
    subst hge;rw[Bv] at ht;have hfi:(dH q l).length=i:=by rw[←ht];simp;omega
    have hlm:(E cV m).length=l.length:=by rw[aH];exact hm
    have hcl:=aLu hm (show i<=l.length by omega);rw[ht] at hcl;have hti:((l.length:Int)-(i:Int)).toNat=l.length-i:=by omega
    rw[hfi];simp -dsimp only[go_sem,hlm,hcl,hti];have hti2:((i:Int)-0).toNat=i:=by omega
    rw[hti2];exact⟨⟨⟨by omega,by omega,by omega⟩,by omega,⟨by omega,by omega,by omega⟩,⟨[],[],rfl,rfl⟩⟩,λh=>h rfl⟩
end
end Go.Proofs.YtkgeiaideklmoaaGreat
