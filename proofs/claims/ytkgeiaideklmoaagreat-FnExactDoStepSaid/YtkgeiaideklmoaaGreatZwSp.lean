/- Where groups begin: the reference's way. -/
import Derived.Test.YtkgeiaideklmoaaGreatZwQh
import Derived.Test.YtkgeiaideklmoaaGreatVtR
import Derived.Test.YtkgeiaideklmoaaGreatZwSf
set_option linter.all false
set_option maxHeartbeats 8000000
namespace Go.Proofs.YtkgeiaideklmoaaGreat
open Go.Vs
section
variable [Vs.Envs]
attribute [local irreducible] Vs.Fn bL aP bM bP l03 chB rk cd3 chI stp aQ stb dQ
theorem aHO (l:List Int) (H:l.length<=1048576):Vs.Fn Tryz.prog F.pV [] [.sl 1 (E cI l)] (.loc (.b 0) 0 l.length) [some (.arr 1 (E cI l) false)]:=by
 refine fn1 Cd.s_l00Own_k [.t 5 0] [.arr 1 (E cI l) false] λX=>?_;unfold Cd.pV
 repeat' first|simp -dsimp only[go_sem,aH,BF,BG,lX,rV,lK,Ar,Be,Aj,Ae]|apply Br.mk<;>intro h<;>try simp -dsimp only[h]|refine aC ?_|fail
 all_goals first|exact⟨_,_,rfl,rfl⟩
def vF (cf:Int->Int->Int) (i:Int) (o:List Int):Nat->Nat
 |0=>0
 |k+1=>if cf i (o.getD k 0)<0 then vF cf i o k else k+1
theorem aIV (F:Int->Int->Int) (i:Int) (o:List Int):vF F i o 0=0:=rfl
theorem aBg (F:Int->Int->Int) (i:Int) (o:List Int) (k:Nat):vF F i o (k+1)=if F i (o.getD k 0)<0 then vF F i o k else k+1:=rfl
theorem aEE (F:Int->Int->Int) (i:Int) (o:List Int):∀k,vF F i o k<=k
 |0=>Au _
 | k+1=>by
  rw[vF];split
  .exact Nat.le_succ_of_le (aEE F i o k)
  .exact Au _
def fE (cf:Int->Int->Int):Nat->List Int
 |0=>[]
 |n+1=>(fE cf n).take (vF cf n (fE cf n) (fE cf n).length)++[(n:Int)]++(fE cf n).drop (vF cf n (fE cf n) (fE cf n).length)
theorem uQ (F:Int->Int->Int):∀n,(fE F n).Perm (iota n)
 |0=>List.Perm.refl _
 | n+1=>by
  rw[fE,aDG];generalize vF F n (fE F n) (fE F n).length=k
  have H:((fE F n).take k++[(n:Int)]++(fE F n).drop k).Perm ((fE F n).take k++(fE F n).drop k++[(n:Int)]):=by
   rw[Bz,Bz];exact List.Perm.append_left _ List.perm_append_comm
  rw[BN] at H;exact H.trans (CV _ (uQ F n))
theorem aCs (F:Int->Int->Int) (n:Nat):(fE F n).length=n:=by rw[(uQ F n).length_eq,sQ]
end
section
variable [Vs.Envs]
attribute [local irreducible] Vs.Fn bL aP bM bP l03 chB rk cd3 chI stp aQ stb dQ fE vF
theorem aKo {fr to:Int}{l:List (List Int)}{x:Int} (h:inO l.length x):(E cSt (bR fr to l)).getD x.toNat []=[.v (.string (txt (fH fr to (l.getD x.toNat []))))]:=by
 have F:x.toNat<l.length:=by have:=h.1;have:=h.2;omega
 rw[aN (by simpa[bR] using F)];simp[cSt,bR,List.getD,F]
attribute [local go_sem] aH Av Am Ak AR BQ Vs.Name.t.injEq BM Cg BF BG lX rV lK Ar Be Aj Ae in
theorem aII (l:List (List Int)) (fr to:Int) (ho:∀c,c∈l->okF fr to c) (hall:bU fr to l=true) (hl:l.length<=40):Fz F.pU [.sl 1 (E cSt (bR fr to l))] (.sl 1 (E cI (fE (cfO fr to l) l.length))):=by
 have hkl:(E cSt (bR fr to l)).length=l.length:=by rw[aH];simp[bR]
 have hch:∀x,inO l.length x->dB (fH fr to (l.getD x.toNat []))=true:=λx hx=>Az.1 hall _ (nG hx)
 have hcp:∀x y,inO l.length x->inO l.length y->Fz F.fM [.v (.string (txt (fH fr to (l.getD x.toNat [])))),.v (.string (txt (fH fr to (l.getD y.toNat []))))] (.v (.int .i64 (cfO fr to l x y))):=λx y hx hy =>
  vV _ _ (aAN (ho _ (nG hx))) (by rw[qR ho hx,qR ho hy]) (hch x hx) (hch y hy)
 have hke:∀x,inO l.length x->(E cSt (bR fr to l)).getD x.toNat []=[.v (.string (txt (fH fr to (l.getD x.toNat []))))]:=λx hx=>aKo hx;generalize E cSt (bR fr to l)=K at *
 generalize cfO fr to l=cf at *
 refine fn0 Cd.s_l07Places_k λX=>?_
 repeat' first|simp -dsimp only[go_sem,hkl]|apply Br.mk<;>intro h<;>try simp -dsimp only[h]|refine aC ?_|fail
 refine aM.at dM (X:={zz:Nat×(Unit) // zz.1<=l.length∧True}) (λzz=>[(3,.loc (.t 3 0) 0 zz.1.1),(4,.v (.int .i64 zz.1.1))]) (λzz=>[(.t 3 0,.arr 1 (E cI (fE cf zz.1.1)) false)]) (λzz=>l.length-zz.1.1) ⟨(0,()),by omega,trivial⟩ ?_ ?_
 .simp[Vs.LeL,Vs.look,aA,aS,aJ,Vs.hset,aK,Vs.E,fE]
 .rintro⟨⟨i,_⟩,hi,hg⟩;dsimp only at hi hg;simp -dsimp only[go_sem,hkl];refine Br.mk (λhc=>?_) λhc=>?_
  .have hlt:i<l.length:=Dq;have hw:=aG hlt (by omega);have hpl:=aCs cf i
   have hpi:∀k,k<i->inO l.length ((fE cf i).getD k 0):=λk hk=>by
    have h1:=aB4 _ ((uQ cf i).mem_iff.1 (fF (by omega:k<(fE cf i).length)));exact⟨h1.1,by have:=h1.2;omega⟩
   have hii:inO l.length (i:Int):=⟨by omega,by omega⟩;have hki:=hke _ hii;rw[BR] at hki;have hps:fE cf (i+1)=(fE cf i).take (vF cf i (fE cf i) (fE cf i).length)++[(i:Int)]++(fE cf i).drop (vF cf i (fE cf i) (fE cf i).length):=by rw[fE]
   rw[hpl] at hps;have hdl:=aEE cf i (fE cf i) i;generalize fE cf i=o at *
   generalize hd:vF cf i o i=d at *
   simp -dsimp only[go_sem,hkl,hw];refine aM.at dM (X:={k:Nat // k<=i∧vF cf i o k=d}) (λk=>[(5,.v (.int .i64 (k.1:Nat)))]) (λk=>[]) (λk=>k.1) ⟨i,Au _,hd⟩ ?_ ?_
   .exact le0
   .rintro⟨k,hk,hkd⟩
    try dsimp only at hk hkd
    match k,hk,hkd with
    | 0,hk,hkd =>
     have e1:decide (((0:Nat):Int)>0)=false:=rfl;obtain rfl:d=0:=by rw[←hkd,aIV]
     simp -dsimp only[go_sem,e1];have htk:(E cI o).take (0)=E cI (o.take (0)):=by simp[E,CG]
     have hdk:((E cI o).drop (0)).take (i-(0))=E cI (o.drop (0)):=by rw[Ah (by rw[Cg,aH];omega)];simp[E,CJ]
     have hlt2:(o.take (0)).length=0:=by first|(simp;done)|(simp;omega)
     have hdl2:(o.drop (0)).length=i-(0):=by rw[Cg,hpl]
     have OW:=aHO (o.take (0)) (by omega);rw[hlt2] at OW;have hap:E cI (o.take (0))++[[.v (.int .i64 (i:Int))]]=E cI (o.take (0)++[(i:Int)]):=by rw[bG];rfl
     have hfin:E cI (o.take (0)++[(i:Int)])++E cI (o.drop (0))=E cI (fE cf (i+1)):=by simp only[hps,bG]
     have hz:((((0:Nat):Int))-0).toNat=0:=by omega
     have hz2:((i:Int)-((0:Nat):Int)).toNat=i-(0):=by omega
     have hz3:(((0:Nat):Int)).toNat=0:=by omega
     have hfb:∀b,some b∈[some (Blk.arr 1 (E cI (o.take (0))) false)]->gZ b:=by
      intro b hb;simp only[Av,Ab] at hb;subst hb;exact aHT (λx=>rfl)
     refine RgK.mk rfl ?_;simp -dsimp only[go_sem,htk,hdk,hap,hfin,hw,hpl,hkl,e1];refine⟨⟨⟨by omega,by omega,by omega⟩,?_⟩,λh=>absurd rfl h⟩;simp only[hz,BA];refine aB.lend OW rfl hfb rfl ?_;have hf0:[AV.v (.int .i64 (i:Int))]::E cI o=E cI (fE cf (i+1)):=by simp only[hps];rfl
     have hnil:E cI []=[]:=rfl;have hta:(E cI o).take i=E cI o:=Ah (by rw[aH];omega);clear htk hdk hap hfin;simp -dsimp only[go_sem,hz,hz2,hz3,Nat.sub_zero,BA,Af,Ag,Ao,Aq,Ad,Ac,Ai,AX,hf0,hnil,hta,hw,hpl,hkl,e1]
     repeat' (refine aC ?_)
     have hsum:1+i=i+1:=by omega
     first
      |exact⟨⟨(i+1,()),by first|omega|exact⟨by omega,trivial⟩,trivial⟩,by simp[Vs.LeL,Vs.look,aA,aS,aJ,Vs.hset,aK,hsum],by simp only;omega⟩

    | k+1,hk,hkd =>
     have e1:decide (((k+1:Nat):Int)>0)=true:=by first|(simp;done)|(simp;omega)
     have w1:IntKind.i64.wrap (((k+1:Nat):Int)-1)=(k:Int):=by rw[aV (by omega) (by omega)];omega
     have hj:=hpi k (by omega);have hj0:=hj.1;have hj1:=hj.2;have hkj:=hke _ hj;have hoj:(E cI o).getD k []=[.v (.int .i64 (o.getD k 0))]:=iD (by omega);have HC:=hcp _ _ hii hj;rw[BR] at HC;rw[aBg] at hkd;by_cases hneg:cf i (o.getD k 0)<0
     .have e2:decide (cf i (o.getD k 0)<0)=true:=A9 hneg;rw[AP hneg] at hkd;simp -dsimp only[go_sem,e1,e2]
      repeat' first|simp -dsimp only[go_sem,e1,e2,w1,hkj,hki,hoj,hkl,hpl]|apply Br.mk<;>intro h<;>try simp -dsimp only[h]|refine aB.c (by first|exact HC) ?_|refine aC ?_|fail
      all_goals first|(exact⟨⟨k,by omega,hkd⟩,by simp[Vs.LeL,Vs.look,aA,aS,aJ,Vs.hset,aK],by simp only;omega⟩)|omega
     .have e2:decide (cf i (o.getD k 0)<0)=false:=AQ hneg;rw[AC hneg] at hkd;obtain rfl:d=k+1:=hkd.symm;simp -dsimp only[go_sem,e1,e2];have htk:(E cI o).take (k+1)=E cI (o.take (k+1)):=by simp[E,CG]
      have hdk:((E cI o).drop (k+1)).take (i-(k+1))=E cI (o.drop (k+1)):=by rw[Ah (by rw[Cg,aH];omega)];simp[E,CJ]
      have hlt2:(o.take (k+1)).length=k+1:=by first|(simp;done)|(simp;omega)
      have hdl2:(o.drop (k+1)).length=i-(k+1):=by rw[Cg,hpl]
      have OW:=aHO (o.take (k+1)) (by omega);rw[hlt2] at OW;have hap:E cI (o.take (k+1))++[[.v (.int .i64 (i:Int))]]=E cI (o.take (k+1)++[(i:Int)]):=by rw[bG];rfl
      have hfin:E cI (o.take (k+1)++[(i:Int)])++E cI (o.drop (k+1))=E cI (fE cf (i+1)):=by simp only[hps,bG]
      have hz:((((k+1:Nat):Int))-0).toNat=k+1:=by omega
      have hz2:((i:Int)-((k+1:Nat):Int)).toNat=i-(k+1):=by omega
      have hz3:(((k+1:Nat):Int)).toNat=k+1:=by omega
      have hfb:∀b,some b∈[some (Blk.arr 1 (E cI (o.take (k+1))) false)]->gZ b:=by
       intro b hb;simp only[Av,Ab] at hb;subst hb;exact aHT (λx=>rfl)
      refine RgK.mk rfl ?_;simp -dsimp only[go_sem,htk,hdk,hap,hfin,hw,hpl,hkl,e1,e2,w1,hj0,hj1,hkj,hki,hoj];refine⟨⟨by omega,by omega⟩,⟨by omega,by omega⟩,aB.flat HC rfl ?_⟩;simp -dsimp only[go_sem,htk,hdk,hap,hfin,hw,hpl,hkl,e1,e2,w1,hj0,hj1,hkj,hki,hoj];refine⟨⟨⟨by omega,by omega,by omega⟩,?_⟩,λh=>absurd rfl h⟩;simp only[hz,htk];refine aB.lend OW rfl hfb rfl ?_;simp -dsimp only[go_sem,hz,hz2,hz3,Nat.sub_zero,BA,Af,Ag,Ao,Aq,Ad,Ac,Ai,AX,htk,hdk,hap,hfin,hlt2,hdl2,hw,hpl,hkl]
      repeat' (refine aC ?_)
      have hsum:k+1+1+(i-(k+1))=i+1:=by omega
      first
       |exact⟨⟨(i+1,()),by first|omega|exact⟨by omega,trivial⟩,trivial⟩,by simp[Vs.LeL,Vs.look,aA,aS,aJ,Vs.hset,aK,hsum],by simp only;omega⟩

  .have hge:i=l.length:=by
    have:¬i<l.length:=Dq;omega
   subst hge;simp -dsimp only[go_sem,hkl];have hpl:=aCs cf l.length;have htk:(E cI (fE cf l.length)).take l.length=E cI (fE cf l.length):=Ah (by rw[aH];omega)
   first|exact⟨⟨_,_,rfl,rfl⟩,λh=>h rfl⟩|(rw[htk];exact⟨⟨_,_,rfl,rfl⟩,λh=>h rfl⟩)|(simp[htk];done)
end
section
variable [Vs.Envs]
attribute [local irreducible] Vs.Fn bL aP bM bP l03 chB rk cd3 chI stp aQ
theorem aHW (F:Int->Int->Int) (i:Int) (o:List Int):∀K k,vF F i o K<=k->k<K->F i (o.getD k 0)<0
 |0,k,_,h=>by omega
 | K+1,k,h1,h2=>by
  rw[aBg] at h1;split at h1
  .rename_i I;by_cases H:k=K
   .subst H;exact I
   .exact aHW F i o K k h1 (by omega)
  .omega
theorem aHV (F:Int->Int->Int) (i:Int) (o:List Int):∀K,0<vF F i o K->¬F i (o.getD (vF F i o K-1) 0)<0
 |0,h=>by simp[vF] at h
 | K+1,h=>by
  rw[aBg] at h⊢;split
  .rename_i H;rw[AP H] at h;exact aHV F i o K h
  .rename_i H;exact H
theorem aFf {fr to:Int}{l:List (List Int)} (ho:∀c,c∈l->okF fr to c):∀n,n<=l.length->(fE (cfO fr to l) n).Pairwise (xD fr to l)
 |0,_=>List.Pairwise.nil
 | n+1,h=>by
  have ih:=aFf ho n (by omega);have hin:∀x,x∈fE (cfO fr to l) n->inO n x:=λx J=>aB4 x ((uQ _ n).mem_iff.1 J);have hh:=aCs (cfO fr to l) n;rw[fE];have hc:=aHW (cfO fr to l) n (fE (cfO fr to l) n) (fE (cfO fr to l) n).length;have he:=aHV (cfO fr to l) n (fE (cfO fr to l) n) (fE (cfO fr to l) n).length;have hl:=aEE (cfO fr to l) n (fE (cfO fr to l) n) (fE (cfO fr to l) n).length;generalize vF (cfO fr to l) n (fE (cfO fr to l) n) (fE (cfO fr to l) n).length=d at *
  generalize fE (cfO fr to l) n=o at *
  have hn:inO l.length (n:Int):=⟨by omega,by omega⟩;have I:∀x,inO n x->inO l.length x:=λx J=>⟨J.1,by have:=J.2;omega⟩
  have Z:∀y,y∈o.drop d->xD fr to l n y:=by
   intro y hy;obtain⟨j,hj,rfl⟩:=BZ.1 hy;rw[Cg] at hj;rw[List.getElem_drop];have hm:o[d+j]∈o:=Aa _;have O:=hc (d+j) (by omega) (by omega);have e:o.getD (d+j) 0=o[d+j]:=by simp[List.getD,(by omega:d+j<o.length)]
   rw[e] at O;exact⟨⟨hn,I _ (hin _ hm)⟩,.inl O⟩
  have hf:∀x,x∈o.take d->xD fr to l x n:=by
   intro x J;obtain⟨j,hj,rfl⟩:=List.mem_take_iff_getElem.1 J;have hk:j<d:=by omega
   have L:d-1<o.length:=by omega
   have O:=he (by omega);have e:o.getD (d-1) 0=o[d-1]:=by simp[List.getD,L]
   rw[e] at O;have hm:o[d-1]∈o:=Aa _;have H:=hin _ hm;have Y:=aB9 ho hn (I _ H)
   have F:xD fr to l o[d-1] n:=by
    refine⟨⟨I _ H,hn⟩,?_⟩;by_cases h0:cfO fr to l o[d-1] n=0
    .exact .inr ⟨h0,H.2⟩
    .exact .inl (by omega)
   by_cases hd:j=d-1
   .subst hd;exact F
   .exact l9 ho _ _ _ (Dg.1 ih j (d-1) (by omega) L (by omega)) F
  have hg:(o.take d++o.drop d).Pairwise (xD fr to l):=by rw[BN];exact ih
  obtain⟨p1,p2,p3⟩:=Bo.1 hg;rw[Bz,Bo];refine⟨p1,?_,?_⟩
  .rw[List.singleton_append,Cx];exact⟨Z,p2⟩
  .intro a Y b U;rw[List.singleton_append,Am] at U;rcases U with rfl|U
   .exact hf a Y
   .exact p3 a Y b U
theorem aLG {fr to:Int}{l:List (List Int)} (F:∀c,c∈l->okF fr to c) (I:l.length<=40):fE (cfO fr to l) l.length=dQ fr to l:=by
 obtain⟨H,h2⟩:=aCv F I;exact aEd (l9 F) (aA5 F) ((uQ _ _).trans H.symm) (aFf F _ (Au _)) h2
end
section
variable [Vs.Envs]
attribute [local irreducible] Vs.Fn bL aP bM bP l03 chB rk cd3 chI stp aQ stb dQ fE vF
attribute [local go_sem] aH Af Ag Ao Aq Ae Aj Ad Al Ac Ai Ap
theorem aE3 (l:List (List Int)) (fr to:Int) (U:∀x,x∈l->x.length<=1048576) (O:l.length<=1048576):Fz F.sU [.sl 1 (E cC l),.agg (cFd fr to)] (.v (.int .i64 (aZ fr to l))):=by
 have I:=mH l U O;have J:=iC l;have H:=vY fr to (bJ l);cases hd:bE l
 .rw[hd] at I;rw[show aZ fr to l=1 by simp[aZ,hd]];refine fn0 Cd.i_sortCode_k λX=>?_
  repeat' first|simp -dsimp only[go_sem,cC,cFd]|apply Br.mk<;>intro h<;>try simp -dsimp only[h]|refine aB.c (by first|exact I|exact J|exact H) ?_|refine aC ?_|fail
  all_goals first|exact⟨_,_,rfl,rfl⟩|simp
 rw[hd] at I;cases hf:dX fr to (bJ l)
 .rw[hf] at H;rw[show aZ fr to l=2 by simp[aZ,hd,hf]];refine fn0 Cd.i_sortCode_k λX=>?_
  repeat' first|simp -dsimp only[go_sem,cC,cFd]|apply Br.mk<;>intro h<;>try simp -dsimp only[h]|refine aB.c (by first|exact I|exact J|exact H) ?_|refine aC ?_|fail
  all_goals first|exact⟨_,_,rfl,rfl⟩|simp
 rw[hf] at H;have L:=pI l fr to (dE hd hf) O;cases ha:bU fr to l
 .rw[ha] at L;rw[show aZ fr to l=8 by simp[aZ,hd,hf,ha]];refine fn0 Cd.i_sortCode_k λX=>?_
  repeat' first|simp -dsimp only[go_sem,cC,cFd]|apply Br.mk<;>intro h<;>try simp -dsimp only[h]|refine aB.c (by first|exact I|exact J|exact H|exact L) ?_|refine aC ?_|fail
  all_goals first|exact⟨_,_,rfl,rfl⟩|simp
 rw[ha] at L;rw[show aZ fr to l=0 by simp[aZ,hd,hf,ha]];refine fn0 Cd.i_sortCode_k λX=>?_
 repeat' first|simp -dsimp only[go_sem,cC,cFd]|apply Br.mk<;>intro h<;>try simp -dsimp only[h]|refine aB.c (by first|exact I|exact J|exact H|exact L) ?_|refine aC ?_|fail
 all_goals first|exact⟨_,_,rfl,rfl⟩|simp
def wT (fr to:Int) (l:List (List Int)):AV:=if aZ fr to l=0 then .sl 1 (E cC (iU fr to l)) else .v (.slice none 0 0)
theorem aB3 {fr to:Int}{l:List (List Int)} (h:aZ fr to l=0):bE l=true∧dX fr to (bJ l)=true∧bU fr to l=true:=by
 unfold aZ at h;cases hd:bE l<;>cases hf:dX fr to (bJ l)<;>cases ha:bU fr to l<;>simp[hd,hf,ha] at h⊢
theorem iZ {l:List (List Int)} (h:bE l=true):l.length<=40:=by
 simp only[bE,Aw,Bb] at h;exact h.2
theorem aDj (l:List (List Int)) (fr to:Int) (Y:∀x,x∈l->x.length<=1048576) (U:l.length<=1048576):Fz F.kJ [.sl 1 (E cC l),.agg (cFd fr to)] (.tup [wT fr to l,.v (.int .i64 (aZ fr to l))]):=by
 have H:=aE3 l fr to Y U;by_cases h0:aZ fr to l=0
 .obtain⟨I,O,Z⟩:=aB3 h0;have J:=aJy l fr to (dE I O) (iZ I);rw[show wT fr to l=.sl 1 (E cC (iU fr to l)) by simp[wT,h0],h0];rw[h0] at H;refine fn0 Cd.i_SortedBy_k λX=>?_
  repeat' first|simp -dsimp only[go_sem,cC,cFd]|apply Br.mk<;>intro h<;>try simp -dsimp only[h]|refine aB.c (by first|exact H|exact J) ?_|refine aC ?_|fail
  all_goals first|exact⟨_,_,rfl,rfl⟩|simp
 .have L:(aZ fr to l != 0)=true:=by simp[h0]
  rw[show wT fr to l=.v (.slice none 0 0) by simp[wT,h0]];generalize aZ fr to l=c at *
  refine fn0 Cd.i_SortedBy_k λX=>?_
  repeat' first|simp -dsimp only[go_sem,cC,cFd,L]|apply Br.mk<;>intro h<;>try simp -dsimp only[h]|refine aB.c (by first|exact H) ?_|refine aC ?_|fail
  all_goals first|exact⟨_,_,rfl,rfl⟩|simp
theorem aDd (l:List (List Int)) (fr to:Int) (hs:∀x,x∈l->x.length<=1048576) (hl:l.length<=1048576):Fz F.sD [.sl 1 (E cC l),.agg (cFd fr to)] (.tup [wT fr to l,.v (.int .i64 (aZ fr to l))]):=by
 have KS:=jR l fr to hs hl;by_cases h0:aZ fr to l=0
 .obtain⟨hd,hf,ha⟩:=aB3 h0;have ho:=dE hd hf;have h40:=iZ hd;have PL:=aII l fr to ho ha h40;rw[aLG ho h40] at PL;rw[show wT fr to l=.sl 1 (E cC (iU fr to l)) by simp[wT,h0],h0];rw[show nN fr to l=.sl 1 (E cSt (bR fr to l)) by simp[nN,h0],h0] at KS;have hol:=uR fr to l;have hoi:=aBW ho h40;rw[show iU fr to l=(dQ fr to l).map (λi=>l.getD i.toNat []) from rfl];generalize dQ fr to l=o at *
  refine fn0 Cd.s_SortedBy_k λX=>?_
  repeat' first|simp -dsimp only[go_sem,cC,cFd]|apply Br.mk<;>intro h<;>try simp -dsimp only[h]|refine aB.c (by first|exact KS|exact PL) ?_|refine aC ?_|fail
  refine aM.at dM (X:={zz:Nat×(Unit) // zz.1<=o.length∧True}) (λzz=>[(9,.loc (.t 9 0) 0 zz.1.1),(10,.v (.int .i64 zz.1.1))]) (λzz=>[(.t 9 0,.arr 1 (E cC ((o.take zz.1.1).map λi=>l.getD i.toNat [])) false)]) (λzz=>o.length-zz.1.1) ⟨(0,()),by omega,trivial⟩ ?_ ?_
  .simp[Vs.LeL,Vs.look,aA,aS,aJ,Vs.hset,aK,Vs.E]
  .rintro⟨⟨i,_⟩,hi,hg⟩;dsimp only at hi hg;simp -dsimp only[go_sem,cC,cFd];refine Br.mk (λhc=>?_) λhc=>?_
   .have hlt:i<o.length:=Dq;have hw:=aG hlt (by omega);have hx:=hoi _ (Aa hlt);have gx:=aBm hx;have hm:=nG hx;have hc20:(l.getD o[i].toNat []).length<=20:=(ho _ hm).2.2.2;have NC:=xJ (l.getD o[i].toNat []) (by omega);have x0:=hx.1;have x1:=hx.2
    have hap:E cC ((o.take i).map λi=>l.getD i.toNat [])++[[.sl 1 (E cI (l.getD o[i].toNat []))]]=E cC ((o.take (i+1)).map λi=>l.getD i.toNat []):=by
     rw[aX hlt,Bu,bG];rfl
    have hal:(E cC ((o.take i).map λi=>l.getD i.toNat [])).length=i:=by rw[aH];simp;omega
    repeat' first|simp -dsimp only[go_sem,dI hlt,hw,hap,hal,gx,cC,cFd]|apply Br.mk<;>intro h<;>try simp -dsimp only[h]|refine aB.c (by first|exact NC) ?_|refine aC ?_|fail
    all_goals first|omega|(exact nx (i+1,()) trivial (h2:=by simp[Vs.LeL,Vs.look,aA,aS,aJ,Vs.hset,aK,hap]))
   .have hge:i=o.length:=by
     have:¬i<o.length:=Dq;omega
    subst hge;simp -dsimp only[go_sem,cC,cFd]
    have htk:(E cC ((o.take o.length).map λi=>l.getD i.toNat [])).take o.length=E cC (o.map λi=>l.getD i.toNat []):=by
     rw[Ah (Au o.length)];exact Ah (by rw[aH];simp)
    first|exact⟨⟨_,_,rfl,rfl⟩,λh=>h rfl⟩|(rw[htk];exact⟨⟨_,_,rfl,rfl⟩,λh=>h rfl⟩)|(simp[htk];done)
 .have e0:(aZ fr to l != 0)=true:=by simp[h0]
  rw[show wT fr to l=.v (.slice none 0 0) by simp[wT,h0]];rw[show nN fr to l=.v (.slice none 0 0) by simp[nN,h0]] at KS;generalize aZ fr to l=c at *
  refine fn0 Cd.s_SortedBy_k λX=>?_
  repeat' first|simp -dsimp only[go_sem,cC,cFd,e0]|apply Br.mk<;>intro h<;>try simp -dsimp only[h]|refine aB.c (by first|exact KS) ?_|refine aC ?_|fail
  all_goals first|exact⟨_,_,rfl,rfl⟩|simp
end
section
variable [Vs.Envs]
attribute [local irreducible] Vs.Fn bL aP bM bP l03 chB rk cd3 chI stp aQ
def aU (fr to:Int) (l:List (List Int)):Nat->List Int
 |0=>[]
 |i+1=>aU fr to l i++(if i=0∨cmF fr to (l.getD (i-1) []) (l.getD i [])≠0 then[(i:Int)] else[])
theorem tJ (fr to:Int) (l:List (List Int)) (i:Nat):aU fr to l (i+1)=aU fr to l i++(if i=0∨cmF fr to (l.getD (i-1) []) (l.getD i [])≠0 then[(i:Int)] else[]):=rfl
theorem wD (fr to:Int) (l:List (List Int)):aU fr to l 0=[]:=rfl
theorem iR (fr to:Int) (l:List (List Int)):∀i,(aU fr to l i).length<=i
 |0=>Au _
 | i+1=>by
  have:=iR fr to l i;rw[tJ,AX];split<;>simp<;>omega
attribute [local irreducible] aU
attribute [local go_sem] aH Af Ag Ao Aq Ae Aj Ad Al Ac Ai Ap in
theorem aCL (l:List (List Int)) (fr to:Int) (ho:∀c,c∈l->okF fr to c) (hl:l.length<=1048576):Fz F.pF [.sl 1 (E cC l),.agg (cFd fr to)] (.sl 1 (E cI (aU fr to l l.length))):=by
 refine fn0 Cd.i_groupsOf_k λX=>?_
 repeat' first|simp -dsimp only[go_sem,cC,cFd]|apply Br.mk<;>intro h<;>try simp -dsimp only[h]|refine aC ?_|fail
 refine aM.at dM (X:={zz:Nat×(Unit) // zz.1<=l.length∧True}) (λzz=>[(5,.loc (.t 5 0) 0 (aU fr to l zz.1.1).length),(11,.v (.int .i64 zz.1.1))]) (λzz=>[(.t 5 0,.arr 1 (E cI (aU fr to l zz.1.1)) false)]) (λzz=>l.length-zz.1.1) ⟨(0,()),by omega,trivial⟩ ?_ ?_
 .simp[Vs.LeL,Vs.look,aA,aS,aJ,Vs.hset,aK,Vs.E,wD]
 .rintro⟨⟨i,_⟩,hi,hg⟩;dsimp only at hi hg;simp -dsimp only[go_sem,cC,cFd];refine Br.mk (λhc=>?_) λhc=>?_
  .have hlt:i<l.length:=Dq;have hw:=aG hlt hl;have hgl:=iR fr to l i;have gi:(E cC l).getD i []=[.sl 1 (E cI (l.getD i []))]:=by rw[aN hlt];simp[cC,List.getD,hlt]
   have hap:E cI (aU fr to l i)++[[.v (.int .i64 (i:Int))]]=E cI (aU fr to l i++[(i:Int)]):=by rw[bG];rfl
   have hal:(E cI (aU fr to l i)).length=(aU fr to l i).length:=aH ..
   have hgs:=tJ fr to l i;by_cases h0:i=0
   .subst h0;rw[AP (.inl rfl)] at hgs;have e0:(((0:Nat):Int)==0)=true:=rfl
    repeat' first|simp -dsimp only[go_sem,e0,hw,hap,hal,gi,cC,cFd]|apply Br.mk<;>intro h<;>try simp -dsimp only[h]|refine aC ?_|fail
    all_goals first|omega|(exact nx (0+1,()) trivial (h2:=by simp[Vs.LeL,Vs.look,aA,aS,aJ,Vs.hset,aK,hgs]))
   .have e0:((i:Int)==0)=false:=by simp[h0]
    have w0:IntKind.i64.wrap ((i:Int)-1)=((i-1:Nat):Int):=by rw[aV (by omega) (by omega)];omega
    have hl1:i-1<l.length:=by omega
    have gj:(E cC l).getD (i-1) []=[.sl 1 (E cI (l.getD (i-1) []))]:=by rw[aN hl1];simp[cC,List.getD,hl1]
    have hmi:l.getD i []∈l:=by rw[show l.getD i []=l[i] by simp[List.getD,hlt]];exact Aa hlt
    have hmj:l.getD (i-1) []∈l:=by rw[show l.getD (i-1) []=l[i-1] by simp[List.getD,hl1]];exact Aa hl1
    have CF:=lV (l.getD (i-1) []) (l.getD i []) fr to (ho _ hmj) (ho _ hmi);by_cases hc0:cmF fr to (l.getD (i-1) []) (l.getD i [])=0
    .have e1:(cmF fr to (l.getD (i-1) []) (l.getD i []) != 0)=false:=by rw[hc0];rfl
     rw[AC (by rintro(h|h)<;>contradiction),Be] at hgs
     repeat' first|simp -dsimp only[go_sem,e0,e1,w0,hw,hap,hal,gi,gj,cC,cFd]|apply Br.mk<;>intro h<;>try simp -dsimp only[h]|refine aB.c (by first|exact CF) ?_|refine aC ?_|fail
     all_goals first|omega|(exact nx (i+1,()) trivial (h2:=by simp[Vs.LeL,Vs.look,aA,aS,aJ,Vs.hset,aK,hgs]))
    .have e1:(cmF fr to (l.getD (i-1) []) (l.getD i []) != 0)=true:=bne_iff_ne.2 hc0;rw[AP (.inr hc0)] at hgs
     repeat' first|simp -dsimp only[go_sem,e0,e1,w0,hw,hap,hal,gi,gj,cC,cFd]|apply Br.mk<;>intro h<;>try simp -dsimp only[h]|refine aB.c (by first|exact CF) ?_|refine aC ?_|fail
     all_goals first|omega|(exact nx (i+1,()) trivial (h2:=by simp[Vs.LeL,Vs.look,aA,aS,aJ,Vs.hset,aK,hgs]))
  .have hge:i=l.length:=by
    have:¬i<l.length:=Dq;omega
   subst hge;simp -dsimp only[go_sem,cC,cFd];have htk:(E cI (aU fr to l l.length)).take (aU fr to l l.length).length=E cI (aU fr to l l.length):=Ah (by rw[aH];exact Au _)
   first|exact⟨⟨_,_,rfl,rfl⟩,λh=>h rfl⟩|(rw[htk];exact⟨⟨_,_,rfl,rfl⟩,λh=>h rfl⟩)|(simp[htk];done)
end
section
variable [Vs.Envs]
attribute [local irreducible] Vs.Fn aU bL aP bM bP l03 chB rk cd3 chI stp aQ
theorem vD {fr to:Int}{l:List (List Int)}:∀n x,x∈aU fr to l n->0<=x∧x<(n:Int)
 |0,x,h=>by rw[wD] at h;cases h
 | n+1,x,h=>by
  rw[tJ] at h;rcases Bg.1 h with h|h
  .have:=vD n x h;omega
  .split at h
   .simp at h;subst h;omega
   .cases h
theorem aAK {fr to:Int}{l:List (List Int)}:∀n,(aU fr to l n).Pairwise (· < ·)
 |0=>by rw[wD];exact List.Pairwise.nil
 | n+1=>by
  rw[tJ,Bo];refine⟨aAK n,by split<;>simp,λa H b F=>?_⟩;have:=vD n a H;split at F
  .simp at F;subst F;exact this.2
  .cases F
def fG (l:List (List Int)) (s:List Int) (i:Nat):List (List Int):=(l.take (if i+1<s.length then(s.getD (i+1) 0).toNat else l.length)).drop (s.getD i 0).toNat
def aAL (fr to:Int) (l:List (List Int)):List (List (List Int)):=(List.range (aU fr to l l.length).length).map (fG l (aU fr to l l.length))
attribute [local irreducible] fG
attribute [local go_sem] aH Af Ag Ao Aq Ae Aj Ad Al Ac Ai Ap in
theorem groups (l:List (List Int)) (fr to:Int) (ho:∀c,c∈l->okF fr to c) (hl:l.length<=1048576):Fz F.xO [.sl 1 (E cC l),.agg (cFd fr to)] (.sl 1 (E cD (aAL fr to l))):=by
 have GO:=aCL l fr to ho hl;have SZ:=sizeC l;have hgl:=iR fr to l l.length;have hin:=vD (fr:=fr) (to:=to) (l:=l) l.length;have hup:=aAK (fr:=fr) (to:=to) (l:=l) l.length;rw[show aAL fr to l=(List.range (aU fr to l l.length).length).map (fG l (aU fr to l l.length)) from rfl];generalize aU fr to l l.length=s at *
 refine fn0 Cd.i_groups_k λX=>?_
 repeat' first|simp -dsimp only[go_sem,cC,cFd,cD]|apply Br.mk<;>intro h<;>try simp -dsimp only[h]|refine aB.c (by first|exact GO) ?_|refine aC ?_|fail
 refine aM.at dM (X:={zz:Nat×(Unit) // zz.1<=s.length∧True}) (λzz=>[(5,.loc (.t 5 0) 0 zz.1.1),(16,.v (.int .i64 zz.1.1))]) (λzz=>[(.t 5 0,.arr 1 (E cD ((List.range zz.1.1).map (fG l s))) false)]) (λzz=>s.length-zz.1.1) ⟨(0,()),by omega,trivial⟩ ?_ ?_
 .simp[Vs.LeL,Vs.look,aA,aS,aJ,Vs.hset,aK,Vs.E]
 .rintro⟨⟨i,_⟩,hi,hg⟩;dsimp only at hi hg;simp -dsimp only[go_sem,cC,cFd,cD];refine Br.mk (λhc=>?_) λhc=>?_
  .have hlt:i<s.length:=Dq;have hw:=aG hlt (by omega);have hs0:=hin _ (Aa hlt);have e:s.getD i 0=s[i]:=by simp[List.getD,hlt]
   have hap:E cD ((List.range i).map (fG l s))++[[.sl 1 (E cC (fG l s i))]]=E cD ((List.range (i+1)).map (fG l s)):=by
    rw[Dj,Bu,bG];rfl
   have hal:(E cD ((List.range i).map (fG l s))).length=i:=by rw[aH];simp
   have hiw:IntKind.i64.wrap ((i:Int)+1)=((i+1:Nat):Int):=hw;by_cases h1:i+1<s.length
   .have e1:decide (((i+1:Nat):Int)<(s.length:Int))=true:=by simp;omega
    have hs1:=hin _ (Aa h1);have hlt2:s[i]<s[i+1]:=Dg.1 hup i (i+1) hlt h1 (by omega)
    have hga:((E cC l).take s[i+1].toNat).drop s[i].toNat=E cC (fG l s i):=by
     unfold fG;rw[AP h1,e,show s.getD (i+1) 0=s[i+1] by simp[List.getD,h1]];simp[E,CG,CJ]
    simp -dsimp only[go_sem,dI hlt,dI h1,hw,e1,hal,cC,cFd,cD]
    repeat' first|simp -dsimp only[go_sem,dI hlt,dI h1,hw,e1,hap,hal,hga,cC,cFd,cD]|apply Br.mk<;>intro h<;>try simp -dsimp only[h]|refine aB.c (by first|exact SZ) ?_|refine aC ?_|fail
    all_goals first|omega|(exact nx (i+1,()) trivial (h2:=by simp[Vs.LeL,Vs.look,aA,aS,aJ,Vs.hset,aK,Dj]))
   .have e1:decide (((i+1:Nat):Int)<(s.length:Int))=false:=by simp;omega
    have hga:(E cC l).drop s[i].toNat=E cC (fG l s i):=by
     unfold fG;rw[AC h1,e,Ah (Au _)];simp[E,CJ]
    simp -dsimp only[go_sem,dI hlt,hw,e1,hal,cC,cFd,cD]
    repeat' first|simp -dsimp only[go_sem,dI hlt,hw,e1,hap,hal,hga,cC,cFd,cD]|apply Br.mk<;>intro h<;>try simp -dsimp only[h]|refine aB.c (by first|exact SZ) ?_|refine aC ?_|fail
    all_goals first|omega|(exact nx (i+1,()) trivial (h2:=by simp[Vs.LeL,Vs.look,aA,aS,aJ,Vs.hset,aK,Dj]))
  .have hge:i=s.length:=by
    have:¬i<s.length:=Dq;omega
   subst hge;simp -dsimp only[go_sem,cC,cFd,cD];have htk:(E cD ((List.range s.length).map (fG l s))).take s.length=E cD ((List.range s.length).map (fG l s)):=Ah (by rw[aH];simp)
   first|exact⟨⟨_,_,rfl,rfl⟩,λh=>h rfl⟩|(rw[htk];exact⟨⟨_,_,rfl,rfl⟩,λh=>h rfl⟩)|(simp[htk];done)
end
section
variable [Vs.Envs]
attribute [local irreducible] Vs.Fn aU bL aP bM bP l03 chB rk cd3 chI stp aQ
attribute [local go_sem] aH Af Ag Ao Aq Ae Aj Ad Al Ac Ai Ap in
theorem aDE (l:List (List Int)) (fr to:Int) (ho:∀c,c∈l->okF fr to c) (hall:bU fr to l=true) (hl:l.length<=1048576):Fz F.mK [.sl 1 (E cSt (bR fr to l))] (.sl 1 (E cI (aU fr to l l.length))):=by
 have hkl:(E cSt (bR fr to l)).length=l.length:=by rw[aH];simp[bR]
 have hke:∀i:Nat,i<l.length->(E cSt (bR fr to l)).getD i []=[.v (.string (txt (fH fr to (l.getD i []))))]:=λi hi=>by
  have h:=aKo (fr:=fr) (to:=to) (l:=l) (x:=(i:Int)) ⟨by omega,by omega⟩;rw[BR] at h;exact h
 have hin:∀i:Nat,i<l.length->l.getD i []∈l:=λi hi=>by rw[show l.getD i []=l[i] by simp[List.getD,hi]];exact Aa hi
 have hne:∀i j:Nat,i<l.length->j<l.length->(!((txt (fH fr to (l.getD i []))).toList==(txt (fH fr to (l.getD j []))).toList))=(cmF fr to (l.getD j []) (l.getD i []) != 0):=λi j hi hj=>by
  have hli:=lF (ho _ (hin i hi));have hlj:=lF (ho _ (hin j hj));have hci:=Az.1 hall _ (hin i hi);have hcj:=Az.1 hall _ (hin j hj);rw[aD5 (by rw[hli,hlj]) hci hcj];unfold cmF;rw[aBl (fH fr to (l.getD i [])) (fH fr to (l.getD j [])) (by rw[hli,hlj])];generalize jA (fH fr to (l.getD i [])) (fH fr to (l.getD j []))=c;by_cases h0:c=0
  .subst h0;rfl
  .have h1:(c==0)=false:=by simp[h0]
   have h2:(-c != 0)=true:=by simp;omega
   rw[h1,h2];rfl
 generalize E cSt (bR fr to l)=K at *
 refine fn0 Cd.s_l09Groups_k λX=>?_
 repeat' first|simp -dsimp only[go_sem,hkl]|apply Br.mk<;>intro h<;>try simp -dsimp only[h]|refine aC ?_|fail
 refine aM.at dM (X:={zz:Nat×(Unit) // zz.1<=l.length∧True}) (λzz=>[(3,.loc (.t 3 0) 0 (aU fr to l zz.1.1).length),(4,.v (.int .i64 zz.1.1))]) (λzz=>[(.t 3 0,.arr 1 (E cI (aU fr to l zz.1.1)) false)]) (λzz=>l.length-zz.1.1) ⟨(0,()),by omega,trivial⟩ ?_ ?_
 .simp[Vs.LeL,Vs.look,aA,aS,aJ,Vs.hset,aK,Vs.E,wD]
 .rintro⟨⟨i,_⟩,hi,hg⟩;dsimp only at hi hg;simp -dsimp only[go_sem,hkl];refine Br.mk (λhc=>?_) λhc=>?_
  .have hlt:i<l.length:=Dq;have hw:=aG hlt (by omega);have hgl:=iR fr to l i;have gi:=hke i hlt;have hap:E cI (aU fr to l i)++[[.v (.int .i64 (i:Int))]]=E cI (aU fr to l i++[(i:Int)]):=by rw[bG];rfl
   have hal:(E cI (aU fr to l i)).length=(aU fr to l i).length:=aH ..
   have hgs:=tJ fr to l i;by_cases h0:i=0
   .subst h0;rw[AP (.inl rfl)] at hgs;have e0:(((0:Nat):Int)==0)=true:=rfl
    repeat' first|simp -dsimp only[go_sem,e0,hw,hap,hal,gi]|apply Br.mk<;>intro h<;>try simp -dsimp only[h]|refine aC ?_|fail
    all_goals first|omega|(exact nx (0+1,()) trivial (h2:=by simp[Vs.LeL,Vs.look,aA,aS,aJ,Vs.hset,aK,hgs]))
   .have e0:((i:Int)==0)=false:=by simp[h0]
    have w0:IntKind.i64.wrap ((i:Int)-1)=((i-1:Nat):Int):=by rw[aV (by omega) (by omega)];omega
    have hl1:i-1<l.length:=by omega
    have gj:=hke (i-1) hl1;have hn:=hne i (i-1) hlt hl1;by_cases hc0:cmF fr to (l.getD (i-1) []) (l.getD i [])=0
    .have e1:(cmF fr to (l.getD (i-1) []) (l.getD i []) != 0)=false:=by rw[hc0];rfl
     rw[e1] at hn;rw[AC (by rintro(h|h)<;>contradiction),Be] at hgs
     repeat' first|simp -dsimp only[go_sem,e0,hn,hkl,w0,hw,hap,hal,gi,gj]|apply Br.mk<;>intro h<;>try simp -dsimp only[h]|refine aC ?_|fail
     all_goals first|omega|(exact nx (i+1,()) trivial (h2:=by simp[Vs.LeL,Vs.look,aA,aS,aJ,Vs.hset,aK,hgs]))
    .have e1:(cmF fr to (l.getD (i-1) []) (l.getD i []) != 0)=true:=bne_iff_ne.2 hc0;rw[e1] at hn;rw[AP (.inr hc0)] at hgs
     repeat' first|simp -dsimp only[go_sem,e0,hn,hkl,w0,hw,hap,hal,gi,gj]|apply Br.mk<;>intro h<;>try simp -dsimp only[h]|refine aC ?_|fail
     all_goals first|omega|(exact nx (i+1,()) trivial (h2:=by simp[Vs.LeL,Vs.look,aA,aS,aJ,Vs.hset,aK,hgs]))
  .have hge:i=l.length:=by
    have:¬i<l.length:=Dq;omega
   subst hge;simp -dsimp only[go_sem,hkl];have htk:(E cI (aU fr to l l.length)).take (aU fr to l l.length).length=E cI (aU fr to l l.length):=Ah (by rw[aH];exact Au _)
   first|exact⟨⟨_,_,rfl,rfl⟩,λh=>h rfl⟩|(rw[htk];exact⟨⟨_,_,rfl,rfl⟩,λh=>h rfl⟩)|(simp[htk];done)
end
end Go.Proofs.YtkgeiaideklmoaaGreat
