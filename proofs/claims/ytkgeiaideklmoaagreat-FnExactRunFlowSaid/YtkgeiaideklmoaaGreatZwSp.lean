/- Where groups begin: the reference's way. -/
import Derived.Test.YtkgeiaideklmoaaGreatZwQh
import Derived.Test.YtkgeiaideklmoaaGreatVtR
import Derived.Test.YtkgeiaideklmoaaGreatZwSf
set_option linter.all false
set_option maxHeartbeats 8000000
namespace Go.Proofs.YtkgeiaideklmoaaGreat
open Go.Vs
section
variable [Vs.Envs]
attribute [local irreducible] Vs.Fn bK aO bL bM l03 chB rk cd3 chI stp aP stb dR
theorem aIn (l:List Int) (H:l.length<=1048576):Vs.Fn Tryz.prog F.qC [] [.sl 1 (E cI l)] (.loc (.b 0) 0 l.length) [some (.arr 1 (E cI l) false)]:=by
 refine fn1 Cd.s_l00Own_k [.t 5 0] [.arr 1 (E cI l) false] λX=>?_;unfold Cd.qC
 repeat' first|simp -dsimp only[go_sem,aH,BF,BG,l8,sF,lU,Aw,Be,Ai,Ae]|apply Br.mk<;>intro h<;>try simp -dsimp only[h]|refine aC ?_|fail
 all_goals first|exact⟨_,_,rfl,rfl⟩
def vT (cf:Int->Int->Int) (i:Int) (o:List Int):Nat->Nat
 |0=>0
 |k+1=>if cf i (o.getD k 0)<0 then vT cf i o k else k+1
theorem aJA (F:Int->Int->Int) (i:Int) (o:List Int):vT F i o 0=0:=rfl
theorem aBx (F:Int->Int->Int) (i:Int) (o:List Int) (k:Nat):vT F i o (k+1)=if F i (o.getD k 0)<0 then vT F i o k else k+1:=rfl
theorem aE5 (F:Int->Int->Int) (i:Int) (o:List Int):∀k,vT F i o k<=k
 |0=>Ar _
 | k+1=>by
  rw[vT];split
  .exact Nat.le_succ_of_le (aE5 F i o k)
  .exact Ar _
def fF (cf:Int->Int->Int):Nat->List Int
 |0=>[]
 |n+1=>(fF cf n).take (vT cf n (fF cf n) (fF cf n).length)++[(n:Int)]++(fF cf n).drop (vT cf n (fF cf n) (fF cf n).length)
theorem u6 (F:Int->Int->Int):∀n,(fF F n).Perm (iota n)
 |0=>List.Perm.refl _
 | n+1=>by
  rw[fF,aD6];generalize vT F n (fF F n) (fF F n).length=k
  have H:((fF F n).take k++[(n:Int)]++(fF F n).drop k).Perm ((fF F n).take k++(fF F n).drop k++[(n:Int)]):=by
   rw[Bw,Bw];exact List.Perm.append_left _ List.perm_append_comm
  rw[BR] at H;exact H.trans (CW _ (u6 F n))
theorem aCN (F:Int->Int->Int) (n:Nat):(fF F n).length=n:=by rw[(u6 F n).length_eq,tF]
end
section
variable [Vs.Envs]
attribute [local irreducible] Vs.Fn bK aO bL bM l03 chB rk cd3 chI stp aP stb dR fF vT
theorem aK0 {fr to:Int}{l:List (List Int)}{x:Int} (h:inO l.length x):(E cSt (bS fr to l)).getD x.toNat []=[.v (.string (txt (fH fr to (l.getD x.toNat []))))]:=by
 have F:x.toNat<l.length:=by have:=h.1;have:=h.2;omega
 rw[aN (by simpa[bS] using F)];simp[cSt,bS,List.getD,F]
attribute [local go_sem] aH Au Ap Ao AX BH Vs.Name.t.injEq BM Cg BF BG l8 sF lU Aw Be Ai Ae in
theorem aJn (l:List (List Int)) (fr to:Int) (ho:∀c,c∈l->okF fr to c) (hall:bV fr to l=true) (hl:l.length<=40):Fz F.qB [.sl 1 (E cSt (bS fr to l))] (.sl 1 (E cI (fF (cfO fr to l) l.length))):=by
 have hkl:(E cSt (bS fr to l)).length=l.length:=by rw[aH];simp[bS]
 have hch:∀x,inO l.length x->dC (fH fr to (l.getD x.toNat []))=true:=λx hx=>Az.1 hall _ (nO hx)
 have hcp:∀x y,inO l.length x->inO l.length y->Fz F.fP [.v (.string (txt (fH fr to (l.getD x.toNat [])))),.v (.string (txt (fH fr to (l.getD y.toNat []))))] (.v (.int .i64 (cfO fr to l x y))):=λx y hx hy =>
  wM _ _ (aA2 (ho _ (nO hx))) (by rw[qZ ho hx,qZ ho hy]) (hch x hx) (hch y hy)
 have hke:∀x,inO l.length x->(E cSt (bS fr to l)).getD x.toNat []=[.v (.string (txt (fH fr to (l.getD x.toNat []))))]:=λx hx=>aK0 hx;generalize E cSt (bS fr to l)=K at *
 generalize cfO fr to l=cf at *
 refine fn0 Cd.s_l07Places_k λX=>?_
 repeat' first|simp -dsimp only[go_sem,hkl]|apply Br.mk<;>intro h<;>try simp -dsimp only[h]|refine aC ?_|fail
 refine aM.at dM (X:={zz:Nat×(Unit) // zz.1<=l.length∧True}) (λzz=>[(3,.loc (.t 3 0) 0 zz.1.1),(4,.v (.int .i64 zz.1.1))]) (λzz=>[(.t 3 0,.arr 1 (E cI (fF cf zz.1.1)) false)]) (λzz=>l.length-zz.1.1) ⟨(0,()),by omega,trivial⟩ ?_ ?_
 .simp[Vs.LeL,Vs.look,aA,aS,aJ,Vs.hset,aK,Vs.E,fF]
 .rintro⟨⟨i,_⟩,hi,hg⟩;dsimp only at hi hg;simp -dsimp only[go_sem,hkl];refine Br.mk (λhc=>?_) λhc=>?_
  .have hlt:i<l.length:=Dq;have hw:=aG hlt (by omega);have hpl:=aCN cf i
   have hpi:∀k,k<i->inO l.length ((fF cf i).getD k 0):=λk hk=>by
    have h1:=aCk _ ((u6 cf i).mem_iff.1 (fG (by omega:k<(fF cf i).length)));exact⟨h1.1,by have:=h1.2;omega⟩
   have hii:inO l.length (i:Int):=⟨by omega,by omega⟩;have hki:=hke _ hii;rw[BP] at hki;have hps:fF cf (i+1)=(fF cf i).take (vT cf i (fF cf i) (fF cf i).length)++[(i:Int)]++(fF cf i).drop (vT cf i (fF cf i) (fF cf i).length):=by rw[fF]
   rw[hpl] at hps;have hdl:=aE5 cf i (fF cf i) i;generalize fF cf i=o at *
   generalize hd:vT cf i o i=d at *
   simp -dsimp only[go_sem,hkl,hw];refine aM.at dM (X:={k:Nat // k<=i∧vT cf i o k=d}) (λk=>[(5,.v (.int .i64 (k.1:Nat)))]) (λk=>[]) (λk=>k.1) ⟨i,Ar _,hd⟩ ?_ ?_
   .exact le0
   .rintro⟨k,hk,hkd⟩
    try dsimp only at hk hkd
    match k,hk,hkd with
    | 0,hk,hkd =>
     have e1:decide (((0:Nat):Int)>0)=false:=rfl;obtain rfl:d=0:=by rw[←hkd,aJA]
     simp -dsimp only[go_sem,e1];have htk:(E cI o).take (0)=E cI (o.take (0)):=by simp[E,CG]
     have hdk:((E cI o).drop (0)).take (i-(0))=E cI (o.drop (0)):=by rw[Aj (by rw[Cg,aH];omega)];simp[E,CJ]
     have hlt2:(o.take (0)).length=0:=by first|(simp;done)|(simp;omega)
     have hdl2:(o.drop (0)).length=i-(0):=by rw[Cg,hpl]
     have OW:=aIn (o.take (0)) (by omega);rw[hlt2] at OW;have hap:E cI (o.take (0))++[[.v (.int .i64 (i:Int))]]=E cI (o.take (0)++[(i:Int)]):=by rw[bH];rfl
     have hfin:E cI (o.take (0)++[(i:Int)])++E cI (o.drop (0))=E cI (fF cf (i+1)):=by simp only[hps,bH]
     have hz:((((0:Nat):Int))-0).toNat=0:=by omega
     have hz2:((i:Int)-((0:Nat):Int)).toNat=i-(0):=by omega
     have hz3:(((0:Nat):Int)).toNat=0:=by omega
     have hfb:∀b,some b∈[some (Blk.arr 1 (E cI (o.take (0))) false)]->iV b:=by
      intro b hb;simp only[Au,Ad] at hb;subst hb;exact aIs (λx=>rfl)
     refine RgK.mk rfl ?_;simp -dsimp only[go_sem,htk,hdk,hap,hfin,hw,hpl,hkl,e1];refine⟨⟨⟨by omega,by omega,by omega⟩,?_⟩,λh=>absurd rfl h⟩;simp only[hz,Bz];refine aB.lend OW rfl hfb rfl ?_;have hf0:[AV.v (.int .i64 (i:Int))]::E cI o=E cI (fF cf (i+1)):=by simp only[hps];rfl
     have hnil:E cI []=[]:=rfl;have hta:(E cI o).take i=E cI o:=Aj (by rw[aH];omega);clear htk hdk hap hfin;simp -dsimp only[go_sem,hz,hz2,hz3,Nat.sub_zero,Bz,Af,Ag,Al,Aq,Ac,Ab,Ah,AQ,hf0,hnil,hta,hw,hpl,hkl,e1]
     repeat' (refine aC ?_)
     have hsum:1+i=i+1:=by omega
     first
      |exact⟨⟨(i+1,()),by first|omega|exact⟨by omega,trivial⟩,trivial⟩,by simp[Vs.LeL,Vs.look,aA,aS,aJ,Vs.hset,aK,hsum],by simp only;omega⟩

    | k+1,hk,hkd =>
     have e1:decide (((k+1:Nat):Int)>0)=true:=by first|(simp;done)|(simp;omega)
     have w1:IntKind.i64.wrap (((k+1:Nat):Int)-1)=(k:Int):=by rw[aR (by omega) (by omega)];omega
     have hj:=hpi k (by omega);have hj0:=hj.1;have hj1:=hj.2;have hkj:=hke _ hj;have hoj:(E cI o).getD k []=[.v (.int .i64 (o.getD k 0))]:=iG (by omega);have HC:=hcp _ _ hii hj;rw[BP] at HC;rw[aBx] at hkd;by_cases hneg:cf i (o.getD k 0)<0
     .have e2:decide (cf i (o.getD k 0)<0)=true:=A7 hneg;rw[AP hneg] at hkd;simp -dsimp only[go_sem,e1,e2]
      repeat' first|simp -dsimp only[go_sem,e1,e2,w1,hkj,hki,hoj,hkl,hpl]|apply Br.mk<;>intro h<;>try simp -dsimp only[h]|refine aB.c (by first|exact HC) ?_|refine aC ?_|fail
      all_goals first|(exact⟨⟨k,by omega,hkd⟩,by simp[Vs.LeL,Vs.look,aA,aS,aJ,Vs.hset,aK],by simp only;omega⟩)|omega
     .have e2:decide (cf i (o.getD k 0)<0)=false:=AO hneg;rw[AB hneg] at hkd;obtain rfl:d=k+1:=hkd.symm;simp -dsimp only[go_sem,e1,e2];have htk:(E cI o).take (k+1)=E cI (o.take (k+1)):=by simp[E,CG]
      have hdk:((E cI o).drop (k+1)).take (i-(k+1))=E cI (o.drop (k+1)):=by rw[Aj (by rw[Cg,aH];omega)];simp[E,CJ]
      have hlt2:(o.take (k+1)).length=k+1:=by first|(simp;done)|(simp;omega)
      have hdl2:(o.drop (k+1)).length=i-(k+1):=by rw[Cg,hpl]
      have OW:=aIn (o.take (k+1)) (by omega);rw[hlt2] at OW;have hap:E cI (o.take (k+1))++[[.v (.int .i64 (i:Int))]]=E cI (o.take (k+1)++[(i:Int)]):=by rw[bH];rfl
      have hfin:E cI (o.take (k+1)++[(i:Int)])++E cI (o.drop (k+1))=E cI (fF cf (i+1)):=by simp only[hps,bH]
      have hz:((((k+1:Nat):Int))-0).toNat=k+1:=by omega
      have hz2:((i:Int)-((k+1:Nat):Int)).toNat=i-(k+1):=by omega
      have hz3:(((k+1:Nat):Int)).toNat=k+1:=by omega
      have hfb:∀b,some b∈[some (Blk.arr 1 (E cI (o.take (k+1))) false)]->iV b:=by
       intro b hb;simp only[Au,Ad] at hb;subst hb;exact aIs (λx=>rfl)
      refine RgK.mk rfl ?_;simp -dsimp only[go_sem,htk,hdk,hap,hfin,hw,hpl,hkl,e1,e2,w1,hj0,hj1,hkj,hki,hoj];refine⟨⟨by omega,by omega⟩,⟨by omega,by omega⟩,aB.flat HC rfl ?_⟩;simp -dsimp only[go_sem,htk,hdk,hap,hfin,hw,hpl,hkl,e1,e2,w1,hj0,hj1,hkj,hki,hoj];refine⟨⟨⟨by omega,by omega,by omega⟩,?_⟩,λh=>absurd rfl h⟩;simp only[hz,htk];refine aB.lend OW rfl hfb rfl ?_;simp -dsimp only[go_sem,hz,hz2,hz3,Nat.sub_zero,Bz,Af,Ag,Al,Aq,Ac,Ab,Ah,AQ,htk,hdk,hap,hfin,hlt2,hdl2,hw,hpl,hkl]
      repeat' (refine aC ?_)
      have hsum:k+1+1+(i-(k+1))=i+1:=by omega
      first
       |exact⟨⟨(i+1,()),by first|omega|exact⟨by omega,trivial⟩,trivial⟩,by simp[Vs.LeL,Vs.look,aA,aS,aJ,Vs.hset,aK,hsum],by simp only;omega⟩

  .have hge:i=l.length:=by
    have:¬i<l.length:=Dq;omega
   subst hge;simp -dsimp only[go_sem,hkl];have hpl:=aCN cf l.length;have htk:(E cI (fF cf l.length)).take l.length=E cI (fF cf l.length):=Aj (by rw[aH];omega)
   first|exact⟨⟨_,_,rfl,rfl⟩,λh=>h rfl⟩|(rw[htk];exact⟨⟨_,_,rfl,rfl⟩,λh=>h rfl⟩)|(simp[htk];done)
end
section
variable [Vs.Envs]
attribute [local irreducible] Vs.Fn bK aO bL bM l03 chB rk cd3 chI stp aP
theorem aIv (F:Int->Int->Int) (i:Int) (o:List Int):∀K k,vT F i o K<=k->k<K->F i (o.getD k 0)<0
 |0,k,_,h=>by omega
 | K+1,k,h1,h2=>by
  rw[aBx] at h1;split at h1
  .rename_i I;by_cases H:k=K
   .subst H;exact I
   .exact aIv F i o K k h1 (by omega)
  .omega
theorem aIu (F:Int->Int->Int) (i:Int) (o:List Int):∀K,0<vT F i o K->¬F i (o.getD (vT F i o K-1) 0)<0
 |0,h=>by simp[vT] at h
 | K+1,h=>by
  rw[aBx] at h⊢;split
  .rename_i H;rw[AP H] at h;exact aIu F i o K h
  .rename_i H;exact H
theorem aFI {fr to:Int}{l:List (List Int)} (ho:∀c,c∈l->okF fr to c):∀n,n<=l.length->(fF (cfO fr to l) n).Pairwise (xV fr to l)
 |0,_=>List.Pairwise.nil
 | n+1,h=>by
  have ih:=aFI ho n (by omega);have hin:∀x,x∈fF (cfO fr to l) n->inO n x:=λx J=>aCk x ((u6 _ n).mem_iff.1 J);have hh:=aCN (cfO fr to l) n;rw[fF];have hc:=aIv (cfO fr to l) n (fF (cfO fr to l) n) (fF (cfO fr to l) n).length;have he:=aIu (cfO fr to l) n (fF (cfO fr to l) n) (fF (cfO fr to l) n).length;have hl:=aE5 (cfO fr to l) n (fF (cfO fr to l) n) (fF (cfO fr to l) n).length;generalize vT (cfO fr to l) n (fF (cfO fr to l) n) (fF (cfO fr to l) n).length=d at *
  generalize fF (cfO fr to l) n=o at *
  have hn:inO l.length (n:Int):=⟨by omega,by omega⟩;have I:∀x,inO n x->inO l.length x:=λx J=>⟨J.1,by have:=J.2;omega⟩
  have Z:∀y,y∈o.drop d->xV fr to l n y:=by
   intro y hy;obtain⟨j,hj,rfl⟩:=Cb.1 hy;rw[Cg] at hj;rw[List.getElem_drop];have hm:o[d+j]∈o:=Aa _;have O:=hc (d+j) (by omega) (by omega);have e:o.getD (d+j) 0=o[d+j]:=by simp[List.getD,(by omega:d+j<o.length)]
   rw[e] at O;exact⟨⟨hn,I _ (hin _ hm)⟩,.inl O⟩
  have hf:∀x,x∈o.take d->xV fr to l x n:=by
   intro x J;obtain⟨j,hj,rfl⟩:=List.mem_take_iff_getElem.1 J;have hk:j<d:=by omega
   have L:d-1<o.length:=by omega
   have O:=he (by omega);have e:o.getD (d-1) 0=o[d-1]:=by simp[List.getD,L]
   rw[e] at O;have hm:o[d-1]∈o:=Aa _;have H:=hin _ hm;have Y:=aCp ho hn (I _ H)
   have F:xV fr to l o[d-1] n:=by
    refine⟨⟨I _ H,hn⟩,?_⟩;by_cases h0:cfO fr to l o[d-1] n=0
    .exact .inr ⟨h0,H.2⟩
    .exact .inl (by omega)
   by_cases hd:j=d-1
   .subst hd;exact F
   .exact mJ ho _ _ _ (Dg.1 ih j (d-1) (by omega) L (by omega)) F
  have hg:(o.take d++o.drop d).Pairwise (xV fr to l):=by rw[BR];exact ih
  obtain⟨p1,p2,p3⟩:=Bp.1 hg;rw[Bw,Bp];refine⟨p1,?_,?_⟩
  .rw[List.singleton_append,Cx];exact⟨Z,p2⟩
  .intro a Y b U;rw[List.singleton_append,Ap] at U;rcases U with rfl|U
   .exact hf a Y
   .exact p3 a Y b U
theorem aMh {fr to:Int}{l:List (List Int)} (F:∀c,c∈l->okF fr to c) (I:l.length<=40):fF (cfO fr to l) l.length=dR fr to l:=by
 obtain⟨H,h2⟩:=aCQ F I;exact aEF (mJ F) (aBm F) ((u6 _ _).trans H.symm) (aFI F _ (Ar _)) h2
end
section
variable [Vs.Envs]
attribute [local irreducible] Vs.Fn bK aO bL bM l03 chB rk cd3 chI stp aP stb dR fF vT
attribute [local go_sem] aH Af Ag Al Aq Ae Ai Ac Ak Ab Ah Am
theorem aFv (l:List (List Int)) (fr to:Int) (U:∀x,x∈l->x.length<=1048576) (O:l.length<=1048576):Fz F.tJ [.sl 1 (E cC l),.agg (cFd fr to)] (.v (.int .i64 (bA fr to l))):=by
 have I:=mR l U O;have J:=iF l;have H:=wP fr to (bJ l);cases hd:bF l
 .rw[hd] at I;rw[show bA fr to l=1 by simp[bA,hd]];refine fn0 Cd.i_sortCode_k λX=>?_
  repeat' first|simp -dsimp only[go_sem,cC,cFd]|apply Br.mk<;>intro h<;>try simp -dsimp only[h]|refine aB.c (by first|exact I|exact J|exact H) ?_|refine aC ?_|fail
  all_goals first|exact⟨_,_,rfl,rfl⟩|simp
 rw[hd] at I;cases hf:dZ fr to (bJ l)
 .rw[hf] at H;rw[show bA fr to l=2 by simp[bA,hd,hf]];refine fn0 Cd.i_sortCode_k λX=>?_
  repeat' first|simp -dsimp only[go_sem,cC,cFd]|apply Br.mk<;>intro h<;>try simp -dsimp only[h]|refine aB.c (by first|exact I|exact J|exact H) ?_|refine aC ?_|fail
  all_goals first|exact⟨_,_,rfl,rfl⟩|simp
 rw[hf] at H;have L:=pR l fr to (dF hd hf) O;cases ha:bV fr to l
 .rw[ha] at L;rw[show bA fr to l=8 by simp[bA,hd,hf,ha]];refine fn0 Cd.i_sortCode_k λX=>?_
  repeat' first|simp -dsimp only[go_sem,cC,cFd]|apply Br.mk<;>intro h<;>try simp -dsimp only[h]|refine aB.c (by first|exact I|exact J|exact H|exact L) ?_|refine aC ?_|fail
  all_goals first|exact⟨_,_,rfl,rfl⟩|simp
 rw[ha] at L;rw[show bA fr to l=0 by simp[bA,hd,hf,ha]];refine fn0 Cd.i_sortCode_k λX=>?_
 repeat' first|simp -dsimp only[go_sem,cC,cFd]|apply Br.mk<;>intro h<;>try simp -dsimp only[h]|refine aB.c (by first|exact I|exact J|exact H|exact L) ?_|refine aC ?_|fail
 all_goals first|exact⟨_,_,rfl,rfl⟩|simp
def xK (fr to:Int) (l:List (List Int)):AV:=if bA fr to l=0 then .sl 1 (E cC (iP fr to l)) else .v (.slice none 0 0)
theorem aCj {fr to:Int}{l:List (List Int)} (h:bA fr to l=0):bF l=true∧dZ fr to (bJ l)=true∧bV fr to l=true:=by
 unfold bA at h;cases hd:bF l<;>cases hf:dZ fr to (bJ l)<;>cases ha:bV fr to l<;>simp[hd,hf,ha] at h⊢
theorem jB {l:List (List Int)} (h:bF l=true):l.length<=40:=by
 simp only[bF,Av,Bb] at h;exact h.2
theorem aDF (l:List (List Int)) (fr to:Int) (Y:∀x,x∈l->x.length<=1048576) (U:l.length<=1048576):Fz F.kQ [.sl 1 (E cC l),.agg (cFd fr to)] (.tup [xK fr to l,.v (.int .i64 (bA fr to l))]):=by
 have H:=aFv l fr to Y U;by_cases h0:bA fr to l=0
 .obtain⟨I,O,Z⟩:=aCj h0;have J:=aKa l fr to (dF I O) (jB I);rw[show xK fr to l=.sl 1 (E cC (iP fr to l)) by simp[xK,h0],h0];rw[h0] at H;refine fn0 Cd.i_SortedBy_k λX=>?_
  repeat' first|simp -dsimp only[go_sem,cC,cFd]|apply Br.mk<;>intro h<;>try simp -dsimp only[h]|refine aB.c (by first|exact H|exact J) ?_|refine aC ?_|fail
  all_goals first|exact⟨_,_,rfl,rfl⟩|simp
 .have L:(bA fr to l != 0)=true:=by simp[h0]
  rw[show xK fr to l=.v (.slice none 0 0) by simp[xK,h0]];generalize bA fr to l=c at *
  refine fn0 Cd.i_SortedBy_k λX=>?_
  repeat' first|simp -dsimp only[go_sem,cC,cFd,L]|apply Br.mk<;>intro h<;>try simp -dsimp only[h]|refine aB.c (by first|exact H) ?_|refine aC ?_|fail
  all_goals first|exact⟨_,_,rfl,rfl⟩|simp
theorem aDz (l:List (List Int)) (fr to:Int) (hs:∀x,x∈l->x.length<=1048576) (hl:l.length<=1048576):Fz F.sK [.sl 1 (E cC l),.agg (cFd fr to)] (.tup [xK fr to l,.v (.int .i64 (bA fr to l))]):=by
 have KS:=jV l fr to hs hl;by_cases h0:bA fr to l=0
 .obtain⟨hd,hf,ha⟩:=aCj h0;have ho:=dF hd hf;have h40:=jB hd;have PL:=aJn l fr to ho ha h40;rw[aMh ho h40] at PL;rw[show xK fr to l=.sl 1 (E cC (iP fr to l)) by simp[xK,h0],h0];rw[show nV fr to l=.sl 1 (E cSt (bS fr to l)) by simp[nV,h0],h0] at KS;have hol:=u7 fr to l;have hoi:=aCc ho h40;rw[show iP fr to l=(dR fr to l).map (λi=>l.getD i.toNat []) from rfl];generalize dR fr to l=o at *
  refine fn0 Cd.s_SortedBy_k λX=>?_
  repeat' first|simp -dsimp only[go_sem,cC,cFd]|apply Br.mk<;>intro h<;>try simp -dsimp only[h]|refine aB.c (by first|exact KS|exact PL) ?_|refine aC ?_|fail
  refine aM.at dM (X:={zz:Nat×(Unit) // zz.1<=o.length∧True}) (λzz=>[(9,.loc (.t 9 0) 0 zz.1.1),(10,.v (.int .i64 zz.1.1))]) (λzz=>[(.t 9 0,.arr 1 (E cC ((o.take zz.1.1).map λi=>l.getD i.toNat [])) false)]) (λzz=>o.length-zz.1.1) ⟨(0,()),by omega,trivial⟩ ?_ ?_
  .simp[Vs.LeL,Vs.look,aA,aS,aJ,Vs.hset,aK,Vs.E]
  .rintro⟨⟨i,_⟩,hi,hg⟩;dsimp only at hi hg;simp -dsimp only[go_sem,cC,cFd];refine Br.mk (λhc=>?_) λhc=>?_
   .have hlt:i<o.length:=Dq;have hw:=aG hlt (by omega);have hx:=hoi _ (Aa hlt);have gx:=aBD hx;have hm:=nO hx;have hc20:(l.getD o[i].toNat []).length<=20:=(ho _ hm).2.2.2;have NC:=x9 (l.getD o[i].toNat []) (by omega);have x0:=hx.1;have x1:=hx.2
    have hap:E cC ((o.take i).map λi=>l.getD i.toNat [])++[[.sl 1 (E cI (l.getD o[i].toNat []))]]=E cC ((o.take (i+1)).map λi=>l.getD i.toNat []):=by
     rw[aY hlt,Bu,bH];rfl
    have hal:(E cC ((o.take i).map λi=>l.getD i.toNat [])).length=i:=by rw[aH];simp;omega
    repeat' first|simp -dsimp only[go_sem,dJ hlt,hw,hap,hal,gx,cC,cFd]|apply Br.mk<;>intro h<;>try simp -dsimp only[h]|refine aB.c (by first|exact NC) ?_|refine aC ?_|fail
    all_goals first|omega|(exact nx (i+1,()) trivial (h2:=by simp[Vs.LeL,Vs.look,aA,aS,aJ,Vs.hset,aK,hap]))
   .have hge:i=o.length:=by
     have:¬i<o.length:=Dq;omega
    subst hge;simp -dsimp only[go_sem,cC,cFd]
    have htk:(E cC ((o.take o.length).map λi=>l.getD i.toNat [])).take o.length=E cC (o.map λi=>l.getD i.toNat []):=by
     rw[Aj (Ar o.length)];exact Aj (by rw[aH];simp)
    first|exact⟨⟨_,_,rfl,rfl⟩,λh=>h rfl⟩|(rw[htk];exact⟨⟨_,_,rfl,rfl⟩,λh=>h rfl⟩)|(simp[htk];done)
 .have e0:(bA fr to l != 0)=true:=by simp[h0]
  rw[show xK fr to l=.v (.slice none 0 0) by simp[xK,h0]];rw[show nV fr to l=.v (.slice none 0 0) by simp[nV,h0]] at KS;generalize bA fr to l=c at *
  refine fn0 Cd.s_SortedBy_k λX=>?_
  repeat' first|simp -dsimp only[go_sem,cC,cFd,e0]|apply Br.mk<;>intro h<;>try simp -dsimp only[h]|refine aB.c (by first|exact KS) ?_|refine aC ?_|fail
  all_goals first|exact⟨_,_,rfl,rfl⟩|simp
end
section
variable [Vs.Envs]
attribute [local irreducible] Vs.Fn bK aO bL bM l03 chB rk cd3 chI stp aP
def aV (fr to:Int) (l:List (List Int)):Nat->List Int
 |0=>[]
 |i+1=>aV fr to l i++(if i=0∨cmF fr to (l.getD (i-1) []) (l.getD i [])≠0 then[(i:Int)] else[])
theorem tT (fr to:Int) (l:List (List Int)) (i:Nat):aV fr to l (i+1)=aV fr to l i++(if i=0∨cmF fr to (l.getD (i-1) []) (l.getD i [])≠0 then[(i:Int)] else[]):=rfl
theorem wS (fr to:Int) (l:List (List Int)):aV fr to l 0=[]:=rfl
theorem iU (fr to:Int) (l:List (List Int)):∀i,(aV fr to l i).length<=i
 |0=>Ar _
 | i+1=>by
  have:=iU fr to l i;rw[tT,AQ];split<;>simp<;>omega
attribute [local irreducible] aV
attribute [local go_sem] aH Af Ag Al Aq Ae Ai Ac Ak Ab Ah Am in
theorem aC8 (l:List (List Int)) (fr to:Int) (ho:∀c,c∈l->okF fr to c) (hl:l.length<=1048576):Fz F.pO [.sl 1 (E cC l),.agg (cFd fr to)] (.sl 1 (E cI (aV fr to l l.length))):=by
 refine fn0 Cd.i_groupsOf_k λX=>?_
 repeat' first|simp -dsimp only[go_sem,cC,cFd]|apply Br.mk<;>intro h<;>try simp -dsimp only[h]|refine aC ?_|fail
 refine aM.at dM (X:={zz:Nat×(Unit) // zz.1<=l.length∧True}) (λzz=>[(5,.loc (.t 5 0) 0 (aV fr to l zz.1.1).length),(11,.v (.int .i64 zz.1.1))]) (λzz=>[(.t 5 0,.arr 1 (E cI (aV fr to l zz.1.1)) false)]) (λzz=>l.length-zz.1.1) ⟨(0,()),by omega,trivial⟩ ?_ ?_
 .simp[Vs.LeL,Vs.look,aA,aS,aJ,Vs.hset,aK,Vs.E,wS]
 .rintro⟨⟨i,_⟩,hi,hg⟩;dsimp only at hi hg;simp -dsimp only[go_sem,cC,cFd];refine Br.mk (λhc=>?_) λhc=>?_
  .have hlt:i<l.length:=Dq;have hw:=aG hlt hl;have hgl:=iU fr to l i;have gi:(E cC l).getD i []=[.sl 1 (E cI (l.getD i []))]:=by rw[aN hlt];simp[cC,List.getD,hlt]
   have hap:E cI (aV fr to l i)++[[.v (.int .i64 (i:Int))]]=E cI (aV fr to l i++[(i:Int)]):=by rw[bH];rfl
   have hal:(E cI (aV fr to l i)).length=(aV fr to l i).length:=aH ..
   have hgs:=tT fr to l i;by_cases h0:i=0
   .subst h0;rw[AP (.inl rfl)] at hgs;have e0:(((0:Nat):Int)==0)=true:=rfl
    repeat' first|simp -dsimp only[go_sem,e0,hw,hap,hal,gi,cC,cFd]|apply Br.mk<;>intro h<;>try simp -dsimp only[h]|refine aC ?_|fail
    all_goals first|omega|(exact nx (0+1,()) trivial (h2:=by simp[Vs.LeL,Vs.look,aA,aS,aJ,Vs.hset,aK,hgs]))
   .have e0:((i:Int)==0)=false:=by simp[h0]
    have w0:IntKind.i64.wrap ((i:Int)-1)=((i-1:Nat):Int):=by rw[aR (by omega) (by omega)];omega
    have hl1:i-1<l.length:=by omega
    have gj:(E cC l).getD (i-1) []=[.sl 1 (E cI (l.getD (i-1) []))]:=by rw[aN hl1];simp[cC,List.getD,hl1]
    have hmi:l.getD i []∈l:=by rw[show l.getD i []=l[i] by simp[List.getD,hlt]];exact Aa hlt
    have hmj:l.getD (i-1) []∈l:=by rw[show l.getD (i-1) []=l[i-1] by simp[List.getD,hl1]];exact Aa hl1
    have CF:=l7 (l.getD (i-1) []) (l.getD i []) fr to (ho _ hmj) (ho _ hmi);by_cases hc0:cmF fr to (l.getD (i-1) []) (l.getD i [])=0
    .have e1:(cmF fr to (l.getD (i-1) []) (l.getD i []) != 0)=false:=by rw[hc0];rfl
     rw[AB (by rintro(h|h)<;>contradiction),Be] at hgs
     repeat' first|simp -dsimp only[go_sem,e0,e1,w0,hw,hap,hal,gi,gj,cC,cFd]|apply Br.mk<;>intro h<;>try simp -dsimp only[h]|refine aB.c (by first|exact CF) ?_|refine aC ?_|fail
     all_goals first|omega|(exact nx (i+1,()) trivial (h2:=by simp[Vs.LeL,Vs.look,aA,aS,aJ,Vs.hset,aK,hgs]))
    .have e1:(cmF fr to (l.getD (i-1) []) (l.getD i []) != 0)=true:=bne_iff_ne.2 hc0;rw[AP (.inr hc0)] at hgs
     repeat' first|simp -dsimp only[go_sem,e0,e1,w0,hw,hap,hal,gi,gj,cC,cFd]|apply Br.mk<;>intro h<;>try simp -dsimp only[h]|refine aB.c (by first|exact CF) ?_|refine aC ?_|fail
     all_goals first|omega|(exact nx (i+1,()) trivial (h2:=by simp[Vs.LeL,Vs.look,aA,aS,aJ,Vs.hset,aK,hgs]))
  .have hge:i=l.length:=by
    have:¬i<l.length:=Dq;omega
   subst hge;simp -dsimp only[go_sem,cC,cFd];have htk:(E cI (aV fr to l l.length)).take (aV fr to l l.length).length=E cI (aV fr to l l.length):=Aj (by rw[aH];exact Ar _)
   first|exact⟨⟨_,_,rfl,rfl⟩,λh=>h rfl⟩|(rw[htk];exact⟨⟨_,_,rfl,rfl⟩,λh=>h rfl⟩)|(simp[htk];done)
end
section
variable [Vs.Envs]
attribute [local irreducible] Vs.Fn aV bK aO bL bM l03 chB rk cd3 chI stp aP
theorem vR {fr to:Int}{l:List (List Int)}:∀n x,x∈aV fr to l n->0<=x∧x<(n:Int)
 |0,x,h=>by rw[wS] at h;cases h
 | n+1,x,h=>by
  rw[tT] at h;rcases Bf.1 h with h|h
  .have:=vR n x h;omega
  .split at h
   .simp at h;subst h;omega
   .cases h
theorem aAZ {fr to:Int}{l:List (List Int)}:∀n,(aV fr to l n).Pairwise (· < ·)
 |0=>by rw[wS];exact List.Pairwise.nil
 | n+1=>by
  rw[tT,Bp];refine⟨aAZ n,by split<;>simp,λa H b F=>?_⟩;have:=vR n a H;split at F
  .simp at F;subst F;exact this.2
  .cases F
def fI (l:List (List Int)) (s:List Int) (i:Nat):List (List Int):=(l.take (if i+1<s.length then(s.getD (i+1) 0).toNat else l.length)).drop (s.getD i 0).toNat
def aA0 (fr to:Int) (l:List (List Int)):List (List (List Int)):=(List.range (aV fr to l l.length).length).map (fI l (aV fr to l l.length))
attribute [local irreducible] fI
attribute [local go_sem] aH Af Ag Al Aq Ae Ai Ac Ak Ab Ah Am in
theorem groups (l:List (List Int)) (fr to:Int) (ho:∀c,c∈l->okF fr to c) (hl:l.length<=1048576):Fz F.yD [.sl 1 (E cC l),.agg (cFd fr to)] (.sl 1 (E cD (aA0 fr to l))):=by
 have GO:=aC8 l fr to ho hl;have SZ:=sizeC l;have hgl:=iU fr to l l.length;have hin:=vR (fr:=fr) (to:=to) (l:=l) l.length;have hup:=aAZ (fr:=fr) (to:=to) (l:=l) l.length;rw[show aA0 fr to l=(List.range (aV fr to l l.length).length).map (fI l (aV fr to l l.length)) from rfl];generalize aV fr to l l.length=s at *
 refine fn0 Cd.i_groups_k λX=>?_
 repeat' first|simp -dsimp only[go_sem,cC,cFd,cD]|apply Br.mk<;>intro h<;>try simp -dsimp only[h]|refine aB.c (by first|exact GO) ?_|refine aC ?_|fail
 refine aM.at dM (X:={zz:Nat×(Unit) // zz.1<=s.length∧True}) (λzz=>[(5,.loc (.t 5 0) 0 zz.1.1),(16,.v (.int .i64 zz.1.1))]) (λzz=>[(.t 5 0,.arr 1 (E cD ((List.range zz.1.1).map (fI l s))) false)]) (λzz=>s.length-zz.1.1) ⟨(0,()),by omega,trivial⟩ ?_ ?_
 .simp[Vs.LeL,Vs.look,aA,aS,aJ,Vs.hset,aK,Vs.E]
 .rintro⟨⟨i,_⟩,hi,hg⟩;dsimp only at hi hg;simp -dsimp only[go_sem,cC,cFd,cD];refine Br.mk (λhc=>?_) λhc=>?_
  .have hlt:i<s.length:=Dq;have hw:=aG hlt (by omega);have hs0:=hin _ (Aa hlt);have e:s.getD i 0=s[i]:=by simp[List.getD,hlt]
   have hap:E cD ((List.range i).map (fI l s))++[[.sl 1 (E cC (fI l s i))]]=E cD ((List.range (i+1)).map (fI l s)):=by
    rw[Dm,Bu,bH];rfl
   have hal:(E cD ((List.range i).map (fI l s))).length=i:=by rw[aH];simp
   have hiw:IntKind.i64.wrap ((i:Int)+1)=((i+1:Nat):Int):=hw;by_cases h1:i+1<s.length
   .have e1:decide (((i+1:Nat):Int)<(s.length:Int))=true:=by simp;omega
    have hs1:=hin _ (Aa h1);have hlt2:s[i]<s[i+1]:=Dg.1 hup i (i+1) hlt h1 (by omega)
    have hga:((E cC l).take s[i+1].toNat).drop s[i].toNat=E cC (fI l s i):=by
     unfold fI;rw[AP h1,e,show s.getD (i+1) 0=s[i+1] by simp[List.getD,h1]];simp[E,CG,CJ]
    simp -dsimp only[go_sem,dJ hlt,dJ h1,hw,e1,hal,cC,cFd,cD]
    repeat' first|simp -dsimp only[go_sem,dJ hlt,dJ h1,hw,e1,hap,hal,hga,cC,cFd,cD]|apply Br.mk<;>intro h<;>try simp -dsimp only[h]|refine aB.c (by first|exact SZ) ?_|refine aC ?_|fail
    all_goals first|omega|(exact nx (i+1,()) trivial (h2:=by simp[Vs.LeL,Vs.look,aA,aS,aJ,Vs.hset,aK,Dm]))
   .have e1:decide (((i+1:Nat):Int)<(s.length:Int))=false:=by simp;omega
    have hga:(E cC l).drop s[i].toNat=E cC (fI l s i):=by
     unfold fI;rw[AB h1,e,Aj (Ar _)];simp[E,CJ]
    simp -dsimp only[go_sem,dJ hlt,hw,e1,hal,cC,cFd,cD]
    repeat' first|simp -dsimp only[go_sem,dJ hlt,hw,e1,hap,hal,hga,cC,cFd,cD]|apply Br.mk<;>intro h<;>try simp -dsimp only[h]|refine aB.c (by first|exact SZ) ?_|refine aC ?_|fail
    all_goals first|omega|(exact nx (i+1,()) trivial (h2:=by simp[Vs.LeL,Vs.look,aA,aS,aJ,Vs.hset,aK,Dm]))
  .have hge:i=s.length:=by
    have:¬i<s.length:=Dq;omega
   subst hge;simp -dsimp only[go_sem,cC,cFd,cD];have htk:(E cD ((List.range s.length).map (fI l s))).take s.length=E cD ((List.range s.length).map (fI l s)):=Aj (by rw[aH];simp)
   first|exact⟨⟨_,_,rfl,rfl⟩,λh=>h rfl⟩|(rw[htk];exact⟨⟨_,_,rfl,rfl⟩,λh=>h rfl⟩)|(simp[htk];done)
end
section
variable [Vs.Envs]
attribute [local irreducible] Vs.Fn aV bK aO bL bM l03 chB rk cd3 chI stp aP
attribute [local go_sem] aH Af Ag Al Aq Ae Ai Ac Ak Ab Ah Am in
theorem aD4 (l:List (List Int)) (fr to:Int) (ho:∀c,c∈l->okF fr to c) (hall:bV fr to l=true) (hl:l.length<=1048576):Fz F.mV [.sl 1 (E cSt (bS fr to l))] (.sl 1 (E cI (aV fr to l l.length))):=by
 have hkl:(E cSt (bS fr to l)).length=l.length:=by rw[aH];simp[bS]
 have hke:∀i:Nat,i<l.length->(E cSt (bS fr to l)).getD i []=[.v (.string (txt (fH fr to (l.getD i []))))]:=λi hi=>by
  have h:=aK0 (fr:=fr) (to:=to) (l:=l) (x:=(i:Int)) ⟨by omega,by omega⟩;rw[BP] at h;exact h
 have hin:∀i:Nat,i<l.length->l.getD i []∈l:=λi hi=>by rw[show l.getD i []=l[i] by simp[List.getD,hi]];exact Aa hi
 have hne:∀i j:Nat,i<l.length->j<l.length->(!((txt (fH fr to (l.getD i []))).toList==(txt (fH fr to (l.getD j []))).toList))=(cmF fr to (l.getD j []) (l.getD i []) != 0):=λi j hi hj=>by
  have hli:=lN (ho _ (hin i hi));have hlj:=lN (ho _ (hin j hj));have hci:=Az.1 hall _ (hin i hi);have hcj:=Az.1 hall _ (hin j hj);rw[aEv (by rw[hli,hlj]) hci hcj];unfold cmF;rw[aBB (fH fr to (l.getD i [])) (fH fr to (l.getD j [])) (by rw[hli,hlj])];generalize jC (fH fr to (l.getD i [])) (fH fr to (l.getD j []))=c;by_cases h0:c=0
  .subst h0;rfl
  .have h1:(c==0)=false:=by simp[h0]
   have h2:(-c != 0)=true:=by simp;omega
   rw[h1,h2];rfl
 generalize E cSt (bS fr to l)=K at *
 refine fn0 Cd.s_l09Groups_k λX=>?_
 repeat' first|simp -dsimp only[go_sem,hkl]|apply Br.mk<;>intro h<;>try simp -dsimp only[h]|refine aC ?_|fail
 refine aM.at dM (X:={zz:Nat×(Unit) // zz.1<=l.length∧True}) (λzz=>[(3,.loc (.t 3 0) 0 (aV fr to l zz.1.1).length),(4,.v (.int .i64 zz.1.1))]) (λzz=>[(.t 3 0,.arr 1 (E cI (aV fr to l zz.1.1)) false)]) (λzz=>l.length-zz.1.1) ⟨(0,()),by omega,trivial⟩ ?_ ?_
 .simp[Vs.LeL,Vs.look,aA,aS,aJ,Vs.hset,aK,Vs.E,wS]
 .rintro⟨⟨i,_⟩,hi,hg⟩;dsimp only at hi hg;simp -dsimp only[go_sem,hkl];refine Br.mk (λhc=>?_) λhc=>?_
  .have hlt:i<l.length:=Dq;have hw:=aG hlt (by omega);have hgl:=iU fr to l i;have gi:=hke i hlt;have hap:E cI (aV fr to l i)++[[.v (.int .i64 (i:Int))]]=E cI (aV fr to l i++[(i:Int)]):=by rw[bH];rfl
   have hal:(E cI (aV fr to l i)).length=(aV fr to l i).length:=aH ..
   have hgs:=tT fr to l i;by_cases h0:i=0
   .subst h0;rw[AP (.inl rfl)] at hgs;have e0:(((0:Nat):Int)==0)=true:=rfl
    repeat' first|simp -dsimp only[go_sem,e0,hw,hap,hal,gi]|apply Br.mk<;>intro h<;>try simp -dsimp only[h]|refine aC ?_|fail
    all_goals first|omega|(exact nx (0+1,()) trivial (h2:=by simp[Vs.LeL,Vs.look,aA,aS,aJ,Vs.hset,aK,hgs]))
   .have e0:((i:Int)==0)=false:=by simp[h0]
    have w0:IntKind.i64.wrap ((i:Int)-1)=((i-1:Nat):Int):=by rw[aR (by omega) (by omega)];omega
    have hl1:i-1<l.length:=by omega
    have gj:=hke (i-1) hl1;have hn:=hne i (i-1) hlt hl1;by_cases hc0:cmF fr to (l.getD (i-1) []) (l.getD i [])=0
    .have e1:(cmF fr to (l.getD (i-1) []) (l.getD i []) != 0)=false:=by rw[hc0];rfl
     rw[e1] at hn;rw[AB (by rintro(h|h)<;>contradiction),Be] at hgs
     repeat' first|simp -dsimp only[go_sem,e0,hn,hkl,w0,hw,hap,hal,gi,gj]|apply Br.mk<;>intro h<;>try simp -dsimp only[h]|refine aC ?_|fail
     all_goals first|omega|(exact nx (i+1,()) trivial (h2:=by simp[Vs.LeL,Vs.look,aA,aS,aJ,Vs.hset,aK,hgs]))
    .have e1:(cmF fr to (l.getD (i-1) []) (l.getD i []) != 0)=true:=bne_iff_ne.2 hc0;rw[e1] at hn;rw[AP (.inr hc0)] at hgs
     repeat' first|simp -dsimp only[go_sem,e0,hn,hkl,w0,hw,hap,hal,gi,gj]|apply Br.mk<;>intro h<;>try simp -dsimp only[h]|refine aC ?_|fail
     all_goals first|omega|(exact nx (i+1,()) trivial (h2:=by simp[Vs.LeL,Vs.look,aA,aS,aJ,Vs.hset,aK,hgs]))
  .have hge:i=l.length:=by
    have:¬i<l.length:=Dq;omega
   subst hge;simp -dsimp only[go_sem,hkl];have htk:(E cI (aV fr to l l.length)).take (aV fr to l l.length).length=E cI (aV fr to l l.length):=Aj (by rw[aH];exact Ar _)
   first|exact⟨⟨_,_,rfl,rfl⟩,λh=>h rfl⟩|(rw[htk];exact⟨⟨_,_,rfl,rfl⟩,λh=>h rfl⟩)|(simp[htk];done)
end
end Go.Proofs.YtkgeiaideklmoaaGreat
