/- A number that is punched is read back. -/
import Derived.Test.YtfoddghhlagenaaGreatDoorTwPc
import Derived.Test.YtfoddghhlagenaaGreatDoorVsD
import Derived.Test.YtfoddghhlagenaaGreatDoorTwY
import Derived.Test.YtfoddghhlagenaaGreatDoorTwK
import Derived.Test.YtfoddghhlagenaaGreatDoorTuB
set_option linter.all false
set_option maxHeartbeats 8000000
namespace Go.Proofs.YtfoddghhlagenaaGreatDoor
open Go.Vs
section
variable [Vs.Envs]
attribute [local irreducible] Vs.Fn
theorem ownO (l:List Int) (hl:l.length<=1048576):Vs.Fn Tryz.prog F.nP [] [.sl 1 (E cI l)] (.loc (.b 0) 0 l.length) [some (.arr 1 (E cI l) false)]:=by
 refine fn1 Cd.s_l00Own_k [.t 5 0] [.arr 1 (E cI l) false] λX=>?_
 unfold Cd.nP
 simp -dsimp only[go_sem,List.replicate_succ,List.replicate_zero,List.flatten_cons,List.flatten_nil,aJ,List.nil_append]
 exact⟨⟨by omega,by omega⟩,⟨by omega,by omega⟩,_,_,rfl,rfl⟩
theorem aCd (l:List Int) (hl:l.length<=1048576):Vs.Fn Tryz.prog F.nO [] [.ro (cC l)] (.agg [.loc (.b 0) 0 l.length]) [some (.arr 1 (E cI l) false)]:=by
 refine fn1 Cd.s_l02Own_k [.t 7 0] [.arr 1 (E cI l) false] λX=>?_
 unfold Cd.nO
 simp -dsimp only[go_sem,cC]
 refine aB.own (ownO l hl) rfl ?_
 simp -dsimp only[go_sem,cC]
 exact⟨_,_,rfl,rfl⟩
theorem aAK (l:List Int) (hl:l.length<=1048576):Vs.Fn Tryz.prog F.jS [] [.agg (cC l)] (.agg [.loc (.b 0) 0 l.length]) [some (.arr 1 (E cI l) false)]:=by
 refine fn1 Cd.i_newCard_k [.t 5 0] [.arr 1 (E cI l) false] λX=>?_
 unfold Cd.jS
 simp -dsimp only[go_sem,cC]
 refine aB.own (rE l hl) rfl ?_
 simp -dsimp only[go_sem,cC]
 exact⟨_,_,rfl,rfl⟩
def inF (c:List Int) (fr w:Nat) (x:List Int):List Int:=c.take fr++x++c.drop (fr+w)
theorem jZ {c:List Int}{fr w:Nat}{x:List Int} (h:fr+w<=c.length) (hx:x.length=w):(inF c fr w x).length=c.length:=by
 simp[inF,hx];omega
def rowP (c:List Int) (fr w j:Nat) (done:List Int):List Int:=c.take (fr+j)++done++c.drop (fr+w)
theorem aAD {c:List Int}{fr w j:Nat}{done:List Int} (h:fr+w<=c.length) (hj:j<=w) (hd:done.length=w-j):(rowP c fr w j done).length=c.length:=by
 simp[rowP,hd];omega
theorem aAB {c:List Int}{fr w:Nat}:rowP c fr w w []=c:=by simp[rowP]
theorem uP {c:List Int}{fr w:Nat}{done:List Int}:rowP c fr w 0 done=inF c fr w done:=by simp[rowP,inF]
theorem aAC {c:List Int}{fr w j:Nat}{done:List Int} (h:fr+w<=c.length) (hj:j<w) (x:Int):(E cI (rowP c fr w (j+1) done)).set (fr+j) [.v (.int .i64 x)]=E cI (rowP c fr w j (x::done)):=by
 have e:(rowP c fr w (j+1) done).set (fr+j) x=rowP c fr w j (x::done):=by
  unfold rowP
  have h1:c.take (fr+(j+1))=c.take (fr+j)++[c[fr+j]'(by omega)]:=by
   rw[show fr+(j+1)=(fr+j)+1 by omega,dP (by omega)]
  have h2:(c.take (fr+j)).length=fr+j:=by simp;omega
  rw[h1,List.append_assoc,List.append_assoc,List.set_append_right _ _ (by omega),h2,Nat.sub_self]
  simp
 rw[←e]
 simp[E,cI,List.map_set]
theorem aCh {c:List Int}{fr w:Nat}{x:List Int} (h:fr+w<=c.length) (hx:x.length=w) (hw:0<w) :
  (E cI (inF c fr w x)).getD (fr+w-1) []=[.v (.int .i64 (x.getD (w-1) 0))]∧
  (E cI (inF c fr w x)).set (fr+w-1) [.v (.int .i64 (bJ .or .i64 (x.getD (w-1) 0) 2))]=E cI (inF c fr w (rH x)):=by
 have hl:(c.take fr).length=fr:=by simp;omega
 constructor
 .rw[bI (by rw[jZ h hx];omega)]
  have e:(inF c fr w x)[fr+w-1]'(by rw[jZ h hx];omega)=x.getD (w-1) 0:=by
   unfold inF
   rw[List.getElem_append_left (by simp[hx];omega),List.getElem_append_right (by simp;omega)]
   simp only[hl,show fr+w-1-fr=w-1 by omega]
   simp[List.getD,List.getElem?_eq_getElem (show w-1<x.length by omega)]
  rw[e];rfl
 .have e:(inF c fr w x).set (fr+w-1) (bJ .or .i64 (x.getD (w-1) 0) 2)=inF c fr w (rH x):=by
   unfold inF rH
   rw[List.set_append_left _ _ (by simp[hx];omega),List.set_append_right _ _ (by simp;omega),hl,show fr+w-1-fr=w-1 by omega,hx]
  rw[←e]
  simp[E,cI,List.map_set]
end
section
variable [Vs.Tab 0 Vs.powP]
attribute [local irreducible] Vs.Fn
theorem aDE (c:List Int) (fr w:Nat) (n:Int) (hc:c.length<=1048576) (hf:fr+w<=c.length) (hw0:0<w) (h0:-1000000000000<=n) (h1:n<=1000000000000):Vs.Fn Tryz.prog F.eD [] [.agg (cC c),.agg [.v (.int .i64 (fr:Nat)),.v (.int .i64 (fr+w:Nat))],.v (.int .i64 n)] (.agg [.loc (.b 0) 0 c.length]) [some (.arr 1 (E cI (inF c fr w (ptN w n))) false)]:=by
 rcases Int.lt_or_le n 0 with hneg|hneg
 .have hd0:decide (n<0)=true:=decide_eq_true (by omega)
  have hpt:ptN w n=rH (pd w n.natAbs):=by unfold ptN;rw[if_pos (by omega)]
  have hwm:IntKind.i64.wrap (((fr+w:Nat):Int)-1)=((fr+w:Nat):Int)-1:=aG (by omega) (by omega)
  rw[hpt]
  refine fn1 Cd.i_punchNumber_k [.t 11 0] [.arr 1 (E cI (inF c fr w (rH (pd w n.natAbs)))) false] λX=>?_
  unfold Cd.eD
  simp -dsimp only[go_sem,cC]
  refine aB.own (aAK c hc) rfl ?_
  simp -dsimp only[go_sem,cC]
  refine aB.flat (yK n (by omega) (by omega)) rfl ?_
  simp -dsimp only[go_sem,cC,hwm]
  refine bA.at dM (X:={zz:Nat×Nat×List Int // zz.1<=w∧zz.2.2.length=w-zz.1∧zz.2.1=n.natAbs/10 ^ (w-zz.1)∧pd zz.1 zz.2.1++zz.2.2=pd w n.natAbs}) (λzz=>[(8,.v (.int .i64 (zz.1.2.1:Nat))),(9,.v (.int .i64 (((fr+zz.1.1:Nat):Int)-1)))]) (λzz=>[(.t 11 0,.arr 1 (E cI (rowP c fr w zz.1.1 zz.1.2.2)) false)]) (λzz=>zz.1.1) ⟨(w,n.natAbs,[]),Nat.le_refl _,by simp,by simp,by simp⟩ ?_ ?_
  .simp[Vs.LeL,Vs.look,Vs.aA,Vs.bL,Vs.aO,Vs.hset,Vs.aP,aAB]
  .rintro⟨⟨j1,k,done⟩,hj,hd,hk,hg⟩
   dsimp only at hj hd hk hg
   simp -dsimp only[go_sem,hd0]
   refine Br.mk (λhc2=>?_) λhc2=>?_
   .obtain⟨j,rfl⟩:∃j,j1=j+1:=⟨j1-1,by simp at hc2;omega⟩
    have e1:(((fr+(j+1):Nat):Int)-1)=((fr+j:Nat):Int):=by omega
    have hwj:IntKind.i64.wrap (((fr+j:Nat):Int)-1)=((fr+j:Nat):Int)-1:=aG (by omega) (by omega)
    have hkb:k<=1000000000000:=by rw[hk];exact Nat.le_trans (Nat.div_le_self _ _) (by omega)
    have hkd:k/10=n.natAbs/10 ^ (w-j):=by rw[hk,wO,show w-(j+1)+1=w-j by omega]
    have q1:((k:Int)).tmod 10=((k%10:Nat):Int):=by rw[Int.tmod_eq_emod_of_nonneg (by omega)];omega
    have q2:IntKind.i64.wrap (((k:Int)).tdiv 10)=((k/10:Nat):Int):=by rw[Int.tdiv_eq_ediv_of_nonneg (by omega),aG (by omega) (by omega)];omega
    have hlr:(rowP c fr w (j+1) done).length=c.length:=aAD hf hj (by omega)
    have hgs:=aAC hf (show j<w by omega) (fJ (k%10)) (done:=done)
    obtain⟨y,hgr⟩:∃y,(E cI (rowP c fr w (j+1) done)).getD (fr+j) []=[.v (.int .i64 y)]:=⟨_,jI (by omega)⟩
    rw[pd,List.append_assoc] at hg
    repeat' first|simp -dsimp only[go_sem,e1,hgr,hgs,hwj,q1,q2,hlr,aJ,Int.toNat_natCast]|apply Br.mk<;>intro h<;>try simp -dsimp only[h]|refine aB.c (by first|exact aCr (k%10) (by omega)) ?_|refine aC ?_|refine aC9 ?_|fail
    all_goals(exact⟨⟨(j,k/10,fJ (k%10)::done),by omega,by simp only[List.length_cons];omega,hkd,hg⟩,by simp[Vs.LeL,Vs.look,Vs.aA,Vs.bL,Vs.aO,Vs.hset,Vs.aP],by simp only;omega⟩)
   .have hz:j1=0:=by simp at hc2;omega
    subst hz
    have hdone:done=pd w n.natAbs:=by simpa[pd] using hg
    subst hdone
    have hlen:=pQ w n.natAbs
    obtain⟨ing,ins⟩:=aCh hf hlen hw0
    have inl:=jZ hf hlen
    have hl1:IntKind.i64.wrap (((fr+w:Nat):Int)-1)=((fr+w-1:Nat):Int):=by rw[aG (by omega) (by omega)];omega
    simp -dsimp only[go_sem,hd0,uP]
    refine⟨RgK.mk rfl ?_,λh=>h rfl⟩
    repeat' first|simp -dsimp only[go_sem,hl1,aJ,inl,Int.toNat_natCast,uP,ing,ins]|apply Br.mk<;>intro h<;>try simp -dsimp only[h]|refine aB.c (by first|exact aAo) ?_|refine aC ?_|refine aC9 ?_|fail
    all_goals exact⟨_,_,rfl,rfl⟩
 .have hd0:decide (n<0)=false:=decide_eq_false (by omega)
  have hpt:ptN w n=pd w n.natAbs:=by unfold ptN;rw[if_neg (by omega)]
  have hwm:IntKind.i64.wrap (((fr+w:Nat):Int)-1)=((fr+w:Nat):Int)-1:=aG (by omega) (by omega)
  rw[hpt]
  refine fn1 Cd.i_punchNumber_k [.t 11 0] [.arr 1 (E cI (inF c fr w (pd w n.natAbs))) false] λX=>?_
  unfold Cd.eD
  simp -dsimp only[go_sem,cC]
  refine aB.own (aAK c hc) rfl ?_
  simp -dsimp only[go_sem,cC]
  refine aB.flat (yK n (by omega) (by omega)) rfl ?_
  simp -dsimp only[go_sem,cC,hwm]
  refine bA.at dM (X:={zz:Nat×Nat×List Int // zz.1<=w∧zz.2.2.length=w-zz.1∧zz.2.1=n.natAbs/10 ^ (w-zz.1)∧pd zz.1 zz.2.1++zz.2.2=pd w n.natAbs}) (λzz=>[(8,.v (.int .i64 (zz.1.2.1:Nat))),(9,.v (.int .i64 (((fr+zz.1.1:Nat):Int)-1)))]) (λzz=>[(.t 11 0,.arr 1 (E cI (rowP c fr w zz.1.1 zz.1.2.2)) false)]) (λzz=>zz.1.1) ⟨(w,n.natAbs,[]),Nat.le_refl _,by simp,by simp,by simp⟩ ?_ ?_
  .simp[Vs.LeL,Vs.look,Vs.aA,Vs.bL,Vs.aO,Vs.hset,Vs.aP,aAB]
  .rintro⟨⟨j1,k,done⟩,hj,hd,hk,hg⟩
   dsimp only at hj hd hk hg
   simp -dsimp only[go_sem,hd0]
   refine Br.mk (λhc2=>?_) λhc2=>?_
   .obtain⟨j,rfl⟩:∃j,j1=j+1:=⟨j1-1,by simp at hc2;omega⟩
    have e1:(((fr+(j+1):Nat):Int)-1)=((fr+j:Nat):Int):=by omega
    have hwj:IntKind.i64.wrap (((fr+j:Nat):Int)-1)=((fr+j:Nat):Int)-1:=aG (by omega) (by omega)
    have hkb:k<=1000000000000:=by rw[hk];exact Nat.le_trans (Nat.div_le_self _ _) (by omega)
    have hkd:k/10=n.natAbs/10 ^ (w-j):=by rw[hk,wO,show w-(j+1)+1=w-j by omega]
    have q1:((k:Int)).tmod 10=((k%10:Nat):Int):=by rw[Int.tmod_eq_emod_of_nonneg (by omega)];omega
    have q2:IntKind.i64.wrap (((k:Int)).tdiv 10)=((k/10:Nat):Int):=by rw[Int.tdiv_eq_ediv_of_nonneg (by omega),aG (by omega) (by omega)];omega
    have hlr:(rowP c fr w (j+1) done).length=c.length:=aAD hf hj (by omega)
    have hgs:=aAC hf (show j<w by omega) (fJ (k%10)) (done:=done)
    obtain⟨y,hgr⟩:∃y,(E cI (rowP c fr w (j+1) done)).getD (fr+j) []=[.v (.int .i64 y)]:=⟨_,jI (by omega)⟩
    rw[pd,List.append_assoc] at hg
    repeat' first|simp -dsimp only[go_sem,e1,hgr,hgs,hwj,q1,q2,hlr,aJ,Int.toNat_natCast]|apply Br.mk<;>intro h<;>try simp -dsimp only[h]|refine aB.c (by first|exact aCr (k%10) (by omega)) ?_|refine aC ?_|refine aC9 ?_|fail
    all_goals(exact⟨⟨(j,k/10,fJ (k%10)::done),by omega,by simp only[List.length_cons];omega,hkd,hg⟩,by simp[Vs.LeL,Vs.look,Vs.aA,Vs.bL,Vs.aO,Vs.hset,Vs.aP],by simp only;omega⟩)
   .have hz:j1=0:=by simp at hc2;omega
    subst hz
    have hdone:done=pd w n.natAbs:=by simpa[pd] using hg
    subst hdone
    have hlen:=pQ w n.natAbs
    obtain⟨ing,ins⟩:=aCh hf hlen hw0
    have inl:=jZ hf hlen
    have hl1:IntKind.i64.wrap (((fr+w:Nat):Int)-1)=((fr+w-1:Nat):Int):=by rw[aG (by omega) (by omega)];omega
    simp -dsimp only[go_sem,hd0,uP]
    exact⟨⟨_,_,rfl,rfl⟩,λh=>h rfl⟩
end
section
variable [Vs.Tab 0 Vs.powP]
attribute [local irreducible] Vs.Fn
theorem aC7 (p:Int×Int) (w:Int):Fz F.dJ [.agg (cPf p),.ro [.v (.int .i64 w)]] (.v (.bool (!iI p.1 p.2 w))):=by
 refine fn0 Cd.i_calcCode_1_k λX=>?_
 repeat' first|simp -dsimp only[go_sem,cPf,cFd]|apply Br.mk<;>intro h<;>try simp -dsimp only[h]|refine aB.c (by first|exact yQ p.1 p.2 w) ?_|refine aC ?_|refine aC9 ?_|fail
 all_goals(simp_all)
theorem idxF (fs:List (Int×Int)) (w:Int) (hl:fs.length<=1048576):Fz F.lQ [.sl 2 (E cPf fs),.fn F.dJ [.ro [.v (.int .i64 w)]]] (.v (.int .i64 (uV (λp:Int×Int=>!iI p.1 p.2 w) fs))):=
 aGg Tryz.mixed (k:=2) Cd.ixf_Field_k.o Cd.ixf_Field_k.n Cd.ixf_Field_k.r rfl (λp:Int×Int=>!iI p.1 p.2 w) F.dJ [.ro [.v (.int .i64 w)]] rfl (λ_=>rfl) (λ_=>rfl) (λx hx=>aC7 x w) hl
theorem conF (fs:List (Int×Int)) (w:Int) (hl:fs.length<=1048576):Fz F.oC [.sl 2 (E cPf fs),.fn F.dJ [.ro [.v (.int .i64 w)]]] (.v (.bool (fs.any (λp:Int×Int=>!iI p.1 p.2 w)))):=
 aCl Tryz.mixed (g:=F.lQ) Cd.ctf_Field_k.o Cd.ctf_Field_k.n Cd.ctf_Field_k.r rfl (λp:Int×Int=>!iI p.1 p.2 w) F.dJ [.ro [.v (.int .i64 w)]] rfl (idxF fs w hl)
theorem aEJ (l:List (Int×Int)) (p:Int×Int->Bool):(l.any λx=>!p x) = !(l.all p):=by
 induction l with
 |nil=>rfl
 |cons x r ih=>simp only[List.any_cons,List.all_cons,ih,Bool.not_and]
theorem bQ (k w:Int) (fs:List (Int×Int)) (hl:fs.length<=1048576):Fz F.gH [.v (.int .i64 k),.v (.int .i64 w),.sl 2 (E cPf fs)] (.v (.int .i64 (if inB k 1 4&&eY fs w then 0 else 2))):=by
 have hany:(fs.any λp:Int×Int=>!iI p.1 p.2 w) = !eY fs w:=aEJ fs (λp:Int×Int=>iI p.1 p.2 w)
 refine fn0 Cd.i_calcCode_k λX=>?_
 repeat' first|simp -dsimp only[go_sem,hany]|apply Br.mk<;>intro h<;>try simp -dsimp only[h]|refine aB.c (by first|exact aGh k|exact conF fs w hl) ?_|refine aC ?_|refine aC9 ?_|fail
 all_goals(clear hany;simp_all)
end
section
variable [Vs.Tab 0 Vs.powP]
attribute [local irreducible] Vs.Fn
def bM (k:Int) (p q:Int×Int) (c:List Int):Int×Int×Int:=
 if(aL p.1 p.2 c).2&&(aL q.1 q.2 c).2 then cO k (aL p.1 p.2 c).1 (aL q.1 q.2 c).1 else(0,0,8)
def rdT (p q:Int×Int) (c:List Int):Int×Int×Int:=
 if(aL p.1 p.2 c).2&&(aL q.1 q.2 c).2 then((aL p.1 p.2 c).1,(aL q.1 q.2 c).1,0) else(0,0,8)
theorem mW (p q:Int×Int) (c:List Int) (hp:okP p.1 p.2 c) (hq:okP q.1 q.2 c):Fz F.lJ [.ro (cC c),.agg (cPf p),.agg (cPf q)] (.tup (cT3 (rdT p q c))):=by
 refine fn0 Cd.s_l14Read_k λX=>?_
 repeat' first|simp -dsimp only[go_sem,cPf,cFd,cT3,cC]|apply Br.mk<;>intro h<;>try simp -dsimp only[h]|refine aB.c (by first|exact aBY hp|exact aBY hq|exact oN hp|exact oN hq) ?_|refine aC ?_|refine aC9 ?_|fail
 all_goals(simp_all [rdT,cT3])
theorem iN (k:Int) (hk:inB k 1 4=true) (p q:Int×Int) (c:List Int) (hp:okP p.1 p.2 c) (hq:okP q.1 q.2 c):Fz F.gU [.v (.int .i64 k),.agg (cC c),.agg (cPf p),.agg (cPf q)] (.tup (cT3 (bM k p q c))):=by
 refine fn0 Cd.i_calculated_k λX=>?_
 repeat' first|simp -dsimp only[go_sem,cPf,cFd,cT3,cC]|apply Br.mk<;>intro h<;>try simp -dsimp only[h]|refine aB.c (by first|exact qW hp|exact qW hq|exact zL k _ _ hk) ?_|refine aC ?_|refine aC9 ?_|fail
 all_goals(simp_all [bM,cT3])
end
section
variable [Vs.Tab 0 Vs.powP]
attribute [local irreducible] Vs.Fn
theorem zV {n:Int} (h:nnB n=true):-1000000000000<=n∧n<=1000000000000:=by
 simp only[nnB,inB,Bool.and_eq_true,decide_eq_true_eq] at h
 omega
theorem yD {k a b:Int} (h:(cO k a b).2.2=0):-1000000000000<=(cO k a b).1∧(cO k a b).1<=1000000000000:=by
 unfold cO at h⊢
 by_cases h3:k=3
 .rw[if_pos h3] at h⊢
  rcases wY a b with⟨_,hn⟩|hn
  .exact zV hn
  .rw[hn];exact⟨by decide,by decide⟩
 .rw[if_neg h3] at h⊢
  by_cases h4:k=4
  .rw[if_pos h4] at h⊢
   rcases wX a b with⟨_,hn⟩|⟨hn,_⟩
   .exact zV hn
   .rw[hn];exact⟨by decide,by decide⟩
  .rw[if_neg h4] at h⊢
   generalize(if k=2 then W (a-b) else W (a+b))=z
   split
   .split
    .exact zV (by assumption)
    .exact⟨by decide,by decide⟩
   .exact⟨by decide,by decide⟩
theorem yE {k:Int}{p q:Int×Int}{c:List Int} (h:(bM k p q c).2.2=0):-1000000000000<=(bM k p q c).1∧(bM k p q c).1<=1000000000000:=by
 unfold bM at h⊢
 split at h
 .rw[if_pos (by assumption)];exact yD h
 .rw[if_neg (by assumption)];exact⟨by decide,by decide⟩
def clash (fr w:Nat) (c:List Int):Bool:=((c.take (fr+w)).drop fr).any λx=>x != 0
def cdC (k:Int) (p q:Int×Int) (fr w:Nat) (c:List Int):Int:=
 if(bM k p q c).2.2=0 then(if(bM k p q c).1.natAbs/10 ^ w=0 then(if clash fr w c then 9 else 0) else 5) else(bM k p q c).2.2
def cdH (k:Int) (p q:Int×Int) (fr w:Nat) (c:List Int):List Int:=inF c fr w (ptN w (bM k p q c).1)
theorem zW {n w:Nat} (hw:0<w):decide ((Lib.nDigits n:Int)>(w:Int)) = !decide (n/10 ^ w=0):=by
 have h1:n/10 ^ w=0↔n<10 ^ w:=by
  rw[Nat.div_eq_zero_iff]
  have:0<10 ^ w:=Nat.pow_pos (by omega)
  omega
 have h2:n<10 ^ w↔Lib.nDigits n<=w:=by
  constructor
  .intro h
   have key:∀(k m:Nat),m<10 ^ (k+1)->Lib.nDigits m<=k+1:=by
    intro k
    induction k with
    |zero=>intro m hm;rw[Lib.nDigits_small (by simpa using hm)];omega
    | succ k ih =>
     intro m hm
     by_cases h:m<10
     .rw[Lib.nDigits_small h];omega
     .rw[Lib.nDigits_big h]
      have:=ih (m/10) (by rw[Nat.pow_succ] at hm;omega)
      omega
   obtain⟨k,rfl⟩:∃k,w=k+1:=⟨w-1,by omega⟩
   exact key k n h
  .intro h
   exact Nat.lt_of_lt_of_le (Lib.lt_pow_nDigits n) (Nat.pow_le_pow_right (by omega) h)
 by_cases h:n/10 ^ w=0
 .have:=h2.1 (h1.1 h)
  simp[h];omega
 .have:¬Lib.nDigits n<=w:=λh'=>h (h1.2 (h2.2 h'))
  simp[h];omega
theorem aGt (x:Int):Fz F.aY [.v (.int .i64 x)] (.v (.bool (x != 0))):=by
 refine fn0 Cd.i_calculatedCard_1_k λX=>?_
 repeat' first|simp -dsimp only[go_sem]|apply Br.mk<;>intro h<;>try simp -dsimp only[h]|refine aC ?_|refine aC9 ?_|fail
 all_goals(simp_all)
theorem idxCl (l:List Int) (hl:l.length<=1048576):Fz F.fF [.sl 1 (E cI l),.fn F.aY []] (.v (.int .i64 (uV (λx=>x != 0) l))):=
 aBs Tryz.mixed Cd.ixf_int64_k.o Cd.ixf_int64_k.n Cd.ixf_int64_k.r rfl (λx=>x != 0) F.aY [] rfl (λx hx=>aGt x) hl
theorem aCn (l:List Int) (hl:l.length<=1048576):Fz F.gV [.sl 1 (E cI l),.fn F.aY []] (.v (.bool (l.any (λx=>x != 0)))):=
 aCl Tryz.mixed (g:=F.fF) Cd.ctf_int64_k.o Cd.ctf_int64_k.n Cd.ctf_int64_k.r rfl (λx=>x != 0) F.aY [] rfl (idxCl l hl)
theorem zM (k:Int) (p q:Int×Int) (fr w:Nat) (c:List Int) (hk:inB k 1 4=true) (hp:okP p.1 p.2 c) (hq:okP q.1 q.2 c) (hf:fr+w<=c.length) (hw0:0<w) (hw12:w<=12) (hc20:c.length<=20) (h0:cdC k p q fr w c≠0):Fz F.bF [.v (.int .i64 k),.agg (cC c),.agg (cPf p),.agg (cPf q),.agg [.v (.int .i64 (fr:Nat)),.v (.int .i64 (fr+w:Nat))]] (.tup [.agg [.v (.slice none 0 0)],.v (.int .i64 (cdC k p q fr w c))]):=by
 have hww:IntKind.i64.wrap (((fr+w:Nat):Int)-(fr:Int))=(w:Int):=by rw[aG (by omega) (by omega)];omega
 have hE:List.drop fr (List.take (fr+w) (E cI c))=E cI ((c.take (fr+w)).drop fr):=by simp[E,List.map_take,List.map_drop]
 have hcl:((c.take (fr+w)).drop fr).length<=1048576:=by simp;omega
 by_cases hr:(bM k p q c).2.2=0
 .have hrg:=yE hr
  have hr0:-9223372036854775807<=(bM k p q c).1:=by omega
  have hr1:(bM k p q c).1<=9223372036854775807:=by omega
  have hnn:(bM k p q c).1.natAbs<2 ^ 63:=by omega
  have hz0:((bM k p q c).2.2 != 0)=false:=by simp[hr]
  have hgt:=zW (n:=(bM k p q c).1.natAbs) hw0
  by_cases hd:(bM k p q c).1.natAbs/10 ^ w=0
  .have hcl9:clash fr w c=true:=by
    cases h:clash fr w c
    .exact absurd (by simp[cdC,hr,hd,h]) h0
    .rfl
   have hC:cdC k p q fr w c=9:=by simp[cdC,hr,hd,hcl9]
   rw[hC]
   have hd2:(!decide ((bM k p q c).1.natAbs/10 ^ w=0))=false:=by simp[hd]
   rw[hd2] at hgt
   unfold clash at hcl9
   refine fn0 Cd.i_calculatedCard_k λX=>?_
   simp -dsimp only[go_sem,cC,cPf,cFd]
   repeat' first|simp -dsimp only[go_sem,cC,cPf,cFd,cT3,hww,hE,Int.toNat_natCast,List.length_take,List.length_drop,aJ,hz0,hgt,hcl9]|apply Br.mk<;>intro h<;>try simp -dsimp only[h]|refine aB.c (by first|exact iN k hk p q c hp hq|exact yK _ hr0 hr1|exact digitsOf _ hnn|exact aCn _ hcl) ?_|refine aC ?_|refine aC9 ?_|fail
   all_goals exact⟨_,_,rfl,rfl⟩
  .have hC:cdC k p q fr w c=5:=by simp[cdC,hr,hd]
   rw[hC]
   have hd2:(!decide ((bM k p q c).1.natAbs/10 ^ w=0))=true:=by simp[hd]
   rw[hd2] at hgt
   refine fn0 Cd.i_calculatedCard_k λX=>?_
   simp -dsimp only[go_sem,cC,cPf,cFd]
   repeat' first|simp -dsimp only[go_sem,cC,cPf,cFd,cT3,hww,hE,Int.toNat_natCast,List.length_take,List.length_drop,aJ,hz0,hgt]|apply Br.mk<;>intro h<;>try simp -dsimp only[h]|refine aB.c (by first|exact iN k hk p q c hp hq|exact yK _ hr0 hr1|exact digitsOf _ hnn|exact aCn _ hcl) ?_|refine aC ?_|refine aC9 ?_|fail
   all_goals exact⟨_,_,rfl,rfl⟩
 .have hC:cdC k p q fr w c=(bM k p q c).2.2:=by simp[cdC,hr]
  rw[hC]
  have hz0:((bM k p q c).2.2 != 0)=true:=by simp[hr]
  refine fn0 Cd.i_calculatedCard_k λX=>?_
  simp -dsimp only[go_sem,cC,cPf,cFd]
  repeat' first|simp -dsimp only[go_sem,cC,cPf,cFd,cT3,hww,hE,Int.toNat_natCast,List.length_take,List.length_drop,aJ,hz0]|apply Br.mk<;>intro h<;>try simp -dsimp only[h]|refine aB.c (by first|exact iN k hk p q c hp hq) ?_|refine aC ?_|refine aC9 ?_|fail
  all_goals exact⟨_,_,rfl,rfl⟩
theorem qK {k:Int}{p q:Int×Int}{fr w:Nat}{c:List Int} (h:cdC k p q fr w c=0):(bM k p q c).2.2=0∧(bM k p q c).1.natAbs/10 ^ w=0∧clash fr w c=false:=by
 unfold cdC at h
 split at h
 .split at h
  .split at h
   .cases h
   .exact⟨by assumption,by assumption,by simpa using(by assumption:¬clash fr w c=true)⟩
  .cases h
 .exact absurd h (by assumption)
theorem aC8 (k:Int) (p q:Int×Int) (fr w:Nat) (c:List Int) (hk:inB k 1 4=true) (hp:okP p.1 p.2 c) (hq:okP q.1 q.2 c) (hf:fr+w<=c.length) (hw0:0<w) (hw12:w<=12) (hc20:c.length<=20) (h0:cdC k p q fr w c=0):Vs.Fn Tryz.prog F.bF [] [.v (.int .i64 k),.agg (cC c),.agg (cPf p),.agg (cPf q),.agg [.v (.int .i64 (fr:Nat)),.v (.int .i64 (fr+w:Nat))]] (.tup [.agg [.loc (.b 0) 0 c.length],.v (.int .i64 0)]) [some (.arr 1 (E cI (cdH k p q fr w c)) false)]:=by
 have hww:IntKind.i64.wrap (((fr+w:Nat):Int)-(fr:Int))=(w:Int):=by rw[aG (by omega) (by omega)];omega
 have hE:List.drop fr (List.take (fr+w) (E cI c))=E cI ((c.take (fr+w)).drop fr):=by simp[E,List.map_take,List.map_drop]
 have hcl:((c.take (fr+w)).drop fr).length<=1048576:=by simp;omega
 obtain⟨hr,hd,hcl9⟩:=qK h0
 unfold clash at hcl9
 have hrg:=yE hr
 have hr0:-9223372036854775807<=(bM k p q c).1:=by omega
 have hr1:(bM k p q c).1<=9223372036854775807:=by omega
 have hnn:(bM k p q c).1.natAbs<2 ^ 63:=by omega
 have hz0:((bM k p q c).2.2 != 0)=false:=by simp[hr]
 have hgt:=zW (n:=(bM k p q c).1.natAbs) hw0
 have hd2:(!decide ((bM k p q c).1.natAbs/10 ^ w=0))=false:=by simp[hd]
 rw[hd2] at hgt
 refine fn1 Cd.i_calculatedCard_k [.t 53 0] [.arr 1 (E cI (cdH k p q fr w c)) false] λX=>?_
 unfold Cd.bF
 simp -dsimp only[go_sem,cC,cPf,cFd]
 repeat' first|simp -dsimp only[go_sem,cC,cPf,cFd,cT3,hww,hE,Int.toNat_natCast,List.length_take,List.length_drop,aJ,hz0,hgt,hcl9]|apply Br.mk<;>intro h<;>try simp -dsimp only[h]|refine aB.c (by first|exact iN k hk p q c hp hq|exact yK _ hr0 hr1|exact digitsOf _ hnn|exact aCn _ hcl) ?_|refine aC ?_|refine aC9 ?_|fail
 refine aB.own (aDE c fr w _ (by omega) hf hw0 hrg.1 hrg.2) rfl ?_
 simp -dsimp only[go_sem,cC,cPf,cFd,cT3,hww,hE,Int.toNat_natCast,List.length_take,List.length_drop,aJ]
 exact⟨_,_,rfl,rfl⟩
end
section
variable [Vs.Tab 0 Vs.powP]
attribute [local irreducible] Vs.Fn
def pG (c:List Int) (fr:Nat) (x:List Int) (i:Nat):List Int:=c.take fr++x.take i++c.drop (fr+i)
theorem tC {c:List Int}{fr i:Nat}{x:List Int} (h:fr+x.length<=c.length) (hi:i<=x.length):(pG c fr x i).length=c.length:=by
 simp[pG];omega
theorem yV {c:List Int}{fr:Nat}{x:List Int}:pG c fr x 0=c:=by simp[pG]
theorem aDv {c:List Int}{fr w:Nat}{x:List Int} (hx:x.length=w):pG c fr x w=inF c fr w x:=by
 unfold pG inF
 have e:x.take w=x:=List.take_of_length_le (by omega)
 rw[e]
theorem aAA {c:List Int}{fr i:Nat}{x:List Int} (h:fr+x.length<=c.length) (hi:i<x.length):(E cI (pG c fr x i)).getD (fr+i) []=[.v (.int .i64 (c[fr+i]'(by omega)))]:=by
 rw[bI (by rw[tC h (by omega)];omega)]
 have e:(pG c fr x i)[fr+i]'(by rw[tC h (by omega)];omega)=c[fr+i]'(by omega):=by
  unfold pG
  rw[List.getElem_append_right (by simp;omega)]
  have hl:(c.take fr++x.take i).length=fr+i:=by simp;omega
  simp only[hl,Nat.sub_self]
  simp
 rw[e];rfl
theorem aAz {c:List Int}{fr i:Nat}{x:List Int} (h:fr+x.length<=c.length) (hi:i<x.length):(E cI (pG c fr x i)).set (fr+i) [.v (.int .i64 x[i])]=E cI (pG c fr x (i+1)):=by
 have e:(pG c fr x i).set (fr+i) x[i]=pG c fr x (i+1):=by
  unfold pG
  have hl:(c.take fr++x.take i).length=fr+i:=by simp;omega
  rw[List.set_append_right _ _ (by omega),hl,Nat.sub_self,List.drop_eq_getElem_cons (show fr+i<c.length by omega),List.set_cons_zero,dP hi,show fr+(i+1)=fr+i+1 by omega]
  simp only[List.append_assoc,List.cons_append,List.nil_append]
 rw[←e]
 simp[E,cI,List.map_set]
theorem xY {c:List Int}{fr i:Nat} (h:fr+i<c.length):((c.take (fr+(i+1))).drop fr).any (λx=>x != 0)=(((c.take (fr+i)).drop fr).any (λx=>x != 0)||c[fr+i] != 0):=by
 rw[show fr+(i+1)=fr+i+1 by omega,dP h,List.drop_append_of_le_length (by simp;omega),List.any_append]
 simp
theorem aC4 {c:List Int}{fr w i:Nat} (hf:fr+w<=c.length) (hi:i<w) (h:(c[fr+i]'(by omega) != 0)=true):clash fr w c=true:=by
 unfold clash
 have hl:i<((c.take (fr+w)).drop fr).length:=by simp;omega
 refine List.any_eq_true.2 ⟨((c.take (fr+w)).drop fr)[i],List.getElem_mem hl,?_⟩
 simpa using h
attribute [local go_sem] Int.toNat_natCast Bool.not_true Bool.not_false in
set_option maxRecDepth 20000 in
theorem aAS (k:Int) (p q:Int×Int) (fr w:Nat) (c:List Int) (hp:okP p.1 p.2 c) (hq:okP q.1 q.2 c) (hf:fr+w<=c.length) (hw0:0<w) (hw12:w<=12) (hc20:c.length<=20) (h0:cdC k p q fr w c≠0):Fz F.jN [.v (.int .i64 k),.ro (cC c),.agg (cPf p),.agg (cPf q),.agg [.v (.int .i64 (fr:Nat)),.v (.int .i64 (fr+w:Nat))]] (.tup [.agg [.v (.slice none 0 0)],.v (.int .i64 0),.v (.int .i64 (cdC k p q fr w c))]):=by
 have hww:IntKind.i64.wrap (((fr+w:Nat):Int)-(fr:Int))=(w:Int):=by rw[aG (by omega) (by omega)];omega
 have hc:c.length<=1048576:=by omega
 cases hb:(aL p.1 p.2 c).2&&(aL q.1 q.2 c).2
 .have er:rdT p q c=(0,0,8):=by simp[rdT,hb]
  have hC:cdC k p q fr w c=8:=by simp[cdC,bM,hb]
  have e8:((8:Int) != 0)=true:=rfl
  rw[hC]
  refine fn0 Cd.s_l14Card_k λX=>?_
  simp -dsimp only[go_sem,cC,cPf,cFd]
  repeat' first|simp -dsimp only[go_sem,cC,cPf,cFd,cT3,hww,aJ,er,e8]|apply Br.mk<;>intro h<;>try simp -dsimp only[h]|refine aB.c (by first|exact mW p q c hp hq|exact xH k _ _) ?_|refine aC ?_|refine aC9 ?_|fail
  all_goals exact⟨_,_,rfl,rfl⟩
 .have er:rdT p q c=((aL p.1 p.2 c).1,(aL q.1 q.2 c).1,0):=by simp[rdT,hb]
  have ec:bM k p q c=(cO k (aL p.1 p.2 c).1 (aL q.1 q.2 c).1):=by simp[bM,hb]
  by_cases hz:(cO k (aL p.1 p.2 c).1 (aL q.1 q.2 c).1).2.2=0
  .have hz0:((cO k (aL p.1 p.2 c).1 (aL q.1 q.2 c).1).2.2 != 0)=false:=by simp[hz]
   have hrg:=yD hz
   by_cases hd:(cO k (aL p.1 p.2 c).1 (aL q.1 q.2 c).1).1.natAbs/10 ^ w=0
   .have hcl:clash fr w c=true:=by
     cases h:clash fr w c
     .exact absurd (by simp[cdC,ec,hz,hd,h]) h0
     .rfl
    have hC:cdC k p q fr w c=9:=by simp[cdC,ec,hz,hd,hcl]
    rw[hC]
    have hd2:((((cO k (aL p.1 p.2 c).1 (aL q.1 q.2 c).1).1.natAbs/10 ^ w:Nat):Int)==0)=true:=beq_iff_eq.2 (by omega)
    have hxl:(ptN w (cO k (aL p.1 p.2 c).1 (aL q.1 q.2 c).1).1).length=w:=mF _ _
    refine fn0 Cd.s_l14Card_k λX=>?_
    simp -dsimp only[go_sem,cC,cPf,cFd]
    repeat' first|simp -dsimp only[go_sem,cC,cPf,cFd,cT3,hww,aJ,er,hz0,hd2]|apply Br.mk<;>intro h<;>try simp -dsimp only[h]|refine aB.c (by first|exact mW p q c hp hq|exact xH k _ _|exact xJ (cO k (aL p.1 p.2 c).1 (aL q.1 q.2 c).1).1 w hrg.1 hrg.2 hw0 (by omega)) ?_|refine aC ?_|refine aC9 ?_|fail
    refine aB.own (aCd c hc) rfl ?_
    simp -dsimp only[go_sem,cC,cPf,cFd,cT3,hww,aJ]
    refine bA.at dM (X:={zz:Nat×(Unit) // zz.1<=w∧((c.take (fr+zz.1)).drop fr).any (λx=>x != 0)=false}) (λzz=>[(22,.v (.int .i64 zz.1.1))]) (λzz=>[(.t 62 0,.arr 1 (E cI (pG c fr (ptN w (cO k (aL p.1 p.2 c).1 (aL q.1 q.2 c).1).1) zz.1.1)) false)]) (λzz=>w-zz.1.1) ⟨(0,()),by omega,by simp⟩ ?_ ?_
    .simp[Vs.LeL,Vs.look,Vs.aA,Vs.bL,Vs.aO,Vs.hset,Vs.aP,yV]
    .rintro⟨⟨i,_⟩,hi,hg⟩
     dsimp only at hi hg
     simp -dsimp only[go_sem,aJ,hxl]
     refine Br.mk (λhc=>?_) λhc=>?_
     .have hlt:i<w:=Dq
      have hw:=aQ hlt (by omega)
      have hix:i<(ptN w (cO k (aL p.1 p.2 c).1 (aL q.1 q.2 c).1).1).length:=by rw[hxl];exact hlt
      have hci:fr+i<c.length:=by omega
      have hlr:(pG c fr (ptN w (cO k (aL p.1 p.2 c).1 (aL q.1 q.2 c).1).1) i).length=c.length:=tC (by omega) (by omega)
      have hgr:=aAA (c:=c) (fr:=fr) (x:=(ptN w (cO k (aL p.1 p.2 c).1 (aL q.1 q.2 c).1).1)) (i:=i) (by omega) hix
      have hgs:=aAz (c:=c) (fr:=fr) (x:=(ptN w (cO k (aL p.1 p.2 c).1 (aL q.1 q.2 c).1).1)) (i:=i) (by omega) hix
      have hgx:(E cI (ptN w (cO k (aL p.1 p.2 c).1 (aL q.1 q.2 c).1).1)).getD i []=[.v (.int .i64 (ptN w (cO k (aL p.1 p.2 c).1 (aL q.1 q.2 c).1).1)[i])]:=jI hix
      have hwi:IntKind.i64.wrap ((fr:Int)+(i:Int))=((fr+i:Nat):Int):=by rw[aG (by omega) (by omega)];omega
      cases hnz:(c[fr+i] != 0)
      .have hg2:((c.take (fr+(i+1))).drop fr).any (λx=>x != 0)=false:=by rw[xY hci,hg,hnz];rfl
       repeat' first|simp -dsimp only[go_sem,cC,cPf,cFd,cT3,hww,aJ,hgr,hgs,hgx,hwi,hnz,hlr,hw]|apply Br.mk<;>intro h<;>try simp -dsimp only[h]|refine aC ?_|refine aC9 ?_|fail
       all_goals(exact⟨⟨(i+1,()),hlt,hg2⟩,by simp[Vs.LeL,Vs.look,Vs.aA,Vs.bL,Vs.aO,Vs.hset,Vs.aP],by simp only;omega⟩)
      .simp -dsimp only[go_sem,cC,cPf,cFd,cT3,hww,aJ,hgr,hgs,hgx,hwi,hnz,hlr,hw]
       repeat' first|simp -dsimp only[go_sem,cC,cPf,cFd,cT3,hww,aJ,hgr,hgs,hgx,hwi,hnz,hlr,hw]|apply Br.mk<;>intro h<;>try simp -dsimp only[h]|refine aC ?_|refine aC9 ?_|fail
       all_goals exact⟨_,_,rfl,rfl⟩
     .have hge:i=w:=by
       have:¬i<w:=Dq
       omega
      subst hge
      simp -dsimp only[go_sem,aJ,hxl]
      exact absurd hcl (by unfold clash;rw[hg];decide)
   .have hC:cdC k p q fr w c=5:=by simp[cdC,ec,hz,hd]
    rw[hC]
    have hd2:((((cO k (aL p.1 p.2 c).1 (aL q.1 q.2 c).1).1.natAbs/10 ^ w:Nat):Int)==0)=false:=beq_eq_false_iff_ne.2 (by omega)
    refine fn0 Cd.s_l14Card_k λX=>?_
    simp -dsimp only[go_sem,cC,cPf,cFd]
    repeat' first|simp -dsimp only[go_sem,cC,cPf,cFd,cT3,hww,aJ,er,hz0,hd2]|apply Br.mk<;>intro h<;>try simp -dsimp only[h]|refine aB.c (by first|exact mW p q c hp hq|exact xH k _ _|exact xJ (cO k (aL p.1 p.2 c).1 (aL q.1 q.2 c).1).1 w hrg.1 hrg.2 hw0 (by omega)) ?_|refine aC ?_|refine aC9 ?_|fail
    all_goals exact⟨_,_,rfl,rfl⟩
  .have hC:cdC k p q fr w c=(cO k (aL p.1 p.2 c).1 (aL q.1 q.2 c).1).2.2:=by simp[cdC,ec,hz]
   rw[hC]
   have hz0:((cO k (aL p.1 p.2 c).1 (aL q.1 q.2 c).1).2.2 != 0)=true:=by simp[hz]
   refine fn0 Cd.s_l14Card_k λX=>?_
   simp -dsimp only[go_sem,cC,cPf,cFd]
   repeat' first|simp -dsimp only[go_sem,cC,cPf,cFd,cT3,hww,aJ,er,hz0]|apply Br.mk<;>intro h<;>try simp -dsimp only[h]|refine aB.c (by first|exact mW p q c hp hq|exact xH k _ _) ?_|refine aC ?_|refine aC9 ?_|fail
   all_goals exact⟨_,_,rfl,rfl⟩
end
section
variable [Vs.Tab 0 Vs.powP]
attribute [local irreducible] Vs.Fn
set_option maxRecDepth 20000 in
theorem xI (k:Int) (p q:Int×Int) (fr w:Nat) (c:List Int) (hp:okP p.1 p.2 c) (hq:okP q.1 q.2 c) (hf:fr+w<=c.length) (hw0:0<w) (hw12:w<=12) (hc20:c.length<=20) (h0:cdC k p q fr w c=0):Fz F.jN [.v (.int .i64 k),.ro (cC c),.agg (cPf p),.agg (cPf q),.agg [.v (.int .i64 (fr:Nat)),.v (.int .i64 (fr+w:Nat))]] (.tup [.agg (cC (cdH k p q fr w c)),.v (.int .i64 (bM k p q c).2.1),.v (.int .i64 0)]):=by
 have hww:IntKind.i64.wrap (((fr+w:Nat):Int)-(fr:Int))=(w:Int):=by rw[aG (by omega) (by omega)];omega
 have hc:c.length<=1048576:=by omega
 obtain⟨hr,hd,hcl⟩:=qK h0
 have hb:((aL p.1 p.2 c).2&&(aL q.1 q.2 c).2)=true:=by
  cases h:(aL p.1 p.2 c).2&&(aL q.1 q.2 c).2
  .exact absurd hr (by simp[bM,h])
  .rfl
 have er:rdT p q c=((aL p.1 p.2 c).1,(aL q.1 q.2 c).1,0):=by simp[rdT,hb]
 have ec:bM k p q c=(cO k (aL p.1 p.2 c).1 (aL q.1 q.2 c).1):=by simp[bM,hb]
 unfold cdH
 rw[ec] at hr hd⊢
 have hz0:((cO k (aL p.1 p.2 c).1 (aL q.1 q.2 c).1).2.2 != 0)=false:=by simp[hr]
 have hrg:=yD hr
 have hd2:((((cO k (aL p.1 p.2 c).1 (aL q.1 q.2 c).1).1.natAbs/10 ^ w:Nat):Int)==0)=true:=beq_iff_eq.2 (by omega)
 have hxl:(ptN w (cO k (aL p.1 p.2 c).1 (aL q.1 q.2 c).1).1).length=w:=mF _ _
 refine fn0 Cd.s_l14Card_k λX=>?_
 simp -dsimp only[go_sem,cC,cPf,cFd]
 repeat' first|simp -dsimp only[go_sem,cC,cPf,cFd,cT3,hww,Int.toNat_natCast,aJ,Bool.not_true,Bool.not_false,er,hz0,hd2]|apply Br.mk<;>intro h<;>try simp -dsimp only[h]|refine aB.c (by first|exact mW p q c hp hq|exact xH k _ _|exact xJ (cO k (aL p.1 p.2 c).1 (aL q.1 q.2 c).1).1 w hrg.1 hrg.2 hw0 (by omega)) ?_|refine aC ?_|refine aC9 ?_|fail
 refine aB.own (aCd c hc) rfl ?_
 simp -dsimp only[go_sem,cC,cPf,cFd,cT3,hww,Int.toNat_natCast,aJ,Bool.not_true,Bool.not_false]
 refine bA.at dM (X:={zz:Nat×(Unit) // zz.1<=w∧((c.take (fr+zz.1)).drop fr).any (λx=>x != 0)=false}) (λzz=>[(22,.v (.int .i64 zz.1.1))]) (λzz=>[(.t 62 0,.arr 1 (E cI (pG c fr (ptN w (cO k (aL p.1 p.2 c).1 (aL q.1 q.2 c).1).1) zz.1.1)) false)]) (λzz=>w-zz.1.1) ⟨(0,()),by omega,by simp⟩ ?_ ?_
 .simp[Vs.LeL,Vs.look,Vs.aA,Vs.bL,Vs.aO,Vs.hset,Vs.aP,yV]
 .rintro⟨⟨i,_⟩,hi,hg⟩
  dsimp only at hi hg
  simp -dsimp only[go_sem,aJ,hxl]
  refine Br.mk (λhc=>?_) λhc=>?_
  .have hlt:i<w:=Dq
   have hw:=aQ hlt (by omega)
   have hix:i<(ptN w (cO k (aL p.1 p.2 c).1 (aL q.1 q.2 c).1).1).length:=by rw[hxl];exact hlt
   have hci:fr+i<c.length:=by omega
   have hlr:(pG c fr (ptN w (cO k (aL p.1 p.2 c).1 (aL q.1 q.2 c).1).1) i).length=c.length:=tC (by omega) (by omega)
   have hgr:=aAA (c:=c) (fr:=fr) (x:=(ptN w (cO k (aL p.1 p.2 c).1 (aL q.1 q.2 c).1).1)) (i:=i) (by omega) hix
   have hgs:=aAz (c:=c) (fr:=fr) (x:=(ptN w (cO k (aL p.1 p.2 c).1 (aL q.1 q.2 c).1).1)) (i:=i) (by omega) hix
   have hgx:(E cI (ptN w (cO k (aL p.1 p.2 c).1 (aL q.1 q.2 c).1).1)).getD i []=[.v (.int .i64 (ptN w (cO k (aL p.1 p.2 c).1 (aL q.1 q.2 c).1).1)[i])]:=jI hix
   have hwi:IntKind.i64.wrap ((fr:Int)+(i:Int))=((fr+i:Nat):Int):=by rw[aG (by omega) (by omega)];omega
   cases hnz:(c[fr+i] != 0)
   .have hg2:((c.take (fr+(i+1))).drop fr).any (λx=>x != 0)=false:=by rw[xY hci,hg,hnz];rfl
    repeat' first|simp -dsimp only[go_sem,cC,cPf,cFd,cT3,hww,Int.toNat_natCast,aJ,Bool.not_true,Bool.not_false,hgr,hgs,hgx,hwi,hnz,hlr,hw]|apply Br.mk<;>intro h<;>try simp -dsimp only[h]|refine aC ?_|refine aC9 ?_|fail
    all_goals(exact⟨⟨(i+1,()),hlt,hg2⟩,by simp[Vs.LeL,Vs.look,Vs.aA,Vs.bL,Vs.aO,Vs.hset,Vs.aP],by simp only;omega⟩)
   .exact absurd (aC4 hf hlt hnz) (by rw[hcl];decide)
  .have hge:i=w:=by
    have:¬i<w:=Dq
    omega
   subst hge
   simp -dsimp only[go_sem,aJ,hxl]
   rw[aDv hxl]
   try simp -dsimp only[go_sem,cC,cPf,cFd,cT3,hww,Int.toNat_natCast,aJ,Bool.not_true,Bool.not_false]
   refine⟨?_,λh=>h rfl⟩
   exact⟨[.t 62 0],[],by rw[List.take_of_length_le (by rw[aJ,jZ hf hxl];exact Nat.le_refl _)],rfl⟩
end
section
variable [Vs.Tab 0 Vs.powP]
attribute [local irreducible] Vs.Fn
def ccW (t:Int×Int):Nat:=(t.2-t.1).toNat
theorem kH {c:List Int}{fr to:Int} (hd:aT c=true) (hn:iI fr to c.length=true):okP fr to c:=by
 simp only[aT,inB,Bool.and_eq_true,List.all_eq_true,decide_eq_true_eq] at hd
 simp only[iI,sG,Bool.and_eq_true,decide_eq_true_eq] at hn
 obtain⟨⟨h1,h2,h3⟩,h4⟩:=hn
 obtain⟨h5,h6,h7⟩:=hd
 have hw:W (to-fr)=to-fr:=aG (by omega) (by omega)
 rw[hw] at h4
 exact⟨h1,h2,h3,h4,by omega,λx hx=>h5 x hx⟩
theorem oU {c:List Int} (hd:aT c=true):c.length<=20:=by
 simp only[aT,inB,Bool.and_eq_true,decide_eq_true_eq] at hd
 omega
def cdF (k:Int) (p q:Int×Int) (fr w:Nat):List (List Int)->Int
 | []=>0
 |c::r=>if cdC k p q fr w c=0 then cdF k p q fr w r else cdC k p q fr w c
def wE (k:Int) (p q t:Int×Int) (l:List (List Int)):Bool:=inB k 1 4&&eY [p,q,t] (dW l)
def cdk (k:Int) (p q t:Int×Int) (l:List (List Int)):Int:=if dO l then(if wE k p q t l then cdF k p q t.1.toNat (ccW t) l else 2) else 1
def cdL (k:Int) (p q t:Int×Int) (l:List (List Int)):List (List Int):=if cdk k p q t l=0 then l.map (cdH k p q t.1.toNat (ccW t)) else[]
theorem aEB {k:Int}{p q:Int×Int}{fr w:Nat}{l:List (List Int)} (h:cdF k p q fr w l=0):∀c,c∈l->cdC k p q fr w c=0:=by
 induction l with
 |nil=>intro c hc;cases hc
 | cons a r ih =>
  intro c hc
  rw[cdF] at h
  by_cases ha:cdC k p q fr w a=0
  .rw[if_pos ha] at h
   rcases List.mem_cons.1 hc with rfl|hc
   .exact ha
   .exact ih h c hc
  .rw[if_neg ha] at h;exact(ha h).elim
theorem jU {l:List (List Int)} (hd:dO l=true):∀c,c∈l->aT c=true∧(c.length:Int)=dW l:=by
 intro c hc
 have h0:l.length≠0:=by intro e;rw[List.eq_nil_of_length_eq_zero e] at hc;cases hc
 simp only[dO,Bool.and_eq_true,List.all_eq_true,decide_eq_true_eq] at hd
 obtain⟨hcb,hcl⟩:=hd.1 c hc
 refine⟨hcb,?_⟩
 rw[dW,if_neg h0,←hcl]
theorem x9 {k:Int}{p q t:Int×Int}{l:List (List Int)} (hd:dO l=true) (hb:wE k p q t l=true):inB k 1 4=true∧eY [p,q,t] (dW l)=true∧
  (∀c,c∈l->okP p.1 p.2 c∧okP q.1 q.2 c∧okP t.1 t.2 c∧c.length<=20):=by
 simp only[wE,Bool.and_eq_true] at hb
 have h:=hb.2
 simp only[eY,List.all_cons,List.all_nil,Bool.and_true,Bool.and_eq_true] at h
 obtain⟨h1,h2,h3⟩:=h
 refine⟨hb.1,hb.2,λc hc=>?_⟩
 obtain⟨a1,a2⟩:=jU hd c hc
 rw[←a2] at h1 h2 h3
 exact⟨kH a1 h1,kH a1 h2,kH a1 h3,oU a1⟩
theorem aB5 {t:Int×Int}{c:List Int} (ht:okP t.1 t.2 c):∃fr w:Nat,t=((fr:Int),((fr+w:Nat):Int))∧t.1.toNat=fr∧ccW t=w∧fr+w<=c.length∧0<w∧w<=12:=by
 obtain⟨a1,a2,a3,a4,_,_⟩:=ht
 refine⟨t.1.toNat,ccW t,?_,rfl,rfl,?_,?_,?_⟩
 .obtain⟨t1,t2⟩:=t
  simp only[ccW] at *
  rw[Prod.mk.injEq]
  exact⟨by omega,by omega⟩
 .unfold ccW;omega
 .unfold ccW;omega
 .unfold ccW;omega
theorem zT {t:Int×Int}{w0:Int} (hn:iI t.1 t.2 w0=true) (hw:w0<=20):∃fr w:Nat,t=((fr:Int),((fr+w:Nat):Int))∧t.1.toNat=fr∧ccW t=w∧((fr+w:Nat):Int)<=w0∧0<w∧w<=12:=by
 simp only[iI,sG,Bool.and_eq_true,decide_eq_true_eq] at hn
 obtain⟨⟨h1,h2,h3⟩,h4⟩:=hn
 have hw':W (t.2-t.1)=t.2-t.1:=aG (by omega) (by omega)
 rw[hw'] at h4
 refine⟨t.1.toNat,ccW t,?_,rfl,rfl,?_,?_,?_⟩
 .obtain⟨t1,t2⟩:=t
  simp only[ccW] at *
  rw[Prod.mk.injEq]
  exact⟨by omega,by omega⟩
 .unfold ccW;omega
 .unfold ccW;omega
 .unfold ccW;omega
end
section
variable [Vs.Tab 0 Vs.powP]
attribute [local irreducible] Vs.Fn
theorem aBB {d:Nat} (h:d<10):dg (fJ d)=(d:Int):=by
 have:d=0∨d=1∨d=2∨d=3∨d=4∨d=5∨d=6∨d=7∨d=8∨d=9:=by omega
 rcases this with rfl|rfl|rfl|rfl|rfl|rfl|rfl|rfl|rfl|rfl<;>decide +kernel
theorem aBF {d:Nat} (h:d<10):fJ d≠0:=by
 have:d=0∨d=1∨d=2∨d=3∨d=4∨d=5∨d=6∨d=7∨d=8∨d=9:=by omega
 rcases this with rfl|rfl|rfl|rfl|rfl|rfl|rfl|rfl|rfl|rfl<;>decide +kernel
theorem bit_B {d:Nat} (h:d<10):nB (fJ d)=false:=by
 have:d=0∨d=1∨d=2∨d=3∨d=4∨d=5∨d=6∨d=7∨d=8∨d=9:=by omega
 rcases this with rfl|rfl|rfl|rfl|rfl|rfl|rfl|rfl|rfl|rfl<;>decide +kernel
theorem bit_Y {d:Nat} (h:d<10):nY (fJ d)=fJ d:=by
 have:d=0∨d=1∨d=2∨d=3∨d=4∨d=5∨d=6∨d=7∨d=8∨d=9:=by omega
 rcases this with rfl|rfl|rfl|rfl|rfl|rfl|rfl|rfl|rfl|rfl<;>decide +kernel
theorem neg_B {d:Nat} (h:d<10):nB (bJ .or .i64 (fJ d) 2)=true:=by
 have:d=0∨d=1∨d=2∨d=3∨d=4∨d=5∨d=6∨d=7∨d=8∨d=9:=by omega
 rcases this with rfl|rfl|rfl|rfl|rfl|rfl|rfl|rfl|rfl|rfl<;>decide +kernel
theorem neg_Y {d:Nat} (h:d<10):nY (bJ .or .i64 (fJ d) 2)=fJ d:=by
 have:d=0∨d=1∨d=2∨d=3∨d=4∨d=5∨d=6∨d=7∨d=8∨d=9:=by omega
 rcases this with rfl|rfl|rfl|rfl|rfl|rfl|rfl|rfl|rfl|rfl<;>decide +kernel
theorem aBG {d:Nat} (h:d<10):0<=fJ d∧fJ d<=4095:=by
 have:d=0∨d=1∨d=2∨d=3∨d=4∨d=5∨d=6∨d=7∨d=8∨d=9:=by omega
 rcases this with rfl|rfl|rfl|rfl|rfl|rfl|rfl|rfl|rfl|rfl<;>decide +kernel
theorem aBo {d:Nat} (h:d<10):0<=bJ .or .i64 (fJ d) 2∧bJ .or .i64 (fJ d) 2<=4095:=by
 have:d=0∨d=1∨d=2∨d=3∨d=4∨d=5∨d=6∨d=7∨d=8∨d=9:=by omega
 rcases this with rfl|rfl|rfl|rfl|rfl|rfl|rfl|rfl|rfl|rfl<;>decide +kernel
theorem xU {k:Nat} (h:k<1000000000000):W (W (10*((k/10:Nat):Int))+((k%10:Nat):Int))=(k:Int):=by
 have w1:W (10*((k/10:Nat):Int))=10*((k/10:Nat):Int):=aG (by omega) (by omega)
 rw[w1]
 have w2:W (10*((k/10:Nat):Int)+((k%10:Nat):Int))=10*((k/10:Nat):Int)+((k%10:Nat):Int):=aG (by omega) (by omega)
 rw[w2];omega
theorem aDF {w k:Nat} (hw:w<=12) (h:k<10 ^ w):k<1000000000000:=Nat.lt_of_lt_of_le h (Nat.le_trans (Nat.pow_le_pow_right (by omega) hw) (by decide))
theorem aDH:∀(w k:Nat),w<=12->k<10 ^ w->∃b,nGo (pd w k) 0 false=some ((k:Int),b)
 | 0,k,_,h=>by
  have:k=0:=by simpa using h
  subst this
  exact⟨false,rfl⟩
 | w+1,k,hw,h=>by
  obtain⟨b,ih⟩:=aDH w (k/10) (by omega) (by rw[Nat.pow_succ] at h;omega)
  have hd:k%10<10:=Nat.mod_lt _ (by omega)
  refine⟨true,?_⟩
  rw[pd,aB9,ih]
  show nGo [fJ (k%10)] ((k/10:Nat):Int) b=_
  rw[nGo,if_neg (λe=>aBF hd e.1),aBB hd,if_neg (by omega),nGo,xU (aDF hw h)]
theorem aE6 {w k:Nat} (hw:w+1<=12) (h:k<10 ^ (w+1)):kY (pd w (k/10)) (fJ (k%10))=((k:Int),true):=by
 have hd:k%10<10:=Nat.mod_lt _ (by omega)
 obtain⟨b,g⟩:=aDH w (k/10) (by omega) (by rw[Nat.pow_succ] at h;omega)
 rw[uS _ _ (aBG hd).1 (aBG hd).2,g]
 dsimp only
 rw[bit_Y hd,bit_B hd,if_neg (λe=>aBF hd e.1),aBB hd,if_neg (by omega),xU (aDF hw h)]
 rfl
theorem aDO {w k:Nat} (hw:w+1<=12) (h:k<10 ^ (w+1)) (h0:0<k):kY (pd w (k/10)) (bJ .or .i64 (fJ (k%10)) 2)=(-(k:Int),true):=by
 have hd:k%10<10:=Nat.mod_lt _ (by omega)
 obtain⟨b,g⟩:=aDH w (k/10) (by omega) (by rw[Nat.pow_succ] at h;omega)
 have hk:=aDF hw h
 rw[uS _ _ (aBo hd).1 (aBo hd).2,g]
 dsimp only
 rw[neg_Y hd,neg_B hd,if_neg (λe=>aBF hd e.1),aBB hd,if_neg (by omega),xU hk]
 have w0:W (0-(k:Int))=0-(k:Int):=aG (by omega) (by omega)
 unfold aA0
 rw[if_pos rfl,w0]
 have:((k:Int) != 0)=true:=by simp;omega
 rw[this];simp
theorem y7 (l:List Int) (x:Int):rH (l++[x])=l++[bJ .or .i64 x 2]:=by simp[rH]
theorem aE5 {w:Nat}{n:Int} (h0:0<w) (hw:w<=12) (h:n.natAbs/10 ^ w=0):kY (ptN w n).dropLast ((ptN w n).getLastD 0)=(n,true):=by
 obtain⟨v,rfl⟩:∃v,w=v+1:=⟨w-1,by omega⟩
 have hp:0<10 ^ (v+1):=Nat.pow_pos (by omega)
 have hk:n.natAbs<10 ^ (v+1):=by
  rcases Nat.div_eq_zero_iff.1 h with h|h
  .omega
  .exact h
 by_cases hn:n<0
 .have e:ptN (v+1) n=pd v (n.natAbs/10)++[bJ .or .i64 (fJ (n.natAbs%10)) 2]:=by
   unfold ptN
   rw[if_pos hn,pd,y7]
  rw[e,List.dropLast_concat,List.getLastD_concat,aDO hw hk (by omega)]
  congr 1;omega
 .have e:ptN (v+1) n=pd v (n.natAbs/10)++[fJ (n.natAbs%10)]:=by
   unfold ptN
   rw[if_neg hn,pd]
  rw[e,List.dropLast_concat,List.getLastD_concat,aE6 hw hk]
  congr 1;omega
theorem aE8 {fr w:Nat}{c x:List Int} (hx:x.length=w) (hf:fr+w<=c.length):aL fr ((fr+w:Nat):Int) (inF c fr w x)=kY x.dropLast (x.getLastD 0):=by
 have e:((inF c fr w x).take ((fr+w:Nat):Int).toNat).drop ((fr:Nat):Int).toNat=x:=by
  rw[Int.toNat_natCast,Int.toNat_natCast]
  unfold inF
  have h1:(c.take fr++x).length=fr+w:=by simp[hx];omega
  rw[List.take_append_of_le_length (by omega),List.take_of_length_le (by omega)]
  have h2:(c.take fr).length=fr:=by simp;omega
  rw[List.drop_append_of_le_length (by omega),List.drop_of_length_le (by omega),List.nil_append]
 unfold aL
 rw[e]
theorem aEA {k:Int}{p q:Int×Int}{fr w:Nat}{c:List Int} (h0:0<w) (hw:w<=12) (hf:fr+w<=c.length) (h:cdC k p q fr w c=0):aL fr ((fr+w:Nat):Int) (cdH k p q fr w c)=((bM k p q c).1,true):=by
 unfold cdH
 rw[aE8 (mF w _) hf]
 exact aE5 h0 hw (qK h).2.1
theorem aDG:∀(w k:Nat) (x:Int),x∈pd w k->0<=x∧x<=4095
 |0,_,x,h=>by cases h
 | w+1,k,x,h=>by
  rw[pd] at h
  rcases List.mem_append.1 h with h|h
  .exact aDG w _ x h
  .rw[List.mem_singleton.1 h];exact aBG (Nat.mod_lt _ (by omega))
theorem pt_in {w:Nat}{n:Int}{x:Int} (h:x∈ptN w n):0<=x∧x<=4095:=by
 cases w with
 | zero =>
  exfalso
  have:(ptN 0 n).length=0:=mF 0 n
  rw[List.eq_nil_of_length_eq_zero this] at h
  cases h
 | succ v =>
  unfold ptN at h
  split at h
  .rw[pd,y7] at h
   rcases List.mem_append.1 h with h|h
   .exact aDG v _ x h
   .rw[List.mem_singleton.1 h];exact aBo (Nat.mod_lt _ (by omega))
  .exact aDG _ _ x h
theorem aEz {k:Int}{p q:Int×Int}{fr w:Nat}{c:List Int} (hf:fr+w<=c.length) (hc:aT c=true):aT (cdH k p q fr w c)=true:=by
 have hl:(cdH k p q fr w c).length=c.length:=jZ hf (mF w _)
 simp only[aT,inB,Bool.and_eq_true,List.all_eq_true,decide_eq_true_eq] at hc⊢
 rw[hl]
 refine⟨λx hx=>?_,hc.2⟩
 unfold cdH inF at hx
 rcases List.mem_append.1 hx with hx|hx
 .rcases List.mem_append.1 hx with hx|hx
  .exact hc.1 x (List.mem_of_mem_take hx)
  .exact pt_in hx
 .exact hc.1 x (List.mem_of_mem_drop hx)
end
end Go.Proofs.YtfoddghhlagenaaGreatDoor
