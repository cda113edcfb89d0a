/- Decks that are matched: the reference. -/
import Derived.Test.YtkgeiaideklmoaaGreatZwQe
import Derived.Test.YtkgeiaideklmoaaGreatVtR
import Derived.Test.YtkgeiaideklmoaaGreatZwSf
set_option linter.all false
set_option maxHeartbeats 8000000
namespace Go.Proofs.YtkgeiaideklmoaaGreat
open Go.Vs
section
variable [Vs.Envs]
attribute [local irreducible] Vs.Fn bK aO bL bM l03 chB rk cd3 chI stp aP
def flt (q:List Int->Bool) (l:List (List Int)):List (List Int):=l.filter λx=>!q x
theorem yH {q:List Int->Bool}{l:List (List Int)}{j:Nat} (h:j<l.length):flt q (l.take (j+1))=flt q (l.take j)++(if q l[j] then[] else[l[j]]):=by
 unfold flt;rw[aY h,List.filter_append];congr 1;cases hq:q l[j]<;>simp[DI,hq]
theorem zM (q:List Int->Bool) (l:List (List Int)):(flt q l).length<=l.length:=List.length_filter_le ..
theorem aF9 {q:List Int->Bool}{l:List (List Int)} (h:l.all (λx=>!q x)=true):flt q l=l:=by
 unfold flt;exact List.filter_eq_self.2 (Az.1 h)
theorem aHe (q:List Int->Bool) (l:List (List Int)):(qI q l=-1∧l.all (λx=>!q x)=true)∨∃i:Nat,∃h:i<l.length,qI q l=i∧q l[i]=true∧(l.take i).all (λx=>!q x)=true:=by
 unfold qI;cases h:l.findIdx? q with
 | none =>
  rw[List.findIdx?_eq_none_iff] at h;exact .inl ⟨rfl,Az.2 λx F=>by simp[h x F]⟩
 | some i =>
  rw[Dv] at h;obtain⟨hi,H,h2⟩:=h;refine .inr ⟨i,hi,rfl,H,Az.2 λx F=>?_⟩;obtain⟨j,I,rfl⟩:=List.mem_take_iff_getElem.1 F;simpa using h2 j (by omega)
theorem aOj (m:List (List Int)) (i:Nat) (x:List Int):(E cC m).set i [.sl 1 (E cI x)]=E cC (m.set i x):=by simp[E,De,cC]
theorem aBH (l:List (List Int)):(E cC l).take l.length=E cC l:=Aj (by simp[E])
def zR (n:Nat):List (List AV):=List.replicate n [.v (.slice none 0 0)]
theorem aMM {m:List (List Int)}{i n:Nat} (H:m.length=n) (hi:i<=n):yK (E cC m) i (n-i) [.v (.slice none 0 0)]=E cC (m.take i)++zR (n-i):=by
 unfold yK zR;have F:(E cC m).take i=E cC (m.take i):=by simp[E,CG]
 have h2:(E cC m).drop (i+(n-i))=[]:=List.drop_eq_nil_of_le (by rw[aH];omega);rw[F,h2,Be]
theorem zI {c:List AV} (h:dS c=true) (n:Name):nZ n c=false:=by
 induction c with
 |nil=>rfl
 | cons x r ih =>
  simp only[dS,BK,Av] at h
  have H:x.has n=false:=by
   have F:=h.1;cases x<;>first|rfl|simp[zY] at F
  simp[nZ,H,ih h.2]
attribute [local irreducible] flt qI zR yK
attribute [local go_sem] Af Ag Al Aq Ae Ai Ac Ak Ab Ah Am in
theorem delF (q:List Int->Bool) (g:FuncId) (caps:List AV) (hcaps:dS caps=true) (l:List (List Int)) (hl:l.length<=1048576) (hq:∀x,x∈l->Vs.Fn Tryz.prog g [] (.agg (cC x)::caps) (.v (.bool (q x))) []) :
  Vs.Fn Tryz.prog F.kV [.arr 1 (E cC l) false] [.loc (.b 0) 0 l.length,.fn g caps] (.loc (.b 0) 0 (flt q l).length) [some (.arr 1 (E cC (flt q l)++zR (l.length-(flt q l).length)) false)]:=by
 have hidx:Fz F.kG [.sl 1 (E cC l),.fn g caps] (.v (.int .i64 (qI q l))):=
  aEZ Tryz.mixed (k:=1) Cd.ixf_Card_k.o Cd.ixf_Card_k.n Cd.ixf_Card_k.r rfl q g caps hcaps (λ_=>rfl) (λ_=>rfl) hq hl
 refine fn1 Cd.dlf_Card_k [.b 0] [.arr 1 (E cC (flt q l)++zR (l.length-(flt q l).length)) false] λX=>?_;unfold Cd.kV;simp -dsimp only[go_sem,aF hcaps _ 6,aF hcaps _ 7,aBH,aH];refine aB.flat hidx rfl ?_;rcases aHe q l with⟨hn,hall⟩|⟨i0,hi0,hn,hq0,hall⟩
 .have e1:((-1:Int) == -1)=true:=rfl;rw[hn];have hfl:=aF9 hall;rw[hfl];have hz0:E cC l++zR (l.length-l.length)=E cC l:=by unfold zR;simp
  simp -dsimp only[go_sem,e1,aH];exact⟨[],[],rfl,by rw[hz0]⟩
 .have e1:((i0:Int) == -1)=false:=AC.2 (by omega);have hw0:=aG hi0 hl;rw[hn];simp -dsimp only[go_sem,e1,hw0,aH];refine aM.at dM (X:={zz:Nat×Nat×List (List Int) // (zz.1<=l.length∧zz.2.1<zz.1)∧zz.2.2.length=l.length∧zz.2.2.take zz.2.1=flt q (l.take zz.1)∧zz.2.2.drop zz.1=l.drop zz.1}) (λzz=>[(5,.v (.int .i64 zz.1.2.1)),(6,.v (.int .i64 zz.1.1))]) (λzz=>[(.b 0,.arr 1 (E cC zz.1.2.2) false)]) (λzz=>l.length-zz.1.1) ⟨(i0+1,i0,l),⟨show i0+1<=l.length by omega,show i0<i0+1 by omega⟩,rfl,?_,rfl⟩ ?_ ?_
  .show l.take i0=flt q (l.take (i0+1))
   rw[yH hi0,aF9 hall,hq0];simp
  .exact le0
  .rintro⟨⟨j,i,m⟩,⟨hj,hij⟩,hm,ht,hd⟩;dsimp only at hj hij hm ht hd;simp -dsimp only[go_sem];refine Br.mk (λhc=>?_) λhc=>?_
   .have hlt:j<l.length:=by simpa using hc
    have hw:=aG hlt hl;have hwi:=aG (show i<l.length by omega) hl;have hjm:j<m.length:=by omega
    have him:i<m.length:=by omega
    have hmj:m[j]=l[j]:=by
     have h1:=Cj (λx=>x[0]?) hd;simpa[Dr,hjm,hlt] using h1
    have hgm:(E cC m).getD j []=[.sl 1 (E cI l[j])]:=by rw[aN hjm,hmj];rfl
    have hgi:(E cC m).getD i []=[.sl 1 (E cI m[i])]:=aN him;have hlm:(E cC m).length=l.length:=by rw[aH];exact hm
    have hcj:Vs.Fn Tryz.prog g [] (.agg [.sl 1 (E cI l[j])]::caps) (.v (.bool (q l[j]))) []:=hq _ (Aa hlt);have hsm:=aOj m i l[j]
    have hdd:m.drop (j+1)=l.drop (j+1):=by
     have h1:=Cj (List.drop 1) hd;simpa[List.drop_drop] using h1
    cases hqj:q l[j]
    .have htt:(m.set i l[j]).take (i+1)=flt q (l.take (j+1)):=by
      rw[yH hlt,hqj,←ht,aY (show i<(m.set i l[j]).length by simpa using him)];simp only[List.append_cancel_right_eq,List.getElem_set_self,Bd,AR];rw[List.take_set_of_le (Ar _)]
     have hd2:(m.set i l[j]).drop (j+1)=l.drop (j+1):=by rw[List.drop_set_of_lt (by omega),hdd]
     repeat' first|simp -dsimp only[go_sem,hw,hwi,hgm,hgi,hlm,hsm,hqj,aF hcaps _ 6,aF hcaps _ 7,zI hcaps]|apply Br.mk<;>intro h<;>try simp -dsimp only[h]|refine aB.c (by first|exact hcj) ?_|refine aC ?_|fail
     all_goals first|omega|(exact⟨⟨(j+1,i+1,m.set i l[j]),⟨by dsimp only;omega,by dsimp only;omega⟩,by simpa using hm,htt,hd2⟩,by simp[Vs.LeL,Vs.look,aA,aS,aJ,Vs.hset,aK],by simp only;omega⟩)
    .have htt:m.take i=flt q (l.take (j+1)):=by rw[yH hlt,hqj,←ht];simp
     repeat' first|simp -dsimp only[go_sem,hw,hwi,hgm,hgi,hlm,hsm,hqj,aF hcaps _ 6,aF hcaps _ 7,zI hcaps]|apply Br.mk<;>intro h<;>try simp -dsimp only[h]|refine aB.c (by first|exact hcj) ?_|refine aC ?_|fail
     all_goals first|omega|(exact⟨⟨(j+1,i,m),⟨by dsimp only;omega,by dsimp only;omega⟩,hm,htt,hdd⟩,by simp[Vs.LeL,Vs.look,aA,aS,aJ,Vs.hset,aK],by simp only;omega⟩)
   .have hge:j=l.length:=by
     have:¬j<l.length:=by simpa using hc
     omega
    subst hge;rw[Bv] at ht;have hfi:(flt q l).length=i:=by rw[←ht];simp;omega
    have hlm:(E cC m).length=l.length:=by rw[aH];exact hm
    have hcl:=aMM hm (show i<=l.length by omega);rw[ht] at hcl;have hti:((l.length:Int)-(i:Int)).toNat=l.length-i:=by omega
    rw[hfi];simp -dsimp only[go_sem,hlm,hcl,hti];have hti2:((i:Int)-0).toNat=i:=by omega
    rw[hti2];exact⟨⟨⟨by omega,by omega,by omega⟩,by omega,⟨by omega,by omega,by omega⟩,⟨[],[],rfl,rfl⟩⟩,λh=>h rfl⟩
end
section
variable [Vs.Envs]
attribute [local irreducible] Vs.Fn bK aO bL bM l03 chB rk cd3 chI stp aP flt qI zR yK
attribute [local irreducible] bA
def vP (fr to:Int) (o:List (List Int)) (x:List Int):Bool:=o.any λc=>cmF fr to c x==0
def mat (fr to:Int) (l o:List (List Int)) (e:Bool):List (List Int):=flt (λx=>!(vP fr to o x==e)) l
theorem aIh (x:List Int) (o:List (List Int)) (fr to:Int) (e:Bool) (I:okF fr to x) (ho:∀c,c∈o->okF fr to c) (H:o.length<=1048576):Fz F.dO [.agg (cC x),.ro [.sl 1 (E cC o)],.ro (cFd fr to),.ro [.v (.bool e)]] (.v (.bool (!(vP fr to o x==e)))):=by
 refine fn0 Cd.i_MatchDecks_1_1_k λX=>?_
 repeat' first|simp -dsimp only[go_sem,cC,cFd,Af,Ag,Al,Aq,Ae,Ai,Ac,Ak,Ab,Ah,Am]|apply Br.mk<;>intro h<;>try simp -dsimp only[h]|refine aB.c (by first|exact aK7 o x fr to I ho H) ?_|refine aC ?_|fail
 all_goals(simp_all [vP])
theorem aB.borL {P:Program}{f:FuncId}{b:Blk}{ys:List AV}{L:List Vs.Name}{d:Option Nat}{σ:St}{n:Vs.Name}{K:St->Prop}{t:Tag K}{r:AV}{F:List (Option Blk)} (H:Vs.Fn P f [b] ys r F) (I:kT (d.getD 0) 1 F.length σ=true)
  (J:K ⟨put d (rn (phi [n] (d.getD 0) F.length) r) σ.s,zU σ.h [n] (d.getD 0) F true L⟩):aB P f [b] ys L d σ [n] K t:=
 ⟨r,F,true,H,λh=>(by cases h),I,J⟩
theorem aFC (m:List (List Int)) (k:Nat):(E cC m++zR k).take m.length=E cC m:=by
 have:m.length=(E cC m).length:=(aH ..).symm;rw[this,List.take_left'];rfl
attribute [local go_sem] Af Ag Al Aq Ae Ai Ac Ak Ab Ah Am in
theorem aEU (l o:List (List Int)) (fr to:Int) (e:Bool) (Z:∀x,x∈l->x.length<=1048576) (J:l.length<=1048576) (H:o.length<=1048576) (hx:∀c,c∈l->okF fr to c) (ho:∀c,c∈o->okF fr to c) :
  Fz F.aT [.sl 1 (E cC l),.sl 1 (E cC o),.v (.bool e),.ro (cFd fr to)] (.sl 1 (E cC (mat fr to l o e))):=by
 have O:=delF (λx=>!(vP fr to o x==e)) F.dO [.ro [.sl 1 (E cC o)],.ro (cFd fr to),.ro [.v (.bool e)]] rfl l J (λx I=>aIh x o fr to e (hx x I) ho H);refine fn0 Cd.i_MatchDecks_1_k λX=>?_;simp -dsimp only[go_sem,cC,cFd];refine aB.own (aEQ l Z J) rfl ?_;simp -dsimp only[go_sem,cC,cFd,BF,BG,l8,sF,lU,Aw,Be];refine⟨rfl,aB.borL O rfl ?_⟩;simp -dsimp only[go_sem,cC,cFd];have Y:=aFC (flt (λx=>!(vP fr to o x==e)) l) (l.length-(flt (λx=>!(vP fr to o x==e)) l).length);have L:(flt (λx=>!(vP fr to o x==e)) l).length<=l.length:=zM ..
 have U:mat fr to l o e=flt (λx=>!(vP fr to o x==e)) l:=rfl;rw[U];simp -dsimp only[go_sem,AJ,Cn,aH,AQ,Y];exact⟨_,_,rfl,rfl⟩
def mtC (fr to:Int) (a b:List (List Int)):Int:=if iW fr to [a,b]=0 then(if gN fr to a&&gN fr to b then 0 else 6) else iW fr to [a,b]
def mtL (fr to:Int) (a b:List (List Int)):List (List (List Int)):=[mat fr to a b true,mat fr to b a true,mat fr to a b false,mat fr to b a false]
def mtV (fr to:Int) (a b:List (List Int)):AV:=if mtC fr to a b=0 then .sl 1 (E cD (mtL fr to a b)) else .v (.slice none 0 0)
theorem zQ {fr to:Int}{a b:List (List Int)} (h:iW fr to [a,b]=0):(bF a=true∧bF b=true)∧(dZ fr to (bJ a)=true∧dZ fr to (bJ b)=true)∧bV fr to a=true∧bV fr to b=true:=by
 unfold iW at h;split at h
 .rename_i F;split at h
  .rename_i h2;split at h
   .rename_i H;simp only[BK,DL,Bool.and_true,Av] at F h2 H;exact⟨F,h2,H⟩
   .cases h
  .cases h
 .cases h
theorem yU {a b:List (List Int)} (H:aZ a) (I:aZ b):aGS [a,b]:=by
 refine⟨by simp,λd F=>?_⟩;simp only[Ap,Ao,AX] at F;rcases F with rfl|rfl<;>assumption
attribute [local irreducible] mat iW gN
attribute [local go_sem] Af Ag Al Aq Ae Ai Ac Ak Ab Ah Am Bh Bz Cv Cn in
theorem aB4 (a b:List (List Int)) (fr to:Int) (H:aZ a) (I:aZ b):Fz F.iE [.sl 1 (E cC a),.sl 1 (E cC b),.agg (cFd fr to)] (.tup [mtV fr to a b,.v (.int .i64 (mtC fr to a b))]):=by
 have U:[[AV.sl 1 (E cC a)],[AV.sl 1 (E cC b)]]=E cD [a,b]:=rfl;by_cases J:iW fr to [a,b]=0
 rotate_left
 .have e1:(iW fr to [a,b] != 0)=true:=by simp[J]
  refine fn0 Cd.i_MatchDecks_k λX=>?_
  repeat' first|simp -dsimp only[go_sem,cFd,U,e1]|apply Br.mk<;>intro h<;>try simp -dsimp only[h]|refine aB.c (by first|exact qR fr to [a,b] (yU H I)) ?_|refine aC ?_|fail
  all_goals simp[mtV,mtC,J]
 obtain⟨⟨da,db⟩,⟨fa,fb⟩,ca,cb⟩:=zQ J;have L:=dF da fa;have O:=dF db fb;cases hs:gN fr to a&&gN fr to b
 .have hn:(!gN fr to a||!gN fr to b)=true:=by
   cases Y:gN fr to a<;>cases h2:gN fr to b<;>simp_all
  refine fn0 Cd.i_MatchDecks_k λX=>?_
  repeat' first|simp -dsimp only[go_sem,cFd,U,J]|apply Br.mk<;>intro h<;>try simp -dsimp only[h]|refine aB.c (by first|exact qR fr to [a,b] (yU H I)|exact fZ a fr to L H.1|exact fZ b fr to O I.1) ?_|refine aC ?_|fail
  all_goals first|(simp_all [mtV,mtC];done)|(refine bN ?_;simp_all [mtV,mtC];done)
 have Y:gN fr to a=true:=by simp only[Av] at hs;exact hs.1
 have h2:gN fr to b=true:=by simp only[Av] at hs;exact hs.2
 refine fn0 Cd.i_MatchDecks_k λX=>?_
 repeat' first|simp -dsimp only[go_sem,cFd,U,J,Y,h2]|apply Br.mk<;>intro h<;>try simp -dsimp only[h]|refine aB.c (by first|exact qR fr to [a,b] (yU H I)|exact fZ a fr to L H.1|exact fZ b fr to O I.1|exact aEU a b fr to true H.2 H.1 I.1 L O|exact aEU b a fr to true I.2 I.1 H.1 O L|exact aEU a b fr to false H.2 H.1 I.1 L O|exact aEU b a fr to false I.2 I.1 H.1 O L) ?_|refine aC ?_|fail
 all_goals (have Z:mtC fr to a b=0:=by simp[mtC,J,hs]
            have hv:mtV fr to a b=.sl 1 (E cD (mtL fr to a b)):=by simp[mtV,Z]
            rw[Z,hv]

            first|exact⟨_,_,rfl,rfl⟩|(refine bN rfl))
end
section
variable [Vs.Envs]
attribute [local irreducible] Vs.Fn bK aO bL bM l03 chB rk cd3 chI stp aP stb
theorem aGR (g:FuncId) (caps:List AV) (H:dS caps=true) (I:Int->Int->Int) (D:Int->Prop) (O:aBe Tryz.prog g caps I D) (l:List Int) (L:∀x,x∈l->D x) (U:l.length<=40) :
  Vs.Fn Tryz.prog F.iQ [.arr 1 (E cI l) false] [.loc (.b 0) 0 l.length,.fn g caps] (.tup []) [some (.arr 1 (E cI (stb (ltf I) l)) false)]:=by
 have J:=stable g caps H I D O l L U;refine fn1 Cd.sortst___int64_k [.b 0] [.arr 1 (E cI (stb (ltf I) l)) false] λX=>?_;unfold Cd.iQ
 repeat' first|simp -dsimp only[go_sem,BF,BG,l8,sF,lU,Aw,Be,Ai,Ae,aF H _ 6,aF H _ 7,aH]|apply Br.mk<;>intro h<;>try simp -dsimp only[h]|refine aB.bor (by first|exact J) rfl ?_|refine aC ?_|fail
 all_goals first|exact⟨_,_,rfl,rfl⟩
def cfO (fr to:Int) (l:List (List Int)) (i j:Int):Int:=cmF fr to (l.getD i.toNat []) (l.getD j.toNat [])
def inO (n:Nat) (x:Int):Prop:=0<=x∧x<(n:Int)
theorem aBD {l:List (List Int)}{x:Int} (h:inO l.length x):(E cC l).getD x.toNat []=[.sl 1 (E cI (l.getD x.toNat []))]:=by
 have F:x.toNat<l.length:=by have:=h.1;have:=h.2;omega
 rw[aN F];simp[cC,List.getD,F]
theorem nO {l:List (List Int)}{x:Int} (h:inO l.length x):l.getD x.toNat []∈l:=by
 have F:x.toNat<l.length:=by have:=h.1;have:=h.2;omega
 have e:l.getD x.toNat []=l[x.toNat]:=by simp[List.getD,F]
 rw[e];exact Aa F
theorem aKC (l:List (List Int)) (fr to:Int) (ho:∀c,c∈l->okF fr to c):aBe Tryz.prog F.nD [.ro [.sl 1 (E cC l)],.ro (cFd fr to)] (cfO fr to l) (inO l.length):=by
 intro x y H I;have J:=aBD H;have L:=aBD I;have O:=H.1;have U:=H.2;have Y:=I.1;have Z:=I.2;have C:=l7 (l.getD x.toNat []) (l.getD y.toNat []) fr to (ho _ (nO H)) (ho _ (nO I));rw[show cmF fr to (l.getD x.toNat []) (l.getD y.toNat [])=cfO fr to l x y from rfl] at C;refine fn0 Cd.i_orderBy_1_k λX=>?_
 repeat' first|simp -dsimp only[go_sem,cC,cFd,J,L,aH]|apply Br.mk<;>intro h<;>try simp -dsimp only[h]|refine aB.c (by first|exact C) ?_|refine aC ?_|fail
 all_goals first|exact⟨_,_,rfl,rfl⟩|simp
def iota (n:Nat):List Int:=(List.range n).map λi:Nat=>(i:Int)
theorem aD6 (n:Nat):iota (n+1)=iota n++[(n:Int)]:=by simp[iota,Dm]
theorem tF (n:Nat):(iota n).length=n:=by simp[iota]
theorem aCk {n:Nat}:∀x,x∈iota n->inO n x:=by
 intro x F;obtain⟨i,hi,rfl⟩:=Bq.1 F;have:=Cm.1 hi;exact⟨by omega,by omega⟩
def dR (fr to:Int) (l:List (List Int)):List Int:=stb (ltf (cfO fr to l)) (iota l.length)
theorem u7 (fr to:Int) (l:List (List Int)):(dR fr to l).length=l.length:=by rw[dR,aGQ,tF]
attribute [local go_sem] aH tF Au Ap Ao Vs.Name.t.injEq BF BG l8 sF lU Aw Be Ai Ae in
theorem aH8 (l:List (List Int)) (fr to:Int) (ho:∀c,c∈l->okF fr to c) (hl:l.length<=40):Fz F.vL [.sl 1 (E cC l),.agg (cFd fr to)] (.sl 1 (E cI (dR fr to l))):=by
 refine fn0 Cd.i_orderBy_k λX=>?_
 repeat' first|simp -dsimp only[go_sem,cC,cFd]|apply Br.mk<;>intro h<;>try simp -dsimp only[h]|refine aC ?_|fail
 refine aM.at dM (X:={zz:Nat×(Unit) // zz.1<=l.length∧True}) (λzz=>[(5,.loc (.t 5 0) 0 zz.1.1),(10,.v (.int .i64 zz.1.1))]) (λzz=>[(.t 5 0,.arr 1 (E cI (iota zz.1.1)) false)]) (λzz=>l.length-zz.1.1) ⟨(0,()),by omega,trivial⟩ ?_ ?_
 .simp[Vs.LeL,Vs.look,aA,aS,aJ,Vs.hset,aK,Vs.E,iota]
 .rintro⟨⟨i,_⟩,hi,hg⟩;dsimp only at hi hg;simp -dsimp only[go_sem,cC,cFd,AX,BH];refine Br.mk (λhc=>?_) λhc=>?_
  .have hlt:i<l.length:=Dq;have hw:=aG hlt (by omega);have hap:E cI (iota i)++[[.v (.int .i64 (i:Int))]]=E cI (iota (i+1)):=by rw[aD6,bH];rfl
   repeat' first|simp -dsimp only[go_sem,hw,hap,cC,cFd,AX,BH]|apply Br.mk<;>intro h<;>try simp -dsimp only[h]|refine aC ?_|fail
   all_goals first|omega|(exact nx (i+1,()) trivial (h2:=by simp[Vs.LeL,Vs.look,aA,aS,aJ,Vs.hset,aK,hap]))
  .have hge:i=l.length:=by
    have:¬i<l.length:=Dq;omega
   subst hge;simp -dsimp only[go_sem,cC,cFd,AX,BH];have ST:=aGR F.nD [.ro [.sl 1 (E cC l)],.ro (cFd fr to)] rfl (cfO fr to l) (inO l.length) (aKC l fr to ho) (iota l.length) aCk (by rw[tF];exact hl);rw[show stb (ltf (cfO fr to l)) (iota l.length)=dR fr to l from rfl,tF] at ST;refine⟨⟨rfl,aB.borL ST rfl ?_⟩,λh=>h rfl⟩;simp -dsimp only[go_sem,u7 fr to l,AX,BH];have htk:(E cI (dR fr to l)).take l.length=E cI (dR fr to l):=Aj (by rw[aH,u7 fr to l];exact Ar _)
   first|exact⟨_,_,rfl,rfl⟩|(simp only[htk];exact⟨_,_,rfl,rfl⟩)
theorem aBB:∀(a b:List Int),a.length=b.length->jC b a=- jC a b
 | [],[],_=>rfl
 | x::a,y::b,h=>by
  have I:=aBB a b (by simpa using h);simp only[jC];by_cases F:rk x<rk y
  .have h2:¬rk y<rk x:=by omega
   have H:rk y>rk x:=by omega
   simp[F,h2,H]
  .by_cases h2:rk y<rk x
   .simp[F,h2]
   .simp[F,h2,I]
 | [],_::_,h=>by simp at h
 |_::_,[],h=>by simp at h
theorem aEh:∀(a b c:List Int),a.length=b.length->b.length=c.length->jC a b=0->jC a c=jC b c
 | [],[],c,_,_,_=>rfl
 |x::a,y::b,[],_,h,_=>by simp at h
 | x::a,y::b,z::c,h1,h2,h=>by
  simp only[jC] at h⊢;split at h
  .cases h
  .split at h
   .cases h
   .have F:=aEh a b c (by simpa using h1) (by simpa using h2) h;have e:rk x=rk y:=by omega
    rw[e,F]
 | [],_::_,_,h,_,_=>by simp at h
 |_::_,[],_,h,_,_=>by simp at h
theorem aDh:∀(a b c:List Int),a.length=b.length->b.length=c.length->jC a b<0->jC b c<=0->jC a c<0
 | [],[],c,_,_,h,_=>by simp[jC] at h
 |x::a,y::b,[],_,h,_,_=>by simp at h
 | x::a,y::b,z::c,h1,h2,h,h'=>by
  simp only[jC] at h h'⊢;split at h
  .split at h'
   .rw[AP (by omega)];omega
   .split at h'
    .omega
    .rw[AP (by omega)];omega
  .split at h
   .omega
   .split at h'
    .rw[AP (by omega)];omega
    .split at h'
     .omega
     .rw[AB (by omega),AB (by omega)];exact aDh a b c (by simpa using h1) (by simpa using h2) h h'
 | [],_::_,_,h,_,_,_=>by simp at h
 |_::_,[],_,h,_,_,_=>by simp at h
end
section
variable [Vs.Envs]
attribute [local irreducible] Vs.Fn bK aO bL bM l03 chB rk cd3 chI stp aP stb
def xV (fr to:Int) (l:List (List Int)) (x y:Int):Prop:=(inO l.length x∧inO l.length y)∧(cfO fr to l x y<0∨(cfO fr to l x y=0∧x<y))
section
variable {fr to:Int}{l:List (List Int)} (ho:∀c,c∈l->okF fr to c)
include ho
theorem qZ {x:Int} (F:inO l.length x):(fH fr to (l.getD x.toNat [])).length=to.toNat-fr.toNat:=lN (ho _ (nO F))
theorem aCp {x y:Int} (F:inO l.length x) (H:inO l.length y):cfO fr to l y x=- cfO fr to l x y:=aBB _ _ (by rw[qZ ho F,qZ ho H])
theorem aMP {x y z:Int} (H:inO l.length x) (F:inO l.length y) (I:inO l.length z) (h:cfO fr to l x y=0):cfO fr to l x z=cfO fr to l y z:=
 aEh _ _ _ (by rw[qZ ho H,qZ ho F]) (by rw[qZ ho F,qZ ho I]) h
theorem aLx {x y z:Int} (H:inO l.length x) (F:inO l.length y) (I:inO l.length z) (h:cfO fr to l x y<0) (h':cfO fr to l y z<=0):cfO fr to l x z<0:=
 aDh _ _ _ (by rw[qZ ho H,qZ ho F]) (by rw[qZ ho F,qZ ho I]) h h'
theorem mJ (x y z:Int) (F:xV fr to l x y) (h2:xV fr to l y z):xV fr to l x z:=by
 obtain⟨⟨H,J⟩,F⟩:=F;obtain⟨⟨_,I⟩,h2⟩:=h2;refine⟨⟨H,I⟩,?_⟩;rcases F with F|⟨F,h3⟩
 .exact .inl (aLx ho H J I F (by omega))
 .rw[aMP ho H J I F];rcases h2 with h2|⟨h2,h4⟩
  .exact .inl h2
  .exact .inr ⟨h2,by omega⟩
theorem aBm (x y:Int) (F:xV fr to l x y):¬xV fr to l y x:=by
 rintro⟨⟨I,H⟩,h2⟩;have e:=aCp ho H I;have F:=F.2;omega
theorem aJq:(iota l.length).Pairwise (aDL (ltf (cfO fr to l)) (xV fr to l)):=by
 unfold iota;rw[List.pairwise_map];refine List.Pairwise.imp_of_mem (R:=λa b=>a<b) ?_ List.pairwise_lt_range;intro a b I L J;have F:inO l.length (a:Int):=⟨by omega,by have:=Cm.1 I;omega⟩;have H:inO l.length (b:Int):=⟨by omega,by have:=Cm.1 L;omega⟩;have e:=aCp ho F H;refine⟨?_,?_⟩
 .simp only[ltf,Bb];exact⟨λh=>⟨⟨H,F⟩,.inl h⟩,λh=>by have:=h.2;omega⟩
 .by_cases h:cfO fr to l b a<0
  .exact .inr ⟨⟨H,F⟩,.inl h⟩
  .refine .inl ⟨⟨F,H⟩,?_⟩;by_cases h0:cfO fr to l a b=0
   .exact .inr ⟨h0,by omega⟩
   .exact .inl (by omega)
theorem aCQ (F:l.length<=40):(dR fr to l).Perm (iota l.length)∧(dR fr to l).Pairwise (xV fr to l):=
 aLY (mJ ho) (aBm ho) (by rw[tF];exact F) (aJq ho)
theorem aCc (F:l.length<=40):∀x,x∈dR fr to l->inO l.length x:=λx H=>aCk x ((aCQ ho F).1.mem_iff.1 H)
end
attribute [local irreducible] dR
def iP (fr to:Int) (l:List (List Int)):List (List Int):=(dR fr to l).map λi=>l.getD i.toNat []
attribute [local go_sem] aH Af Ag Al Aq Ae Ai Ac Ak Ab Ah Am in
theorem aKa (l:List (List Int)) (fr to:Int) (ho:∀c,c∈l->okF fr to c) (hl:l.length<=40):Fz F.gM [.sl 1 (E cC l),.agg (cFd fr to)] (.sl 1 (E cC (iP fr to l))):=by
 have OB:=aH8 l fr to ho hl;have hol:=u7 fr to l;have hoi:=aCc ho hl;rw[show iP fr to l=(dR fr to l).map (λi=>l.getD i.toNat []) from rfl];generalize dR fr to l=o at *
 refine fn0 Cd.i_sortedBy_k λX=>?_
 repeat' first|simp -dsimp only[go_sem,cC,cFd]|apply Br.mk<;>intro h<;>try simp -dsimp only[h]|refine aB.c (by first|exact OB) ?_|refine aC ?_|fail
 refine aM.at dM (X:={zz:Nat×(Unit) // zz.1<=o.length∧True}) (λzz=>[(5,.loc (.t 5 0) 0 zz.1.1),(13,.v (.int .i64 zz.1.1))]) (λzz=>[(.t 5 0,.arr 1 (E cC ((o.take zz.1.1).map λi=>l.getD i.toNat [])) false)]) (λzz=>o.length-zz.1.1) ⟨(0,()),by omega,trivial⟩ ?_ ?_
 .simp[Vs.LeL,Vs.look,aA,aS,aJ,Vs.hset,aK,Vs.E]
 .rintro⟨⟨i,_⟩,hi,hg⟩;dsimp only at hi hg;simp -dsimp only[go_sem,cC,cFd];refine Br.mk (λhc=>?_) λhc=>?_
  .have hlt:i<o.length:=Dq;have hw:=aG hlt (by omega);have hx:=hoi _ (Aa hlt);have gx:=aBD hx;have hm:=nO hx;have hc20:(l.getD o[i].toNat []).length<=20:=(ho _ hm).2.2.2;have NC:=aCe (l.getD o[i].toNat []) (by omega);have x0:=hx.1;have x1:=hx.2
   have hap:E cC ((o.take i).map λi=>l.getD i.toNat [])++[[.sl 1 (E cI (l.getD o[i].toNat []))]]=E cC ((o.take (i+1)).map λi=>l.getD i.toNat []):=by
    rw[aY hlt,Bu,bH];rfl
   have hal:(E cC ((o.take i).map λi=>l.getD i.toNat [])).length=i:=by rw[aH];simp;omega
   repeat' first|simp -dsimp only[go_sem,dJ hlt,hw,hap,hal,gx,cC,cFd]|apply Br.mk<;>intro h<;>try simp -dsimp only[h]|refine aB.c (by first|exact NC) ?_|refine aC ?_|fail
   all_goals first|omega|(exact nx (i+1,()) trivial (h2:=by simp[Vs.LeL,Vs.look,aA,aS,aJ,Vs.hset,aK,hap]))
  .have hge:i=o.length:=by
    have:¬i<o.length:=Dq;omega
   subst hge;simp -dsimp only[go_sem,cC,cFd]
   have htk:(E cC ((o.take o.length).map λi=>l.getD i.toNat [])).take o.length=E cC (o.map λi=>l.getD i.toNat []):=by
    rw[Aj (Ar o.length)];exact Aj (by rw[aH];simp)
   first|exact⟨⟨_,_,rfl,rfl⟩,λh=>h rfl⟩|(rw[htk];exact⟨⟨_,_,rfl,rfl⟩,λh=>h rfl⟩)|(simp[htk];done)
end
section
variable [Vs.Envs]
attribute [local irreducible] Vs.Fn bK aO bL bM l03 chB rk cd3 chI stp aP flt qI zR yK mat iW gN stF
attribute [local go_sem] Af Ag Al Aq Ae Ai Ac Ak Ab Ah Am
theorem aIz:∀{a b:List Int},a.length=b.length->dC a=true->dC b=true->(jC a b=0↔a=b)
 | [],[],_,_,_=>by simp[jC]
 | [],y::b,h,_,_=>by simp at h
 |x::a,[],h,_,_=>by simp at h
 | x::a,y::b,h,ha,hb=>by
  simp only[dC,BK,Av,Bb] at ha hb;have I:=aIz (a:=a) (b:=b) (by simpa using h) (by simpa[dC] using ha.2) (by simpa[dC] using hb.2);rw[jC];by_cases F:rk x<rk y
  .rw[AP F];refine⟨λh=>by simp at h,λh=>?_⟩;simp only[List.cons.injEq] at h;rw[h.1] at F;omega
  .rw[AB F];by_cases h2:rk x>rk y
   .rw[AP h2];refine⟨λh=>by simp at h,λh=>?_⟩;simp only[List.cons.injEq] at h;rw[h.1] at h2;omega
   .rw[AB h2,I];have H:x=y:=aKr ha.1 (by omega);simp[H]
theorem aLM {a b:List Int} (U:a.length=b.length) (I:dC a=true) (J:dC b=true) (h:(txt a).data.toList=(txt b).data.toList):a=b:=by
 apply List.ext_getElem U;intro i H h2;have F:=aEw I H;have L:=aEw J h2;rw[h,L] at F;have Z:=aCD a[i];have r2:=aCD b[i];have O:=vQ I H;have Y:=vQ J h2;have:=aIA (rk b[i]).toNat (by omega) (rk a[i]).toNat (by omega) F;exact aKr O (by omega)
theorem aEv {a b:List Int} (I:a.length=b.length) (F:dC a=true) (H:dC b=true):((txt a).toList==(txt b).toList)=(jC a b==0):=by
 rw[ByteArray.toList_eq,ByteArray.toList_eq];have h:=aIz I F H;by_cases e:a=b
 .subst e;have:jC a a=0:=h.2 rfl;simp[this]
 .have O:¬jC a b=0:=λh'=>e (h.1 h');have h2:¬(txt a).data.toList=(txt b).data.toList:=λh'=>e (aLM I F H h');have J:((txt a).data.toList==(txt b).data.toList)=false:=AC.2 h2;have L:(jC a b==0)=false:=AC.2 O;rw[J,L]
theorem aNU (l:List Int) (H:l.length<=1048576):Fz F.qC [.sl 1 (E cI l)] (.sl 1 (E cI l)):=by
 refine fn0 Cd.s_l00Own_k λX=>?_;simp -dsimp only[go_sem]
 first
  |exact⟨by omega,rfl,⟨rfl,by omega,by omega⟩,_,_,rfl,rfl⟩
  |exact⟨by omega,rfl,⟨by omega,by omega⟩,_,_,rfl,rfl⟩
  |exact⟨⟨by omega,by omega⟩,⟨by omega,by omega⟩,_,_,rfl,rfl⟩
theorem x9 (c:List Int) (H:c.length<=1048576):Fz F.jD [.ro (cC c)] (.agg (cC c)):=by
 refine fn0 Cd.s_l02Own_k λX=>?_
 repeat' first|simp -dsimp only[go_sem,cC,cFd]|apply Br.mk<;>intro h<;>try simp -dsimp only[h]|refine aB.c (by first|exact aNU c H) ?_|refine aC ?_|fail
 all_goals(exact⟨_,_,rfl,rfl⟩)
theorem vI (fr to:Int) (l:List (List Int)):(bS fr to l).length=l.length:=by simp[bS]
attribute [local go_sem] aH cFd in
theorem aKW (o:List (List Int)) (x:List Int) (fr to:Int) (ho:∀c,c∈o->okF fr to c) (hh:bV fr to o=true) (hx:okF fr to x) (hxh:dC (fH fr to x)=true) (hl:o.length<=1048576) :
  Fz F.xM [.sl 1 (E cSt (bS fr to o)),.v (.string (txt (fH fr to x)))] (.v (.bool (vP fr to o x))):=by
 have hkl:=vI fr to o;refine fn0 Cd.s_l09Has_k λX=>?_;simp -dsimp only[go_sem,hkl];refine aM.at dM (X:={zz:Nat×(Unit) // zz.1<=o.length∧(o.take zz.1).all (λc=>!(cmF fr to c x==0))=true}) (λzz=>[(5,.v (.int .i64 zz.1.1))]) (λzz=>[]) (λzz=>o.length-zz.1.1) ⟨(0,()),by omega,by simp⟩ ?_ ?_
 .exact le0
 .rintro⟨⟨i,_⟩,hi,hg⟩;dsimp only at hi hg;simp -dsimp only[go_sem,hkl];refine Br.mk (λhc=>?_) λhc=>?_
  .have hlt:i<o.length:=Dq;have hw:=aG hlt hl;have hk:=ho _ (Aa hlt);have hc:=(Az.1 hh) _ (Aa hlt);have hm:(E cSt (bS fr to o)).getD i []=[.v (.string (txt (fH fr to o[i])))]:=by rw[aN (by omega)];simp[bS,cSt]
   have he:=aEv ((lN hk).trans (lN hx).symm) hc hxh;cases hz:jC (fH fr to o[i]) (fH fr to x)==0
   .have hp:(cmF fr to o[i] x==0)=false:=hz
    repeat' first|simp -dsimp only[go_sem,hw,hm,he,hz,hkl]|apply Br.mk<;>intro h<;>try simp -dsimp only[h]|refine aC ?_|fail
    all_goals first|omega|(exact nx (i+1,()) (bD (p:=λc=>!(cmF fr to c x==0)) hlt hg (by simp[hp])))
   .have hp:(cmF fr to o[i] x==0)=true:=hz;have hany:vP fr to o x=true:=List.any_eq_true.2 ⟨o[i],Aa hlt,hp⟩
    repeat' first|simp -dsimp only[go_sem,hw,hm,he,hz,hkl]|apply Br.mk<;>intro h<;>try simp -dsimp only[h]|refine aC ?_|fail
    all_goals first|omega|(refine bN ?_;simp[hany];done)|(simp[hany];done)
  .have hge:i=o.length:=by
    have:¬i<o.length:=Dq;omega
   subst hge;simp -dsimp only[go_sem,hkl]
   have hany:vP fr to o x=false:=by
    unfold vP;rw[List.any_eq_false];intro c hc;rw[Bv] at hg;have:=(Az.1 hg) c hc;simpa using this
   simp[hany]
theorem aCZ {fr to:Int}{l o:List (List Int)}{e:Bool}{i:Nat} (h:i<l.length):mat fr to (l.take (i+1)) o e=mat fr to (l.take i) o e++(if vP fr to o l[i]==e then[l[i]] else[]):=by
 unfold mat;rw[yH h];cases vP fr to o l[i]==e<;>simp
theorem aIj (fr to:Int) (l o:List (List Int)) (e:Bool):(mat fr to l o e).length<=l.length:=by unfold mat;exact zM ..
theorem aKQ (fr to:Int) (o:List (List Int)) (e:Bool):mat fr to [] o e=[]:=by unfold mat flt;rfl
theorem aIi {fr to:Int}{l o:List (List Int)}{e:Bool}{i:Nat} (h:i<l.length) (F:vP fr to o l[i]=e):E cC (mat fr to (l.take i) o e)++[[.sl 1 (E cI l[i])]]=E cC (mat fr to (l.take (i+1)) o e):=by
 rw[aCZ h,F,bH];simp[E,cC]
theorem aFT {fr to:Int}{l o:List (List Int)}{e:Bool}{i:Nat} (h:i<l.length) (F:vP fr to o l[i]=e):(mat fr to (l.take (i+1)) o e).length=(mat fr to (l.take i) o e).length+1:=by
 rw[aCZ h,F];simp
theorem aFS {fr to:Int}{l o:List (List Int)}{e:Bool}{i:Nat} (h:i<l.length) (F:vP fr to o l[i] = !e):mat fr to (l.take (i+1)) o e=mat fr to (l.take i) o e:=by
 rw[aCZ h,F];cases e<;>simp
attribute [local go_sem] aH cFd in
theorem aFY (l o:List (List Int)) (fr to:Int) (hl:aZ l) (hol:o.length<=1048576) (oa:∀c,c∈l->okF fr to c) (ob:∀c,c∈o->okF fr to c) (ca:bV fr to l=true) (cb:bV fr to o=true) :
  Fz F.oM [.sl 1 (E cC l),.sl 1 (E cSt (bS fr to l)),.sl 1 (E cSt (bS fr to o))] (.tup [.sl 1 (E cC (mat fr to l o true)),.sl 1 (E cC (mat fr to l o false))]):=by
 have hkl:=vI fr to l;have hkm:=vI fr to o;refine fn0 Cd.s_l09Match_k λX=>?_;simp -dsimp only[go_sem,hkl,hkm];refine⟨⟨by omega,by omega⟩,⟨by omega,by omega⟩,?_⟩;refine aM.at dM (X:={zz:Nat×(Unit) // zz.1<=l.length∧True}) (λzz=>[(8,.loc (.t 8 0) 0 (mat fr to (l.take zz.1.1) o true).length),(9,.loc (.t 9 0) 0 (mat fr to (l.take zz.1.1) o false).length),(10,.v (.int .i64 zz.1.1))]) (λzz=>[(.t 8 0,.arr 1 (E cC (mat fr to (l.take zz.1.1) o true)) false),(.t 9 0,.arr 1 (E cC (mat fr to (l.take zz.1.1) o false)) false)]) (λzz=>l.length-zz.1.1) ⟨(0,()),by omega,trivial⟩ ?_ ?_
 .simp[Vs.LeL,Vs.look,aA,aS,aJ,Vs.hset,aK,aKQ,Vs.E]
 .rintro⟨⟨i,_⟩,hi,hg⟩;dsimp only at hi hg;simp -dsimp only[go_sem,hkl];refine Br.mk (λhc=>?_) λhc=>?_
  .have hlt:i<l.length:=Dq;have hw:=aG hlt hl.1;have hk:=oa _ (Aa hlt);have hc:=(Az.1 ca) _ (Aa hlt);have hs:=hl.2 _ (Aa hlt);have hm:(E cSt (bS fr to l)).getD i []=[.v (.string (txt (fH fr to l[i])))]:=by rw[aN (by omega)];simp[bS,cSt]
   have hm2:(E cC l).getD i []=[.sl 1 (E cI l[i])]:=aN hlt;have hb1:=aIj fr to (l.take i) o true;have hb2:=aIj fr to (l.take i) o false;have ht:(l.take i).length=i:=by simp;omega
   have hl1:=hl.1;cases hz:vP fr to o l[i]
   .have g1:=aIi (e:=false) hlt hz;have g2:=aFT (e:=false) hlt hz;have g3:=aFS (e:=true) hlt hz
    repeat' first|simp -dsimp only[go_sem,hw,hm,hm2,hz,g1,hkl,cC]|apply Br.mk<;>intro h<;>try simp -dsimp only[h]|refine aB.c (by first|exact aKW o l[i] fr to ob cb hk hc hol|exact x9 l[i] hs) ?_|refine aC ?_|fail
    all_goals first|omega|(exact nx (i+1,()) trivial (h2:=by simp[Vs.LeL,Vs.look,aA,aS,aJ,Vs.hset,aK,g2,g3]))
   .have g1:=aIi (e:=true) hlt hz;have g2:=aFT (e:=true) hlt hz;have g3:=aFS (e:=false) hlt hz
    repeat' first|simp -dsimp only[go_sem,hw,hm,hm2,hz,g1,hkl,cC]|apply Br.mk<;>intro h<;>try simp -dsimp only[h]|refine aB.c (by first|exact aKW o l[i] fr to ob cb hk hc hol|exact x9 l[i] hs) ?_|refine aC ?_|fail
    all_goals first|omega|(exact nx (i+1,()) trivial (h2:=by simp[Vs.LeL,Vs.look,aA,aS,aJ,Vs.hset,aK,g2,g3]))
  .have hge:i=l.length:=by
    have:¬i<l.length:=Dq;omega
   subst hge;simp -dsimp only[go_sem,hkl];rw[Bv];have k1:(E cC (mat fr to l o true)).take (mat fr to l o true).length=E cC (mat fr to l o true):=aBH _;have k2:(E cC (mat fr to l o false)).take (mat fr to l o false).length=E cC (mat fr to l o false):=aBH _;exact⟨⟨_,_,rfl,rfl⟩,λh=>h rfl⟩
def twV (fr to:Int) (a b d:List (List Int)):AV:=if iW fr to [a,b]=0 then .sl 1 (E cSt (bS fr to d)) else .v (.slice none 0 0)
theorem aHs (fr to:Int) (a b:List (List Int)):iW fr to [a,b]=if bF a&&bF b then(if dZ fr to (bJ a)&&dZ fr to (bJ b) then(if bV fr to a&&bV fr to b then 0 else 8) else 2) else 1:=by
 unfold iW;simp only[BK,DL,Bool.and_true]
theorem aG9 (a b:List (List Int)) (fr to:Int) (J:aZ a) (L:aZ b):Fz F.sH [.sl 1 (E cC a),.sl 1 (E cC b),.agg (cFd fr to)] (.tup [twV fr to a b a,twV fr to a b b,.v (.int .i64 (iW fr to [a,b]))]):=by
 have hc:=aHs fr to a b;cases da:bF a
 .refine fn0 Cd.s_l09Two_k λX=>?_
  repeat' first|simp -dsimp only[go_sem,cFd,da]|apply Br.mk<;>intro h<;>try simp -dsimp only[h]|refine aB.c (by first|exact dK a J.2 J.1|exact dK b L.2 L.1) ?_|refine aC ?_|fail
  all_goals simp_all [twV]
 cases db:bF b
 .refine fn0 Cd.s_l09Two_k λX=>?_
  repeat' first|simp -dsimp only[go_sem,cFd,da,db]|apply Br.mk<;>intro h<;>try simp -dsimp only[h]|refine aB.c (by first|exact dK a J.2 J.1|exact dK b L.2 L.1) ?_|refine aC ?_|fail
  all_goals simp_all [twV]
 cases fa:dZ fr to (bJ a)
 .refine fn0 Cd.s_l09Two_k λX=>?_
  repeat' first|simp -dsimp only[go_sem,cFd,da,db,fa]|apply Br.mk<;>intro h<;>try simp -dsimp only[h]|refine aB.c (by first|exact dK a J.2 J.1|exact dK b L.2 L.1|exact eZ a|exact eZ b|exact fA fr to (bJ a)|exact fA fr to (bJ b)) ?_|refine aC ?_|fail
  all_goals simp_all [twV]
 cases fb:dZ fr to (bJ b)
 .refine fn0 Cd.s_l09Two_k λX=>?_
  repeat' first|simp -dsimp only[go_sem,cFd,da,db,fa,fb]|apply Br.mk<;>intro h<;>try simp -dsimp only[h]|refine aB.c (by first|exact dK a J.2 J.1|exact dK b L.2 L.1|exact eZ a|exact eZ b|exact fA fr to (bJ a)|exact fA fr to (bJ b)) ?_|refine aC ?_|fail
  all_goals simp_all [twV]
 have Y:bA fr to a=if bV fr to a then 0 else 8:=by unfold bA;rw[da,fa];rfl
 have Z:bA fr to b=if bV fr to b then 0 else 8:=by unfold bA;rw[db,fb];rfl
 cases ca:bV fr to a<;>cases cb:bV fr to b
 .have H:bA fr to a=_:=Y;have I:bA fr to b=_:=Z;rw[ca] at H;rw[cb] at I;simp only[Bj,Bd,AR] at H I;have O:=jV a fr to J.2 J.1;have U:=jV b fr to L.2 L.1;simp only[nV,H,I,Bj,Bd,Int.reduceEq] at O U;refine fn0 Cd.s_l09Two_k λX=>?_;simp -dsimp only[go_sem,cFd,da,db,fa,fb]
  repeat' first|simp -dsimp only[go_sem,cFd,da,db,fa,fb,H,I]|apply Br.mk<;>intro h<;>try simp -dsimp only[h]|refine aB.c (by first|exact dK a J.2 J.1|exact dK b L.2 L.1|exact eZ a|exact eZ b|exact fA fr to (bJ a)|exact fA fr to (bJ b)|exact O|exact U) ?_|refine aC ?_|fail
  all_goals simp_all [twV,nV]
 .have H:bA fr to a=_:=Y;have I:bA fr to b=_:=Z;rw[ca] at H;rw[cb] at I;simp only[Bj,Bd,AR] at H I;have O:=jV a fr to J.2 J.1;have U:=jV b fr to L.2 L.1;simp only[nV,H,I,Bj,Bd,Int.reduceEq] at O U;refine fn0 Cd.s_l09Two_k λX=>?_;simp -dsimp only[go_sem,cFd,da,db,fa,fb]
  repeat' first|simp -dsimp only[go_sem,cFd,da,db,fa,fb,H,I]|apply Br.mk<;>intro h<;>try simp -dsimp only[h]|refine aB.c (by first|exact dK a J.2 J.1|exact dK b L.2 L.1|exact eZ a|exact eZ b|exact fA fr to (bJ a)|exact fA fr to (bJ b)|exact O|exact U) ?_|refine aC ?_|fail
  all_goals simp_all [twV,nV]
 .have H:bA fr to a=_:=Y;have I:bA fr to b=_:=Z;rw[ca] at H;rw[cb] at I;simp only[Bj,Bd,AR] at H I;have O:=jV a fr to J.2 J.1;have U:=jV b fr to L.2 L.1;simp only[nV,H,I,Bj,Bd,Int.reduceEq] at O U;refine fn0 Cd.s_l09Two_k λX=>?_;simp -dsimp only[go_sem,cFd,da,db,fa,fb]
  repeat' first|simp -dsimp only[go_sem,cFd,da,db,fa,fb,H,I]|apply Br.mk<;>intro h<;>try simp -dsimp only[h]|refine aB.c (by first|exact dK a J.2 J.1|exact dK b L.2 L.1|exact eZ a|exact eZ b|exact fA fr to (bJ a)|exact fA fr to (bJ b)|exact O|exact U) ?_|refine aC ?_|fail
  all_goals simp_all [twV,nV]
 .have H:bA fr to a=_:=Y;have I:bA fr to b=_:=Z;rw[ca] at H;rw[cb] at I;simp only[Bj,Bd,AR] at H I;have O:=jV a fr to J.2 J.1;have U:=jV b fr to L.2 L.1;simp only[nV,H,I,Bj,Bd,Int.reduceEq] at O U;refine fn0 Cd.s_l09Two_k λX=>?_;simp -dsimp only[go_sem,cFd,da,db,fa,fb]
  repeat' first|simp -dsimp only[go_sem,cFd,da,db,fa,fb,H,I]|apply Br.mk<;>intro h<;>try simp -dsimp only[h]|refine aB.c (by first|exact dK a J.2 J.1|exact dK b L.2 L.1|exact eZ a|exact eZ b|exact fA fr to (bJ a)|exact fA fr to (bJ b)|exact O|exact U) ?_|refine aC ?_|fail
  all_goals simp_all [twV,nV]
theorem aB1 (a b:List (List Int)) (fr to:Int) (I:aZ a) (J:aZ b):Fz F.nK [.sl 1 (E cC a),.sl 1 (E cC b),.agg (cFd fr to)] (.tup [mtV fr to a b,.v (.int .i64 (mtC fr to a b))]):=by
 by_cases H:iW fr to [a,b]=0
 rotate_left
 .have e1:(iW fr to [a,b] != 0)=true:=by simp[H]
  refine fn0 Cd.s_MatchDecks_k λX=>?_
  repeat' first|simp -dsimp only[go_sem,cFd,e1]|apply Br.mk<;>intro h<;>try simp -dsimp only[h]|refine aB.c (by first|exact aG9 a b fr to I J) ?_|refine aC ?_|fail
  all_goals simp[mtV,mtC,H]
 obtain⟨⟨da,db⟩,⟨fa,fb⟩,L,O⟩:=zQ H;have U:=dF da fa;have Y:=dF db fb;have va:twV fr to a b a=.sl 1 (E cSt (bS fr to a)):=by simp[twV,H]
 have vb:twV fr to a b b=.sl 1 (E cSt (bS fr to b)):=by simp[twV,H]
 have Z:=aB9 fr to a;have sb:=aB9 fr to b
 have CC:Fz F.sH [.sl 1 (E cC a),.sl 1 (E cC b),.agg (cFd fr to)] (.tup [.sl 1 (E cSt (bS fr to a)),.sl 1 (E cSt (bS fr to b)),.v (.int .i64 0)]):=by
  have h:=aG9 a b fr to I J;rw[va,vb,H] at h;exact h
 cases hs:gN fr to a&&gN fr to b
 .refine fn0 Cd.s_MatchDecks_k λX=>?_
  repeat' first|simp -dsimp only[go_sem,cFd,Z,sb]|apply Br.mk<;>intro h<;>try simp -dsimp only[h]|refine aB.c (by first|exact CC|exact zC a fr to U L I.1|exact zC b fr to Y O J.1) ?_|refine aC ?_|fail
  all_goals first|(simp_all [mtV,mtC];done)|(refine bN ?_;simp_all [mtV,mtC];done)
 have h1:gN fr to a=true:=by simp only[Av] at hs;exact hs.1
 have h2:gN fr to b=true:=by simp only[Av] at hs;exact hs.2
 rw[h1] at Z;rw[h2] at sb;refine fn0 Cd.s_MatchDecks_k λX=>?_;simp -dsimp only[go_sem,cFd,Z,sb]
 repeat' first|simp -dsimp only[go_sem,cFd,Z,sb,BZ,Bool.or_false,Di,Bh,Bz,Cv,Cn]|apply Br.mk<;>intro h<;>try simp -dsimp only[h]|refine aB.c (by first|exact CC|exact zC a fr to U L I.1|exact zC b fr to Y O J.1|exact aFY a b fr to I J.1 U Y L O|exact aFY b a fr to J I.1 Y U O L) ?_|refine aC ?_|fail
 all_goals (have hz:mtC fr to a b=0:=by simp[mtC,H,hs]
            have hv:mtV fr to a b=.sl 1 (E cD (mtL fr to a b)):=by simp[mtV,hz]
            rw[hz,hv]
            first|exact⟨_,_,rfl,rfl⟩|(refine bN rfl)|trace_state)
end
end Go.Proofs.YtkgeiaideklmoaaGreat
