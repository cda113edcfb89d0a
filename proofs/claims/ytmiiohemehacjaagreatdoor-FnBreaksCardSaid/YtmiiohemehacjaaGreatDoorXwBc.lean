/- Matched and other cards have the control totals of all; a list of control totals has no break with itself. -/
import Derived.Test.YtmiiohemehacjaaGreatDoorXwD
import Derived.Test.YtmiiohemehacjaaGreatDoorXwSm
set_option linter.all false
set_option maxHeartbeats 8000000
namespace Go.Proofs.YtmiiohemehacjaaGreatDoor
open Go.Vs
variable [Vs.Envs]
attribute [local irreducible] Vs.Fn chOK areCh chTo chAt l03 chB rk cd3 chI stp stpTo
def nSm (fr to:Int):List (List Int)->Int
 | []=>0
 |c::r=>(dQ fr to c).1+nSm fr to r
def dS (fr to:Int):List (List Int)->Int
 | []=>0
 |c::r=>(dsN (dQ fr to c).1.natAbs:Int)+dS fr to r
theorem aDp (n:Nat):dsN n<=n:=by
 induction n using Nat.strongRecOn with
 | _ n ih =>
  unfold dsN;split
  .omega
  .have:=ih (n/10) (by omega);omega
theorem aLU (fr to:Int) (l:List (List Int)):∀(s d:Int) (M:Int),(∀c,c∈l->okP fr to c∧(dQ fr to c).2=true)->(M=((1000-l.length:Nat):Int))->l.length<=1000->-(M*1000000000000)<=s->s<=M*1000000000000->0<=d->d<=M*1000000000000->uC fr to l s d=some (s+nSm fr to l,d+dS fr to l):=by
 induction l with
 |nil=>intro s d M _ _ _ _ _ _ _;simp[uC,nSm,dS]
 | cons c r ih =>
  intro s d M h u H U h2 V Y;obtain⟨G,F⟩:=h c (by simp);have b:=aCn G;have e:=aDp (dQ fr to c).1.natAbs;simp only[Aa] at H u;have k:M+1=((1000-r.length:Nat):Int):=by omega
  have k0:0<=M∧M<=1000:=by omega
  have I:=ih (s+(dQ fr to c).1) (d+(dsN (dQ fr to c).1.natAbs:Int)) (M+1) (λx J=>h x (by simp[J])) k (by omega);simp only[uC,nSm,dS];generalize(dQ fr to c).1=x at *
  generalize dsN x.natAbs=y at *
  clear u k ih h;have L:W (s+x)=s+x:=aM (by omega) (by omega);have O:W (d+(y:Int))=d+(y:Int):=aM (by omega) (by omega);rw[AY F,L,O,I (by omega) (by omega) (by omega) (by omega)];congr 2<;>omega
theorem aE1 {fr to:Int}{l:List (List Int)} (h:∀c,c∈l->okP fr to c∧(dQ fr to c).2=true) (u:l.length<=1000):bR fr to l=((l.length:Int),nSm fr to l,dS fr to l):=by
 unfold bR;rw[aLU fr to l 0 0 _ h rfl u (by omega) (by omega) (by omega) (by omega)];simp
theorem aFz {fr to:Int}{c:List Int}{r o:List (List Int)}{e:Bool}:mat fr to (c::r) o e=if uA fr to o c=e then c::mat fr to r o e else mat fr to r o e:=by
 unfold mat flt;rw[DC];cases h:uA fr to o c<;>cases e<;>simp[h]
theorem aHF (fr to k0 k1:Int) (o:List (List Int)):∀l:List (List Int),(mat k0 k1 l o true).length+(mat k0 k1 l o false).length=l.length∧nSm fr to (mat k0 k1 l o true)+nSm fr to (mat k0 k1 l o false)=nSm fr to l∧dS fr to (mat k0 k1 l o true)+dS fr to (mat k0 k1 l o false)=dS fr to l
 | []=>by simp[mat,flt,nSm,dS]
 | c::r=>by
  obtain⟨u,h2,F⟩:=aHF fr to k0 k1 o r;rw[aFz,aFz];cases h:uA k0 k1 o c
  .simp only[A8,Bg,Bt,Aa,nSm,dS];exact⟨by omega,by omega,by omega⟩
  .simp only[Bool.true_eq_false,Bg,Bt,Aa,nSm,dS];exact⟨by omega,by omega,by omega⟩
theorem aJX {fr to:Int}{l o:List (List Int)}{e:Bool}{c:List Int} (h:c∈mat fr to l o e):c∈l:=by
 unfold mat flt at h;exact(BN.1 h).1
theorem aIW {fr to k0 k1:Int}{a b:List (List Int)} (h:∀c,c∈a->okP fr to c∧(dQ fr to c).2=true) (F:a.length<=1000) :
  (bR fr to (mat k0 k1 a b true)).1+(bR fr to (mat k0 k1 a b false)).1=(bR fr to a).1∧(bR fr to (mat k0 k1 a b true)).2.1+(bR fr to (mat k0 k1 a b false)).2.1=(bR fr to a).2.1∧(bR fr to (mat k0 k1 a b true)).2.2+(bR fr to (mat k0 k1 a b false)).2.2=(bR fr to a).2.2:=by
 obtain⟨H,h2,G⟩:=aHF fr to k0 k1 b a;rw[aE1 h F,aE1 (λc u=>h c (aJX u)) (BJ (tC k0 k1 a b true) F),aE1 (λc u=>h c (aJX u)) (BJ (tC k0 k1 a b false) F)];exact⟨by simp only;omega,h2,G⟩
theorem aKy:∀(k n:Nat),n<10 ^ k->dsN n<=9*k
 | 0,n,h=>by
  have:n=0:=by simpa using h
  subst this;simp[vJ]
 | k+1,n,h=>by
  rw[Nat.pow_succ] at h;have:=aKy k (n/10) (by omega);rw[aHT n];omega
theorem aHV (fr to:Int):∀(l:List (List Int)) (m:Nat) (s d a b:Int),(∀c,c∈l->okP fr to c)->m+l.length<=40->-1000000000000*m<=s->s<=1000000000000*m->0<=d->d<=117*m->
  uC fr to l s d=some (a,b)->-40000000000000<=a∧a<=40000000000000∧0<=b∧b<=4680
 | [],m,s,d,a,b,_,hm,h1,h2,h3,h4,h=>by
  simp only[uC,Aj,AZ] at h;simp only[Ab] at hm;omega
 | c::r,m,s,d,a,b,hk,hm,h1,h2,h3,h4,h=>by
  simp only[Aa] at hm;have G:=hk c (by simp);have H:=aCn G;have J:=aKy 13 (dQ fr to c).1.natAbs (by omega);simp only[uC] at h;split at h
  .have u:W (s+(dQ fr to c).1)=s+(dQ fr to c).1:=aM (by omega) (by omega);have F:W (d+(dsN (dQ fr to c).1.natAbs:Int))=d+(dsN (dQ fr to c).1.natAbs:Int):=aM (by omega) (by omega);rw[u,F] at h;exact aHV fr to r (m+1) _ _ a b (λx I=>hk x (by simp[I])) (by omega) (by omega) (by omega) (by omega) (by omega) h
  .cases h
theorem aCD {fr to:Int}{l:List (List Int)} (u:∀c,c∈l->okP fr to c) (F:l.length<=40) :
  (0<=(bR fr to l).1∧(bR fr to l).1<=40)∧(-40000000000000<=(bR fr to l).2.1∧(bR fr to l).2.1<=40000000000000)∧(0<=(bR fr to l).2.2∧(bR fr to l).2.2<=4680):=by
 unfold bR;split
 .rename_i s d h;have:=aHV fr to l 0 0 0 s d u (by omega) (by omega) (by omega) (by omega) (by omega) h;simp only;omega
 .simp
theorem aAk {a b:Int}{k:Int} (G:0<=k∧k<=1000000000000000) (u:-k<=a∧a<=k) (F:-k<=b∧b<=k):IntKind.i64.wrap (a+IntKind.i64.wrap (1*b))=a+b:=by
 rw[aM (n:=1*b) (by omega) (by omega),Int.one_mul,aM (by omega) (by omega)]
end Go.Proofs.YtmiiohemehacjaaGreatDoor
