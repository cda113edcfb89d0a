/- Kinds and fields of calculations. -/
import Derived.Test.YtfoddghhlagenaaGreatDoorTwK
import Derived.Test.YtfoddghhlagenaaGreatDoorTuS
import Derived.Test.YtfoddghhlagenaaGreatDoorTuF
import Derived.Test.YtfoddghhlagenaaGreatDoorVtN
import Derived.Test.YtfoddghhlagenaaGreatDoorVsD
set_option linter.all false
set_option maxHeartbeats 8000000
namespace Go.Proofs.YtfoddghhlagenaaGreatDoor
open Go.Vs
section
variable [Vs.Envs]
attribute [local irreducible] Vs.Fn
def cFd (fr to:Int):List AV:=[.v (.int .i64 fr),.v (.int .i64 to)]
def dW (l:List (List Int)):Int:=if l.length=0 then 20 else((l.getD 0 []).length:Int)
theorem jC (l:List (List Int)):Fz F.jO [.sl 1 (E cC l)] (.v (.int .i64 (dW l))):=by
 refine fn0 Cd.s_l07Width_k λX=>?_
 simp -dsimp only[go_sem,cC]
 by_cases h0:l.length=0
 .have e1:((l.length:Int)==0)=true:=beq_iff_eq.2 (by omega)
  repeat' first|simp -dsimp only[go_sem,e1,cC]|apply Br.mk<;>intro h<;>try simp -dsimp only[h]|refine aC ?_|refine aC9 ?_|fail
  all_goals simp[dW,h0]
 .have e1:((l.length:Int)==0)=false:=beq_eq_false_iff_ne.2 (by omega)
  have h1:0<l.length:=by omega
  have g0:(E cC l).getD 0 []=[.sl 1 (E cI l[0])]:=bI h1
  have g1:l.getD 0 []=l[0]:=by simp[List.getD,h1]
  repeat' first|simp -dsimp only[go_sem,e1,g0,cC]|apply Br.mk<;>intro h<;>try simp -dsimp only[h]|refine aC ?_|refine aC9 ?_|fail
  all_goals simp_all [dW]
theorem eQ (l:List (List Int)):Fz F.fH [.sl 1 (E cC l)] (.v (.int .i64 (dW l))):=by
 refine fn0 Cd.i_deckColumns_k λX=>?_
 simp -dsimp only[go_sem,cC]
 by_cases h0:l.length=0
 .have e1:((l.length:Int)==0)=true:=beq_iff_eq.2 (by omega)
  repeat' first|simp -dsimp only[go_sem,e1,cC]|apply Br.mk<;>intro h<;>try simp -dsimp only[h]|refine aB.c (by first|exact eB l[0]) ?_|refine aC ?_|refine aC9 ?_|fail
  all_goals simp[dW,h0]
 .have e1:((l.length:Int)==0)=false:=beq_eq_false_iff_ne.2 (by omega)
  have h1:0<l.length:=by omega
  have g0:(E cC l).getD 0 []=[.sl 1 (E cI l[0])]:=bI h1
  have g1:l.getD 0 []=l[0]:=by simp[List.getD,h1]
  repeat' first|simp -dsimp only[go_sem,e1,g0,cC]|apply Br.mk<;>intro h<;>try simp -dsimp only[h]|refine aB.c (by first|exact eB l[0]) ?_|refine aC ?_|refine aC9 ?_|fail
  all_goals simp_all [dW]
def aL (fr to:Int) (c:List Int):Int×Bool:=kY ((c.take to.toNat).drop fr.toNat).dropLast (((c.take to.toNat).drop fr.toNat).getLastD 0)
def okP (fr to:Int) (c:List Int):Prop:=0<=fr∧fr<to∧to<=c.length∧to-fr<=12∧c.length<=20∧∀x,x∈c->0<=x∧x<=4095
theorem xC {fr to:Int}{c:List Int} (h:okP fr to c):∃u x,(c.take to.toNat).drop fr.toNat=u++[x]∧u.length+1<=12∧0<=x∧x<=4095∧aL fr to c=kY u x:=by
 obtain⟨h0,h1,h2,h3,h4,h5⟩:=h
 have hlen:((c.take to.toNat).drop fr.toNat).length=to.toNat-fr.toNat:=by simp;omega
 have hne:(c.take to.toNat).drop fr.toNat≠[]:=by intro e;rw[e] at hlen;simp at hlen;omega
 have hd:=List.dropLast_concat_getLast hne
 have hx:=h5 (((c.take to.toNat).drop fr.toNat).getLast hne) (List.mem_of_mem_take (List.mem_of_mem_drop (List.getLast_mem hne)))
 refine⟨_,_,hd.symm,?_,hx.1,hx.2,?_⟩
 .rw[List.length_dropLast,hlen];omega
 .unfold aL
  rw[List.getLastD_eq_getLast?,List.getLast?_eq_some_getLast hne]
  rfl
theorem wI {fr to:Int}{c:List Int} (h:okP fr to c):-1000000000000<=(aL fr to c).1∧(aL fr to c).1<=1000000000000:=by
 obtain⟨u,x,_,hu,_,_,hn⟩:=xC h
 rw[hn];exact aE7 u x hu
theorem qW {fr to:Int}{c:List Int} (h:okP fr to c):Fz F.eU [.agg (cC c),.agg (cFd fr to)] (.tup [.v (.int .i64 (aL fr to c).1),.v (.bool (aL fr to c).2)]):=by
 obtain⟨u,x,hp,hu,_,_,hn⟩:=xC h
 obtain⟨h0,h1,h2,h3,h4,h5⟩:=h
 rw[hn]
 exact aDN c fr to u x h0 (by omega) h2 hp hu
theorem oN {fr to:Int}{c:List Int} (h:okP fr to c):Fz F.dZ [.sl 1 (E cI ((c.take to.toNat).drop fr.toNat))] (.tup [.v (.int .i64 (aL fr to c).1),.v (.bool (aL fr to c).2)]):=by
 obtain⟨u,x,hp,hu,hx0,hx1,hn⟩:=xC h
 rw[hn,hp]
 exact aCR u x hx0 hx1 hu
theorem aBY {fr to:Int}{c:List Int} (h:okP fr to c):Fz F.gQ [.ro (cC c),.agg (cFd fr to)] (.sl 1 (E cI ((c.take to.toNat).drop fr.toNat))):=by
 obtain⟨h0,h1,h2,h3,h4,h5⟩:=h
 exact part c fr to h0 (by omega) h2
end
section
variable [Vs.Tab 0 Vs.powP]
attribute [local irreducible] Vs.Fn
theorem fK (n:Int):Fz F.jM [.v (.int .i64 n)] (.v (.bool (inB n (1) 4))):=by
 refine fn0 Cd.s_l14Kind_k λX=>?_
 repeat' first|simp -dsimp only[go_sem]|apply Br.mk<;>intro h<;>try simp -dsimp only[h]|refine aB.c (by first|exact xL _ _ _) ?_|refine aC ?_|refine aC9 ?_|fail
 all_goals(simp_all)
theorem aGh (n:Int):Fz F.qE [.v (.int .i64 n)] (.v (.bool (inB n (1) 4))):=by
 refine fn0 Cd.i_isCalc_k λX=>?_
 repeat' first|simp -dsimp only[go_sem]|apply Br.mk<;>intro h<;>try simp -dsimp only[h]|refine aB.c (by first|exact inside _ _ _) ?_|refine aC ?_|refine aC9 ?_|fail
 all_goals(simp_all)
theorem lN (n:Int):Fz F.fP [.v (.int .i64 n)] (.v (.bool (inB n (-999999) 999999))):=by
 refine fn0 Cd.s_l14Factor_k λX=>?_
 repeat' first|simp -dsimp only[go_sem]|apply Br.mk<;>intro h<;>try simp -dsimp only[h]|refine aB.c (by first|exact xL _ _ _) ?_|refine aC ?_|refine aC9 ?_|fail
 all_goals(simp_all)
theorem nT (n:Int):Fz F.iK [.v (.int .i64 n)] (.v (.bool (inB n (-999999) 999999))):=by
 refine fn0 Cd.i_isFactor_k λX=>?_
 repeat' first|simp -dsimp only[go_sem]|apply Br.mk<;>intro h<;>try simp -dsimp only[h]|refine aB.c (by first|exact inside _ _ _) ?_|refine aC ?_|refine aC9 ?_|fail
 all_goals(simp_all)
theorem nR (n:Int):Fz F.eH [.v (.int .i64 n)] (.v (.bool (inB n (-999999999999) 999999999999))):=by
 refine fn0 Cd.s_l14Number_k λX=>?_
 repeat' first|simp -dsimp only[go_sem]|apply Br.mk<;>intro h<;>try simp -dsimp only[h]|refine aB.c (by first|exact xL _ _ _) ?_|refine aC ?_|refine aC9 ?_|fail
 all_goals(simp_all)
theorem kJ (n:Int):Fz F.gD [.v (.int .i64 n)] (.v (.bool (inB n (-999999999999) 999999999999))):=by
 refine fn0 Cd.i_isNumber_k λX=>?_
 repeat' first|simp -dsimp only[go_sem]|apply Br.mk<;>intro h<;>try simp -dsimp only[h]|refine aB.c (by first|exact inside _ _ _) ?_|refine aC ?_|refine aC9 ?_|fail
 all_goals(simp_all)
theorem aGf (a b:Int):Fz F.kD [.v (.int .i64 a),.v (.int .i64 b)] (.v (.int .i64 (if a>b then a else b))):=by
 refine fn0 Cd.s_l00Max_k λX=>?_
 repeat' first|simp -dsimp only[go_sem]|apply Br.mk<;>intro h<;>try simp -dsimp only[h]|refine aC ?_|refine aC9 ?_|fail
 all_goals(first|(simp_all;done)|(simp_all;omega))
theorem aCa (n:Int) (h0:-9223372036854775807<=n) (h1:n<=9223372036854775807):Fz F.iR [.v (.int .i64 n)] (.v (.int .i64 (n.natAbs:Int))):=by
 have hw:IntKind.i64.wrap (0-n)=-n:=by rw[aG (by omega) (by omega)];omega
 have hm:(if n > -n then n else -n)=(n.natAbs:Int):=by split<;>omega
 refine fn0 Cd.s_l14Size_k λX=>?_
 simp -dsimp only[go_sem,hw]
 repeat' first|simp -dsimp only[go_sem,hw,hm]|apply Br.mk<;>intro h<;>try simp -dsimp only[h]|refine aB.c (by first|exact aGf _ _) ?_|refine aC ?_|refine aC9 ?_|fail
 all_goals simp_all
def pR (d:Nat) (n:Nat):Nat:=if h:n=0 then 0 else n%10*d%10+10*pR d (n/10)
termination_by n
decreasing_by omega
def pL (d:Nat) (n:Nat):Nat:=if h:n=0 then 0 else n%10*d/10+10*pL d (n/10)
termination_by n
decreasing_by omega
theorem aB0 (d:Nat):pR d 0=0:=by rw[pR,dif_pos rfl]
theorem aB1 (d:Nat):pL d 0=0:=by rw[pL,dif_pos rfl]
theorem aDI {d n:Nat} (h:n≠0):pR d n=n%10*d%10+10*pR d (n/10):=by rw[pR,dif_neg h]
theorem aDJ {d n:Nat} (h:n≠0):pL d n=n%10*d/10+10*pL d (n/10):=by rw[pL,dif_neg h]
theorem parts_eq (d n:Nat):pR d n+10*pL d n=n*d:=by
 induction n using Nat.strongRecOn with
 | _ n ih =>
  by_cases h:n=0
  .subst h;simp[aB0,aB1]
  .rw[aDI h,aDJ h]
   have e:=ih (n/10) (by omega)
   have e2:n*d=(n%10)*d+10*(n/10*d):=by
    conv=>lhs;rw[show n=n%10+10*(n/10) by omega,Nat.add_mul,Nat.mul_assoc]
   omega
theorem aAR (n d:Nat) (hn:n<=1000000) (hd:d<=9):Fz F.lW [.v (.int .i64 n),.v (.int .i64 d)] (.tup [.v (.int .i64 (pR d n:Nat)),.v (.int .i64 (pL d n:Nat))]):=by
 refine fn0 Cd.s_l14Parts_k λX=>?_
 simp -dsimp only[go_sem]
 refine bA.at dM (X:={zz:Nat×Nat×Nat×Nat // zz.2.1+zz.2.2.2*pR d zz.1=pR d n∧zz.2.2.1+zz.2.2.2*pL d zz.1=pL d n∧(zz.1≠0->zz.2.2.2*zz.1<=n)∧zz.1<=n}) (λzz=>[(0,.v (.int .i64 zz.1.1)),(6,.v (.int .i64 zz.1.2.1)),(7,.v (.int .i64 zz.1.2.2.1)),(8,.v (.int .i64 zz.1.2.2.2))]) (λ_=>[]) (λzz=>zz.1.1) ⟨(n,0,0,1),by simp⟩ ?_ ?_
 .exact le0
 .rintro⟨⟨m,r,q,p⟩,hr,hq,hp,hmn⟩
  dsimp only at hr hq hp hmn
  simp -dsimp only[go_sem]
  refine Br.mk (λhc=>?_) λhc=>?_
  .have hm:m≠0:=by simp at hc;omega
   have hpm:=hp hm
   have hpp:p<=n:=Nat.le_trans (Nat.le_mul_of_pos_right p (by omega)) hpm
   rw[aDI hm] at hr
   rw[aDJ hm] at hq
   have hdn:n*d<=9000000:=Nat.le_trans (Nat.mul_le_mul hn hd) (by omega)
   have hRn:pR d n<=9000000:=by have:=parts_eq d n;omega
   have hLn:pL d n<=9000000:=by have:=parts_eq d n;omega
   have hx:m%10*d<=81:=Nat.le_trans (Nat.mul_le_mul (by omega:m%10<=9) hd) (by omega)
   generalize hxx:m%10*d=x at *
   have hr2:r+x%10*p+p*10*pR d (m/10)=pR d n:=by
    rw[←hr,Nat.mul_add,Nat.mul_comm p (x%10),Nat.mul_assoc p 10];omega
   have hq2:q+x/10*p+p*10*pL d (m/10)=pL d n:=by
    rw[←hq,Nat.mul_add,Nat.mul_comm p (x/10),Nat.mul_assoc p 10];omega
   have hp2:m/10≠0->p*10*(m/10)<=n:=λ_=>Nat.le_trans (by rw[Nat.mul_assoc];exact Nat.mul_le_mul_left p (by omega)) hpm
   have e1:((m:Int)).tmod 10=((m%10:Nat):Int):=by rw[Int.tmod_eq_emod_of_nonneg (by omega)];omega
   have e2:IntKind.i64.wrap (((m%10:Nat):Int)*(d:Int))=(x:Int):=by rw[←Int.natCast_mul,hxx,aG (by omega) (by omega)]
   have e3:((x:Int)).tmod 10=((x%10:Nat):Int):=by rw[Int.tmod_eq_emod_of_nonneg (by omega)];omega
   have e4:IntKind.i64.wrap (((x%10:Nat):Int)*(p:Int))=((x%10*p:Nat):Int):=by rw[←Int.natCast_mul,aG (by omega) (by omega)]
   have e5:IntKind.i64.wrap ((r:Int)+((x%10*p:Nat):Int))=((r+x%10*p:Nat):Int):=by rw[←Int.natCast_add,aG (by omega) (by omega)]
   have e6:IntKind.i64.wrap (((x:Int)).tdiv 10)=((x/10:Nat):Int):=by rw[Int.tdiv_eq_ediv_of_nonneg (by omega),aG (by omega) (by omega)];omega
   have e7:IntKind.i64.wrap (((x/10:Nat):Int)*(p:Int))=((x/10*p:Nat):Int):=by rw[←Int.natCast_mul,aG (by omega) (by omega)]
   have e8:IntKind.i64.wrap ((q:Int)+((x/10*p:Nat):Int))=((q+x/10*p:Nat):Int):=by rw[←Int.natCast_add,aG (by omega) (by omega)]
   have e9:IntKind.i64.wrap ((p:Int)*10)=((p*10:Nat):Int):=by rw[aG (by omega) (by omega)];omega
   have e10:IntKind.i64.wrap (((m:Int)).tdiv 10)=((m/10:Nat):Int):=by rw[Int.tdiv_eq_ediv_of_nonneg (by omega),aG (by omega) (by omega)];omega
   repeat' first|simp -dsimp only[go_sem,e1,e2,e3,e4,e5,e6,e7,e8,e9,e10]|apply Br.mk<;>intro h<;>try simp -dsimp only[h]|refine aC ?_|refine aC9 ?_|fail
   all_goals exact⟨⟨(m/10,r+x%10*p,q+x/10*p,p*10),hr2,hq2,hp2,by dsimp only;omega⟩,by simp[Vs.LeL,Vs.look,Vs.aA,Vs.bL,Vs.aO,Vs.hset,Vs.aP],by simp only;omega⟩
  .have hm:m=0:=by simp at hc;omega
   subst hm
   rw[aB0] at hr
   rw[aB1] at hq
   simp -dsimp only[go_sem]
   have h1:r=pR d n:=by omega
   have h2:q=pL d n:=by omega
   simp[h1,h2]
def nzN (n:Nat):Nat:=if h:n=0 then 0 else(if n%10=0 then 0 else 1)+nzN (n/10)
termination_by n
decreasing_by omega
theorem tV:nzN 0=0:=by rw[nzN,dif_pos rfl]
theorem zU {n:Nat} (h:n≠0):nzN n=(if n%10=0 then 0 else 1)+nzN (n/10):=by rw[nzN,dif_neg h]
theorem aDK (n:Nat):nzN n<=n:=by
 induction n using Nat.strongRecOn with
 | _ n ih =>
  by_cases h:n=0
  .subst h;rw[tV];omega
  .rw[zU h]
   have:=ih (n/10) (by omega)
   split<;>omega
theorem aDY (a b:Nat) (ha:a<=999999) (hb:b<=999999):Fz F.lV [.v (.int .i64 a),.v (.int .i64 b)] (.tup [.v (.int .i64 (a*b:Nat)),.v (.int .i64 (1+nzN b:Nat))]):=by
 refine fn0 Cd.s_l14Times_k λX=>?_
 simp -dsimp only[go_sem]
 refine bA.at dM (X:={zz:Nat×Nat×Nat×Nat // zz.2.1+zz.2.2.1*(a*zz.1)=a*b∧zz.2.2.2+nzN zz.1=1+nzN b∧zz.1<=b∧(zz.1≠0->zz.2.2.1*zz.1<=b)}) (λzz=>[(1,.v (.int .i64 zz.1.1)),(6,.v (.int .i64 zz.1.2.1)),(7,.v (.int .i64 zz.1.2.2.1)),(8,.v (.int .i64 zz.1.2.2.2))]) (λ_=>[]) (λzz=>zz.1.1) ⟨(b,0,1,1),by simp⟩ ?_ ?_
 .exact le0
 .rintro⟨⟨m,s,p,c⟩,hs,hc2,hmb,hp⟩
  dsimp only at hs hc2 hmb hp
  simp -dsimp only[go_sem]
  refine Br.mk (λhc=>?_) λhc=>?_
  .have hm:m≠0:=by simp at hc;omega
   have hpm:=hp hm
   have hpb:p<=b:=Nat.le_trans (Nat.le_mul_of_pos_right p (by omega)) hpm
   have hab:a*b<=999998000001:=Nat.le_trans (Nat.mul_le_mul ha hb) (by omega)
   have hnb:=aDK b
   rw[zU hm] at hc2
   have hd:m%10<=9:=by omega
   have hpe:=parts_eq (m%10) a
   have had:a*(m%10)<=8999991:=Nat.le_trans (Nat.mul_le_mul ha hd) (by omega)
   generalize hR:pR (m%10) a=R at *
   generalize hL:pL (m%10) a=L at *
   have hRp:R*p<=8999991*999999:=Nat.mul_le_mul (by omega) (by omega)
   have hLp:L*p<=8999991*999999:=Nat.mul_le_mul (by omega) (by omega)
   have hstep:a*m=10*(a*(m/10))+a*(m%10):=by
    conv=>lhs;rw[show m=10*(m/10)+m%10 by omega,Nat.mul_add,Nat.mul_left_comm]
   have hs2:s+(R*p+L*p*10)+p*10*(a*(m/10))=a*b:=by
    rw[←hs,hstep,←hpe,Nat.mul_add,Nat.mul_add,Nat.mul_comm p R,Nat.mul_left_comm p 10 L,Nat.mul_comm p L,Nat.mul_assoc p 10];omega
   have hp2:m/10≠0->p*10*(m/10)<=b:=λ_=>Nat.le_trans (by rw[Nat.mul_assoc];exact Nat.mul_le_mul_left p (by omega)) hpm
   have e1:((m:Int)).tmod 10=((m%10:Nat):Int):=by rw[Int.tmod_eq_emod_of_nonneg (by omega)];omega
   have e4:IntKind.i64.wrap ((R:Int)*(p:Int))=((R*p:Nat):Int):=by rw[←Int.natCast_mul,aG (by omega) (by omega)]
   have e5:IntKind.i64.wrap ((L:Int)*(p:Int))=((L*p:Nat):Int):=by rw[←Int.natCast_mul,aG (by omega) (by omega)]
   have e6:IntKind.i64.wrap (((L*p:Nat):Int)*10)=((L*p*10:Nat):Int):=by rw[aG (by omega) (by omega)];omega
   have e7:IntKind.i64.wrap (((R*p:Nat):Int)+((L*p*10:Nat):Int))=((R*p+L*p*10:Nat):Int):=by rw[←Int.natCast_add,aG (by omega) (by omega)]
   have e8:IntKind.i64.wrap ((s:Int)+((R*p+L*p*10:Nat):Int))=((s+(R*p+L*p*10):Nat):Int):=by rw[←Int.natCast_add,aG (by omega) (by omega)]
   have e9:IntKind.i64.wrap ((p:Int)*10)=((p*10:Nat):Int):=by rw[aG (by omega) (by omega)];omega
   have e10:IntKind.i64.wrap (((m:Int)).tdiv 10)=((m/10:Nat):Int):=by rw[Int.tdiv_eq_ediv_of_nonneg (by omega),aG (by omega) (by omega)];omega
   have e11:IntKind.i64.wrap ((c:Int)+1)=((c+1:Nat):Int):=by rw[aG (by omega) (by omega)];omega
   by_cases hz:m%10=0
   .have hg:decide (((m%10:Nat):Int)>0)=false:=by simp;omega
    rw[if_pos hz] at hc2
    repeat' first|simp -dsimp only[go_sem,e1,e4,e5,e6,e7,e8,e9,e10,e11,hg]|apply Br.mk<;>intro h<;>try simp -dsimp only[h]|refine aB.c (by first|exact by have h:=aAR a (m%10) (by omega) (by omega);rw[hR,hL] at h;exact h) ?_|refine aC ?_|refine aC9 ?_|fail
    all_goals exact⟨⟨(m/10,s+(R*p+L*p*10),p*10,c),hs2,by dsimp only;omega,by dsimp only;omega,hp2⟩,by simp[Vs.LeL,Vs.look,Vs.aA,Vs.bL,Vs.aO,Vs.hset,Vs.aP],by simp only;omega⟩
   .have hg:decide (((m%10:Nat):Int)>0)=true:=by simp;omega
    rw[if_neg hz] at hc2
    repeat' first|simp -dsimp only[go_sem,e1,e4,e5,e6,e7,e8,e9,e10,e11,hg]|apply Br.mk<;>intro h<;>try simp -dsimp only[h]|refine aB.c (by first|exact by have h:=aAR a (m%10) (by omega) (by omega);rw[hR,hL] at h;exact h) ?_|refine aC ?_|refine aC9 ?_|fail
    all_goals exact⟨⟨(m/10,s+(R*p+L*p*10),p*10,c+1),hs2,by dsimp only;omega,by dsimp only;omega,hp2⟩,by simp[Vs.LeL,Vs.look,Vs.aA,Vs.bL,Vs.aO,Vs.hset,Vs.aP],by simp only;omega⟩
  .have hm:m=0:=by simp at hc;omega
   subst hm
   rw[tV] at hc2
   simp -dsimp only[go_sem]
   have h1:s=a*b:=by simpa using hs
   have h2:c=1+nzN b:=by omega
   simp[h1,h2]
theorem aFG:∀(k n:Nat),n<10 ^ k->n<2 ^ 63->((wl k (n:Int)).countP λx=>x != 0)=nzN n
 | 0,n,h,_=>by
  have:n=0:=by simpa using h
  subst this;simp[wl,tV]
 | k+1,n,h,h2=>by
  rw[aDf h2,List.countP_cons]
  have ih:=aFG k (n/10) (by rw[Nat.pow_succ] at h;omega) (by omega)
  rw[ih]
  by_cases h0:n=0
  .subst h0;simp[tV]
  .rw[zU h0]
   by_cases hz:n%10=0
   .simp[hz]
   .have h3:(((n%10:Nat):Int) != 0)=true:=bne_iff_ne.2 (by omega)
    rw[if_neg hz]
    simp only[h3,reduceIte];omega
def aAe (a b:Int):Bool:=inB a (-999999) 999999&&inB b (-999999) 999999
def uQ (a b:Int):Int×Int×Int:=if aAe a b then(a*b,((1+nzN b.natAbs:Nat):Int),0) else(0,0,2)
def cT3 (x:Int×Int×Int):List AV:=[.v (.int .i64 x.1),.v (.int .i64 x.2.1),.v (.int .i64 x.2.2)]
theorem qH {a:Int} (h:inB a (-999999) 999999=true):-999999<=a∧a<=999999:=by
 simp only[inB,Bool.and_eq_true,decide_eq_true_eq] at h;omega
theorem zX (a b:Int):a*b=if(decide (a<0) != decide (b<0))=true then -((a.natAbs*b.natAbs:Nat):Int) else((a.natAbs*b.natAbs:Nat):Int):=by
 rw[Int.natCast_mul]
 by_cases ha:a<0<;>by_cases hb:b<0
 .have e1:(a.natAbs:Int)=-a:=by omega
  have e2:(b.natAbs:Int)=-b:=by omega
  simp[ha,hb,e1,e2,Int.neg_mul,Int.mul_neg]
 .have e1:(a.natAbs:Int)=-a:=by omega
  have e2:(b.natAbs:Int)=b:=by omega
  simp[ha,hb,e1,e2,Int.neg_mul,Int.mul_neg]
 .have e1:(a.natAbs:Int)=a:=by omega
  have e2:(b.natAbs:Int)=-b:=by omega
  simp[ha,hb,e1,e2,Int.neg_mul,Int.mul_neg]
 .have e1:(a.natAbs:Int)=a:=by omega
  have e2:(b.natAbs:Int)=b:=by omega
  simp[ha,hb,e1,e2,Int.neg_mul,Int.mul_neg]
theorem wS (a b:Int):Fz F.kE [.v (.int .i64 a),.v (.int .i64 b)] (.tup (cT3 (uQ a b))):=by
 refine fn0 Cd.s_ProductBy_k λX=>?_
 simp -dsimp only[go_sem]
 cases ha:inB a (-999999) 999999 with
 | false =>
  repeat' first|simp -dsimp only[go_sem,ha]|apply Br.mk<;>intro h<;>try simp -dsimp only[h]|refine aB.c (by first|exact lN _) ?_|refine aC ?_|refine aC9 ?_|fail
  all_goals simp[uQ,aAe,ha,cT3]
 | true =>
  cases hb:inB b (-999999) 999999 with
  | false =>
   repeat' first|simp -dsimp only[go_sem,ha,hb]|apply Br.mk<;>intro h<;>try simp -dsimp only[h]|refine aB.c (by first|exact lN _) ?_|refine aC ?_|refine aC9 ?_|fail
   all_goals simp[uQ,aAe,ha,hb,cT3]
  | true =>
   have ga:=qH ha
   have gb:=qH hb
   have hab:a.natAbs*b.natAbs<=999999*999999:=Nat.mul_le_mul (by omega) (by omega)
   have hw:IntKind.i64.wrap (0-((a.natAbs*b.natAbs:Nat):Int))=-((a.natAbs*b.natAbs:Nat):Int):=by rw[aG (by omega) (by omega)];omega
   have hm:=zX a b
   cases hs:(decide (a<0) != decide (b<0))
   all_goals
    rw[hs] at hm
    have hs2:=hs
    simp only[bne] at hs2
    repeat' first|simp -dsimp only[go_sem,ha,hb,hs2,hw]|apply Br.mk<;>intro h<;>try simp -dsimp only[h]|refine aB.c (by first|exact lN _|exact aCa _ (by omega) (by omega)|exact aDY a.natAbs b.natAbs (by omega) (by omega)) ?_|refine aC ?_|refine aC9 ?_|fail
    all_goals simp[uQ,aAe,ha,hb,cT3,hm]
theorem jE (a b:Int):Fz F.kL [.v (.int .i64 a),.v (.int .i64 b)] (.tup (cT3 (uQ a b))):=by
 refine fn0 Cd.i_ProductBy_k λX=>?_
 simp -dsimp only[go_sem]
 cases ha:inB a (-999999) 999999 with
 | false =>
  repeat' first|simp -dsimp only[go_sem,ha]|apply Br.mk<;>intro h<;>try simp -dsimp only[h]|refine aB.c (by first|exact nT _) ?_|refine aC ?_|refine aC9 ?_|fail
  all_goals simp[uQ,aAe,ha,cT3]
 | true =>
  cases hb:inB b (-999999) 999999 with
  | false =>
   repeat' first|simp -dsimp only[go_sem,ha,hb]|apply Br.mk<;>intro h<;>try simp -dsimp only[h]|refine aB.c (by first|exact nT _) ?_|refine aC ?_|refine aC9 ?_|fail
   all_goals simp[uQ,aAe,ha,hb,cT3]
  | true =>
   have ga:=qH ha
   have gb:=qH hb
   have hk:=oK (n:=b.natAbs) (by omega)
   have hnz:=aFG (Lib.nDigits b.natAbs) b.natAbs (Lib.lt_pow_nDigits _) (by omega)
   have hlen:=nK (Lib.nDigits b.natAbs) b.natAbs
   have hnl:=aDK b.natAbs
   have hw:IntKind.i64.wrap (a*b)=a*b:=by
    have hab:a.natAbs*b.natAbs<=999999*999999:=Nat.mul_le_mul (by omega) (by omega)
    have:=zX a b
    split at this<;>exact aG (by omega) (by omega)
   have hd:=uZ b (by omega) (by omega)
   generalize wl (Lib.nDigits b.natAbs) b.natAbs=l at *
   repeat' first|simp -dsimp only[go_sem,ha,hb]|apply Br.mk<;>intro h<;>try simp -dsimp only[h]|refine aB.c (by first|exact nT _|exact hd) ?_|refine aC ?_|refine aC9 ?_|fail
   refine bA.at dM (X:={zz:Nat×(Nat) // zz.1<=l.length∧zz.2+(l.drop zz.1).countP (λx=>x != 0)=1+nzN b.natAbs}) (λzz=>[(21,.v (.int .i64 zz.1.1)),(7,.v (.int .i64 (zz.1.2:Nat)))]) (λzz=>[]) (λzz=>l.length-zz.1.1) ⟨(0,1),by omega,by simp[hnz]⟩ ?_ ?_
   .exact le0
   .rintro⟨⟨i,c⟩,hi,hg⟩
    dsimp only at hi hg
    simp -dsimp only[go_sem,hw]
    refine Br.mk (λhc=>?_) λhc=>?_
    .have hlt:i<l.length:=Dq
     have hwi:=aQ hlt (by omega)
     have hcs:=List.countP_le_length (p:=λx:Int=>x != 0) (l:=l.drop (i+1))
     rw[List.drop_eq_getElem_cons hlt,List.countP_cons] at hg
     have hwc:IntKind.i64.wrap ((c:Int)+1)=((c+1:Nat):Int):=by rw[aG (by omega) (by omega)];omega
     cases hz:(l[i] != 0)
     .rw[hz] at hg
      simp only[Bool.false_eq_true,if_false] at hg
      repeat' first|simp -dsimp only[go_sem,jI hlt,hwi,hz,hwc,hwi]|apply Br.mk<;>intro h<;>try simp -dsimp only[h]|refine aC ?_|refine aC9 ?_|fail
      all_goals(exact nx (i+1,c) (by dsimp only;omega))
     .rw[hz] at hg
      simp only[if_true] at hg
      repeat' first|simp -dsimp only[go_sem,jI hlt,hwi,hz,hwc,hwi]|apply Br.mk<;>intro h<;>try simp -dsimp only[h]|refine aC ?_|refine aC9 ?_|fail
      all_goals(exact nx (i+1,c+1) (by dsimp only;omega))
    .have hge:i=l.length:=by
      have:¬i<l.length:=Dq
      omega
     subst hge
     simp -dsimp only[go_sem,hw]
     rw[List.drop_length,List.countP_nil] at hg
     have hc1:c=1+nzN b.natAbs:=by omega
     simp[uQ,aAe,ha,hb,cT3,hc1]
end
section
variable [Vs.Tab 0 Vs.powP]
attribute [local irreducible] Vs.Fn
theorem aFk (q d:Nat) (h:d<=9):dsN (10*q+d)=d+dsN q:=by
 rw[aCj]
 have e1:(10*q+d)%10=d:=by omega
 have e2:(10*q+d)/10=q:=by omega
 rw[e1,e2]
def pwN:Nat->Nat
 |0=>0
 |i+1=>10 ^ i
theorem nDig {n k:Nat} (h1:k=0∨10 ^ k<=n) (h2:n<10 ^ (k+1)):Lib.nDigits n=k+1:=by
 rcases h1 with rfl|h1
 .exact Lib.nDigits_small (by simpa using h2)
 .exact Lib.nDigits_unique k n h1 h2
theorem rT (i:Nat):10 ^ (i+1)=10 ^ i*10:=Nat.pow_succ ..
theorem aCQ (a b:Nat) (ha:a<=999999999999) (hb0:0<b) (hb:b<=999999):Fz F.kC [.v (.int .i64 a),.v (.int .i64 b)] (.tup [.v (.int .i64 (a/b:Nat)),.v (.int .i64 (a%b:Nat)),.v (.int .i64 (dsN (a/b)+Lib.nDigits (a/b):Nat))]):=by
 have hQ:a/b<=a:=Nat.div_le_self a b
 have e0:(a:Int).tdiv b=((a/b:Nat):Int):=by rw[Int.tdiv_eq_ediv_of_nonneg (by omega)];simp
 have hdl:∀c,a/b<c->a<c*b:=λc h=>(Nat.div_lt_iff_lt_mul hb0).1 h
 have hfin:∀r q,r+q*b=a->r<b->q=a/b∧r=a%b:=λr q h h2=>by
  subst h
  rw[Nat.add_mul_div_right _ _ hb0,Nat.add_mul_mod_self_right,Nat.div_eq_of_lt h2,Nat.mod_eq_of_lt h2]
  omega
 have hbQ:b*(a/b)<=a:=Nat.mul_div_le a b
 generalize a/b=Q at *
 generalize a%b=R at *
 have e1:IntKind.i64.wrap ((a:Int).tdiv b)=(Q:Int):=by
  rw[e0,aG (by omega) (by omega)]
 have hbz:(b:Int)≠0:=by omega
 refine fn0 Cd.s_l14Divide_k λX=>?_
 simp -dsimp only[go_sem]
 refine bA.at dM (X:={k:Nat // (k=0∨10 ^ k<=Q)∧k<=12}) (λk=>[(7,.v (.int .i64 ((10 ^ k.1:Nat):Int)))]) (λ_=>[]) (λk=>13-k.1) ⟨0,.inl rfl,by omega⟩ ?_ ?_
 .exact le0
 .rintro⟨k,hk,hk12⟩
  have hk:k=0∨10 ^ k<=Q:=hk
  have hk12:k<=12:=hk12
  have hp12:10 ^ k<=10 ^ 12:=Nat.pow_le_pow_right (by omega) hk12
  have hps:=rT k
  have e2:IntKind.i64.wrap (10*((10 ^ k:Nat):Int))=((10 ^ (k+1):Nat):Int):=by rw[aG (by omega) (by omega)];omega
  have e3:IntKind.i64.wrap (((10 ^ k:Nat):Int)*10)=((10 ^ (k+1):Nat):Int):=by rw[aG (by omega) (by omega)];omega
  by_cases hc:10 ^ (k+1)<=Q
  .have hd:decide ((Q:Int)≥((10 ^ (k+1):Nat):Int))=true:=decide_eq_true (by omega)
   have hk13:k+1<=12:=by
    rcases Nat.lt_or_ge k 12 with h|h
    .omega
    .have:10 ^ 13<=10 ^ (k+1):=Nat.pow_le_pow_right (by omega) (by omega)
     omega
   repeat' first|simp -dsimp only[go_sem,e1,e2,e3,hd]|apply Br.mk<;>intro h<;>try simp -dsimp only[h]|refine RgK.mk rfl ?_|refine And.intro (by first|rfl|omega|decide|exact hbz|(refine⟨?_,?_⟩<;>(first|rfl|omega|decide|exact hbz))|(refine⟨?_,?_,?_⟩<;>(first|rfl|omega|decide|exact hbz))|(refine⟨?_,?_,?_,?_⟩<;>(first|rfl|omega|decide|exact hbz))) ?_|fail
   all_goals exact⟨⟨k+1,.inr hc,hk13⟩,by simp[Vs.LeL,Vs.look,Vs.aA,Vs.bL,Vs.aO,Vs.hset,Vs.aP],by simp only;omega⟩
  .have hd:decide ((Q:Int)≥((10 ^ (k+1):Nat):Int))=false:=decide_eq_false (by omega)
   have hnd:=nDig hk (by omega)
   have hA:a<10 ^ (k+1)*b:=hdl _ (by omega)
   repeat' first|simp -dsimp only[go_sem,e1,e2,e3,hd]|apply Br.mk<;>intro h<;>try simp -dsimp only[h]|refine RgK.mk rfl ?_|refine And.intro (by first|rfl|omega|decide|exact hbz|(refine⟨?_,?_⟩<;>(first|rfl|omega|decide|exact hbz))|(refine⟨?_,?_,?_⟩<;>(first|rfl|omega|decide|exact hbz))|(refine⟨?_,?_,?_,?_⟩<;>(first|rfl|omega|decide|exact hbz))) ?_|fail
   refine And.intro ?_ (by simp)
   refine bA.at dM (X:={zz:Nat×Nat×Nat // zz.1<=k+1∧zz.2.1+zz.2.2*(10 ^ zz.1*b)=a∧zz.2.1<10 ^ zz.1*b}) (λzz=>[(0,.v (.int .i64 zz.1.2.1)),(7,.v (.int .i64 (pwN zz.1.1:Nat))),(8,.v (.int .i64 zz.1.2.2)),(9,.v (.int .i64 (dsN zz.1.2.2+(k+1-zz.1.1):Nat)))]) (λ_=>[]) (λzz=>zz.1.1) ⟨(k+1,a,0),by omega,by simp,hA⟩ ?_ ?_
   .simp[Vs.LeL,Vs.look,Vs.aA,Vs.bL,Vs.aO,Vs.hset,Vs.aP,pwN,uG]
   .rintro⟨⟨j,r,q⟩,hj,hr,hrl⟩
    dsimp only at hj hr hrl
    simp -dsimp only[go_sem]
    refine Br.mk (λhcj=>?_) λhcj=>?_
    .obtain⟨i,rfl⟩:∃i,j=i+1:=by
      cases j with
      |zero=>simp[pwN] at hcj
      |succ i=>exact⟨i,rfl⟩
     have hPk:10 ^ i<=10 ^ k:=Nat.pow_le_pow_right (by omega) (by omega)
     have hP0:0<10 ^ i:=Nat.pow_pos (by omega)
     rw[rT i] at hr hrl
     generalize hP:10 ^ i=p at *
     have hbp:0<b*p:=Nat.mul_pos hb0 hP0
     have hds:=Nat.div_add_mod r (b*p)
     have hml:=Nat.mod_lt r hbp
     generalize hd:r/(b*p)=d at *
     have hd9:d<=9:=by
      have:d<10:=by rw[←hd];exact(Nat.div_lt_iff_lt_mul hbp).2 (by rw[Nat.mul_comm b p,←Nat.mul_assoc,Nat.mul_comm 10 p];exact hrl)
      omega
     have hz:b*p<=999999999999:=by
      rcases hk with h0|h0
      .subst h0
       have:i=0:=by omega
       subst this
       rw[←hP];omega
      .exact Nat.le_trans (Nat.mul_le_mul_left b (Nat.le_trans hPk h0)) (by omega)
     have hqa:q<=a:=by
      have h3:0<p*10*b:=Nat.mul_pos (by omega) hb0
      have:=Nat.le_mul_of_pos_right q h3
      omega
     have hdb:d*b<=9*999999:=Nat.mul_le_mul hd9 hb
     have hdbp:d*b*p=b*p*d:=by rw[Nat.mul_assoc,Nat.mul_comm]
     have hr2:p*10*b=10*(b*p):=by rw[Nat.mul_comm b p,Nat.mul_comm p 10,Nat.mul_assoc]
     rw[hr2] at hr hrl
     have hcyc:=aFk q d hd9
     have hdq:=aBz q
     have f2:(r:Int).tdiv ((b*p:Nat):Int)=(d:Int):=by rw[Int.tdiv_eq_ediv_of_nonneg (by omega),←hd];simp
     generalize hzz:b*p=z at *
     have f1:IntKind.i64.wrap ((b:Int)*(p:Int))=(z:Int):=by rw[←Int.natCast_mul,hzz,aG (by omega) (by omega)]
     have f3:IntKind.i64.wrap (d:Int)=(d:Int):=aG (by omega) (by omega)
     have f4:IntKind.i64.wrap ((d:Int)*(b:Int))=((d*b:Nat):Int):=by rw[←Int.natCast_mul,aG (by omega) (by omega)]
     have f5:IntKind.i64.wrap (((d*b:Nat):Int)*(p:Int))=((z*d:Nat):Int):=by rw[←Int.natCast_mul,hdbp,aG (by omega) (by omega)]
     have f6:IntKind.i64.wrap ((r:Int)-((z*d:Nat):Int))=((r%z:Nat):Int):=by rw[aG (by omega) (by omega)];omega
     have f7:IntKind.i64.wrap (10*(q:Int))=((10*q:Nat):Int):=by rw[aG (by omega) (by omega)];omega
     have f8:IntKind.i64.wrap (((10*q:Nat):Int)+(d:Int))=((10*q+d:Nat):Int):=by rw[aG (by omega) (by omega)];omega
     have f9:IntKind.i64.wrap ((d:Int)+1)=((d+1:Nat):Int):=by rw[aG (by omega) (by omega)];omega
     have f10:IntKind.i64.wrap (((dsN q+(k+1-(i+1)):Nat):Int)+((d+1:Nat):Int))=((dsN (10*q+d)+(k+1-i):Nat):Int):=by rw[aG (by omega) (by omega)];omega
     have f11:IntKind.i64.wrap (((p:Nat):Int).tdiv 10)=((pwN i:Nat):Int):=by
      rw[Int.tdiv_eq_ediv_of_nonneg (by omega),aG (by omega) (by omega)]
      cases i with
      |zero=>simp at hP;subst hP;rfl
      |succ i=>rw[rT] at hP;simp only[pwN];omega
     have hpw:pwN (i+1)=p:=hP
     have hzz2:(z:Int)≠0:=by omega
     have hinv:r%z+(10*q+d)*(10 ^ i*b)=a:=by
      rw[hP,Nat.mul_comm p b,hzz,Nat.add_mul,Nat.mul_comm d z,Nat.mul_comm 10 q,Nat.mul_assoc q 10 z];omega
     have hinv2:r%z<10 ^ i*b:=by rw[hP,Nat.mul_comm p b,hzz];exact hml
     repeat' first|simp -dsimp only[go_sem,hpw,f1,f2,f3,f4,f5,f6,f7,f8,f9,f10,f11]|apply Br.mk<;>intro h<;>try simp -dsimp only[h]|refine RgK.mk rfl ?_|refine And.intro (by first|rfl|omega|decide|exact hzz2|(refine⟨?_,?_⟩<;>(first|rfl|omega|decide|exact hzz2))|(refine⟨?_,?_,?_⟩<;>(first|rfl|omega|decide|exact hzz2))|(refine⟨?_,?_,?_,?_⟩<;>(first|rfl|omega|decide|exact hzz2))) ?_|fail
     all_goals exact⟨⟨(i,r%z,10*q+d),by dsimp only;omega,hinv,hinv2⟩,by simp[Vs.LeL,Vs.look,Vs.aA,Vs.bL,Vs.aO,Vs.hset,Vs.aP],by simp only;omega⟩
    .have hj0:j=0:=by
      cases j with
      |zero=>rfl
      | succ i =>
       have hP0:0<10 ^ i:=Nat.pow_pos (by omega)
       have h4:((10 ^ i:Nat):Int)>0:=Int.natCast_pos.2 hP0
       exact absurd h4 (of_decide_eq_false hcj)
     subst hj0
     rw[Nat.pow_zero,Nat.one_mul] at hr hrl
     obtain⟨h1,h2⟩:=hfin r q hr hrl
     simp -dsimp only[go_sem]
     simp[h1,h2,hnd]
def nrB (a b:Int):Bool:=inB a (-999999999999) 999999999999&&inB b (-999999) 999999
def mE (a b:Int):Int×Int×Int×Int:=
 if nrB a b then(if b=0 then(0,0,0,6) else(a.tdiv b,a.tmod b,((dsN (a.tdiv b).natAbs+Lib.nDigits (a.tdiv b).natAbs:Nat):Int),0)) else(0,0,0,2)
def cT4 (x:Int×Int×Int×Int):List AV:=[.v (.int .i64 x.1),.v (.int .i64 x.2.1),.v (.int .i64 x.2.2.1),.v (.int .i64 x.2.2.2)]
theorem aDP {a:Int} (h:inB a (-999999999999) 999999999999=true):-999999999999<=a∧a<=999999999999:=by
 simp only[inB,Bool.and_eq_true,decide_eq_true_eq] at h;omega
theorem aAj (a b:Int):(a.tdiv b).natAbs=a.natAbs/b.natAbs∧a.tdiv b=(if(decide (a<0) != decide (b<0))=true then -((a.natAbs/b.natAbs:Nat):Int) else((a.natAbs/b.natAbs:Nat):Int))∧a.tmod b=(if a<0 then -((a.natAbs%b.natAbs:Nat):Int) else((a.natAbs%b.natAbs:Nat):Int)):=by
 refine⟨Int.natAbs_tdiv a b,?_,?_⟩
 .by_cases ha:a<0<;>by_cases hb:b<0
  .obtain⟨m,rfl⟩:∃m:Nat,a=-(m:Int):=⟨a.natAbs,by omega⟩
   obtain⟨n,rfl⟩:∃n:Nat,b=-(n:Int):=⟨b.natAbs,by omega⟩
   have hm:0<m:=by omega
   have hn:0<n:=by omega
   simp[hm,hn,Int.tdiv_neg,Int.neg_tdiv]
  .obtain⟨m,rfl⟩:∃m:Nat,a=-(m:Int):=⟨a.natAbs,by omega⟩
   obtain⟨n,rfl⟩:∃n:Nat,b=(n:Int):=⟨b.natAbs,by omega⟩
   have hm:m≠0:=by omega
   simp[hb,hm,Int.neg_tdiv]
  .obtain⟨m,rfl⟩:∃m:Nat,a=(m:Int):=⟨a.natAbs,by omega⟩
   obtain⟨n,rfl⟩:∃n:Nat,b=-(n:Int):=⟨b.natAbs,by omega⟩
   have hn:n≠0:=by omega
   simp[ha,hn,Int.tdiv_neg]
  .obtain⟨m,rfl⟩:∃m:Nat,a=(m:Int):=⟨a.natAbs,by omega⟩
   obtain⟨n,rfl⟩:∃n:Nat,b=(n:Int):=⟨b.natAbs,by omega⟩
   simp[ha,hb]
 .by_cases ha:a<0
  .obtain⟨m,rfl⟩:∃m:Nat,a=-(m:Int):=⟨a.natAbs,by omega⟩
   have hm:0<m:=by omega
   rcases Int.natAbs_eq b with h|h<;>rw[h]<;>simp[hm,Int.neg_tmod,Int.tmod_neg,Int.tmod_eq_emod_of_nonneg (Int.natCast_nonneg m)]
  .obtain⟨m,rfl⟩:∃m:Nat,a=(m:Int):=⟨a.natAbs,by omega⟩
   rcases Int.natAbs_eq b with h|h<;>rw[h]<;>simp[ha,Int.tmod_neg,Int.tmod_eq_emod_of_nonneg (Int.natCast_nonneg m)]
end
section
variable [Vs.Tab 0 Vs.powP]
attribute [local irreducible] Vs.Fn
theorem vZ (a b:Int):Fz F.iY [.v (.int .i64 a),.v (.int .i64 b)] (.tup (cT4 (mE a b))):=by
 refine fn0 Cd.s_QuotientBy_k λX=>?_
 simp -dsimp only[go_sem]
 cases ha:inB a (-999999999999) 999999999999 with
 | false =>
  repeat' first|simp -dsimp only[go_sem,ha]|apply Br.mk<;>intro h<;>try simp -dsimp only[h]|refine aB.c (by first|exact nR _) ?_|refine aC ?_|refine aC9 ?_|fail
  all_goals simp[mE,nrB,ha,cT4]
 | true =>
  cases hb:inB b (-999999) 999999 with
  | false =>
   repeat' first|simp -dsimp only[go_sem,ha,hb]|apply Br.mk<;>intro h<;>try simp -dsimp only[h]|refine aB.c (by first|exact nR _|exact lN _) ?_|refine aC ?_|refine aC9 ?_|fail
   all_goals simp[mE,nrB,ha,hb,cT4]
  | true =>
   have ga:=aDP ha
   have gb:=qH hb
   by_cases hz:b=0
   .have ez:(b==0)=true:=beq_iff_eq.2 hz
    have hT:mE a b=(0,0,0,6):=by unfold mE nrB;rw[ha,hb];simp[hz]
    repeat' first|simp -dsimp only[go_sem,ha,hb,ez]|apply Br.mk<;>intro h<;>try simp -dsimp only[h]|refine aB.c (by first|exact nR _|exact lN _) ?_|refine aC ?_|refine aC9 ?_|fail
    all_goals simp[hT,cT4]
   .have ez:(b==0)=false:=beq_eq_false_iff_ne.2 hz
    obtain⟨d1,d2,d3⟩:=aAj a b
    have hle:=Nat.div_le_self a.natAbs b.natAbs
    have hml:a.natAbs%b.natAbs<=a.natAbs:=Nat.mod_le _ _
    have hw1:IntKind.i64.wrap (0-((a.natAbs/b.natAbs:Nat):Int))=-((a.natAbs/b.natAbs:Nat):Int):=by
     generalize a.natAbs/b.natAbs=q at *
     rw[aG (by omega) (by omega)];omega
    have hw2:IntKind.i64.wrap (0-((a.natAbs%b.natAbs:Nat):Int))=-((a.natAbs%b.natAbs:Nat):Int):=by
     generalize a.natAbs%b.natAbs=q at *
     rw[aG (by omega) (by omega)];omega
    have hD:=aCQ a.natAbs b.natAbs (by omega) (by omega) (by omega)
    have hT:mE a b=(a.tdiv b,a.tmod b,((dsN (a.tdiv b).natAbs+Lib.nDigits (a.tdiv b).natAbs:Nat):Int),0):=by unfold mE nrB;rw[ha,hb];simp[hz]
    by_cases hA:a<0<;>by_cases hB:b<0
    all_goals
     simp only[hA,hB,decide_true,decide_false,bne_self_eq_false,Bool.false_eq_true,if_false,if_true,Bool.true_bne,Bool.false_bne,Bool.not_true,Bool.not_false] at d2 d3
     have hn:decide (a<0)=decide (a<0):=rfl
     have hT2:=hT
     rw[d1,d2,d3] at hT2
     repeat' first|simp -dsimp only[go_sem,ha,hb,ez,hA,hB,hw1,hw2,Bool.true_beq,Bool.false_beq,decide_true,decide_false,Bool.not_true,Bool.not_false]|apply Br.mk<;>intro h<;>try simp -dsimp only[h]|refine aB.c (by first|exact nR _|exact lN _|exact aCa _ (by omega) (by omega)|exact hD) ?_|refine aC ?_|refine aC9 ?_|fail
     all_goals simp[hT2,cT4]
theorem iE (a b:Int):Fz F.jG [.v (.int .i64 a),.v (.int .i64 b)] (.tup (cT4 (mE a b))):=by
 refine fn0 Cd.i_QuotientBy_k λX=>?_
 simp -dsimp only[go_sem]
 cases ha:inB a (-999999999999) 999999999999 with
 | false =>
  repeat' first|simp -dsimp only[go_sem,ha]|apply Br.mk<;>intro h<;>try simp -dsimp only[h]|refine aB.c (by first|exact kJ _) ?_|refine aC ?_|refine aC9 ?_|fail
  all_goals simp[mE,nrB,ha,cT4]
 | true =>
  cases hb:inB b (-999999) 999999 with
  | false =>
   repeat' first|simp -dsimp only[go_sem,ha,hb]|apply Br.mk<;>intro h<;>try simp -dsimp only[h]|refine aB.c (by first|exact kJ _|exact nT _) ?_|refine aC ?_|refine aC9 ?_|fail
   all_goals simp[mE,nrB,ha,hb,cT4]
  | true =>
   have ga:=aDP ha
   have gb:=qH hb
   by_cases hz:b=0
   .have ez:(b==0)=true:=beq_iff_eq.2 hz
    have hT:mE a b=(0,0,0,6):=by unfold mE nrB;rw[ha,hb];simp[hz]
    repeat' first|simp -dsimp only[go_sem,ha,hb,ez]|apply Br.mk<;>intro h<;>try simp -dsimp only[h]|refine aB.c (by first|exact kJ _|exact nT _) ?_|refine aC ?_|refine aC9 ?_|fail
    all_goals simp[hT,cT4]
   .have ez:(b==0)=false:=beq_eq_false_iff_ne.2 hz
    obtain⟨d1,d2,d3⟩:=aAj a b
    have hle:=Nat.div_le_self a.natAbs b.natAbs
    have hml:a.natAbs%b.natAbs<=a.natAbs:=Nat.mod_le _ _
    have hT:mE a b=(a.tdiv b,a.tmod b,((dsN (a.tdiv b).natAbs+Lib.nDigits (a.tdiv b).natAbs:Nat):Int),0):=by unfold mE nrB;rw[ha,hb];simp[hz]
    have hqa:(a.tdiv b).natAbs<=a.natAbs:=by rw[d1];exact hle
    have hbz:b≠0:=hz
    clear d2 d3 d1
    obtain⟨q,hq⟩:∃q,a.tdiv b=q:=⟨_,rfl⟩
    rw[hq] at hT hqa
    have hw1:IntKind.i64.wrap q=q:=aG (by omega) (by omega)
    have hds:=aBz q.natAbs
    have hnd:=oK (n:=q.natAbs) (by omega)
    have hlen:=nK (Lib.nDigits q.natAbs) q.natAbs
    have hw2:IntKind.i64.wrap ((dsN q.natAbs:Int)+((Lib.nDigits q.natAbs:Nat):Int))=((dsN q.natAbs+Lib.nDigits q.natAbs:Nat):Int):=by rw[aG (by omega) (by omega)];omega
    skip
    repeat' first|simp -dsimp only[go_sem,ha,hb,ez,hq,hw1,hw2,hlen]|apply Br.mk<;>intro h<;>try simp -dsimp only[h]|refine RgK.mk rfl ?_|refine aB.c (by first|exact kJ _|exact nT _|exact aEq q (by omega) (by omega)|exact uZ q (by omega) (by omega)|exact aFA _) ?_|refine And.intro (by first|rfl|omega|decide|exact hbz|exact⟨rfl,hbz⟩|(refine⟨?_,?_⟩<;>(first|rfl|omega|decide|exact hbz|exact⟨rfl,hbz⟩))|(refine⟨?_,?_,?_⟩<;>(first|rfl|omega|decide|exact hbz|exact⟨rfl,hbz⟩))|(refine⟨?_,?_,?_,?_⟩<;>(first|rfl|omega|decide|exact hbz|exact⟨rfl,hbz⟩))) ?_|fail
    all_goals simp[hT,cT4]
end
section
variable [Vs.Tab 0 Vs.powP]
attribute [local irreducible] Vs.Fn
def nnB (a:Int):Bool:=inB a (-999999999999) 999999999999
def cO (k a b:Int):Int×Int×Int:=
 if k=3 then uQ a b
 else if k=4 then((mE a b).1,(mE a b).2.2.1,(mE a b).2.2.2)
 else if nnB a&&nnB b then(if nnB (if k=2 then W (a-b) else W (a+b)) then((if k=2 then W (a-b) else W (a+b)),2,0) else(0,0,5))
 else(0,0,2)
theorem xH (k a b:Int):Fz F.qU [.v (.int .i64 k),.v (.int .i64 a),.v (.int .i64 b)] (.tup (cT3 (cO k a b))):=by
 refine fn0 Cd.s_l14Do_k λX=>?_
 repeat' first|simp -dsimp only[go_sem,cT3,cT4]|apply Br.mk<;>intro h<;>try simp -dsimp only[h]|refine aB.c (by first|exact wS a b|exact vZ a b|exact nR _) ?_|refine aC ?_|refine aC9 ?_|fail
 all_goals(first|(simp_all [cO,cT3,cT4,nnB];done)|(refine fT ?_;simp_all [cO,cT3,cT4,nnB]))
end
section
variable [Vs.Tab 0 Vs.powP]
attribute [local irreducible] Vs.Fn
theorem wY (a b:Int):((uQ a b).2.2=0∧nnB (uQ a b).1=true)∨uQ a b=(0,0,2):=by
 unfold uQ
 cases h:aAe a b
 .exact .inr rfl
 .refine .inl ⟨rfl,?_⟩
  simp only[aAe,Bool.and_eq_true] at h
  have ga:=qH h.1
  have gb:=qH h.2
  have hab:a.natAbs*b.natAbs<=999999*999999:=Nat.mul_le_mul (by omega) (by omega)
  have:=zX a b
  simp only[if_true,nnB,inB,Bool.and_eq_true,decide_eq_true_eq]
  split at this<;>omega
theorem wX (a b:Int):((mE a b).2.2.2=0∧nnB (mE a b).1=true)∨((mE a b).1=0∧(mE a b).2.2.1=0∧(mE a b).2.2.2≠0):=by
 unfold mE
 cases h:nrB a b
 .exact .inr ⟨rfl,rfl,λh=>absurd (show(2:Int)=0 from h) (by decide)⟩
 .by_cases hz:b=0
  .simp[hz]
  .simp only[nrB,Bool.and_eq_true] at h
   have ga:=aDP h.1
   have h1:=(aAj a b).1
   have h2:=Nat.div_le_self a.natAbs b.natAbs
   simp only[if_true,hz,if_false,nnB,inB,Bool.and_eq_true,decide_eq_true_eq]
   exact .inl ⟨trivial,by omega,by omega⟩
end
section
variable [Vs.Tab 0 Vs.powP]
attribute [local irreducible] Vs.Fn
theorem zL (k a b:Int) (hk:inB k 1 4=true):Fz F.dN [.v (.int .i64 k),.v (.int .i64 a),.v (.int .i64 b)] (.tup (cT3 (cO k a b))):=by
 have hk4:k=1∨k=2∨k=3∨k=4:=by
  simp only[inB,Bool.and_eq_true,decide_eq_true_eq] at hk;omega
 have z11:((1:Int)==1)=true:=rfl
 have z12:((1:Int)==2)=false:=rfl
 have z21:((2:Int)==1)=false:=rfl
 have z22:((2:Int)==2)=true:=rfl
 have z31:((3:Int)==1)=false:=rfl
 have z32:((3:Int)==2)=false:=rfl
 have z33:((3:Int)==3)=true:=rfl
 have z41:((4:Int)==1)=false:=rfl
 have z42:((4:Int)==2)=false:=rfl
 have z43:((4:Int)==3)=false:=rfl
 have z44:((4:Int)==4)=true:=rfl
 rcases hk4 with rfl|rfl|rfl|rfl
 .refine fn0 Cd.i_Calculate_k λX=>?_
  repeat' first|simp -dsimp only[go_sem,z11,z21,z22,z31,z32,z33,z41,z42,z43,z44,z12,cT3,cT4]|apply Br.mk<;>intro h<;>try simp -dsimp only[h]|refine aB.c (by first|exact jE a b|exact iE a b|exact kJ _) ?_|refine aC ?_|refine aC9 ?_|fail
  all_goals(first|(simp_all [cO,cT3,cT4,nnB];done)|(refine fT ?_;simp_all [cO,cT3,cT4,nnB]))
 .refine fn0 Cd.i_Calculate_k λX=>?_
  repeat' first|simp -dsimp only[go_sem,z11,z21,z22,z31,z32,z33,z41,z42,z43,z44,z12,cT3,cT4]|apply Br.mk<;>intro h<;>try simp -dsimp only[h]|refine aB.c (by first|exact jE a b|exact iE a b|exact kJ _) ?_|refine aC ?_|refine aC9 ?_|fail
  all_goals(first|(simp_all [cO,cT3,cT4,nnB];done)|(refine fT ?_;simp_all [cO,cT3,cT4,nnB]))
 .refine fn0 Cd.i_Calculate_k λX=>?_
  rcases wY a b with⟨hc,hn⟩|hc
  all_goals
   repeat' first|simp -dsimp only[go_sem,z11,z21,z22,z31,z32,z33,z41,z42,z43,z44,z12,cT3,cT4]|apply Br.mk<;>intro h<;>try simp -dsimp only[h]|refine aB.c (by first|exact jE a b|exact iE a b|exact kJ _) ?_|refine aC ?_|refine aC9 ?_|fail
   all_goals(first|(simp_all [cO,cT3,cT4,nnB];done)|(refine fT ?_;simp_all [cO,cT3,cT4,nnB]))
 .refine fn0 Cd.i_Calculate_k λX=>?_
  rcases wX a b with⟨hc,hn⟩|hc
  all_goals
   repeat' first|simp -dsimp only[go_sem,z11,z21,z22,z31,z32,z33,z41,z42,z43,z44,z12,cT3,cT4]|apply Br.mk<;>intro h<;>try simp -dsimp only[h]|refine aB.c (by first|exact jE a b|exact iE a b|exact kJ _) ?_|refine aC ?_|refine aC9 ?_|fail
   all_goals(first|(simp_all [cO,cT3,cT4,nnB];done)|(refine fT ?_;simp_all [cO,cT3,cT4,nnB]))
end
section
variable [Vs.Tab 0 Vs.powP]
attribute [local irreducible] Vs.Fn
def cPf (p:Int×Int):List AV:=cFd p.1 p.2
def eY (fs:List (Int×Int)) (w:Int):Bool:=fs.all λp:Int×Int=>iI p.1 p.2 w
theorem aN (fs:List (Int×Int)) (w:Int) (hl:fs.length<=1048576):Fz F.dY [.sl 2 (E cPf fs),.v (.int .i64 w)] (.v (.bool (eY fs w))):=by
 refine fn0 Cd.s_l14Fields_k λX=>?_
 simp -dsimp only[go_sem]
 refine bA.at dM (X:={zz:Nat×(Unit) // zz.1<=fs.length∧(fs.take zz.1).all (λp:Int×Int=>iI p.1 p.2 w)=true}) (λzz=>[(5,.v (.int .i64 zz.1.1))]) (λzz=>[]) (λzz=>fs.length-zz.1.1) ⟨(0,()),by omega,by simp⟩ ?_ ?_
 .exact le0
 .rintro⟨⟨i,_⟩,hi,hg⟩
  dsimp only at hi hg
  simp -dsimp only[go_sem]
  refine Br.mk (λhc=>?_) λhc=>?_
  .have hlt:i<fs.length:=Dq
   have hw:=aQ hlt hl
   have hg2:(E cPf fs).getD i []=[.v (.int .i64 fs[i].1),.v (.int .i64 fs[i].2)]:=bI hlt
   have hf:=aD2 fs[i].1 fs[i].2 w
   cases h1:sG fs[i].1 fs[i].2 w
   .have e:iI fs[i].1 fs[i].2 w=false:=by simp[iI,h1]
    repeat' first|simp -dsimp only[go_sem,hg2,hw,h1]|apply Br.mk<;>intro h<;>try simp -dsimp only[h]|refine aB.c (by first|exact hf) ?_|refine aC ?_|refine aC9 ?_|fail
    all_goals simp[eY,jY (p:=λp:Int×Int=>iI p.1 p.2 w) hlt e]
   .by_cases h2:W (fs[i].2-fs[i].1)<=12
    .have e:iI fs[i].1 fs[i].2 w=true:=by simp[iI,h1,h2]
     have e2:decide (IntKind.i64.wrap (fs[i].2-fs[i].1)>12)=false:=by simp;exact h2
     repeat' first|simp -dsimp only[go_sem,hg2,hw,h1,e2]|apply Br.mk<;>intro h<;>try simp -dsimp only[h]|refine aB.c (by first|exact hf) ?_|refine aC ?_|refine aC9 ?_|fail
     all_goals(exact nx (i+1,()) (bP (p:=λp:Int×Int=>iI p.1 p.2 w) hlt hg e))
    .have e:iI fs[i].1 fs[i].2 w=false:=by simp[iI,h1,h2]
     have e2:decide (IntKind.i64.wrap (fs[i].2-fs[i].1)>12)=true:=by simp;exact Int.not_le.1 h2
     repeat' first|simp -dsimp only[go_sem,hg2,hw,h1,e2]|apply Br.mk<;>intro h<;>try simp -dsimp only[h]|refine aB.c (by first|exact hf) ?_|refine aC ?_|refine aC9 ?_|fail
     all_goals simp[eY,jY (p:=λp:Int×Int=>iI p.1 p.2 w) hlt e]
  .have hge:i=fs.length:=by
    have:¬i<fs.length:=Dq
    omega
   subst hge
   simp -dsimp only[go_sem]
   have:fs.all (λp:Int×Int=>iI p.1 p.2 w)=true:=by simpa using hg
   simp[eY,this]
end
end Go.Proofs.YtfoddghhlagenaaGreatDoor
