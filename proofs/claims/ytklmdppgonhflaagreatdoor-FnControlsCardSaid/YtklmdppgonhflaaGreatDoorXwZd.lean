/- The texts of control totals and of faults, as the program gives them and as the reference does. -/
import Derived.Test.YtklmdppgonhflaaGreatDoorVsI
import Derived.Test.YtklmdppgonhflaaGreatDoorXwF
import Derived.Test.YtklmdppgonhflaaGreatDoorXuB
import Derived.Test.YtklmdppgonhflaaGreatDoorXwQb
import Derived.Test.YtklmdppgonhflaaGreatDoorXwA
set_option linter.all false
set_option maxHeartbeats 8000000
namespace Go.Proofs.YtklmdppgonhflaaGreatDoor
open Go.Vs
section
variable [Vs.Tab 0 Vs.powP]
attribute [local irreducible] Vs.Fn
def dcl (n:Int):ByteArray:=⟨(Lib.itoa n).toArray⟩
theorem aFj {n:Nat} (G:n<10 ^ 19):Lib.nDigits n<=19:=by
 have h:∀(k m:Nat),m<10 ^ (k+1)->Lib.nDigits m<=k+1:=by
  intro k
  induction k with
  |zero=>intro m F;rw[Lib.nDigits_small (by simpa using F)];omega
  | succ k ih =>
   intro m F;by_cases h:m<10
   .rw[Lib.nDigits_small h];omega
   .rw[Lib.nDigits_big h];have:=ih (m/10) (by rw[Nat.pow_succ] at F;omega);omega
 exact h 18 n G
theorem gV {n:Int} (F:-9223372036854775808<=n) (G:n<=9223372036854775807):(dcl n).size<=20:=by
 have e:(dcl n).size=(Lib.itoa n).length:=by simp[dcl,ByteArray.size]
 rw[e];unfold Lib.itoa;split
 .rw[Ac,Lib.decDigits_length];have:=aFj (n:=n.natAbs) (by omega);omega
 .rw[Lib.decDigits_length];have:=aFj (n:=n.toNat) (by omega);omega
def uY (n:Nat):List Int:=if h:n=0 then[] else uY (n/10)++[((48+n%10:Nat):Int)]
termination_by n
decreasing_by omega
theorem wQ:uY 0=[]:=by rw[uY,dif_pos rfl]
theorem zM {n:Nat} (h:n≠0):uY n=uY (n/10)++[((48+n%10:Nat):Int)]:=by rw[uY,dif_neg h]
theorem aGG:∀{n:Nat},n≠0->(uY n).map (λx=>UInt8.ofNat x.toNat)=Lib.decDigits n:=by
 intro n
 induction n using Nat.strongRecOn with
 | _ n ih =>
  intro h;rw[zM h,Lib.decDigits];by_cases F:n<10
  .have G:n/10=0:=by omega
   have H:n%10=n:=by omega
   rw[dif_pos F,G,wQ,H];simp only[Aj,Bt,BI,BR]
  .rw[dif_neg F,Bu,ih (n/10) (by omega) (by omega)];simp only[Bt,BI,BR]
theorem aBv {n:Nat} (h:n<10 ^ 19):(uY n).length<=19:=by
 by_cases F:n=0
 .subst F;rw[wQ];simp
 .have:=Cm List.length (aGG F);rw[Bh,Lib.decDigits_length] at this;rw[this];exact aFj h
theorem wrap_u8 {n:Int} (F:0<=n) (G:n<=255):IntKind.u8.wrap n=n:=by
 simp[IntKind.wrap,IntKind.signed,IntKind.bits];omega
theorem aEj {n:Nat} (h:n≠0):jD (uY n)=⟨(Lib.decDigits n).toArray⟩:=by
 rw[jD,aGG h]
theorem aHG (n:Int) (G:-9223372036854775808<=n) (H:n<=9223372036854775807):Fz F.eZ [.v (.int .i64 n),.v (.int .i64 10)] (.v (.string (dcl n))):=by
 refine fn0 Cd.strconv_FormatInt_k λX=>?_
 repeat' first|simp -dsimp only[go_sem]|apply Br.mk<;>intro h<;>try simp -dsimp only[h]|refine aA.c (by first|exact aEI n G H) ?_|refine aC ?_|refine aC9 ?_|fail
 all_goals(simp_all [dcl])
theorem aBt (n:Int) (G:-9223372036854775808<=n) (H:n<=9223372036854775807):Fz F.l5 [.v (.int .i64 n)] (.v (.string (dcl n))):=by
 refine fn0 Cd.i_Decimal_k λX=>?_
 repeat' first|simp -dsimp only[go_sem]|apply Br.mk<;>intro h<;>try simp -dsimp only[h]|refine aA.c (by first|exact aHG n G H) ?_|refine aC ?_|refine aC9 ?_|fail
 all_goals(simp_all)
theorem yU (n:Int) (h0:-9223372036854775808<=n) (h1:n<=9223372036854775807):Fz F.qN [.v (.int .i64 n)] (.v (.string (dcl n))):=by
 have hU:∀x:Int,[[AV.v (.int .u8 x)]]=E cU [x]:=λ_=>rfl;rcases Int.lt_or_le n 0 with hn|hn
 .refine fn0 Cd.s_l01Dec_k λX=>?_;simp -dsimp only[go_sem];refine⟨⟨by omega,by omega⟩,rfl,?_⟩;refine aP.at dM (X:={G:Nat×List Int // G.1<=n.natAbs∧uY G.1++G.2=uY n.natAbs}) (λG=>[(3,.sl 1 (E cU G.1.2)),(4,.v (.int .i64 (-(G.1.1:Int))))]) (λ_=>[]) (λG=>G.1.1) ⟨(n.natAbs,[]),by dsimp only;omega,by simp⟩ ?_ ?_
  .simp[Vs.LeL,Vs.look,aB,aQ,aK,Vs.hset,aL,E];omega
  .rintro⟨⟨m,O⟩,hm,H⟩;dsimp only at hm H;simp -dsimp only[go_sem];refine Br.mk (λU=>?_) λU=>?_
   .have M:m≠0:=by simp at U;omega
    rw[zM M,Bz] at H;have I:=aBv (n:=n.natAbs) (by omega);have V:=Cm List.length H;simp only[AX,Ac,Ai] at V;have q1:(-(m:Int)).tmod 10=-((m%10:Nat):Int):=by rw[Int.neg_tmod,Int.tmod_eq_emod_of_nonneg (by omega)];omega
    have q2:IntKind.i64.wrap ((-(m:Int)).tdiv 10)=-((m/10:Nat):Int):=by rw[Int.neg_tdiv,Int.tdiv_eq_ediv_of_nonneg (by omega),aI (by omega) (by omega)];omega
    have q3:IntKind.i64.wrap (0 - -((m%10:Nat):Int))=((m%10:Nat):Int):=by rw[aI (by omega) (by omega)];omega
    have ha:IntKind.i64.wrap (-(-((m%10:Nat):Int)))=((m%10:Nat):Int):=by rw[aI (by omega) (by omega)];omega
    have q4:IntKind.i64.wrap (48+((m%10:Nat):Int))=((48+m%10:Nat):Int):=by rw[aI (by omega) (by omega)];omega
    have q5:IntKind.u8.wrap ((48+m%10:Nat):Int)=((48+m%10:Nat):Int):=wrap_u8 (by omega) (by omega)
    have q6:∀h:decide (-((m%10:Nat):Int)<0)=false,IntKind.i64.wrap (48 + -((m%10:Nat):Int))=((48+m%10:Nat):Int):=λh=>by
     have:¬(-((m%10:Nat):Int)<0):=by simpa using h
     rw[aI (by omega) (by omega)];omega
    rcases Y:decide (-((m%10:Nat):Int)<0)
    .have q6:=q6 Y
     repeat' first|simp -dsimp only[go_sem,q1,q2,q4,q5,Y,hU,Af,Ag,Ao,Aq,q6]|apply Br.mk<;>intro h<;>try simp -dsimp only[h]|refine aC ?_|refine aC9 ?_|fail
     all_goals(exact⟨⟨(m/10,((48+m%10:Nat):Int)::O),by dsimp only;omega,by simpa using H⟩,by simp[Vs.LeL,Vs.look,aB,aQ,aK,Vs.hset,aL,E,cU],by simp only;omega⟩)
    .simp -dsimp only[go_sem,q1,q2,q4,q5,Y,hU,Af,Ag,Ao,Aq,q3,ha]
     repeat' first|simp -dsimp only[go_sem,q1,q2,q4,q5,Y,hU,Af,Ag,Ao,Aq,q3,ha]|apply Br.mk<;>intro h<;>try simp -dsimp only[h]|refine aC ?_|refine aC9 ?_|fail
     all_goals(exact⟨⟨(m/10,((48+m%10:Nat):Int)::O),by dsimp only;omega,by simpa using H⟩,by simp[Vs.LeL,Vs.look,aB,aQ,aK,Vs.hset,aL,E,cU],by simp only;omega⟩)
   .have hz:m=0:=by simp at U;omega
    subst hz;rw[wQ,Aj] at H;subst H;have I:=aBv (n:=n.natAbs) (by omega);have J:n.natAbs≠0:=by omega
    have he:(uY n.natAbs).length≠0:=by rw[zM J];simp
    have Z:(((uY n.natAbs).length:Int)==0)=false:=AB.2 (by omega);have g2:decide (n<0)=true:=A9 hn
    have g3:(⟨#[45]⟩:ByteArray)++jD (uY n.natAbs)=dcl n:=by
     rw[aEj J,dcl,Lib.itoa,AP hn];apply ByteArray.ext;simp
    have g4:(jD (uY n.natAbs)).size<=20:=by simp[jD,ByteArray.size];omega
    simp -dsimp only[go_sem,Z,g2,g3,aH,mK];exact⟨⟨by simp only[List.size_toArray,Ac,Ai];omega,aR rfl⟩,λh=>h rfl⟩
 .refine fn0 Cd.s_l01Dec_k λX=>?_;simp -dsimp only[go_sem];refine⟨⟨by omega,by omega⟩,rfl,?_⟩;refine aP.at dM (X:={G:Nat×List Int // G.1<=n.natAbs∧uY G.1++G.2=uY n.natAbs}) (λG=>[(3,.sl 1 (E cU G.1.2)),(4,.v (.int .i64 (G.1.1:Int)))]) (λ_=>[]) (λG=>G.1.1) ⟨(n.natAbs,[]),by dsimp only;omega,by simp⟩ ?_ ?_
  .simp[Vs.LeL,Vs.look,aB,aQ,aK,Vs.hset,aL,E];omega
  .rintro⟨⟨m,O⟩,hm,H⟩;dsimp only at hm H;simp -dsimp only[go_sem];refine Br.mk (λU=>?_) λU=>?_
   .have M:m≠0:=by simp at U;omega
    rw[zM M,Bz] at H;have I:=aBv (n:=n.natAbs) (by omega);have V:=Cm List.length H;simp only[AX,Ac,Ai] at V;have q1:((m:Int)).tmod 10=((m%10:Nat):Int):=by rw[Int.tmod_eq_emod_of_nonneg (by omega)];omega
    have q2:IntKind.i64.wrap (((m:Int)).tdiv 10)=((m/10:Nat):Int):=by rw[Int.tdiv_eq_ediv_of_nonneg (by omega),aI (by omega) (by omega)];omega
    have q4:IntKind.i64.wrap (48+((m%10:Nat):Int))=((48+m%10:Nat):Int):=by rw[aI (by omega) (by omega)];omega
    have q5:IntKind.u8.wrap ((48+m%10:Nat):Int)=((48+m%10:Nat):Int):=wrap_u8 (by omega) (by omega);have Y:decide (((m%10:Nat):Int)<0)=false:=AQ (by omega)
    repeat' first|simp -dsimp only[go_sem,q1,q2,q4,q5,Y,hU,Af,Ag,Ao,Aq]|apply Br.mk<;>intro h<;>try simp -dsimp only[h]|refine aC ?_|refine aC9 ?_|fail
    all_goals(exact⟨⟨(m/10,((48+m%10:Nat):Int)::O),by dsimp only;omega,by simpa using H⟩,by simp[Vs.LeL,Vs.look,aB,aQ,aK,Vs.hset,aL,E,cU],by simp only;omega⟩)
   .have hz:m=0:=by simp at U;omega
    subst hz;rw[wQ,Aj] at H;subst H;have I:=aBv (n:=n.natAbs) (by omega);by_cases hb:n=0
    .subst hb;have Z:(((uY (0:Int).natAbs).length:Int)==0)=true:=by rw[show(0:Int).natAbs=0 from rfl,wQ];rfl
     have g3:dcl 0=⟨#[48]⟩:=by
      rw[dcl,Lib.itoa,AC (by omega),show(0:Int).toNat=0 from rfl,Lib.decDigits_one (by omega)];rfl
     simp -dsimp only[go_sem,Z,aH];exact⟨aR (by rw[g3]),λh=>h rfl⟩
    .have J:n.natAbs≠0:=by omega
     have he:(uY n.natAbs).length≠0:=by rw[zM J];simp
     have Z:(((uY n.natAbs).length:Int)==0)=false:=AB.2 (by omega);have g2:decide (n<0)=false:=AQ (by omega)
     have g3:jD (uY n.natAbs)=dcl n:=by
      rw[aEj J,dcl,Lib.itoa,AC (by omega),show n.toNat=n.natAbs by omega]
     simp -dsimp only[go_sem,Z,g2,g3,aH,mK];exact⟨aR rfl,λh=>h rfl⟩
end
section
variable [Vs.Tab 0 Vs.powP]
attribute [local irreducible] Vs.Fn
theorem bsz (a:Array UInt8):(ByteArray.mk a).size=a.size:=rfl
theorem aCJ {a b c:Int} (h:okC a b c=true):(0<=a∧a<=1000000)∧(-1000000000000000<=b∧b<=1000000000000000)∧(0<=c∧c<=1000000000):=by
 simp only[okC,inB,Aw,Bb] at h;omega
def ctX (a b c:Int):ByteArray:=dcl a++⟨#[32,99,97,114,100,115,32]⟩++dcl b++⟨#[32,115,117,109,32]⟩++dcl c++⟨#[32,100,105,103,105,116,115]⟩
def ctT (a b c:Int):ByteArray:=if okC a b c then ctX a b c else⟨#[]⟩
theorem aM2 (a b c:Int) (U:okC a b c=true):Fz F.pK [.agg [.v (.int .i64 a),.v (.int .i64 b),.v (.int .i64 c)]] (.v (.string (ctX a b c))):=by
 obtain⟨⟨G,H⟩,⟨I,J⟩,M,O⟩:=aCJ U;have V:=gV (n:=a) (by omega) (by omega);have Y:=gV (n:=b) (by omega) (by omega);have Z:=gV (n:=c) (by omega) (by omega);refine fn0 Cd.s_l18Text_k λX=>?_
 repeat' first|simp -dsimp only[go_sem]|apply Br.mk<;>intro h<;>try simp -dsimp only[h]|refine RgK.mk rfl ?_|refine aA.c (by first|exact yU a (by omega) (by omega)|exact yU b (by omega) (by omega)|exact yU c (by omega) (by omega)) ?_|refine And.intro (by first|rfl|omega|decide|exact(by simp only[ByteArray.size_append,bsz,List.size_toArray,Ac,Ai];omega)|(refine⟨?_,?_⟩<;>(first|rfl|omega|decide|exact(by simp only[ByteArray.size_append,bsz,List.size_toArray,Ac,Ai];omega)))|(refine⟨?_,?_,?_⟩<;>(first|rfl|omega|decide|exact(by simp only[ByteArray.size_append,bsz,List.size_toArray,Ac,Ai];omega)))|(refine⟨?_,?_,?_,?_⟩<;>(first|rfl|omega|decide|exact(by simp only[ByteArray.size_append,bsz,List.size_toArray,Ac,Ai];omega)))) ?_|fail
 all_goals(exact aR rfl)
theorem aBG (a b c:Int):Fz F.mJ [.agg [.v (.int .i64 a),.v (.int .i64 b),.v (.int .i64 c)]] (.v (.string (ctT a b c))):=by
 cases hk:okC a b c
 .have G:ctT a b c=⟨#[]⟩:=by simp[ctT,hk]
  rw[G];refine fn0 Cd.s_ControlText_k λX=>?_
  repeat' first|simp -dsimp only[go_sem,hk]|apply Br.mk<;>intro h<;>try simp -dsimp only[h]|refine aA.c (by first|exact aEx a b c) ?_|refine aC ?_|refine aC9 ?_|fail
  all_goals exact aR rfl
 .have G:ctT a b c=ctX a b c:=by simp[ctT,hk]
  rw[G];obtain⟨⟨H,I⟩,⟨J,M⟩,O,U⟩:=aCJ hk;have V:=gV (n:=a) (by omega) (by omega);have Y:=gV (n:=b) (by omega) (by omega);have Z:=gV (n:=c) (by omega) (by omega);refine fn0 Cd.s_ControlText_k λX=>?_
  repeat' first|simp -dsimp only[go_sem,hk]|apply Br.mk<;>intro h<;>try simp -dsimp only[h]|refine RgK.mk rfl ?_|refine aA.c (by first|exact aEx a b c|exact aM2 a b c hk) ?_|refine And.intro (by first|rfl|omega|decide|exact(by simp only[ByteArray.size_append,bsz,List.size_toArray,Ac,Ai];omega)|(refine⟨?_,?_⟩<;>(first|rfl|omega|decide|exact(by simp only[ByteArray.size_append,bsz,List.size_toArray,Ac,Ai];omega)))|(refine⟨?_,?_,?_⟩<;>(first|rfl|omega|decide|exact(by simp only[ByteArray.size_append,bsz,List.size_toArray,Ac,Ai];omega)))|(refine⟨?_,?_,?_,?_⟩<;>(first|rfl|omega|decide|exact(by simp only[ByteArray.size_append,bsz,List.size_toArray,Ac,Ai];omega)))) ?_|fail
  all_goals exact aR rfl
theorem vW (a b c:Int):Fz F.kK [.agg [.v (.int .i64 a),.v (.int .i64 b),.v (.int .i64 c)]] (.v (.string (ctT a b c))):=by
 cases hk:okC a b c
 .have G:ctT a b c=⟨#[]⟩:=by simp[ctT,hk]
  rw[G];refine fn0 Cd.i_ControlText_k λX=>?_
  repeat' first|simp -dsimp only[go_sem,hk]|apply Br.mk<;>intro h<;>try simp -dsimp only[h]|refine aA.c (by first|exact oO a b c) ?_|refine aC ?_|refine aC9 ?_|fail
  all_goals exact aR rfl
 .have G:ctT a b c=ctX a b c:=by simp[ctT,hk]
  rw[G];obtain⟨⟨H,I⟩,⟨J,M⟩,O,U⟩:=aCJ hk;have V:=gV (n:=a) (by omega) (by omega);have Y:=gV (n:=b) (by omega) (by omega);have Z:=gV (n:=c) (by omega) (by omega);refine fn0 Cd.i_ControlText_k λX=>?_
  repeat' first|simp -dsimp only[go_sem,hk]|apply Br.mk<;>intro h<;>try simp -dsimp only[h]|refine RgK.mk rfl ?_|refine aA.c (by first|exact oO a b c|exact aBt a (by omega) (by omega)|exact aBt b (by omega) (by omega)|exact aBt c (by omega) (by omega)) ?_|refine And.intro (by first|rfl|omega|decide|exact(by simp only[ByteArray.size_append,bsz,List.size_toArray,Ac,Ai];omega)|(refine⟨?_,?_⟩<;>(first|rfl|omega|decide|exact(by simp only[ByteArray.size_append,bsz,List.size_toArray,Ac,Ai];omega)))|(refine⟨?_,?_,?_⟩<;>(first|rfl|omega|decide|exact(by simp only[ByteArray.size_append,bsz,List.size_toArray,Ac,Ai];omega)))|(refine⟨?_,?_,?_,?_⟩<;>(first|rfl|omega|decide|exact(by simp only[ByteArray.size_append,bsz,List.size_toArray,Ac,Ai];omega)))) ?_|fail
  all_goals exact aR rfl
end
end Go.Proofs.YtklmdppgonhflaaGreatDoor
