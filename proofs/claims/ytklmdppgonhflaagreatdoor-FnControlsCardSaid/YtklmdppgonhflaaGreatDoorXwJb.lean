/- Control totals are read back from their texts. -/
import Derived.Test.YtklmdppgonhflaaGreatDoorVsI
import Derived.Test.YtklmdppgonhflaaGreatDoorXwZd
import Derived.Test.YtklmdppgonhflaaGreatDoorVuJ
import Derived.Test.YtklmdppgonhflaaGreatDoorVuK
import Derived.Test.YtklmdppgonhflaaGreatDoorTryzShelf
import Derived.WalkKit
import Derived.BigCall
import Derived.Lib.AtoiErrMem
set_option linter.all false
set_option maxHeartbeats 8000000
namespace Go.Proofs.YtklmdppgonhflaaGreatDoor
open Go.Vs
section
attribute [local irreducible] Vs.Fn
open Go.RowKit
def pI:Option Obj->Prop:=λo=>∃(cs:Array Value) (T:TypeId) (fr:Nat×Nat) (m:Int),o=some (.cells cs T fr)∧cs[0]? = some (.int .i64 m)
def pE:Option Obj->Prop:=λo=>∃(cs:Array Value) (T:TypeId) (fr:Nat×Nat) (te:TypeId) (pe:Value),o=some (.cells cs T fr)∧cs[0]? = some (.iface te pe)
theorem cell_of {w:World}{g:Nat}{cs:Array Value}{T:TypeId}{fr:Nat×Nat}{v:Value} (h:w.heap[g]? = some (.cells cs T fr)) (F:cs[0]? = some v):w.cell? ⟨g,0,none⟩=some v:=by
 simp[World.cell?,h,F]
class Rd extends Vs.Tab 0 Vs.powP where
 mx:∀S w,@Vs.Env toTab.toEnvs S w->S 1∧pI w.heap[1]?
 syn:∀S w,@Vs.Env toTab.toEnvs S w->S 2∧pE w.heap[2]?
 rng:∀S w,@Vs.Env toTab.toEnvs S w->S 3∧pE w.heap[3]?
variable [Rd]
def cW (b:ByteArray):List AV:=[.v (.string b)]
theorem aFF {vs:Array Value}{a b:Value} (H:vs.size=2) (I:vs.getD 0 undef=a) (J:vs.getD 1 undef=b):vs=#[a,b]:=by
 apply Array.ext (by simpa using H);intro i hi F;simp at F;have G:i=0∨i=1:=by omega
 rcases G with rfl|rfl
 .simpa[Array.getD,H] using I
 .simpa[Array.getD,H] using J
theorem aKb {vs:Array Value}{a:Value} (G:vs.size=1) (H:vs.getD 0 undef=a):vs=#[a]:=by
 apply Array.ext (by simpa using G);intro i hi F;simp at F;subst F;simpa[Array.getD,G] using H
theorem aN2 (s:ByteArray) (hs:s.size<=1048576):Fz F.strings_Split [.v (.string s),.v (.string ⟨#[32]⟩)] (.sl 1 (E cW (wdS s))):=by
 refine Vs.Fn.of_grew ⟨Tryz.f58,_,Tryz.func58,rfl,by decide⟩ (by intro y U;simp only[Am,Ak,AR] at U;rcases U with rfl|rfl<;>rfl) λS w vs hS Z M H=>?_;obtain rfl:=aFF M (Vs.rc_v (H 0 (by show 0<2;omega))) (Vs.rc_v (H 1 (by show 1<2;omega)));obtain⟨_,cs,T,fr,m,hh,V⟩:=Rd.mx S w Z;refine(Tryz.strings_Split s ⟨#[32]⟩ m w (by omega) (cell_of hh V) (by decide)).mono ?_;rintro e w' ⟨rfl,rfl⟩;refine⟨_,λb=>b=w.heap.size,rfl,r9.alloc _ _,?_,?_⟩
 .rintro b rfl;exact⟨Au _,by show _<(w.heap.push _).size;simp⟩
 .have J:(E cW (wdS s)).length=Lib.countB s ⟨#[32]⟩ + 1:=by rw[aH,aCE]
  rw[←J];have Y:Lib.countB s ⟨#[32]⟩<=s.size:=Lib.countB_le _ (by decide) _ s (Au _);refine .sl 1 _ _ _ w.heap.size 0 (λi=>.string ((wdS s).getD i ⟨#[]⟩)) (λ_=>⟨rfl,rfl⟩) (λi j hi O=>?_) (λi j hi O=>rfl) (λi j hi O=>?_) (λi hi=>?_) ⟨Au _,by omega⟩
  .have G:i<(wdS s).length:=by rw[aCE,←J];exact hi
   obtain rfl:j=0:=by omega
   rw[aEh]
   have I:(w.alloc (.cells ((wdS s).map Value.string).toArray 9)).heap[w.heap.size]? = some (.cells ((wdS s).map Value.string).toArray 9):=by
    show(w.heap.push _)[w.heap.size]? = _
    simp
   simp only[World.cell?,I,Ca,Nat.mul_one,Cu];simp[G]
  .have G:i<(wdS s).length:=by rw[aCE,←J];exact hi
   obtain rfl:j=0:=by omega
   rw[aW G];simp only[cW,Nat.mul_one,Cu,Ar];rw[show(wdS s).getD i ⟨#[]⟩=(wdS s)[i] by simp[G]];exact .v _
  .have G:i<(wdS s).length:=by rw[aCE,←J];exact hi
   rw[aW G];rfl
def rdI (s:ByteArray):Int×Bool:=aDh s.data.toList
theorem aDS {v:Int}{s:ByteArray}:(Lib.itoa v==s.data.toList)=decide (dcl v=s):=by
 rw[Bool.eq_iff_iff,BO,Bb];constructor
 .intro h;obtain⟨⟨l⟩⟩:=s;simp only[dcl];have h:Lib.itoa v=l:=h;rw[h]
 .rintro rfl;simp[dcl]
theorem bext {a b:ByteArray} (h:a.toList=b.toList):a=b:=by
 rw[ByteArray.toList_eq,ByteArray.toList_eq] at h;obtain⟨⟨l⟩⟩:=a;obtain⟨⟨m⟩⟩:=b;have h:l=m:=h;rw[h]
theorem aJx {s:ByteArray}{v:Int} (h:Lib.parseIntB 64 s.data.toList=.ok v):-9223372036854775808<=v∧v<=9223372036854775807:=by
 generalize s.data.toList=l at h;unfold Lib.parseIntB at h;split at h
 .cases h
 .rename_i c r;simp only at h;split at h
  .cases h
  .cases h
  .rename_i u H;split at h
   .cases h
   .rename_i G;split at h
    .cases h
    .rename_i h2;cases h;have F:(2:Nat) ^ (64-1)=9223372036854775808:=by decide
     rw[F] at G h2;split<;>omega
set_option maxRecDepth 100000 in
theorem aMx (s:ByteArray) (hs:s.size<=1048576) (w:World) (H I:Value) (ha:w.cell? ⟨2,0,none⟩=some H) (Y:H=.nilIface∨∃te pe,H=.iface te pe) (hc:w.cell? ⟨3,0,none⟩=some I) (Z:I=.nilIface∨∃te pe,I=.iface te pe)
  (G:∀(v:Int) (w1:World),-9223372036854775808<=v->v<=9223372036854775807->Below w.heap.size w w1->Calls Tryz.prog 57 #[.int .i64 v] w1 λe w'=>e=.returned (.string (dcl v))∧r9 w1 w') :
  Calls Tryz.prog 59 #[.string s] w λe w'=>e=.returned (.tuple #[.int .i64 (rdI s).1,.bool (rdI s).2])∧r9 w w':=by
 cases h:Lib.parseIntB 64 s.data.toList
 case ok v =>
  obtain⟨r0,r1⟩:=aJx h
  have M:∀w',(w'=w∨∃t,w'=Lib.bytesWorld w 5 t)->Below w.heap.size w w':=λw' U=>by
   rcases U with rfl|⟨t,rfl⟩
   .exact Below.refl _ _
   .exact Lib.bytesWorld_below _ _ _
  by_cases V:dcl v=s
  .by_cases h2:(Lib.trimPrefix s.data.toList [45]).length<=18
   .have J:rdI s=(v,true):=by simp only[rdI,aDh,h,aDS,V,h2,decide_true,Bool.and_self,Bj]
    rw[J]
    go_enter Tryz.func59,Tryz.ntmps59
    go_wp2_with (first|(go_at_call 99;refine(Tryz.strconv_ParseInt_10_at64_ok s (by omega) v h _).mono ?_;rintro e w' ⟨rfl,U⟩;have F:=M _ U)|(go_at_call 57;refine(G v _ r0 r1 F).mono ?_;rintro e w2 ⟨rfl,hg2⟩)|(go_at_call 100;refine(Tryz.strings_TrimPrefix s _ _).mono ?_;rintro e w3 ⟨rfl,rfl⟩))
    all_goals first|(go_ret2;exact⟨rfl,(r9.of_below F).trans hg2⟩)|(exfalso;omega)|exact absurd (by assumption) O
   .have J:rdI s=(0,false):=by simp only[rdI,aDh,h,aDS,V,h2,decide_true,decide_false,Bool.and_false,AO,Bc]
    rw[J]
    go_enter Tryz.func59,Tryz.ntmps59
    go_wp2_with (first|(go_at_call 99;refine(Tryz.strconv_ParseInt_10_at64_ok s (by omega) v h _).mono ?_;rintro e w' ⟨rfl,U⟩;have F:=M _ U)|(go_at_call 57;refine(G v _ r0 r1 F).mono ?_;rintro e w2 ⟨rfl,hg2⟩)|(go_at_call 100;refine(Tryz.strings_TrimPrefix s _ _).mono ?_;rintro e w3 ⟨rfl,rfl⟩))
    all_goals first|(go_ret2;exact⟨rfl,(r9.of_below F).trans hg2⟩)|(exfalso;omega)|exact absurd (by assumption) O
  .have J:rdI s=(0,false):=by simp only[rdI,aDh,h,aDS,V,decide_false,Bool.false_and,AO,Bc]
   have O:¬(dcl v).toList=s.toList:=λe=>V (bext e);rw[J]
   go_enter Tryz.func59,Tryz.ntmps59
   go_wp2_with (first|(go_at_call 99;refine(Tryz.strconv_ParseInt_10_at64_ok s (by omega) v h _).mono ?_;rintro e w' ⟨rfl,U⟩;have F:=M _ U)|(go_at_call 57;refine(G v _ r0 r1 F).mono ?_;rintro e w2 ⟨rfl,hg2⟩)|(go_at_call 100;refine(Tryz.strings_TrimPrefix s _ _).mono ?_;rintro e w3 ⟨rfl,rfl⟩))
   all_goals first|(go_ret2;exact⟨rfl,(r9.of_below F).trans hg2⟩)|(exfalso;omega)|exact absurd (by assumption) O
 case range =>
  have J:rdI s=(0,false):=by simp only[rdI,aDh,h]
  rw[J]
  go_enter Tryz.func59,Tryz.ntmps59
  go_wp2_with (go_at_call 99;refine(Tryz.strconv_ParseInt_10_at64_range s (by omega) h I _ ?_ Z).mono ?_)
  .exact hc
  rintro e W1 ⟨N,rfl,-,-,M⟩
  go_wp2
  go_ret2
  exact⟨rfl,r9.of_below M⟩
 .have J:rdI s=(0,false):=by simp only[rdI,aDh,h]
  rw[J]
  go_enter Tryz.func59,Tryz.ntmps59
  go_wp2_with (go_at_call 99;refine(Tryz.strconv_ParseInt_10_at64_syntax s (by omega) h H _ ?_ Y).mono ?_)
  .exact ha
  rintro e W1 ⟨N,rfl,-,-,M⟩
  go_wp2
  go_ret2
  exact⟨rfl,r9.of_below M⟩
theorem aDf (s:ByteArray) (hs:s.size<=1048576):Fz F.qH [.v (.string s)] (.tup [.v (.int .i64 (rdI s).1),.v (.bool (rdI s).2)]):=by
 refine Vs.Fn.of_grew ⟨Tryz.f59,_,Tryz.func59,rfl,by decide⟩ (by intro y Z;rw[Av] at Z;subst Z;rfl) λS w vs Y M V G=>?_;obtain rfl:=aKb V (Vs.rc_v (G 0 (by show 0<1;omega)));obtain⟨_,cs,T,fr,te,pe,hh,hc⟩:=Rd.syn S w M;obtain⟨_,ha,T2,hd,hk,hf,O,J⟩:=Rd.rng S w M;refine(aMx s hs w _ _ (cell_of hh hc) (.inr ⟨_,_,rfl⟩) (cell_of O J) (.inr ⟨_,_,rfl⟩) λv w1 r0 r1 I=>?_).mono ?_
 .refine((aBt v r0 r1).calls0 rfl (S:=S) (λb H=>AZ (Y b H) I.size) (M.mono (λ_ h=>h) λb H=>I.block b (Y b H)) (vs:=#[.int .i64 v]) rfl λj U=>?_).mono ?_
  .match j,U with
   |0,_=>exact .v _
  .rintro e w' ⟨u,S',rfl,hg,hu⟩;rw[Vs.rc_v hu];exact⟨rfl,hg⟩
 .rintro e w' ⟨rfl,hg⟩;refine⟨_,λ_=>False,rfl,hg,λb I=>I.elim,.tup _ _ rfl λj U=>?_⟩
  match j,U with
  |0,_=>exact .v _
  |1,_=>exact .v _
end
section
variable [Rd]
attribute [local irreducible] Vs.Fn dcl
attribute [local go_sem] BR
theorem aJc {l:List UInt8}{i:Nat} (h:i<l.length):pG (l.take (i+1))=10*pG (l.take i)+((l.getD i 0).toNat-48):=by
 unfold pG;rw[bM h,List.foldl_append];simp[List.getD,h]
theorem aKd {n:Int} (F:0<=n) (G:n<=255):IntKind.u8.wrap n=n:=by
 simp[IntKind.wrap,IntKind.signed,IntKind.bits];omega
theorem aLw (b:Nat):aAw (b:Int)=mP b:=by
 unfold aAw mP;rfl
def aEc:aD:=wP 3 Cd.bI
def aJN:aD:=wP 4 Cd.bI
def aLs:aD:=wP 6 Cd.bI
theorem aOy (C:Ctx) (N:St->Prop) (E:kW->St->Prop) (s t:ByteArray) (n:Nat) (H:Bool) (hn:n<10 ^ 18) (G:decide ((t.size:Int)<(s.size:Int))=H) {ss:List (Nat×AV)} (Y:Vs.look ss 0=.v (.string s)) (Z:Vs.look ss 4=.v (.string t)) (h5:Vs.look ss 5=.v (.int .i64 (n:Nat)))
  (I:dcl (if H then -(n:Int) else(n:Int))=s->∀σ:St,Vs.look σ.s 2=.v (.int .i64 (if H then -(n:Int) else(n:Int)))->Vs.look σ.s 3=.v (.bool true)->E .ret σ) (J:¬dcl (if H then -(n:Int) else(n:Int))=s->∀σ:St,Vs.look σ.s 2=.v (.int .i64 0)->Vs.look σ.s 3=.v (.bool false)->E .ret σ) :
  wpc Tryz.prog C (dF Tryz.prog) aLs N E ⟨ss,[]⟩:=by
 have ha:(10:Nat) ^ 18=1000000000000000000:=by decide
 rw[ha] at hn;have M:IntKind.i64.wrap (0-(n:Int))=-(n:Int):=by rw[aI (by omega) (by omega)];omega
 have O:IntKind.i64.wrap (-(n:Int))=-(n:Int):=aI (by omega) (by omega);unfold aLs Cd.bI;simp only[wP];cases H
 .have V:=yU (n:Int) (by omega) (by omega);simp only[AO,Bc] at I J;by_cases U:dcl (n:Int)=s
  .have F:((dcl (n:Int)).toList==s.toList)=true:=by rw[U];simp
   generalize dcl (n:Int)=d at *
   repeat' first|simp -dsimp only[go_sem,Y,Z,h5,G,M,O,F]|apply Br.mk<;>intro h<;>try simp -dsimp only[h]|refine aA.c (by first|exact V) ?_|refine aC ?_|refine aC9 ?_|fail
   all_goals exact I U _ rfl rfl
  .have F:((dcl (n:Int)).toList==s.toList)=false:=by
    cases h:((dcl (n:Int)).toList==s.toList)
    .rfl
    .exact(U (bext (by simpa using h))).elim
   generalize dcl (n:Int)=d at *
   repeat' first|simp -dsimp only[go_sem,Y,Z,h5,G,M,O,F]|apply Br.mk<;>intro h<;>try simp -dsimp only[h]|refine aA.c (by first|exact V) ?_|refine aC ?_|refine aC9 ?_|fail
   all_goals exact J U _ rfl rfl
 .have V:=yU (-(n:Int)) (by omega) (by omega);simp only[Bj] at I J;by_cases U:dcl (-(n:Int))=s
  .have F:((dcl (-(n:Int))).toList==s.toList)=true:=by rw[U];simp
   generalize dcl (-(n:Int))=d at *
   repeat' first|simp -dsimp only[go_sem,Y,Z,h5,G,M,O,F]|apply Br.mk<;>intro h<;>try simp -dsimp only[h]|refine aA.c (by first|exact V) ?_|refine aC ?_|refine aC9 ?_|fail
   all_goals exact I U _ rfl rfl
  .have F:((dcl (-(n:Int))).toList==s.toList)=false:=by
    cases h:((dcl (-(n:Int))).toList==s.toList)
    .rfl
    .exact(U (bext (by simpa using h))).elim
   generalize dcl (-(n:Int))=d at *
   repeat' first|simp -dsimp only[go_sem,Y,Z,h5,G,M,O,F]|apply Br.mk<;>intro h<;>try simp -dsimp only[h]|refine aA.c (by first|exact V) ?_|refine aC ?_|refine aC9 ?_|fail
   all_goals exact J U _ rfl rfl
theorem aOx (C:Ctx) (N:St->Prop) (E:kW->St->Prop) (s t:ByteArray) (hs:Bool) (hr:t.size<=18) {ss:List (Nat×AV)} (G:Vs.look ss 0=.v (.string s)) (H:Vs.look ss 4=.v (.string t))
  (hF:t.data.toList.all (λb=>mP b.toNat)=false->∀σ:St,Vs.look σ.s 2=.v (.int .i64 0)->Vs.look σ.s 3=.v (.bool false)->E .ret σ)
  (hT:t.data.toList.all (λb=>mP b.toNat)=true->∀I:List (Nat×AV),Vs.look I 0=.v (.string s)->Vs.look I 4=.v (.string t)->Vs.look I 5=.v (.int .i64 (pG t.data.toList:Nat))->wpc Tryz.prog C (dF Tryz.prog) aLs N E ⟨I,[]⟩) :
  wpc Tryz.prog C (dF Tryz.prog) aJN N E ⟨ss,[]⟩:=by
 have hn:t.data.toList.length=t.size:=by rw[BP];rfl
 have O:aJN=.seq (.region [⟨some 5,.mv (.const (.int .i64 (0))),none⟩] [0,4,5] []) (.seq (match(wP 5 Cd.bI) with|.seq a _=>a|x=>x) aLs):=rfl;rw[O];unfold Cd.bI;simp only[wP];generalize aLs=LE at *
 simp -dsimp only[go_sem,G,H,pG]
 repeat' first|simp -dsimp only[go_sem,G,H]|apply Br.mk<;>intro h<;>try simp -dsimp only[h]|refine aC ?_|refine aC9 ?_|fail
 refine aP.at dM (X:={i:Nat // i<=t.size∧(t.data.toList.take i).all (λb=>mP b.toNat)=true}) (λi=>[(5,.v (.int .i64 (pG (t.data.toList.take i.1):Nat))),(6,.v (.int .i64 (i.1:Nat)))]) (λi=>[]) (λi=>t.size-i.1) ⟨0,by simp⟩ ?_ ?_
 .simp[Vs.LeL,Vs.look,aB,aQ,aK,Vs.hset,aL,pG,G,H]
 .rintro⟨i,hi,V⟩
  try dsimp only at hi V
  simp -dsimp only[go_sem,G,H];refine Br.mk (λhc=>?_) λhc=>?_
  .have Z:i<t.size:=by have:=BK hc;omega
   have hw:=aJ Z (by omega);have U:i<t.data.toList.length:=by omega
   have hp:(t.data.toList.getD i 0).toNat<=255:=by
    have:=(t.data.toList.getD i 0).toNat_lt;omega
   have hm:=aJc U;have hl:=wW (t:=t.data.toList.take i) V (by rw[BM];omega)
   have ha:pG (t.data.toList.take i)<10 ^ i:=by
    have:=aDN (t.data.toList.take i) 0 0 V (by decide);rw[Ca,BM,Nat.min_eq_left (by omega)] at this;exact this
   have J:10 ^ i<=10 ^ 17:=Nat.pow_le_pow_right (by decide) (by omega);have Y:(10:Nat) ^ 17=100000000000000000:=by decide
   rw[Y] at J;have ho:pG (t.data.toList.take i)<100000000000000000:=by omega
   clear hl ha J Y
   have F:(t.data.toList.take (i+1)).all (λb=>mP b.toNat)=mP (t.data.toList.getD i 0).toNat:=by
    have e:t.data.toList.getD i 0=t.data.toList[i]:=by rw[A8,Ba U];rfl
    rw[bM U,List.all_append,V,CW,BJ,DL,Bool.and_true,e]
   generalize hb:(t.data.toList.getD i 0).toNat=b at *
   generalize pG (t.data.toList.take i)=v at *
   have M:=aGm b;rw[aLw] at M;cases hd:mP b
   .have he:t.data.toList.all (λb=>mP b.toNat)=false:=by
     rw[hd] at F;cases h:t.data.toList.all (λb=>mP b.toNat)
     .rfl
     .rw[Az] at h;have:(t.data.toList.take (i+1)).all (λb=>mP b.toNat)=true:=Az.2 λx hx=>h x (CE hx);rw[this] at F;cases F
    repeat' first|simp -dsimp only[go_sem,G,H,hw,hb,hd]|apply Br.mk<;>intro h<;>try simp -dsimp only[h]|refine aA.c (by first|exact M) ?_|refine aC ?_|refine aC9 ?_|fail
    all_goals first|exact hF he _ rfl rfl|omega
   .rw[hd] at F;have hq:=vT.1 hd;have q1:IntKind.i64.wrap (10*(v:Int))=((10*v:Nat):Int):=by rw[aI (by omega) (by omega)];omega
    have q2:IntKind.u8.wrap ((b:Int)-48)=((b-48:Nat):Int):=by rw[aKd (by omega) (by omega)];omega
    have q3:IntKind.i64.wrap ((b-48:Nat):Int)=((b-48:Nat):Int):=aI (by omega) (by omega);have q4:IntKind.i64.wrap (((10*v:Nat):Int)+((b-48:Nat):Int))=((10*v+(b-48):Nat):Int):=by rw[aI (by omega) (by omega)];omega
    simp -dsimp only[go_sem,G,H,hw,hb,hd]
    repeat' first|simp -dsimp only[go_sem,G,H,hw,hb,hd,q1,q2,q3,q4]|apply Br.mk<;>intro h<;>try simp -dsimp only[h]|refine aA.c (by first|exact M) ?_|refine aC ?_|refine aC9 ?_|fail
    all_goals first|omega|(refine⟨⟨i+1,Z,F⟩,?_,by simp only;omega⟩;simp[Vs.LeL,Vs.look,aB,aQ,aK,Vs.hset,aL,hm,G,H];done)
  .have hj:i=t.size:=by have:=BU hc;omega
   subst hj
   have hf:t.data.toList.all (λb=>mP b.toNat)=true:=by
    rw[Ah (by omega)] at V;exact V
   have hk:t.data.toList.take t.size=t.data.toList:=Ah (by omega)
   try simp -dsimp only[go_sem,G,H]
   refine⟨?_,λh=>absurd rfl h⟩;refine hT hf _ ?_ ?_ ?_<;>simp[Vs.look,G,H,hk]
def rdN (s:ByteArray):Int×Bool:=aA6 s.data.toList
theorem aFg (s:ByteArray):rdI s=rdN s:=rd_eq _
theorem hemp (x:ByteArray):(x.toList==(⟨#[]⟩:ByteArray).toList)=decide (x.size=0):=by
 rw[ByteArray.toList_eq,ByteArray.toList_eq];have e:x.size=x.data.toList.length:=by rw[BP];rfl
 rw[e];cases x.data.toList<;>simp
theorem drop1 (s:ByteArray):(s.extract 1 s.size).data.toList=s.data.toList.drop 1:=Lib.extract_to_end s 1
theorem aNK (C:Ctx) (s t:ByteArray) (F:Bool) (V:decide ((t.size:Int)<(s.size:Int))=F) (hR:rdN s=rdL s.data.toList t.data.toList F) {ss:List (Nat×AV)} (h0:Vs.look ss 0=.v (.string s)) (h4:Vs.look ss 4=.v (.string t)) (hs:s.size<=1048576) (ht:t.size<=s.size) :
  wpc Tryz.prog C (dF Tryz.prog) aEc (sZ Tryz.prog [.tmp 2,.tmp 3] [] (.tup [.v (.int .i64 (rdN s).1),.v (.bool (rdN s).2)]) []) (λe σ=>match e with|.ret=>sZ Tryz.prog [.tmp 2,.tmp 3] [] (.tup [.v (.int .i64 (rdN s).1),.v (.bool (rdN s).2)]) [] σ|.exit _=>False) ⟨ss,[]⟩:=by
 have G:t.data.toList.length=t.size:=by rw[BP];rfl
 have H:∀(σ:St) (a:Int) (b:Bool),rdN s=(a,b)->Vs.look σ.s 2=.v (.int .i64 a)->Vs.look σ.s 3=.v (.bool b)->sZ Tryz.prog [.tmp 2,.tmp 3] [] (.tup [.v (.int .i64 (rdN s).1),.v (.bool (rdN s).2)]) [] σ:=fun σ a b e h2 h3=>by
  rw[e];simp[sZ,aAC,aHh,h2,h3,yP,conv,dG,rP,nQ]
 have J:aEc=.seq (match aEc with|.seq a _=>a|x=>x) aJN:=rfl;rw[J];unfold aEc Cd.bI;simp only[wP];by_cases M:t.size<1∨18<t.size
 .have hz:rdN s=(0,false):=by rw[hR];unfold rdL;rw[AP (by rw[G];exact M)]
  generalize aJN=LL at *
  by_cases h1:t.size<1
  .have O:decide ((t.size:Int)<1)=true:=A9 (by omega)
   repeat' first|simp -dsimp only[go_sem,h0,h4,O]|apply Br.mk<;>intro h<;>try simp -dsimp only[h]|refine aC ?_|refine aC9 ?_|fail
   all_goals first|exact H _ _ _ hz rfl rfl|(rw[hz];exact⟨_,_,rfl,rfl⟩)
  .have O:decide ((t.size:Int)<1)=false:=AQ (by omega);have e2:decide ((t.size:Int)>18)=true:=A9 (by omega)
   repeat' first|simp -dsimp only[go_sem,h0,h4,O,e2]|apply Br.mk<;>intro h<;>try simp -dsimp only[h]|refine aC ?_|refine aC9 ?_|fail
   all_goals first|exact H _ _ _ hz rfl rfl|(rw[hz];exact⟨_,_,rfl,rfl⟩)
 .have O:decide ((t.size:Int)<1)=false:=AQ (by omega);have e2:decide ((t.size:Int)>18)=false:=AQ (by omega)
  have ha:∀I:List (Nat×AV),Vs.look I 0=.v (.string s)->Vs.look I 4=.v (.string t)->wpc Tryz.prog C (dF Tryz.prog) aJN (sZ Tryz.prog [.tmp 2,.tmp 3] [] (.tup [.v (.int .i64 (rdN s).1),.v (.bool (rdN s).2)]) []) (λe σ=>match e with|.ret=>sZ Tryz.prog [.tmp 2,.tmp 3] [] (.tup [.v (.int .i64 (rdN s).1),.v (.bool (rdN s).2)]) [] σ|.exit _=>False) ⟨I,[]⟩:=λI g0 g4=>by
   refine aOx C (sZ Tryz.prog [.tmp 2,.tmp 3] [] (.tup [.v (.int .i64 (rdN s).1),.v (.bool (rdN s).2)]) []) (λe σ=>match e with|.ret=>sZ Tryz.prog [.tmp 2,.tmp 3] [] (.tup [.v (.int .i64 (rdN s).1),.v (.bool (rdN s).2)]) [] σ|.exit _=>False) s t F (by omega) g0 g4 (λhF σ Y Z=>?_) λhT hb k0 k4 k5=>?_
   .refine H σ _ _ ?_ Y Z;rw[hR];unfold rdL;rw[AC (by rw[G];exact M),hF];rfl
   .have hv:=wW hT (by omega)
    have U:rdN s=if Lib.itoa (if F then -(pG t.data.toList:Int) else(pG t.data.toList:Int))==s.data.toList then((if F then -(pG t.data.toList:Int) else(pG t.data.toList:Int)),true) else(0,false):=by
     rw[hR];unfold rdL;rw[AC (by rw[G];exact M),hT];rfl
    refine aOy C (sZ Tryz.prog [.tmp 2,.tmp 3] [] (.tup [.v (.int .i64 (rdN s).1),.v (.bool (rdN s).2)]) []) (λe σ=>match e with|.ret=>sZ Tryz.prog [.tmp 2,.tmp 3] [] (.tup [.v (.int .i64 (rdN s).1),.v (.bool (rdN s).2)]) [] σ|.exit _=>False) s t _ F hv V k0 k4 k5 (λe σ Y Z=>H σ _ _ ?_ Y Z) (λe σ Y Z=>H σ _ _ ?_ Y Z)
    .rw[U,aDS,A9 e,AP rfl]
    .rw[U,aDS,AQ e];rfl
  generalize aJN=LL at *
  repeat' first|simp -dsimp only[go_sem,h0,h4,O,e2]|apply Br.mk<;>intro h<;>try simp -dsimp only[h]|refine aC ?_|refine aC9 ?_|fail
  all_goals first|exact ha _ (by simp[Vs.look,h0]) (by simp[Vs.look,h4])
theorem aBS (s:ByteArray) (hs:s.size<=1048576):Fz F.bI [.v (.string s)] (.tup [.v (.int .i64 (rdN s).1),.v (.bool (rdN s).2)]):=by
 have J:s.data.toList.length=s.size:=by rw[BP];rfl
 refine Cd.s_l01Number_k.o.fn0 Tryz.mixed Cd.s_l01Number_k.n Cd.s_l01Number_k.r rfl λC=>?_;have H:Cd.bI=.seq (match Cd.bI with|.seq a _=>a|x=>x) (.seq (match(wP 1 Cd.bI) with|.seq a _=>a|x=>x) (.seq (match(wP 2 Cd.bI) with|.seq a _=>a|x=>x) aEc)):=rfl;by_cases O:s.data.toList.getD 0 0=45∧0<s.size
 .have I:(!(s.toList==(⟨#[]⟩:ByteArray).toList))=true:=by rw[hemp];simp only[BB,BD];omega
  have M:(((s.data.toList.getD 0 0).toNat:Int)==45)=true:=by rw[O.1];rfl
  have hb:(s.extract 1 s.size).size=s.size-1:=by simp[ByteArray.size_extract]
  have U:∀G:List (Nat×AV),Vs.look G 0=.v (.string s)->Vs.look G 4=.v (.string (s.extract 1 s.size))->wpc Tryz.prog C (dF Tryz.prog) aEc _ _ ⟨G,[]⟩:=λG V Y=>aNK C s (s.extract 1 s.size) true (A9 (by omega)) (by unfold rdN aA6;rw[AP ⟨O.1,by rw[J];exact O.2⟩,drop1]) V Y hs (by omega);rw[H];unfold Cd.bI;simp only[wP];generalize aEc=LT at *
  repeat' first|simp -dsimp only[go_sem,I,M]|apply Br.mk<;>intro h<;>try simp -dsimp only[h]|refine aC ?_|refine aC9 ?_|fail
  all_goals first|omega|exact U _ rfl rfl
 .have ha:rdN s=rdL s.data.toList s.data.toList false:=by unfold rdN aA6;rw[AC (λh=>O ⟨h.1,by rw[←J];exact h.2⟩)]
  have U:∀G:List (Nat×AV),Vs.look G 0=.v (.string s)->Vs.look G 4=.v (.string s)->wpc Tryz.prog C (dF Tryz.prog) aEc _ _ ⟨G,[]⟩:=λG V Y=>aNK C s s false (AQ (by omega)) ha V Y hs (Au _);by_cases Z:s.size=0
  .have I:(!(s.toList==(⟨#[]⟩:ByteArray).toList))=false:=by rw[hemp];simp[Z]
   rw[H];unfold Cd.bI;simp only[wP];generalize aEc=LT at *
   repeat' first|simp -dsimp only[go_sem,I]|apply Br.mk<;>intro h<;>try simp -dsimp only[h]|refine aC ?_|refine aC9 ?_|fail
   all_goals first|omega|exact U _ rfl rfl
  .have I:(!(s.toList==(⟨#[]⟩:ByteArray).toList))=true:=by rw[hemp];simp only[BB,BD];omega
   have M:(((s.data.toList.getD 0 0).toNat:Int)==45)=false:=by
    have h1:¬s.data.toList.getD 0 0=45:=λh=>O ⟨h,by omega⟩;refine AB.2 λh=>h1 ?_;have h2:(s.data.toList.getD 0 0).toNat=45:=by omega
    exact UInt8.toNat_inj.1 h2
   rw[H];unfold Cd.bI;simp only[wP];generalize aEc=LT at *
   repeat' first|simp -dsimp only[go_sem,I,M]|apply Br.mk<;>intro h<;>try simp -dsimp only[h]|refine aC ?_|refine aC9 ?_|fail
   all_goals first|omega|exact U _ rfl rfl
end
section
variable [Rd]
attribute [local irreducible] Vs.Fn dcl
def CdS.spec_l01Split:aD:=
 .seq (.region [⟨some 4,.mv (.const (.slice none 0 0)),none⟩] [0,1] []) <|
 .seq (.naming 5 (
    .region [⟨some 8,.bslice 1 0 [.v (.string ⟨#[]⟩)] [],none⟩,
      ⟨some 5,.mv (.tmp 8),none⟩] [0,1,5] [])) <|
 .seq (.region [⟨some 6,.mv (.const (.int .i64 (0))),none⟩] [0,1,5,6] []) <|
 .seq (.seq (.region [⟨some 7,.mv (.const (.int .i64 (0))),none⟩] [0,1,5,6,7] []) <|
  .block 0 (
    .loop (
      .seq (.seq (.region [⟨some 9,.mv (.tmp 7),none⟩,
          ⟨some 10,.mv (.tmp 0),none⟩,
          ⟨some 11,.lenS (.tmp 10),none⟩,
          ⟨some 12,.bin .lss (.tmp 9) (.tmp 11),none⟩] [0,1,5,6,7,12] []) <|
       .cond (.tmp 12)
         (.skip)
         (.exit 0)) <|
      .seq (.block 1 (
         .seq (.region [⟨some 15,.mv (.tmp 0),none⟩,
            ⟨some 16,.mv (.tmp 7),none⟩,
            ⟨some 17,.idxStr (.tmp 15) (.tmp 16),none⟩,
            ⟨some 18,.mv (.tmp 1),none⟩,
            ⟨some 19,.bin .eql (.tmp 17) (.tmp 18),none⟩] [0,1,5,6,7,19] []) <|
         .cond (.tmp 19)
           (.seq (.naming 5 (
              .region [⟨some 20,.mv (.tmp 5),none⟩,
                ⟨some 21,.mv (.tmp 0),none⟩,
                ⟨some 22,.mv (.tmp 6),none⟩,
                ⟨some 23,.mv (.tmp 7),none⟩,
                ⟨some 24,.sstr (.tmp 21) (some (.tmp 22)) (some (.tmp 23)),none⟩,
                ⟨some 25,.bslice 1 1 [.v (.string ⟨#[]⟩)] [(0,(.tmp 24))],none⟩,
                ⟨some 26,.append 1 16 (.tmp 20) (.tmp 25),none⟩,
                ⟨some 5,.mv (.tmp 26),none⟩] [0,1,5,7] [])) <|
           .region [⟨some 27,.mv (.tmp 7),none⟩,
             ⟨some 28,.bin .add (.tmp 27) (.const (.int .i64 (1))),none⟩,
             ⟨some 6,.mv (.tmp 28),none⟩] [0,1,5,6,7] [])
           (.skip))) <|
      .region [⟨some 13,.mv (.tmp 7),none⟩,
        ⟨some 14,.bin .add (.tmp 13) (.const (.int .i64 (1))),none⟩,
        ⟨some 7,.mv (.tmp 14),none⟩] [0,1,5,6,7] []))) <|
 .seq (.region [⟨some 29,.mv (.tmp 5),none⟩,
    ⟨some 30,.mv (.tmp 0),none⟩,
    ⟨some 31,.mv (.tmp 6),none⟩,
    ⟨some 32,.sstr (.tmp 30) (some (.tmp 31)) none,none⟩,
    ⟨some 33,.bslice 1 1 [.v (.string ⟨#[]⟩)] [(0,(.tmp 32))],none⟩,
    ⟨some 34,.append 1 16 (.tmp 29) (.tmp 33),none⟩,
    ⟨some 4,.mv (.tmp 34),none⟩] [4] []) <|
 .ret
theorem CdS.spec_l01Split_ok:l7 Tryz.prog 62 Tryz.f62 CdS.spec_l01Split:=⟨Tryz.func62,by kernel_rfl,by decide +kernel⟩
theorem bmk (x:ByteArray):(⟨x.data.toList.toArray⟩:ByteArray)=x:=by
 obtain⟨⟨l⟩⟩:=x;rfl
theorem wd_of {s:ByteArray}{L:List ByteArray} (h:L.map (λx=>x.data.toList)=spL s.data.toList):L=wdS s:=by
 unfold wdS;rw[←h,Cb];exact((List.map_congr_left λx _=>bmk x).trans (List.map_id _)).symm
theorem extL (s:ByteArray) (a b:Nat):(s.extract a b).data.toList=(s.data.toList.drop a).take (b-a):=Lib.extract_data s a b
attribute [local go_sem] BR Af Ag Ao Aq Ae Aj Ad Al Ac Ai Ap Bf BA in
theorem aLr (s:ByteArray) (hs:s.size<=1048576):Fz F.sV [.v (.string s),.v (.int .u8 32)] (.sl 1 (E cW (wdS s))):=by
 have Y:s.data.toList.length=s.size:=by rw[BP];rfl
 refine CdS.spec_l01Split_ok.fn0 Tryz.mixed Cd.s_l01Split_k.n Cd.s_l01Split_k.r rfl λX=>?_;unfold CdS.spec_l01Split;simp -dsimp only[go_sem,Y]
 repeat' first|simp -dsimp only[go_sem]|apply Br.mk<;>intro h<;>try simp -dsimp only[h]|refine aC ?_|refine aC9 ?_|fail
 refine aP.at dM (X:={x:Nat×Nat×List ByteArray // x.2.1<=x.1∧x.1<=s.size∧x.2.2.length<=x.1∧(32:UInt8)∉(s.data.toList.drop x.2.1).take (x.1-x.2.1)∧(x.2.2.map λy=>y.data.toList)++spL (s.data.toList.drop x.2.1)=spL s.data.toList}) (λx=>[(5,.loc (.t 5 0) 0 x.1.2.2.length),(6,.v (.int .i64 (x.1.2.1:Nat))),(7,.v (.int .i64 (x.1.1:Nat)))]) (λx=>[(.t 5 0,.arr 1 (E cW x.1.2.2) false)]) (λx=>s.size-x.1.1) ⟨(0,0,[]),by simp⟩ ?_ ?_
 .simp[Vs.LeL,Vs.look,aB,aQ,aK,Vs.hset,aL,Vs.E]
 .rintro⟨⟨i,fr,G⟩,h1,h2,h3,M,h5⟩;dsimp only at h1 h2 h3 M h5;have H:(E cW G).length=G.length:=aH _;simp -dsimp only[go_sem,H];refine Br.mk (λhc=>?_) λhc=>?_
  .have hj:i<s.size:=by have:=BK hc;omega
   have hw:=aJ hj (by omega);have V:i<s.data.toList.length:=by omega
   have e:s.data.toList.getD i 0=s.data.toList[i]:=by rw[A8,Ba V];rfl
   have U:E cW G++[[.v (.string (s.extract fr i))]]=E cW (G++[s.extract fr i]):=by rw[aV];rfl
   have Z:s.data.toList.drop fr=(s.data.toList.drop fr).take (i-fr)++s.data.toList[i]::s.data.toList.drop (i+1):=by
    have h:=BN (i-fr) (s.data.toList.drop fr);rw[List.drop_drop,show fr+(i-fr)=i by omega,Ci V] at h;exact h.symm
   cases hb:(((s.data.toList.getD i 0).toNat:Int)==32)
   .have hk:s.data.toList[i]≠32:=λh=>by
     rw[e,h] at hb;simp at hb
    have ha:(32:UInt8)∉(s.data.toList.drop fr).take (i+1-fr):=by
     rw[show i+1-fr=(i-fr)+1 by omega,bM (by rw[Cg];omega)];intro hm;rcases Bg.1 hm with h|h
     .exact M h
     .rw[Av,List.getElem_drop] at h;have e2:fr+(i-fr)=i:=by omega
      simp only[e2] at h;exact hk h.symm
    repeat' first|simp -dsimp only[go_sem,hw,hb,H]|apply Br.mk<;>intro h<;>try simp -dsimp only[h]|refine aC ?_|refine aC9 ?_|fail
    all_goals first|omega|(refine⟨⟨(i+1,fr,G),by simp only;omega,by simp only;omega,by simp only;omega,ha,h5⟩,?_,by simp only;omega⟩;simp[Vs.LeL,Vs.look,aB,aQ,aK,Vs.hset,aL,H];done)
   .have he:s.data.toList[i]=32:=by
     rw[e] at hb;have h:=BO.1 hb;exact UInt8.toNat_inj.1 (by have hl:(32:UInt8).toNat=32:=rfl;omega)
    have hd:((G++[s.extract fr i]).map λy=>y.data.toList)++spL (s.data.toList.drop (i+1))=spL s.data.toList:=by
     rw[←h5,Bu,Bz];congr 1;rw[Z,he,mZ M,Bt,BI,extL];rfl
    have O:(E cW (G++[s.extract fr i])).length=G.length+1:=by rw[aH,AX];rfl
    repeat' first|simp -dsimp only[go_sem,hw,hb,H,U,O]|apply Br.mk<;>intro h<;>try simp -dsimp only[h]|refine aC ?_|refine aC9 ?_|fail
    all_goals first|omega|(refine⟨⟨(i+1,i+1,G++[s.extract fr i]),by simp only;omega,by simp only;omega,by simp only[AX,Ac,Ai];omega,by simp,hd⟩,?_,by simp only;omega⟩;simp[Vs.LeL,Vs.look,aB,aQ,aK,Vs.hset,aL,H,U];done)
  .have hf:i=s.size:=by have:=BU hc;omega
   subst hf
   have I:E cW G++[[.v (.string (s.extract fr s.size))]]=E cW (wdS s):=by
    rw[←wd_of (L:=G++[s.extract fr s.size]) ?_]
    .rw[aV];rfl
    .rw[←h5,Bu];congr 1;rw[Ah (by rw[Cg];omega)] at M;rw[aAS M,Bt,BI,extL,Ah (by rw[Cg];omega)]
   have hg:(wdS s).length=G.length+1:=by
    have:=Cm List.length I;rw[AX,aH,aH] at this;simpa using this.symm
   have J:(E cW (wdS s)).take (G.length+1)=E cW (wdS s):=Ah (by rw[aH,hg];exact Au _)
   try simp -dsimp only[go_sem,H,I,J]
   refine⟨?_,λh=>h rfl⟩
   repeat' first|simp -dsimp only[go_sem,H,I,J]|apply Br.mk<;>intro h<;>try simp -dsimp only[h]|refine aC ?_|refine aC9 ?_|fail
   all_goals first|omega|exact⟨_,_,rfl,rfl⟩|(rw[J];exact⟨_,_,rfl,rfl⟩)
end
section
variable [Rd]
attribute [local irreducible] Vs.Fn dcl
theorem aCG:∀{l u:List UInt8},u∈spL l->u.length<=l.length
 | [],u,h=>by simp[spL] at h;subst h;simp
 | b::r,u,h=>by
  unfold spL at h;split at h
  .rcases Am.1 h with rfl|h
   .simp
   .have:=aCG h;simp;omega
  .cases e:spL r with
   |nil=>exact(aE6 r e).elim
   | cons x t =>
    rw[e] at h;rcases Am.1 h with rfl|h
    .have:=aCG (l:=r) (u:=x) (by rw[e];exact Dn);simp;omega
    .have:=aCG (l:=r) (u:=u) (by rw[e];exact C8 _ h);simp;omega
theorem aH3 (s:ByteArray):(wdS s).map (λx=>x.data.toList)=spL s.data.toList:=by
 unfold wdS;rw[Cb];exact(List.map_congr_left λx _=>by simp).trans (List.map_id _)
theorem aH2 {s x:ByteArray} (h:x∈wdS s):x.size<=s.size:=by
 have F:x.data.toList∈spL s.data.toList:=by rw[←aH3];exact Bq.2 ⟨x,h,rfl⟩
 have:=aCG F;rw[BP,BP] at this;exact this
theorem six {L:List ByteArray} (h:L.length=6):∃a b c d e f,L=[a,b,c,d,e,f]:=by
 match L,h with
 | [a,b,c,d,e,f],_=>exact⟨a,b,c,d,e,f,rfl⟩
def rcP (a b c d e f:ByteArray):Prop:=(b=(⟨#[99,97,114,100,115]⟩:ByteArray)∧d=(⟨#[115,117,109]⟩:ByteArray)∧f=(⟨#[100,105,103,105,116,115]⟩:ByteArray))∧((rdN a).2=true∧(rdN c).2=true∧(rdN e).2=true)∧okC (rdN a).1 (rdN c).1 (rdN e).1=true
instance (a b c d e f:ByteArray):Decidable (rcP a b c d e f):=by unfold rcP;infer_instance
def rcV (s:ByteArray):(Int×Int×Int)×Bool:=match wdS s with
 | [a,b,c,d,e,f]=>if rcP a b c d e f then(((rdN a).1,(rdN c).1,(rdN e).1),true) else((0,0,0),false)
 |_=>((0,0,0),false)
theorem aHl {s:ByteArray} (h:(wdS s).length≠6):rcV s=((0,0,0),false):=by
 unfold rcV;split
 .rename_i e;rw[e] at h;exact(h rfl).elim
 .rfl
theorem aKU {s a b c d e f:ByteArray} (h:wdS s=[a,b,c,d,e,f]):rcV s=if rcP a b c d e f then(((rdN a).1,(rdN c).1,(rdN e).1),true) else((0,0,0),false):=by
 unfold rcV;rw[h]
theorem aJ7 {x y:ByteArray}:(x.toList==y.toList)=decide (x=y):=by
 rw[Bool.eq_iff_iff,BO,Bb];exact⟨bext,λh=>by rw[h]⟩
theorem bdat {x:ByteArray}{l:List UInt8}:x.data.toList=l↔x=⟨l.toArray⟩:=by
 constructor
 .rintro rfl;exact(bmk x).symm
 .rintro rfl;rfl
theorem aON {s a b c d e f:ByteArray} (h:wdS s=[a,b,c,d,e,f]) (I:(rdN a).2=true) (J:(rdN c).2=true) (M:(rdN e).2=true) (O:okC (rdN a).1 (rdN c).1 (rdN e).1=true) :
  ((ctT (rdN a).1 (rdN c).1 (rdN e).1).toList==s.toList)=decide (b=(⟨#[99,97,114,100,115]⟩:ByteArray)∧d=(⟨#[115,117,109]⟩:ByteArray)∧f=(⟨#[100,105,103,105,116,115]⟩:ByteArray)):=by
 have G:=aH3 s;rw[h] at G;have F:=aMJ G.symm (aFd I) (aFd J) (aFd M);rw[Bool.eq_iff_iff,BO,Bb]
 have H:(ctT (rdN a).1 (rdN c).1 (rdN e).1).toList=Lib.itoa (rdN a).1++32::(wC++32::(Lib.itoa (rdN c).1++32::(wS++32::(Lib.itoa (rdN e).1++32::wD)))):=by
  rw[ctT,AP O,ByteArray.toList_eq];simp[ctX,dcl,wC,wS,wD]
 rw[H,ByteArray.toList_eq];have U:=F;unfold rdN at *
 rw[U,bdat,bdat,bdat];rfl
attribute [local go_sem] BR Af Ag Ao Aq Ae Aj Ad Al Ac Ai Ap Int.reduceBEq Int.reduceBNe in
theorem aBF (s:ByteArray) (hs:s.size<=1048576):Fz F.mI [.v (.string s)] (.tup [.agg [.v (.int .i64 (rcV s).1.1),.v (.int .i64 (rcV s).1.2.1),.v (.int .i64 (rcV s).1.2.2)],.v (.bool (rcV s).2)]):=by
 have H:=aLr s hs;have ha:(E cW (wdS s)).length=(wdS s).length:=aH _;by_cases h6:(wdS s).length=6
 .obtain⟨a,b,c,d,e,f,hW⟩:=six h6;have hm:∀x,x∈wdS s->x.size<=1048576:=λx hx=>Bl (aH2 hx) hs;rw[hW] at H hm;have V:=aBS a (hm _ (by simp));have Y:=aBS c (hm _ (by simp));have Z:=aBS e (hm _ (by simp));have U:=aEx (rdN a).1 (rdN c).1 (rdN e).1;have hV:=aKU hW;rw[hV];have g0:(E cW [a,b,c,d,e,f]).getD 0 []=[.v (.string a)]:=rfl;have g1:(E cW [a,b,c,d,e,f]).getD 1 []=[.v (.string b)]:=rfl;have g2:(E cW [a,b,c,d,e,f]).getD 2 []=[.v (.string c)]:=rfl;have g3:(E cW [a,b,c,d,e,f]).getD 3 []=[.v (.string d)]:=rfl;have g4:(E cW [a,b,c,d,e,f]).getD 4 []=[.v (.string e)]:=rfl;have g5:(E cW [a,b,c,d,e,f]).getD 5 []=[.v (.string f)]:=rfl;have gl:(E cW [a,b,c,d,e,f]).length=6:=rfl;have G:(((6:Nat):Int) != 6)=false:=by decide
  generalize E cW [a,b,c,d,e,f]=W at *
  by_cases J:b=(⟨#[99,97,114,100,115]⟩:ByteArray)
  .have I:(b.toList==(⟨#[99,97,114,100,115]⟩:ByteArray).toList)=true:=by rw[aJ7];exact A9 J
   by_cases M:d=(⟨#[115,117,109]⟩:ByteArray)
   .have hd:(d.toList==(⟨#[115,117,109]⟩:ByteArray).toList)=true:=by rw[aJ7];exact A9 M
    by_cases O:f=(⟨#[100,105,103,105,116,115]⟩:ByteArray)
    .have hf:(f.toList==(⟨#[100,105,103,105,116,115]⟩:ByteArray).toList)=true:=by rw[aJ7];exact A9 O
     by_cases pa:(rdN a).2=true
     .have oa:=pa;by_cases pc:(rdN c).2=true
      .have oc:=pc;by_cases pe:(rdN e).2=true
       .have oe:=pe;by_cases pk:okC (rdN a).1 (rdN c).1 (rdN e).1=true
        .have ok:=pk;rw[AP (show rcP a b c d e f from⟨⟨J,M,O⟩,⟨pa,pc,pe⟩,pk⟩)];refine fn0 Cd.s_ReadControl_k λX=>?_
         repeat' first|simp -dsimp only[go_sem,g0,g1,g2,g3,g4,g5,gl,G,I,hd,hf,oa,oc,oe,ok]|apply Br.mk<;>intro h<;>try simp -dsimp only[h]|refine aA.c (by first|exact H|exact V|exact Y|exact Z|exact U) ?_|refine aC ?_|refine aC9 ?_|fail
         all_goals first|exact⟨_,_,rfl,rfl⟩|(refine aR ?_;simp;done)|omega
        .have ok:okC (rdN a).1 (rdN c).1 (rdN e).1=false:=by simpa using pk
         rw[AC (λh:rcP a b c d e f=>pk h.2.2)];refine fn0 Cd.s_ReadControl_k λX=>?_
         repeat' first|simp -dsimp only[go_sem,g0,g1,g2,g3,g4,g5,gl,G,I,hd,hf,oa,oc,oe,ok]|apply Br.mk<;>intro h<;>try simp -dsimp only[h]|refine aA.c (by first|exact H|exact V|exact Y|exact Z|exact U) ?_|refine aC ?_|refine aC9 ?_|fail
         all_goals first|exact⟨_,_,rfl,rfl⟩|(refine aR ?_;simp;done)|omega
       .have oe:(rdN e).2=false:=by simpa using pe
        rw[AC (λh:rcP a b c d e f=>pe h.2.1.2.2)];refine fn0 Cd.s_ReadControl_k λX=>?_
        repeat' first|simp -dsimp only[go_sem,g0,g1,g2,g3,g4,g5,gl,G,I,hd,hf,oa,oc,oe]|apply Br.mk<;>intro h<;>try simp -dsimp only[h]|refine aA.c (by first|exact H|exact V|exact Y|exact Z|exact U) ?_|refine aC ?_|refine aC9 ?_|fail
        all_goals first|exact⟨_,_,rfl,rfl⟩|(refine aR ?_;simp;done)|omega
      .have oc:(rdN c).2=false:=by simpa using pc
       rw[AC (λh:rcP a b c d e f=>pc h.2.1.2.1)];refine fn0 Cd.s_ReadControl_k λX=>?_
       repeat' first|simp -dsimp only[go_sem,g0,g1,g2,g3,g4,g5,gl,G,I,hd,hf,oa,oc]|apply Br.mk<;>intro h<;>try simp -dsimp only[h]|refine aA.c (by first|exact H|exact V|exact Y|exact Z|exact U) ?_|refine aC ?_|refine aC9 ?_|fail
       all_goals first|exact⟨_,_,rfl,rfl⟩|(refine aR ?_;simp;done)|omega
     .have oa:(rdN a).2=false:=by simpa using pa
      rw[AC (λh:rcP a b c d e f=>pa h.2.1.1)];refine fn0 Cd.s_ReadControl_k λX=>?_
      repeat' first|simp -dsimp only[go_sem,g0,g1,g2,g3,g4,g5,gl,G,I,hd,hf,oa]|apply Br.mk<;>intro h<;>try simp -dsimp only[h]|refine aA.c (by first|exact H|exact V|exact Y|exact Z|exact U) ?_|refine aC ?_|refine aC9 ?_|fail
      all_goals first|exact⟨_,_,rfl,rfl⟩|(refine aR ?_;simp;done)|omega
    .have hf:(f.toList==(⟨#[100,105,103,105,116,115]⟩:ByteArray).toList)=false:=by rw[aJ7];exact AQ O
     rw[AC (λh:rcP a b c d e f=>O h.1.2.2)];refine fn0 Cd.s_ReadControl_k λX=>?_
     repeat' first|simp -dsimp only[go_sem,g0,g1,g2,g3,g4,g5,gl,G,I,hd,hf]|apply Br.mk<;>intro h<;>try simp -dsimp only[h]|refine aA.c (by first|exact H|exact V|exact Y|exact Z|exact U) ?_|refine aC ?_|refine aC9 ?_|fail
     all_goals first|exact⟨_,_,rfl,rfl⟩|(refine aR ?_;simp;done)|omega
   .have hd:(d.toList==(⟨#[115,117,109]⟩:ByteArray).toList)=false:=by rw[aJ7];exact AQ M
    rw[AC (λh:rcP a b c d e f=>M h.1.2.1)];refine fn0 Cd.s_ReadControl_k λX=>?_
    repeat' first|simp -dsimp only[go_sem,g0,g1,g2,g3,g4,g5,gl,G,I,hd]|apply Br.mk<;>intro h<;>try simp -dsimp only[h]|refine aA.c (by first|exact H|exact V|exact Y|exact Z|exact U) ?_|refine aC ?_|refine aC9 ?_|fail
    all_goals first|exact⟨_,_,rfl,rfl⟩|(refine aR ?_;simp;done)|omega
  .have I:(b.toList==(⟨#[99,97,114,100,115]⟩:ByteArray).toList)=false:=by rw[aJ7];exact AQ J
   rw[AC (λh:rcP a b c d e f=>J h.1.1)];refine fn0 Cd.s_ReadControl_k λX=>?_
   repeat' first|simp -dsimp only[go_sem,g0,g1,g2,g3,g4,g5,gl,G,I]|apply Br.mk<;>intro h<;>try simp -dsimp only[h]|refine aA.c (by first|exact H|exact V|exact Y|exact Z|exact U) ?_|refine aC ?_|refine aC9 ?_|fail
   all_goals first|exact⟨_,_,rfl,rfl⟩|(refine aR ?_;simp;done)|omega
 .have e6:(((wdS s).length:Int) != 6)=true:=by simp only[bne_iff_ne,ne_eq];omega
  rw[aHl h6];refine fn0 Cd.s_ReadControl_k λX=>?_
  repeat' first|simp -dsimp only[go_sem,ha,e6]|apply Br.mk<;>intro h<;>try simp -dsimp only[h]|refine aA.c (by first|exact H) ?_|refine aC ?_|refine aC9 ?_|fail
  all_goals first|exact⟨_,_,rfl,rfl⟩|(refine aR ?_;simp;done)|omega
attribute [local go_sem] BR Af Ag Ao Aq Ae Aj Ad Al Ac Ai Ap Int.reduceBEq Int.reduceBNe in
theorem vV (s:ByteArray) (hs:s.size<=1048576):Fz F.kJ [.v (.string s)] (.tup [.agg [.v (.int .i64 (rcV s).1.1),.v (.int .i64 (rcV s).1.2.1),.v (.int .i64 (rcV s).1.2.2)],.v (.bool (rcV s).2)]):=by
 have H:=aN2 s hs;have hb:(E cW (wdS s)).length=(wdS s).length:=aH _;by_cases h6:(wdS s).length=6
 .obtain⟨a,b,c,d,e,f,hW⟩:=six h6;have hm:∀x,x∈wdS s->x.size<=1048576:=λx hx=>Bl (aH2 hx) hs;rw[hW] at H hm;have I:=aDf a (hm _ (by simp));rw[aFg] at I;have J:=aDf c (hm _ (by simp));rw[aFg] at J;have M:=aDf e (hm _ (by simp));rw[aFg] at M;have U:=oO (rdN a).1 (rdN c).1 (rdN e).1;have V:=vW (rdN a).1 (rdN c).1 (rdN e).1;have hV:=aKU hW;rw[hV];have Y:(E cW [a,b,c,d,e,f]).getD 0 []=[.v (.string a)]:=rfl;have Z:(E cW [a,b,c,d,e,f]).getD 1 []=[.v (.string b)]:=rfl;have g2:(E cW [a,b,c,d,e,f]).getD 2 []=[.v (.string c)]:=rfl;have g3:(E cW [a,b,c,d,e,f]).getD 3 []=[.v (.string d)]:=rfl;have g4:(E cW [a,b,c,d,e,f]).getD 4 []=[.v (.string e)]:=rfl;have g5:(E cW [a,b,c,d,e,f]).getD 5 []=[.v (.string f)]:=rfl;have gl:(E cW [a,b,c,d,e,f]).length=6:=rfl;have G:(((6:Nat):Int) != 6)=false:=by decide
  have CT:=λha hc he hk=>aON hW ha hc he hk;generalize E cW [a,b,c,d,e,f]=W at *
  by_cases pa:(rdN a).2=true
  .have O:=pa;by_cases pc:(rdN c).2=true
   .have oc:=pc;by_cases pe:(rdN e).2=true
    .have oe:=pe;by_cases pk:okC (rdN a).1 (rdN c).1 (rdN e).1=true
     .have ok:=pk;by_cases pt:b=(⟨#[99,97,114,100,115]⟩:ByteArray)∧d=(⟨#[115,117,109]⟩:ByteArray)∧f=(⟨#[100,105,103,105,116,115]⟩:ByteArray)
      .have ct:((ctT (rdN a).1 (rdN c).1 (rdN e).1).toList==s.toList)=true:=(CT pa pc pe pk).trans (A9 pt);rw[AP (show rcP a b c d e f from⟨pt,⟨pa,pc,pe⟩,pk⟩)];refine fn0 Cd.i_ReadControl_k λX=>?_
       repeat' first|simp -dsimp only[go_sem,Y,Z,g2,g3,g4,g5,gl,G,O,oc,oe,ok,ct]|apply Br.mk<;>intro h<;>try simp -dsimp only[h]|refine aA.c (by first|exact H|exact I|exact J|exact M|exact U|exact V) ?_|refine aC ?_|refine aC9 ?_|fail
       all_goals first|exact⟨_,_,rfl,rfl⟩|(refine aR ?_;simp;done)|omega
      .have ct:((ctT (rdN a).1 (rdN c).1 (rdN e).1).toList==s.toList)=false:=(CT pa pc pe pk).trans (AQ pt);rw[AC (λh:rcP a b c d e f=>pt h.1)];refine fn0 Cd.i_ReadControl_k λX=>?_
       repeat' first|simp -dsimp only[go_sem,Y,Z,g2,g3,g4,g5,gl,G,O,oc,oe,ok,ct]|apply Br.mk<;>intro h<;>try simp -dsimp only[h]|refine aA.c (by first|exact H|exact I|exact J|exact M|exact U|exact V) ?_|refine aC ?_|refine aC9 ?_|fail
       all_goals first|exact⟨_,_,rfl,rfl⟩|(refine aR ?_;simp;done)|omega
     .have ok:okC (rdN a).1 (rdN c).1 (rdN e).1=false:=by simpa using pk
      rw[AC (λh:rcP a b c d e f=>pk h.2.2)];refine fn0 Cd.i_ReadControl_k λX=>?_
      repeat' first|simp -dsimp only[go_sem,Y,Z,g2,g3,g4,g5,gl,G,O,oc,oe,ok]|apply Br.mk<;>intro h<;>try simp -dsimp only[h]|refine aA.c (by first|exact H|exact I|exact J|exact M|exact U|exact V) ?_|refine aC ?_|refine aC9 ?_|fail
      all_goals first|exact⟨_,_,rfl,rfl⟩|(refine aR ?_;simp;done)|omega
    .have oe:(rdN e).2=false:=by simpa using pe
     rw[AC (λh:rcP a b c d e f=>pe h.2.1.2.2)];refine fn0 Cd.i_ReadControl_k λX=>?_
     repeat' first|simp -dsimp only[go_sem,Y,Z,g2,g3,g4,g5,gl,G,O,oc,oe]|apply Br.mk<;>intro h<;>try simp -dsimp only[h]|refine aA.c (by first|exact H|exact I|exact J|exact M|exact U|exact V) ?_|refine aC ?_|refine aC9 ?_|fail
     all_goals first|exact⟨_,_,rfl,rfl⟩|(refine aR ?_;simp;done)|omega
   .have oc:(rdN c).2=false:=by simpa using pc
    rw[AC (λh:rcP a b c d e f=>pc h.2.1.2.1)];refine fn0 Cd.i_ReadControl_k λX=>?_
    repeat' first|simp -dsimp only[go_sem,Y,Z,g2,g3,g4,g5,gl,G,O,oc]|apply Br.mk<;>intro h<;>try simp -dsimp only[h]|refine aA.c (by first|exact H|exact I|exact J|exact M|exact U|exact V) ?_|refine aC ?_|refine aC9 ?_|fail
    all_goals first|exact⟨_,_,rfl,rfl⟩|(refine aR ?_;simp;done)|omega
  .have O:(rdN a).2=false:=by simpa using pa
   rw[AC (λh:rcP a b c d e f=>pa h.2.1.1)];refine fn0 Cd.i_ReadControl_k λX=>?_
   repeat' first|simp -dsimp only[go_sem,Y,Z,g2,g3,g4,g5,gl,G,O]|apply Br.mk<;>intro h<;>try simp -dsimp only[h]|refine aA.c (by first|exact H|exact I|exact J|exact M|exact U|exact V) ?_|refine aC ?_|refine aC9 ?_|fail
   all_goals first|exact⟨_,_,rfl,rfl⟩|(refine aR ?_;simp;done)|omega
 .have e6:(((wdS s).length:Int) != 6)=true:=by simp only[bne_iff_ne,ne_eq];omega
  rw[aHl h6];refine fn0 Cd.i_ReadControl_k λX=>?_
  repeat' first|simp -dsimp only[go_sem,hb,e6]|apply Br.mk<;>intro h<;>try simp -dsimp only[h]|refine aA.c (by first|exact H) ?_|refine aC ?_|refine aC9 ?_|fail
  all_goals first|exact⟨_,_,rfl,rfl⟩|(refine aR ?_;simp;done)|omega
end
section
variable [Rd]
attribute [local irreducible] Vs.Fn
theorem aK7 {n:Nat} (G:n<10 ^ 18):Lib.nDigits n<=18:=by
 have h:∀(k m:Nat),m<10 ^ (k+1)->Lib.nDigits m<=k+1:=by
  intro k
  induction k with
  |zero=>intro m F;rw[Lib.nDigits_small (by simpa using F)];omega
  | succ k ih =>
   intro m F;by_cases h:m<10
   .rw[Lib.nDigits_small h];omega
   .rw[Lib.nDigits_big h];have:=ih (m/10) (by rw[Nat.pow_succ] at F;omega);omega
 exact h 17 n G
theorem aFI:∀n:Nat,pG (Lib.decDigits n)=n:=by
 intro n
 induction n using Nat.strongRecOn with
 | _ n ih =>
  rw[Lib.decDigits];split
  .rename_i h;have:(UInt8.ofNat (48+n)).toNat=48+n:=by rw[UInt8.toNat_ofNat'];omega
   simp only[pG,List.foldl_cons,List.foldl_nil,this];omega
  .rename_i h;have e:=ih (n/10) (by omega);have:(UInt8.ofNat (48+n%10)).toNat=48+n%10:=by rw[UInt8.toNat_ofNat'];omega
   unfold pG at e⊢;rw[List.foldl_append,e];simp only[List.foldl_cons,List.foldl_nil,this];omega
theorem aJt {n:Int} (V:-1000000000000000000<n) (Y:n<1000000000000000000):aA6 (Lib.itoa n)=(n,true):=by
 by_cases I:n<0
 .have e:Lib.itoa n=45::Lib.decDigits n.natAbs:=by unfold Lib.itoa;rw[AP I]
  obtain⟨G,J⟩:=aBu n.natAbs;have O:(Lib.decDigits n.natAbs).length<=18:=by rw[Lib.decDigits_length];exact aK7 (by omega)
  have H:=aFI n.natAbs;unfold aA6;rw[e,AP ⟨rfl,by simp⟩,Cj,Ce];unfold rdL;rw[AC (by omega),AP G,H];have F:-((n.natAbs:Nat):Int)=n:=by omega
  simp only[Bj,F,e,beq_self_eq_true]
 .have e:Lib.itoa n=Lib.decDigits n.toNat:=by unfold Lib.itoa;rw[AC I]
  obtain⟨G,J⟩:=aBu n.toNat;have O:(Lib.decDigits n.toNat).length<=18:=by rw[Lib.decDigits_length];exact aK7 (by omega)
  have H:=aFI n.toNat
  have M:¬((Lib.decDigits n.toNat).getD 0 0=45∧0<(Lib.decDigits n.toNat).length):=by
   rintro⟨g,_⟩
   have U:(Lib.decDigits n.toNat).getD 0 0∈Lib.decDigits n.toNat:=by
    rw[A8,Ba (by omega)];exact Aa _
   have:=vT.1 (Az.1 G _ U);rw[g] at this;exact absurd this.1 (by decide)
  unfold aA6;rw[e,AC M];unfold rdL;rw[AC (by omega),AP G,H];have F:((n.toNat:Nat):Int)=n:=by omega
  simp only[AO,Bc,F,e,beq_self_eq_true,Bj]
theorem aGL (a b c:Int):(ctX a b c).data.toList=Lib.itoa a++32::(wC++32::(Lib.itoa b++32::(wS++32::(Lib.itoa c++32::wD)))):=by
 simp[ctX,dcl,ByteArray.data_append,wC,wS,wD]
theorem aJ2 (a b c:Int):wdS (ctX a b c)=[dcl a,⟨#[99,97,114,100,115]⟩,dcl b,⟨#[115,117,109]⟩,dcl c,⟨#[100,105,103,105,116,115]⟩]:=by
 unfold wdS;rw[aGL,mZ (sH _),mZ (by decide),mZ (sH _),mZ (by decide),mZ (sH _),aAS (by decide)];rfl
theorem aFf {n:Int} (F:-1000000000000000000<n) (G:n<1000000000000000000):rdN (dcl n)=(n,true):=by
 unfold rdN dcl;exact aJt F G
theorem aML (a b c:Int):rcV (ctT a b c)=if okC a b c then((a,b,c),true) else((0,0,0),false):=by
 unfold ctT;cases hk:okC a b c
 .rw[AC (by decide),AC (by decide)];exact aHl (by decide)
 .obtain⟨⟨H,I⟩,⟨J,M⟩,O,U⟩:=aCJ hk;rw[AP rfl,AP rfl,aKU (aJ2 a b c)];have F:=aFf (n:=a) (by omega) (by omega);have G:=aFf (n:=b) (by omega) (by omega);have rc:=aFf (n:=c) (by omega) (by omega)
  have V:rcP (dcl a) ⟨#[99,97,114,100,115]⟩ (dcl b) ⟨#[115,117,109]⟩ (dcl c) ⟨#[100,105,103,105,116,115]⟩:=by
   unfold rcP;rw[F,G,rc];exact⟨⟨rfl,rfl,rfl⟩,⟨rfl,rfl,rfl⟩,hk⟩
  rw[AP V,F,G,rc]
theorem aJ3 {a b c:Int}:ctT a b c=⟨#[]⟩↔okC a b c=false:=by
 unfold ctT;cases hk:okC a b c
 .simp
 .rw[AP rfl];constructor
  .intro h;have:=Cm (λs:ByteArray=>s.data.toList.length) h;simp only[aGL,AX,Ac] at this;simp at this
  .intro h;cases h
end
end Go.Proofs.YtklmdppgonhflaaGreatDoor
