/- Characters, fields, specifications and steps. -/
import Derived.Test.YtfoddghhlagenaaGreatDoorTuD
import Derived.Test.YtfoddghhlagenaaGreatDoorVtI
set_option linter.all false
set_option maxHeartbeats 8000000
namespace Go.Proofs.YtfoddghhlagenaaGreatDoor
open Go.Vs
variable [Vs.Envs]
attribute [local irreducible] Vs.Fn
theorem u64_nonneg (n:Int):0<=IntKind.u64.wrap n:=by
 simp only[IntKind.wrap,IntKind.bits,IntKind.signed,Bool.false_and,Bool.false_eq_true,if_false]
 exact Int.emod_nonneg _ (by decide)
def yG (r:Int):Int:=if r=12 then 1 else if r=11 then 2 else if inB r 0 9 then W (4*2 ^ (min (IntKind.u64.wrap r).toNat 64)) else 0
def aAY (n:Int):Bool:=decide (n≥48)&&decide (n<=57)
def btw (n a b:Int):Bool:=decide (n≥a)&&decide (n<=b)
def orI (a b:Int):Int:=bJ .or .i64 a b
def l03 (n:Int):Int:=
 if n=32 then 0 else if n=38 then 1 else if n=45 then 2 else if n=47 then orI 4 (yG 1) else if aAY n then yG (W (W n-48))
 else if btw n 65 73 then orI 1 (yG (W (W (W n-65)+1))) else if btw n 74 82 then orI 2 (yG (W (W (W n-74)+1))) else if btw n 83 90 then orI 4 (yG (W (W (W n-83)+2))) else -1
theorem aFe (r:Int):Fz F.eZ [.v (.int .i64 r)] (.v (.int .i64 (yG r))):=by
 refine fn0 Cd.s_l02Bit_k λX=>?_
 repeat' first|simp -dsimp only[go_sem]|apply Br.mk<;>intro h<;>try simp -dsimp only[h]|refine RgK.mk rfl ?_|refine aB.c (by first|exact xL _ _ _) ?_|refine And.intro (by first|rfl|omega|decide|exact u64_nonneg _|(refine⟨?_,?_⟩<;>(first|rfl|omega|decide|exact u64_nonneg _))|(refine⟨?_,?_,?_⟩<;>(first|rfl|omega|decide|exact u64_nonneg _))|(refine⟨?_,?_,?_,?_⟩<;>(first|rfl|omega|decide|exact u64_nonneg _))) ?_|fail
 all_goals(simp_all [yG,IntKind.bits,u64_nonneg])
theorem aD3 (n:Int):Fz F.l7 [.v (.int .u8 n)] (.v (.bool (aAY n))):=by
 refine fn0 Cd.s_l01Digit_k λX=>?_
 repeat' first|simp -dsimp only[go_sem]|apply Br.mk<;>intro h<;>try simp -dsimp only[h]|refine aC ?_|refine aC9 ?_|fail
 all_goals(first|(simp_all [aAY];done)|(simp_all [aAY];omega))
theorem aCc (n:Int):Fz F.nN [.v (.int .u8 n)] (.v (.int .i64 (l03 n))):=by
 refine fn0 Cd.s_l03Code_k λX=>?_
 repeat' first|simp -dsimp only[go_sem]|apply Br.mk<;>intro h<;>try simp -dsimp only[h]|refine aB.c (by first|exact aFe _|exact aD3 _) ?_|refine aC ?_|refine aC9 ?_|fail
 all_goals(first|(simp_all [l03,btw,orI];done)|(refine fT ?_;grind [l03,btw,orI]))
attribute [local irreducible] l03
def sG (a b w:Int):Bool:=decide (0<=a)&&(decide (a<b)&&decide (b<=w))
def iI (a b w:Int):Bool:=sG a b w&&decide (W (b-a)<=12)
theorem aCg (a b w:Int):Fz F.lS [.agg [.v (.int .i64 a),.v (.int .i64 b)],.v (.int .i64 w)] (.v (.bool (sG a b w))):=by
 refine fn0 Cd.i_isField_k λX=>?_
 repeat' first|simp -dsimp only[go_sem]|apply Br.mk<;>intro h<;>try simp -dsimp only[h]|refine aC ?_|refine aC9 ?_|fail
 all_goals(first|(simp_all [sG];done)|(simp_all [sG];omega)|(refine fT ?_;grind [sG]))
theorem aD2 (a b w:Int):Fz F.l5 [.agg [.v (.int .i64 a),.v (.int .i64 b)],.v (.int .i64 w)] (.v (.bool (sG a b w))):=by
 refine fn0 Cd.s_l02Field_k λX=>?_
 repeat' first|simp -dsimp only[go_sem]|apply Br.mk<;>intro h<;>try simp -dsimp only[h]|refine aC ?_|refine aC9 ?_|fail
 all_goals(first|(simp_all [sG];done)|(simp_all [sG];omega)|(refine fT ?_;grind [sG]))
theorem yQ (a b w:Int):Fz F.fA [.agg [.v (.int .i64 a),.v (.int .i64 b)],.v (.int .i64 w)] (.v (.bool (iI a b w))):=by
 refine fn0 Cd.i_isNumberField_k λX=>?_
 repeat' first|simp -dsimp only[go_sem]|apply Br.mk<;>intro h<;>try simp -dsimp only[h]|refine aB.c (by first|exact aCg _ _ _) ?_|refine aC ?_|refine aC9 ?_|fail
 all_goals(first|(simp_all [iI];done)|(refine fT ?_;grind [iI]))
end Go.Proofs.YtfoddghhlagenaaGreatDoor
