/- The reference's number of a field. -/
import Derived.Test.YtokfhfdnmnblfaaYwF
import Derived.Test.YtokfhfdnmnblfaaVtP
import Derived.Lib.ItoaNum
import Derived.Test.YtokfhfdnmnblfaaYuR
namespace Go.Proofs.Ytokfhfdnmnblfaa
open Go.Vs
set_option linter.unusedSectionVars false
variable [Vs.Envs]
set_option linter.unusedSimpArgs false
set_option linter.unusedVariables false
attribute [local irreducible] Vs.Fn
end Go.Proofs.Ytokfhfdnmnblfaa

namespace Go.Proofs.Ytokfhfdnmnblfaa
open Go.Vs
set_option linter.unusedSectionVars false
variable [Vs.Envs]
set_option linter.unusedSimpArgs false
set_option linter.unusedVariables false
attribute [local irreducible] Vs.Fn
def bitN (i : Nat) : Int := ((4 * 2 ^ i : Nat) : Int)
theorem shl4 {i : Nat} (hi : i < 10) : IntKind.i64.wrap (4 * 2 ^ (min i IntKind.i64.bits)) = bitN i := by
  have : i = 0 ∨ i = 1 ∨ i = 2 ∨ i = 3 ∨ i = 4 ∨ i = 5 ∨ i = 6 ∨ i = 7 ∨ i = 8 ∨ i = 9 := by omega
  rcases this with rfl | rfl | rfl | rfl | rfl | rfl | rfl | rfl | rfl | rfl <;> decide
theorem u64I {i : Nat} (hi : i < 10) : IntKind.u64.wrap (i : Int) = (i : Int) := by
  have : i = 0 ∨ i = 1 ∨ i = 2 ∨ i = 3 ∨ i = 4 ∨ i = 5 ∨ i = 6 ∨ i = 7 ∨ i = 8 ∨ i = 9 := by omega
  rcases this with rfl | rfl | rfl | rfl | rfl | rfl | rfl | rfl | rfl | rfl <;> decide
theorem bitOf (i : Nat) (hi : i < 10) : Vs.Fn Try.prog F.impl_bitOf [] [.v (.int .i64 (i : Int))] (.v (.int .i64 (bitN i))) [] := by
  have e1 : ((i : Int) == 12) = false := beq_eq_false_iff_ne.2 (by omega)
  have e2 : ((i : Int) == 11) = false := beq_eq_false_iff_ne.2 (by omega)
  have e3 : inB i 0 9 = true := by simp [inB]; omega
  have e4 := shl4 hi
  have e5 := u64I hi
  have e6 : (0 : Int) ≤ (i : Int) := by omega
  refine Cd.impl_bitOf_ok.fn0 Try.mixed Cd.impl_bitOf_nt Cd.impl_bitOf_rs rfl fun X => ?_
  unfold Cd.impl_bitOf
  simp -dsimp only [go_sem, reduceIte, reduceCtorEq, Nat.reduceEqDiff, Nat.reduceLT, Nat.reduceLeDiff, Nat.reduceAdd, Nat.reduceMul, Nat.reduceSub, Int.reduceToNat, Int.reduceNeg, e1, e2, e3, e4, e5, e6]
  repeat' (first
    | (refine RgK.mk rfl ?_; simp -dsimp only [go_sem, reduceIte, reduceCtorEq, Nat.reduceEqDiff, Nat.reduceLT, Nat.reduceLeDiff, Nat.reduceAdd, Nat.reduceMul, Nat.reduceSub, Int.reduceToNat, Int.reduceNeg, e1, e2, e3, e4, e5, e6])
    | (refine Br.mk (fun h => ?_) (fun h => ?_) <;> simp -dsimp only [go_sem, reduceIte, reduceCtorEq, Nat.reduceEqDiff, Nat.reduceLT, Nat.reduceLeDiff, Nat.reduceAdd, Nat.reduceMul, Nat.reduceSub, Int.reduceToNat, Int.reduceNeg, h, e1, e2, e3, e4, e5, e6])
    | (refine CallK.flat (by first | exact inside _ _ _) rfl ?_; simp -dsimp only [go_sem, reduceIte, reduceCtorEq, Nat.reduceEqDiff, Nat.reduceLT, Nat.reduceLeDiff, Nat.reduceAdd, Nat.reduceMul, Nat.reduceSub, Int.reduceToNat, Int.reduceNeg, e1, e2, e3, e4, e5, e6])
    | (refine CallK.pure (by first | exact inside _ _ _) ?_; simp -dsimp only [go_sem, reduceIte, reduceCtorEq, Nat.reduceEqDiff, Nat.reduceLT, Nat.reduceLeDiff, Nat.reduceAdd, Nat.reduceMul, Nat.reduceSub, Int.reduceToNat, Int.reduceNeg, e1, e2, e3, e4, e5, e6])
    | (refine And.intro (by first | rfl | omega | decide | (refine ⟨?_, ?_⟩ <;> (first | rfl | omega | decide)) | (refine ⟨?_, ?_, ?_⟩ <;> (first | rfl | omega | decide)) | (refine ⟨?_, ?_, ?_, ?_⟩ <;> (first | rfl | omega | decide))) ?_)
    | fail)
  all_goals first | (simp_all; done) | (simp_all; exact shl4 hi)
theorem l02Bit (i : Nat) (hi : i < 10) : Vs.Fn Try.prog F.spec_l02Bit [] [.v (.int .i64 (i : Int))] (.v (.int .i64 (bitN i))) [] := by
  have e1 : ((i : Int) == 12) = false := beq_eq_false_iff_ne.2 (by omega)
  have e2 : ((i : Int) == 11) = false := beq_eq_false_iff_ne.2 (by omega)
  have e3 : inB i 0 9 = true := by simp [inB]; omega
  have e4 := shl4 hi
  have e5 := u64I hi
  have e6 : (0 : Int) ≤ (i : Int) := by omega
  refine Cd.spec_l02Bit_ok.fn0 Try.mixed Cd.spec_l02Bit_nt Cd.spec_l02Bit_rs rfl fun X => ?_
  unfold Cd.spec_l02Bit
  simp -dsimp only [go_sem, reduceIte, reduceCtorEq, Nat.reduceEqDiff, Nat.reduceLT, Nat.reduceLeDiff, Nat.reduceAdd, Nat.reduceMul, Nat.reduceSub, Int.reduceToNat, Int.reduceNeg, e1, e2, e3, e4, e5, e6]
  repeat' (first
    | (refine RgK.mk rfl ?_; simp -dsimp only [go_sem, reduceIte, reduceCtorEq, Nat.reduceEqDiff, Nat.reduceLT, Nat.reduceLeDiff, Nat.reduceAdd, Nat.reduceMul, Nat.reduceSub, Int.reduceToNat, Int.reduceNeg, e1, e2, e3, e4, e5, e6])
    | (refine Br.mk (fun h => ?_) (fun h => ?_) <;> simp -dsimp only [go_sem, reduceIte, reduceCtorEq, Nat.reduceEqDiff, Nat.reduceLT, Nat.reduceLeDiff, Nat.reduceAdd, Nat.reduceMul, Nat.reduceSub, Int.reduceToNat, Int.reduceNeg, h, e1, e2, e3, e4, e5, e6])
    | (refine CallK.flat (by first | exact l00In _ _ _) rfl ?_; simp -dsimp only [go_sem, reduceIte, reduceCtorEq, Nat.reduceEqDiff, Nat.reduceLT, Nat.reduceLeDiff, Nat.reduceAdd, Nat.reduceMul, Nat.reduceSub, Int.reduceToNat, Int.reduceNeg, e1, e2, e3, e4, e5, e6])
    | (refine CallK.pure (by first | exact l00In _ _ _) ?_; simp -dsimp only [go_sem, reduceIte, reduceCtorEq, Nat.reduceEqDiff, Nat.reduceLT, Nat.reduceLeDiff, Nat.reduceAdd, Nat.reduceMul, Nat.reduceSub, Int.reduceToNat, Int.reduceNeg, e1, e2, e3, e4, e5, e6])
    | (refine And.intro (by first | rfl | omega | decide | (refine ⟨?_, ?_⟩ <;> (first | rfl | omega | decide)) | (refine ⟨?_, ?_, ?_⟩ <;> (first | rfl | omega | decide)) | (refine ⟨?_, ?_, ?_, ?_⟩ <;> (first | rfl | omega | decide))) ?_)
    | fail)
  all_goals first | (simp_all; done) | (simp_all; exact shl4 hi)
theorem copyIntsO (l : List Int) (hl : l.length ≤ 1048576) : Vs.Fn Try.prog F.impl_copyInts [] [.sl 1 (E cI l)] (.loc (.b 0) 0 l.length) [some (.arr 1 (E cI l) false)] := by
  refine Cd.impl_copyInts_ok.fn Try.mixed (hin := []) 6 _ [.t 5 0] [.arr 1 (E cI l) false] Cd.impl_copyInts_nt Cd.impl_copyInts_rs rfl (by simp) rfl (by simp) fun X => ?_
  unfold Cd.impl_copyInts
  simp -dsimp only [go_sem, reduceIte, reduceCtorEq, Nat.reduceEqDiff, Nat.reduceLT, Nat.reduceLeDiff, Nat.reduceAdd, Nat.reduceMul, Nat.reduceSub, Int.reduceToNat, Int.reduceNeg, List.replicate_succ, List.replicate_zero, List.flatten_cons, List.flatten_nil]

  exact ⟨by omega, ⟨by omega, by omega⟩, ⟨_, _, rfl, rfl⟩⟩
theorem E_slc {α : Type} {c : α → List AV} (l : List α) (a b : Nat) : E c ((l.take a).drop b) = ((E c l).take a).drop b := by simp [E, List.map_take, List.map_drop]
theorem part (c : List Int) (fr to : Int) (h0 : 0 ≤ fr) (h1 : fr ≤ to) (h2 : to ≤ c.length) : Vs.Fn Try.prog F.spec_l02Part [] [.ro (cC c), .agg [.v (.int .i64 fr), .v (.int .i64 to)]] (.sl 1 (E cI ((c.take to.toNat).drop fr.toNat))) [] := by
  refine Cd.spec_l02Part_ok.fn0 Try.mixed Cd.spec_l02Part_nt Cd.spec_l02Part_rs rfl fun X => ?_
  unfold Cd.spec_l02Part
  simp -dsimp only [go_sem, reduceIte, reduceCtorEq, Nat.reduceEqDiff, Nat.reduceLT, Nat.reduceLeDiff, Nat.reduceAdd, Nat.reduceMul, Nat.reduceSub, Int.reduceToNat, Int.reduceNeg, cC]
  repeat' (first
    | (refine RgK.mk rfl ?_; simp -dsimp only [go_sem, reduceIte, reduceCtorEq, Nat.reduceEqDiff, Nat.reduceLT, Nat.reduceLeDiff, Nat.reduceAdd, Nat.reduceMul, Nat.reduceSub, Int.reduceToNat, Int.reduceNeg, cC])
    | (refine Br.mk (fun h => ?_) (fun h => ?_) <;> simp -dsimp only [go_sem, reduceIte, reduceCtorEq, Nat.reduceEqDiff, Nat.reduceLT, Nat.reduceLeDiff, Nat.reduceAdd, Nat.reduceMul, Nat.reduceSub, Int.reduceToNat, Int.reduceNeg, h, cC])
    | (refine And.intro (by first | rfl | omega | decide | (refine ⟨?_, ?_⟩ <;> (first | rfl | omega | decide)) | (refine ⟨?_, ?_, ?_⟩ <;> (first | rfl | omega | decide)) | (refine ⟨?_, ?_, ?_, ?_⟩ <;> (first | rfl | omega | decide))) ?_)
    | fail)
  all_goals exact ret_eq (by rw [E_slc])
end Go.Proofs.Ytokfhfdnmnblfaa

namespace Go.Proofs.Ytokfhfdnmnblfaa
open Go.Vs
set_option linter.unusedSectionVars false
variable [Vs.Envs]
set_option linter.unusedSimpArgs false
set_option linter.unusedVariables false
attribute [local irreducible] Vs.Fn
theorem CallK.own {P : Program} {f : FuncId} {ys : List AV} {d : Option Nat} {σ : St} {K : St → Prop} {t : Tag K} {r : AV} {hout : List (Option Blk)} (hfn : Vs.Fn P f [] ys r hout) (hfr : freshAll (d.getD 0) 0 hout.length σ = true)
    (hK : K ⟨put d (rn (phi [] (d.getD 0) hout.length) r) σ.s, aftL σ.h [] (d.getD 0) hout true []⟩) : CallK P f [] ys [] d σ [] K t :=
  ⟨r, hout, true, hfn, fun h => (by cases h), hfr, hK⟩
def nB (x : Int) : Bool := bitsOp .and .i64 x 2 != 0
end Go.Proofs.Ytokfhfdnmnblfaa

namespace Go.Proofs.Ytokfhfdnmnblfaa
open Go.Vs
set_option linter.unusedSectionVars false
variable [Vs.Envs]
set_option linter.unusedSimpArgs false
set_option linter.unusedVariables false
attribute [local irreducible] Vs.Fn
end Go.Proofs.Ytokfhfdnmnblfaa
