/-
  The laws FnExactSameTotals and FnExactSameFlow return true for every input, and their arguments read behind the call as they read before. Conditions: none beyond the given statements.
-/
import Derived.Test.YthpokkcbbpapdaaYuB
import Derived.Test.YthpokkcbbpapdaaVtH
namespace Go.Proofs.Ythpokkcbbpapdaa
open Go.Vs
set_option linter.unusedSimpArgs false
set_option linter.unusedVariables false
attribute [local irreducible] Vs.Fn

abbrev Tot := ByteArray × Int
def cT (x : Tot) : List AV := [.v (.string x.1), .v (.int .i64 x.2)]
def szTot (x : Tot) (n : Int) : Int := szT x.1 n
theorem szTot_le {x : Tot} {n : Int} (hs : x.1.size < 2 ^ 63) (h0 : 0 ≤ n) (hn : n ≤ 1048576) (h : 0 ≤ szTot x n) : szTot x n ≤ n := (szT_le hs h0 hn h).1

def qT (x y : Tot) : Bool := (x.1.toList == y.1.toList) && (x.2 == y.2)
theorem qT_spec (x y : Tot) : eqC [2, 0] (cT x) (cT y) = some (qT x y) := by simp [eqC, eqV, cT, qT]
theorem toField (a b : Int) : Vs.Fn Try.prog F.laws_toField [] [.agg [.v (.int .i64 a), .v (.int .i64 b)]] (.agg [.v (.int .i64 a), .v (.int .i64 b)]) [] := by
  refine Cd.laws_toField_ok.fn0 Try.mixed Cd.laws_toField_nt Cd.laws_toField_rs rfl fun X => ?_
  unfold Cd.laws_toField
  simp -dsimp only [go_sem, reduceIte, reduceCtorEq, Nat.reduceEqDiff, Nat.reduceLT, Nat.reduceLeDiff, Nat.reduceAdd, Nat.reduceMul, Nat.reduceSub, Int.reduceToNat, Int.reduceNeg]
  repeat' (first
    | (refine RgK.mk rfl ?_; simp -dsimp only [go_sem, reduceIte, reduceCtorEq, Nat.reduceEqDiff, Nat.reduceLT, Nat.reduceLeDiff, Nat.reduceAdd, Nat.reduceMul, Nat.reduceSub, Int.reduceToNat, Int.reduceNeg])
    | (refine Br.mk (fun h => ?_) (fun h => ?_) <;> simp -dsimp only [go_sem, reduceIte, reduceCtorEq, Nat.reduceEqDiff, Nat.reduceLT, Nat.reduceLeDiff, Nat.reduceAdd, Nat.reduceMul, Nat.reduceSub, Int.reduceToNat, Int.reduceNeg, h])
    | (refine And.intro (by first | rfl | omega | decide | (refine ⟨?_, ?_⟩ <;> (first | rfl | omega | decide)) | (refine ⟨?_, ?_, ?_⟩ <;> (first | rfl | omega | decide)) | (refine ⟨?_, ?_, ?_, ?_⟩ <;> (first | rfl | omega | decide))) ?_)
    | fail)
  all_goals (exact ⟨_, _, rfl, rfl⟩)

theorem eqField (a b : Int) : Vs.Fn Try.prog F.laws_eqField [] [.agg [.v (.int .i64 a), .v (.int .i64 b)], .agg [.v (.int .i64 a), .v (.int .i64 b)]] (.v (.bool true)) [] := by
  refine Cd.laws_eqField_ok.fn0 Try.mixed Cd.laws_eqField_nt Cd.laws_eqField_rs rfl fun X => ?_
  unfold Cd.laws_eqField
  simp -dsimp only [go_sem, reduceIte, reduceCtorEq, Nat.reduceEqDiff, Nat.reduceLT, Nat.reduceLeDiff, Nat.reduceAdd, Nat.reduceMul, Nat.reduceSub, Int.reduceToNat, Int.reduceNeg]
  repeat' (first
    | (refine RgK.mk rfl ?_; simp -dsimp only [go_sem, reduceIte, reduceCtorEq, Nat.reduceEqDiff, Nat.reduceLT, Nat.reduceLeDiff, Nat.reduceAdd, Nat.reduceMul, Nat.reduceSub, Int.reduceToNat, Int.reduceNeg])
    | (refine Br.mk (fun h => ?_) (fun h => ?_) <;> simp -dsimp only [go_sem, reduceIte, reduceCtorEq, Nat.reduceEqDiff, Nat.reduceLT, Nat.reduceLeDiff, Nat.reduceAdd, Nat.reduceMul, Nat.reduceSub, Int.reduceToNat, Int.reduceNeg, h])
    | (refine And.intro (by first | rfl | omega | decide | (refine ⟨?_, ?_⟩ <;> (first | rfl | omega | decide)) | (refine ⟨?_, ?_, ?_⟩ <;> (first | rfl | omega | decide)) | (refine ⟨?_, ?_, ?_, ?_⟩ <;> (first | rfl | omega | decide))) ?_)
    | fail)
  all_goals (simp_all)


structure Stp where
  kind : Int
  a : Int
  b : Int
  to : Int
  f0 : Int
  f1 : Int
  s0 : Int
  s1 : Int
  text : ByteArray
def cS (x : Stp) : List AV := [.v (.int .i64 x.kind), .v (.int .i64 x.a), .v (.int .i64 x.b), .v (.int .i64 x.to), .v (.int .i64 x.f0), .v (.int .i64 x.f1), .v (.int .i64 x.s0), .v (.int .i64 x.s1), .v (.string x.text)]
def szStp (x : Stp) (n : Int) : Int := szT x.text n
theorem szStp_le {x : Stp} {n : Int} (hs : x.text.size < 2 ^ 63) (h0 : 0 ≤ n) (hn : n ≤ 1048576) (h : 0 ≤ szStp x n) : szStp x n ≤ n := (szT_le hs h0 hn h).1
theorem szStep (x : Stp) (n : Int) : Vs.Fn Try.prog F.laws_szStep [] [.agg (cS x), .v (.int .i64 n)] (.v (.int .i64 (szStp x n))) [] := by
  refine Cd.laws_szStep_ok.fn0 Try.mixed Cd.laws_szStep_nt Cd.laws_szStep_rs rfl fun X => ?_
  unfold Cd.laws_szStep
  simp -dsimp only [go_sem, reduceIte, reduceCtorEq, Nat.reduceEqDiff, Nat.reduceLT, Nat.reduceLeDiff, Nat.reduceAdd, Nat.reduceMul, Nat.reduceSub, Int.reduceToNat, Int.reduceNeg, cS]
  repeat' (first
    | (refine RgK.mk rfl ?_; simp -dsimp only [go_sem, reduceIte, reduceCtorEq, Nat.reduceEqDiff, Nat.reduceLT, Nat.reduceLeDiff, Nat.reduceAdd, Nat.reduceMul, Nat.reduceSub, Int.reduceToNat, Int.reduceNeg, cS])
    | (refine Br.mk (fun h => ?_) (fun h => ?_) <;> simp -dsimp only [go_sem, reduceIte, reduceCtorEq, Nat.reduceEqDiff, Nat.reduceLT, Nat.reduceLeDiff, Nat.reduceAdd, Nat.reduceMul, Nat.reduceSub, Int.reduceToNat, Int.reduceNeg, h, cS])
    | (refine And.intro (by first | rfl | omega | decide | (refine ⟨?_, ?_⟩ <;> (first | rfl | omega | decide)) | (refine ⟨?_, ?_, ?_⟩ <;> (first | rfl | omega | decide)) | (refine ⟨?_, ?_, ?_, ?_⟩ <;> (first | rfl | omega | decide))) ?_)
    | fail)
  all_goals (simp_all [szStp, szT] <;> omega)

theorem toStep (x : Stp) : Vs.Fn Try.prog F.laws_toStep [] [.agg (cS x)] (.agg (cS x)) [] := by
  refine Cd.laws_toStep_ok.fn0 Try.mixed Cd.laws_toStep_nt Cd.laws_toStep_rs rfl fun X => ?_
  unfold Cd.laws_toStep
  simp -dsimp only [go_sem, reduceIte, reduceCtorEq, Nat.reduceEqDiff, Nat.reduceLT, Nat.reduceLeDiff, Nat.reduceAdd, Nat.reduceMul, Nat.reduceSub, Int.reduceToNat, Int.reduceNeg, cS]
  repeat' (first
    | (refine RgK.mk rfl ?_; simp -dsimp only [go_sem, reduceIte, reduceCtorEq, Nat.reduceEqDiff, Nat.reduceLT, Nat.reduceLeDiff, Nat.reduceAdd, Nat.reduceMul, Nat.reduceSub, Int.reduceToNat, Int.reduceNeg, cS])
    | (refine Br.mk (fun h => ?_) (fun h => ?_) <;> simp -dsimp only [go_sem, reduceIte, reduceCtorEq, Nat.reduceEqDiff, Nat.reduceLT, Nat.reduceLeDiff, Nat.reduceAdd, Nat.reduceMul, Nat.reduceSub, Int.reduceToNat, Int.reduceNeg, h, cS])
    | (refine CallK.flat (by first | exact toField _ _) rfl ?_; simp -dsimp only [go_sem, reduceIte, reduceCtorEq, Nat.reduceEqDiff, Nat.reduceLT, Nat.reduceLeDiff, Nat.reduceAdd, Nat.reduceMul, Nat.reduceSub, Int.reduceToNat, Int.reduceNeg, cS])
    | (refine CallK.pure (by first | exact toField _ _) ?_; simp -dsimp only [go_sem, reduceIte, reduceCtorEq, Nat.reduceEqDiff, Nat.reduceLT, Nat.reduceLeDiff, Nat.reduceAdd, Nat.reduceMul, Nat.reduceSub, Int.reduceToNat, Int.reduceNeg, cS])
    | (refine And.intro (by first | rfl | omega | decide | (refine ⟨?_, ?_⟩ <;> (first | rfl | omega | decide)) | (refine ⟨?_, ?_, ?_⟩ <;> (first | rfl | omega | decide)) | (refine ⟨?_, ?_, ?_, ?_⟩ <;> (first | rfl | omega | decide))) ?_)
    | fail)
  all_goals (exact ⟨_, _, rfl, rfl⟩)

theorem eqStep (x : Stp) : Vs.Fn Try.prog F.laws_eqStep [] [.agg (cS x), .agg (cS x)] (.v (.bool true)) [] := by
  refine Cd.laws_eqStep_ok.fn0 Try.mixed Cd.laws_eqStep_nt Cd.laws_eqStep_rs rfl fun X => ?_
  unfold Cd.laws_eqStep
  simp -dsimp only [go_sem, reduceIte, reduceCtorEq, Nat.reduceEqDiff, Nat.reduceLT, Nat.reduceLeDiff, Nat.reduceAdd, Nat.reduceMul, Nat.reduceSub, Int.reduceToNat, Int.reduceNeg, cS]
  repeat' (first
    | (refine RgK.mk rfl ?_; simp -dsimp only [go_sem, reduceIte, reduceCtorEq, Nat.reduceEqDiff, Nat.reduceLT, Nat.reduceLeDiff, Nat.reduceAdd, Nat.reduceMul, Nat.reduceSub, Int.reduceToNat, Int.reduceNeg, cS])
    | (refine Br.mk (fun h => ?_) (fun h => ?_) <;> simp -dsimp only [go_sem, reduceIte, reduceCtorEq, Nat.reduceEqDiff, Nat.reduceLT, Nat.reduceLeDiff, Nat.reduceAdd, Nat.reduceMul, Nat.reduceSub, Int.reduceToNat, Int.reduceNeg, h, cS])
    | (refine CallK.flat (by first | exact eqField _ _) rfl ?_; simp -dsimp only [go_sem, reduceIte, reduceCtorEq, Nat.reduceEqDiff, Nat.reduceLT, Nat.reduceLeDiff, Nat.reduceAdd, Nat.reduceMul, Nat.reduceSub, Int.reduceToNat, Int.reduceNeg, cS])
    | (refine CallK.pure (by first | exact eqField _ _) ?_; simp -dsimp only [go_sem, reduceIte, reduceCtorEq, Nat.reduceEqDiff, Nat.reduceLT, Nat.reduceLeDiff, Nat.reduceAdd, Nat.reduceMul, Nat.reduceSub, Int.reduceToNat, Int.reduceNeg, cS])
    | (refine And.intro (by first | rfl | omega | decide | (refine ⟨?_, ?_⟩ <;> (first | rfl | omega | decide)) | (refine ⟨?_, ?_, ?_⟩ <;> (first | rfl | omega | decide)) | (refine ⟨?_, ?_, ?_, ?_⟩ <;> (first | rfl | omega | decide))) ?_)
    | fail)
  all_goals (simp_all)


theorem szStepS (l : List Stp) (n : Int) (hs : ∀ x, x ∈ l → x.text.size < 2 ^ 63) (hl : l.length < 2 ^ 63) (hn : 0 ≤ n ∧ n ≤ 1048576) : Vs.Fn Try.prog F.laws_szStepS [] [.sl 9 (E cS l), .v (.int .i64 n)] (.v (.int .i64 (szL szStp l n))) [] :=
  szS_fn Try.mixed (g := F.laws_szStep) (k := 9) Cd.laws_szStepS_ok Cd.laws_szStepS_nt Cd.laws_szStepS_rs rfl szStp (fun _ => rfl) (fun _ => rfl) (fun x hx n h0 hn => szStep _ _) (fun x hx n h0 hn h => szStp_le (hs x hx) h0 hn h) n hl hn
theorem toStepS (l : List Stp) (hl : l.length ≤ 1048576) : Vs.Fn Try.prog F.laws_toStepS [] [.sl 9 (E cS l)] (.sl 9 (E cS l)) [] :=
  toS_fn Try.mixed (g := F.laws_toStep) (k := 9) (y := 80) (z := [.v (.int .i64 (0)), .v (.int .i64 (0)), .v (.int .i64 (0)), .v (.int .i64 (0)), .v (.int .i64 (0)), .v (.int .i64 (0)), .v (.int .i64 (0)), .v (.int .i64 (0)), .v (.string ⟨#[]⟩)]) Cd.laws_toStepS_ok Cd.laws_toStepS_nt Cd.laws_toStepS_rs rfl (fun _ => rfl) (by decide) rfl rfl (fun _ => rfl) (fun x hx => toStep _) hl (by decide)
theorem eqStepS (l : List Stp) (hl : l.length ≤ 1048576) : Vs.Fn Try.prog F.laws_eqStepS [] [.sl 9 (E cS l), .sl 9 (E cS l)] (.v (.bool true)) [] :=
  eqS_fn Try.mixed (g := F.laws_eqStep) (k := 9) Cd.laws_eqStepS_ok Cd.laws_eqStepS_nt Cd.laws_eqStepS_rs rfl (fun _ => rfl) (fun _ => rfl) (fun x hx => eqStep _) hl

def qS (x y : Stp) : Bool := (x.kind == y.kind) && ((x.a == y.a) && ((x.b == y.b) && ((x.to == y.to) && ((x.f0 == y.f0) && ((x.f1 == y.f1) && ((x.s0 == y.s0) && ((x.s1 == y.s1) && (x.text.toList == y.text.toList))))))))
theorem qS_spec (x y : Stp) : eqC [0, 0, 0, 0, 0, 0, 0, 0, 2] (cS x) (cS y) = some (qS x y) := by simp [eqC, eqV, cS, qS]
end Go.Proofs.Ythpokkcbbpapdaa
