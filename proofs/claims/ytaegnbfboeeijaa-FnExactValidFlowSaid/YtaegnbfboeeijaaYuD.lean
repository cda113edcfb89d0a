/-
  The laws FnExactSameTotals and FnExactSameFlow return true for every input, and their arguments read behind the call as they read before. Conditions: none beyond the given statements.
-/
import Derived.Test.YtaegnbfboeeijaaYuB
import Derived.Test.YtaegnbfboeeijaaVtH
namespace Go.Proofs.Ytaegnbfboeeijaa
open Go.Vs
set_option linter.unusedSimpArgs false
set_option linter.unusedVariables false
attribute [local irreducible] Vs.Fn

abbrev Tot := ByteArray × Int
def cT (x : Tot) : List AV := [.v (.string x.1), .v (.int .i64 x.2)]
def szTot (x : Tot) (n : Int) : Int := szT x.1 n
theorem szTotal (s : ByteArray) (a n : Int) : Vs.Fn Try.prog F.laws_szTotal [] [.agg [.v (.string s), .v (.int .i64 a)], .v (.int .i64 n)] (.v (.int .i64 (szT s n))) [] := by
  refine Cd.laws_szTotal_ok.fn0 Try.mixed Cd.laws_szTotal_nt Cd.laws_szTotal_rs rfl fun X => ?_
  unfold Cd.laws_szTotal
  simp -dsimp only [go_sem, reduceIte, reduceCtorEq, Nat.reduceEqDiff, Nat.reduceLT, Nat.reduceLeDiff, Nat.reduceAdd, Nat.reduceMul, Nat.reduceSub, Int.reduceToNat, Int.reduceNeg]
  repeat' (first
    | (refine RgK.mk rfl ?_; simp -dsimp only [go_sem, reduceIte, reduceCtorEq, Nat.reduceEqDiff, Nat.reduceLT, Nat.reduceLeDiff, Nat.reduceAdd, Nat.reduceMul, Nat.reduceSub, Int.reduceToNat, Int.reduceNeg])
    | (refine Br.mk (fun h => ?_) (fun h => ?_) <;> simp -dsimp only [go_sem, reduceIte, reduceCtorEq, Nat.reduceEqDiff, Nat.reduceLT, Nat.reduceLeDiff, Nat.reduceAdd, Nat.reduceMul, Nat.reduceSub, Int.reduceToNat, Int.reduceNeg, h])
    | (refine And.intro (by first | rfl | decide | omega | exact ⟨rfl, rfl⟩) ?_))
  all_goals (simp_all [szT] <;> omega)

theorem toTotal (s : ByteArray) (a : Int) : Vs.Fn Try.prog F.laws_toTotal [] [.agg [.v (.string s), .v (.int .i64 a)]] (.agg [.v (.string s), .v (.int .i64 a)]) [] := by
  refine Cd.laws_toTotal_ok.fn0 Try.mixed Cd.laws_toTotal_nt Cd.laws_toTotal_rs rfl fun X => ?_
  unfold Cd.laws_toTotal
  simp -dsimp only [go_sem, reduceIte, reduceCtorEq, Nat.reduceEqDiff, Nat.reduceLT, Nat.reduceLeDiff, Nat.reduceAdd, Nat.reduceMul, Nat.reduceSub, Int.reduceToNat, Int.reduceNeg, Ld.t99]
  repeat' (first
    | (refine RgK.mk rfl ?_; simp -dsimp only [go_sem, reduceIte, reduceCtorEq, Nat.reduceEqDiff, Nat.reduceLT, Nat.reduceLeDiff, Nat.reduceAdd, Nat.reduceMul, Nat.reduceSub, Int.reduceToNat, Int.reduceNeg, Ld.t99])
    | (refine Br.mk (fun h => ?_) (fun h => ?_) <;> simp -dsimp only [go_sem, reduceIte, reduceCtorEq, Nat.reduceEqDiff, Nat.reduceLT, Nat.reduceLeDiff, Nat.reduceAdd, Nat.reduceMul, Nat.reduceSub, Int.reduceToNat, Int.reduceNeg, h, Ld.t99])
    | (refine And.intro (by first | rfl | decide | omega | exact ⟨rfl, rfl⟩) ?_))
  all_goals (exact ⟨_, _, rfl, rfl⟩)

theorem eqTotal (s : ByteArray) (a : Int) : Vs.Fn Try.prog F.laws_eqTotal [] [.agg [.v (.string s), .v (.int .i64 a)], .agg [.v (.string s), .v (.int .i64 a)]] (.v (.bool true)) [] := by
  refine Cd.laws_eqTotal_ok.fn0 Try.mixed Cd.laws_eqTotal_nt Cd.laws_eqTotal_rs rfl fun X => ?_
  unfold Cd.laws_eqTotal
  simp -dsimp only [go_sem, reduceIte, reduceCtorEq, Nat.reduceEqDiff, Nat.reduceLT, Nat.reduceLeDiff, Nat.reduceAdd, Nat.reduceMul, Nat.reduceSub, Int.reduceToNat, Int.reduceNeg, Ld.t99]
  repeat' (first
    | (refine RgK.mk rfl ?_; simp -dsimp only [go_sem, reduceIte, reduceCtorEq, Nat.reduceEqDiff, Nat.reduceLT, Nat.reduceLeDiff, Nat.reduceAdd, Nat.reduceMul, Nat.reduceSub, Int.reduceToNat, Int.reduceNeg, Ld.t99])
    | (refine Br.mk (fun h => ?_) (fun h => ?_) <;> simp -dsimp only [go_sem, reduceIte, reduceCtorEq, Nat.reduceEqDiff, Nat.reduceLT, Nat.reduceLeDiff, Nat.reduceAdd, Nat.reduceMul, Nat.reduceSub, Int.reduceToNat, Int.reduceNeg, h, Ld.t99])
    | (refine And.intro (by first | rfl | decide | omega | exact ⟨rfl, rfl⟩) ?_))
  all_goals (simp_all)

theorem szTot_le {x : Tot} {n : Int} (hs : x.1.size < 2 ^ 63) (h0 : 0 ≤ n) (hn : n ≤ 1048576) (h : 0 ≤ szTot x n) : szTot x n ≤ n := (szT_le hs h0 hn h).1

theorem szTotalS (l : List Tot) (n : Int) (hs : ∀ x, x ∈ l → x.1.size < 2 ^ 63) (hl : l.length < 2 ^ 63) (hn : 0 ≤ n ∧ n ≤ 1048576) : Vs.Fn Try.prog F.laws_szTotalS [] [.sl 2 (E cT l), .v (.int .i64 n)] (.v (.int .i64 (szL szTot l n))) [] :=
  szS_fn Try.mixed (g := F.laws_szTotal) (k := 2) Cd.laws_szTotalS_ok Cd.laws_szTotalS_nt Cd.laws_szTotalS_rs rfl szTot (fun _ => rfl) (fun _ => rfl) (fun x hx n h0 hn => szTotal _ _ _) (fun x hx n h0 hn h => szTot_le (hs x hx) h0 hn h) n hl hn
theorem toTotalS (l : List Tot) (hl : l.length ≤ 1048576) : Vs.Fn Try.prog F.laws_toTotalS [] [.sl 2 (E cT l)] (.sl 2 (E cT l)) [] :=
  toS_fn Try.mixed (g := F.laws_toTotal) (k := 2) (y := 24) (z := [.v (.string ⟨#[]⟩), .v (.int .i64 (0))]) Cd.laws_toTotalS_ok Cd.laws_toTotalS_nt Cd.laws_toTotalS_rs rfl (fun _ => rfl) (by decide) rfl rfl (fun _ => rfl) (fun x hx => toTotal _ _) hl (by decide)
theorem eqTotalS (l : List Tot) (hl : l.length ≤ 1048576) : Vs.Fn Try.prog F.laws_eqTotalS [] [.sl 2 (E cT l), .sl 2 (E cT l)] (.v (.bool true)) [] :=
  eqS_fn Try.mixed (g := F.laws_eqTotal) (k := 2) Cd.laws_eqTotalS_ok Cd.laws_eqTotalS_nt Cd.laws_eqTotalS_rs rfl (fun _ => rfl) (fun _ => rfl) (fun x hx => eqTotal _ _) hl

def qT (x y : Tot) : Bool := (x.1.toList == y.1.toList) && (x.2 == y.2)
theorem qT_spec (x y : Tot) : eqC [2, 0] (cT x) (cT y) = some (qT x y) := by simp [eqC, eqV, cT, qT]
theorem l15Totals (l m : List Tot) (hl : l.length ≤ 1048576) : Vs.Fn Try.prog F.spec_l15Totals [] [.sl 2 (E cT l), .sl 2 (E cT m)] (.v (.bool (eqLB qT l m))) [] :=
  spEq_fn Try.mixed (k := 2) (ks := [2, 0]) Cd.spec_l15Totals_ok Cd.spec_l15Totals_nt Cd.spec_l15Totals_rs rfl (fun _ => rfl) qT_spec hl
theorem slEqualT (l m : List Tot) (hl : l.length ≤ 1048576) : Vs.Fn Try.prog F.slices_Equal___impl_Total_impl_Total_ [] [.sl 2 (E cT l), .sl 2 (E cT m)] (.v (.bool (eqLB qT l m))) [] :=
  slEq_fn Try.mixed (k := 2) (ks := [2, 0]) Cd.slices_Equal___impl_Total_impl_Total__ok Cd.slices_Equal___impl_Total_impl_Total__nt Cd.slices_Equal___impl_Total_impl_Total__rs rfl (fun _ => rfl) qT_spec hl
theorem spec_SameTotals (l m : List Tot) (hl : l.length ≤ 1048576) : Vs.Fn Try.prog F.spec_SameTotals [] [.sl 2 (E cT l), .sl 2 (E cT m)] (.v (.bool (eqLB qT l m))) [] := by
  refine Cd.spec_SameTotals_ok.fn0 Try.mixed Cd.spec_SameTotals_nt Cd.spec_SameTotals_rs rfl fun X => ?_
  unfold Cd.spec_SameTotals
  simp -dsimp only [go_sem, reduceIte, reduceCtorEq, Nat.reduceEqDiff, Nat.reduceLT, Nat.reduceLeDiff, Nat.reduceAdd, Nat.reduceMul, Nat.reduceSub, Int.reduceToNat, Int.reduceNeg]
  repeat' (first
    | (refine RgK.mk rfl ?_; simp -dsimp only [go_sem, reduceIte, reduceCtorEq, Nat.reduceEqDiff, Nat.reduceLT, Nat.reduceLeDiff, Nat.reduceAdd, Nat.reduceMul, Nat.reduceSub, Int.reduceToNat, Int.reduceNeg])
    | (refine Br.mk (fun h => ?_) (fun h => ?_) <;> simp -dsimp only [go_sem, reduceIte, reduceCtorEq, Nat.reduceEqDiff, Nat.reduceLT, Nat.reduceLeDiff, Nat.reduceAdd, Nat.reduceMul, Nat.reduceSub, Int.reduceToNat, Int.reduceNeg, h])
    | (refine CallK.flat (by first | exact l15Totals l m hl) rfl ?_; simp -dsimp only [go_sem, reduceIte, reduceCtorEq, Nat.reduceEqDiff, Nat.reduceLT, Nat.reduceLeDiff, Nat.reduceAdd, Nat.reduceMul, Nat.reduceSub, Int.reduceToNat, Int.reduceNeg])
    | (refine CallK.pure (by first | exact l15Totals l m hl) ?_; simp -dsimp only [go_sem, reduceIte, reduceCtorEq, Nat.reduceEqDiff, Nat.reduceLT, Nat.reduceLeDiff, Nat.reduceAdd, Nat.reduceMul, Nat.reduceSub, Int.reduceToNat, Int.reduceNeg])
    | (refine And.intro (by first | rfl | decide | omega | exact ⟨rfl, rfl⟩) ?_))
  all_goals (simp_all)

theorem impl_SameTotals (l m : List Tot) (hl : l.length ≤ 1048576) : Vs.Fn Try.prog F.impl_SameTotals [] [.sl 2 (E cT l), .sl 2 (E cT m)] (.v (.bool (eqLB qT l m))) [] := by
  refine Cd.impl_SameTotals_ok.fn0 Try.mixed Cd.impl_SameTotals_nt Cd.impl_SameTotals_rs rfl fun X => ?_
  unfold Cd.impl_SameTotals
  simp -dsimp only [go_sem, reduceIte, reduceCtorEq, Nat.reduceEqDiff, Nat.reduceLT, Nat.reduceLeDiff, Nat.reduceAdd, Nat.reduceMul, Nat.reduceSub, Int.reduceToNat, Int.reduceNeg]
  repeat' (first
    | (refine RgK.mk rfl ?_; simp -dsimp only [go_sem, reduceIte, reduceCtorEq, Nat.reduceEqDiff, Nat.reduceLT, Nat.reduceLeDiff, Nat.reduceAdd, Nat.reduceMul, Nat.reduceSub, Int.reduceToNat, Int.reduceNeg])
    | (refine Br.mk (fun h => ?_) (fun h => ?_) <;> simp -dsimp only [go_sem, reduceIte, reduceCtorEq, Nat.reduceEqDiff, Nat.reduceLT, Nat.reduceLeDiff, Nat.reduceAdd, Nat.reduceMul, Nat.reduceSub, Int.reduceToNat, Int.reduceNeg, h])
    | (refine CallK.flat (by first | exact slEqualT l m hl) rfl ?_; simp -dsimp only [go_sem, reduceIte, reduceCtorEq, Nat.reduceEqDiff, Nat.reduceLT, Nat.reduceLeDiff, Nat.reduceAdd, Nat.reduceMul, Nat.reduceSub, Int.reduceToNat, Int.reduceNeg])
    | (refine CallK.pure (by first | exact slEqualT l m hl) ?_; simp -dsimp only [go_sem, reduceIte, reduceCtorEq, Nat.reduceEqDiff, Nat.reduceLT, Nat.reduceLeDiff, Nat.reduceAdd, Nat.reduceMul, Nat.reduceSub, Int.reduceToNat, Int.reduceNeg])
    | (refine And.intro (by first | rfl | decide | omega | exact ⟨rfl, rfl⟩) ?_))
  all_goals (simp_all)

theorem law_SameTotals (l m : List Tot) (hs : ∀ x, x ∈ l → x.1.size < 2 ^ 63) (hs' : ∀ x, x ∈ m → x.1.size < 2 ^ 63) (hl : l.length < 2 ^ 63) (hm : m.length < 2 ^ 63) : Vs.Fn Try.prog F.laws_FnExactSameTotals [] [.sl 2 (E cT l), .sl 2 (E cT m)] (.v (.bool true)) [] := by
  refine Cd.laws_FnExactSameTotals_ok.fn0 Try.mixed Cd.laws_FnExactSameTotals_nt Cd.laws_FnExactSameTotals_rs rfl fun X => ?_
  unfold Cd.laws_FnExactSameTotals
  simp -dsimp only [go_sem, reduceIte, reduceCtorEq, Nat.reduceEqDiff, Nat.reduceLT, Nat.reduceLeDiff, Nat.reduceAdd, Nat.reduceMul, Nat.reduceSub, Int.reduceToNat, Int.reduceNeg]
  refine CallK.flat (szTotalS l 1048576 hs hl (by omega)) rfl ?_
  simp -dsimp only [go_sem, reduceIte, reduceCtorEq, Nat.reduceEqDiff, Nat.reduceLT, Nat.reduceLeDiff, Nat.reduceAdd, Nat.reduceMul, Nat.reduceSub, Int.reduceToNat, Int.reduceNeg]
  refine Br.mk (fun h1 => by simp -dsimp only [go_sem, reduceIte, reduceCtorEq, Nat.reduceEqDiff, Nat.reduceLT, Nat.reduceLeDiff, Nat.reduceAdd, Nat.reduceMul, Nat.reduceSub, Int.reduceToNat, Int.reduceNeg]; simp) (fun h1 => ?_)
  simp -dsimp only [go_sem, reduceIte, reduceCtorEq, Nat.reduceEqDiff, Nat.reduceLT, Nat.reduceLeDiff, Nat.reduceAdd, Nat.reduceMul, Nat.reduceSub, Int.reduceToNat, Int.reduceNeg]
  simp only [decide_eq_false_iff_not] at h1
  have hl1 : l.length ≤ 1048576 := by have := szL_len hl (by omega) h1; omega
  have hn := szL_le (fun x hx n h0 hn h => szTot_le (hs x hx) h0 hn h) hl (by omega) h1
  refine CallK.flat (szTotalS m _ hs' hm hn) rfl ?_
  simp -dsimp only [go_sem, reduceIte, reduceCtorEq, Nat.reduceEqDiff, Nat.reduceLT, Nat.reduceLeDiff, Nat.reduceAdd, Nat.reduceMul, Nat.reduceSub, Int.reduceToNat, Int.reduceNeg]
  refine Br.mk (fun h2 => by simp -dsimp only [go_sem, reduceIte, reduceCtorEq, Nat.reduceEqDiff, Nat.reduceLT, Nat.reduceLeDiff, Nat.reduceAdd, Nat.reduceMul, Nat.reduceSub, Int.reduceToNat, Int.reduceNeg]; simp) (fun h2 => ?_)
  simp -dsimp only [go_sem, reduceIte, reduceCtorEq, Nat.reduceEqDiff, Nat.reduceLT, Nat.reduceLeDiff, Nat.reduceAdd, Nat.reduceMul, Nat.reduceSub, Int.reduceToNat, Int.reduceNeg]
  simp only [decide_eq_false_iff_not] at h2
  have hm1 : m.length ≤ 1048576 := by have := szL_len hm hn h2; omega
  repeat' (first
    | (refine RgK.mk rfl ?_; simp -dsimp only [go_sem, reduceIte, reduceCtorEq, Nat.reduceEqDiff, Nat.reduceLT, Nat.reduceLeDiff, Nat.reduceAdd, Nat.reduceMul, Nat.reduceSub, Int.reduceToNat, Int.reduceNeg])
    | (refine Br.mk (fun h => ?_) (fun h => ?_) <;> simp -dsimp only [go_sem, reduceIte, reduceCtorEq, Nat.reduceEqDiff, Nat.reduceLT, Nat.reduceLeDiff, Nat.reduceAdd, Nat.reduceMul, Nat.reduceSub, Int.reduceToNat, Int.reduceNeg, h])
    | (refine CallK.flat (by first | exact toTotalS l hl1 | exact toTotalS m hm1 | exact spec_SameTotals l m hl1 | exact impl_SameTotals l m hl1 | exact eqTotalS l hl1 | exact eqTotalS m hm1) rfl ?_; simp -dsimp only [go_sem, reduceIte, reduceCtorEq, Nat.reduceEqDiff, Nat.reduceLT, Nat.reduceLeDiff, Nat.reduceAdd, Nat.reduceMul, Nat.reduceSub, Int.reduceToNat, Int.reduceNeg])
    | (refine CallK.pure (by first | exact toTotalS l hl1 | exact toTotalS m hm1 | exact spec_SameTotals l m hl1 | exact impl_SameTotals l m hl1 | exact eqTotalS l hl1 | exact eqTotalS m hm1) ?_; simp -dsimp only [go_sem, reduceIte, reduceCtorEq, Nat.reduceEqDiff, Nat.reduceLT, Nat.reduceLeDiff, Nat.reduceAdd, Nat.reduceMul, Nat.reduceSub, Int.reduceToNat, Int.reduceNeg])
    | (refine And.intro (by first | rfl | decide | omega | exact ⟨rfl, rfl⟩) ?_))
  all_goals simp_all

theorem toField (a b : Int) : Vs.Fn Try.prog F.laws_toField [] [.agg [.v (.int .i64 a), .v (.int .i64 b)]] (.agg [.v (.int .i64 a), .v (.int .i64 b)]) [] := by
  refine Cd.laws_toField_ok.fn0 Try.mixed Cd.laws_toField_nt Cd.laws_toField_rs rfl fun X => ?_
  unfold Cd.laws_toField
  simp -dsimp only [go_sem, reduceIte, reduceCtorEq, Nat.reduceEqDiff, Nat.reduceLT, Nat.reduceLeDiff, Nat.reduceAdd, Nat.reduceMul, Nat.reduceSub, Int.reduceToNat, Int.reduceNeg, Ld.t42]
  repeat' (first
    | (refine RgK.mk rfl ?_; simp -dsimp only [go_sem, reduceIte, reduceCtorEq, Nat.reduceEqDiff, Nat.reduceLT, Nat.reduceLeDiff, Nat.reduceAdd, Nat.reduceMul, Nat.reduceSub, Int.reduceToNat, Int.reduceNeg, Ld.t42])
    | (refine Br.mk (fun h => ?_) (fun h => ?_) <;> simp -dsimp only [go_sem, reduceIte, reduceCtorEq, Nat.reduceEqDiff, Nat.reduceLT, Nat.reduceLeDiff, Nat.reduceAdd, Nat.reduceMul, Nat.reduceSub, Int.reduceToNat, Int.reduceNeg, h, Ld.t42])
    | (refine And.intro (by first | rfl | decide | omega | exact ⟨rfl, rfl⟩) ?_))
  all_goals (exact ⟨_, _, rfl, rfl⟩)

theorem eqField (a b : Int) : Vs.Fn Try.prog F.laws_eqField [] [.agg [.v (.int .i64 a), .v (.int .i64 b)], .agg [.v (.int .i64 a), .v (.int .i64 b)]] (.v (.bool true)) [] := by
  refine Cd.laws_eqField_ok.fn0 Try.mixed Cd.laws_eqField_nt Cd.laws_eqField_rs rfl fun X => ?_
  unfold Cd.laws_eqField
  simp -dsimp only [go_sem, reduceIte, reduceCtorEq, Nat.reduceEqDiff, Nat.reduceLT, Nat.reduceLeDiff, Nat.reduceAdd, Nat.reduceMul, Nat.reduceSub, Int.reduceToNat, Int.reduceNeg, Ld.t42]
  repeat' (first
    | (refine RgK.mk rfl ?_; simp -dsimp only [go_sem, reduceIte, reduceCtorEq, Nat.reduceEqDiff, Nat.reduceLT, Nat.reduceLeDiff, Nat.reduceAdd, Nat.reduceMul, Nat.reduceSub, Int.reduceToNat, Int.reduceNeg, Ld.t42])
    | (refine Br.mk (fun h => ?_) (fun h => ?_) <;> simp -dsimp only [go_sem, reduceIte, reduceCtorEq, Nat.reduceEqDiff, Nat.reduceLT, Nat.reduceLeDiff, Nat.reduceAdd, Nat.reduceMul, Nat.reduceSub, Int.reduceToNat, Int.reduceNeg, h, Ld.t42])
    | (refine And.intro (by first | rfl | decide | omega | exact ⟨rfl, rfl⟩) ?_))
  all_goals (simp_all)


structure Stp where
  kind : Int
  a : Int
  b : Int
  to : Int
  f0 : Int
  f1 : Int
  s0 : Int
  s1 : Int
  text : ByteArray
def cS (x : Stp) : List AV := [.v (.int .i64 x.kind), .v (.int .i64 x.a), .v (.int .i64 x.b), .v (.int .i64 x.to), .v (.int .i64 x.f0), .v (.int .i64 x.f1), .v (.int .i64 x.s0), .v (.int .i64 x.s1), .v (.string x.text)]
def szStp (x : Stp) (n : Int) : Int := szT x.text n
theorem szStp_le {x : Stp} {n : Int} (hs : x.text.size < 2 ^ 63) (h0 : 0 ≤ n) (hn : n ≤ 1048576) (h : 0 ≤ szStp x n) : szStp x n ≤ n := (szT_le hs h0 hn h).1
theorem szStep (x : Stp) (n : Int) : Vs.Fn Try.prog F.laws_szStep [] [.agg (cS x), .v (.int .i64 n)] (.v (.int .i64 (szStp x n))) [] := by
  refine Cd.laws_szStep_ok.fn0 Try.mixed Cd.laws_szStep_nt Cd.laws_szStep_rs rfl fun X => ?_
  unfold Cd.laws_szStep
  simp -dsimp only [go_sem, reduceIte, reduceCtorEq, Nat.reduceEqDiff, Nat.reduceLT, Nat.reduceLeDiff, Nat.reduceAdd, Nat.reduceMul, Nat.reduceSub, Int.reduceToNat, Int.reduceNeg, cS]
  repeat' (first
    | (refine RgK.mk rfl ?_; simp -dsimp only [go_sem, reduceIte, reduceCtorEq, Nat.reduceEqDiff, Nat.reduceLT, Nat.reduceLeDiff, Nat.reduceAdd, Nat.reduceMul, Nat.reduceSub, Int.reduceToNat, Int.reduceNeg, cS])
    | (refine Br.mk (fun h => ?_) (fun h => ?_) <;> simp -dsimp only [go_sem, reduceIte, reduceCtorEq, Nat.reduceEqDiff, Nat.reduceLT, Nat.reduceLeDiff, Nat.reduceAdd, Nat.reduceMul, Nat.reduceSub, Int.reduceToNat, Int.reduceNeg, h, cS])
    | (refine And.intro (by first | rfl | decide | omega | exact ⟨rfl, rfl⟩) ?_))
  all_goals (simp_all [szStp, szT] <;> omega)

theorem toStep (x : Stp) : Vs.Fn Try.prog F.laws_toStep [] [.agg (cS x)] (.agg (cS x)) [] := by
  refine Cd.laws_toStep_ok.fn0 Try.mixed Cd.laws_toStep_nt Cd.laws_toStep_rs rfl fun X => ?_
  unfold Cd.laws_toStep
  simp -dsimp only [go_sem, reduceIte, reduceCtorEq, Nat.reduceEqDiff, Nat.reduceLT, Nat.reduceLeDiff, Nat.reduceAdd, Nat.reduceMul, Nat.reduceSub, Int.reduceToNat, Int.reduceNeg, Ld.t58, Ld.t42, cS]
  repeat' (first
    | (refine RgK.mk rfl ?_; simp -dsimp only [go_sem, reduceIte, reduceCtorEq, Nat.reduceEqDiff, Nat.reduceLT, Nat.reduceLeDiff, Nat.reduceAdd, Nat.reduceMul, Nat.reduceSub, Int.reduceToNat, Int.reduceNeg, Ld.t58, Ld.t42, cS])
    | (refine Br.mk (fun h => ?_) (fun h => ?_) <;> simp -dsimp only [go_sem, reduceIte, reduceCtorEq, Nat.reduceEqDiff, Nat.reduceLT, Nat.reduceLeDiff, Nat.reduceAdd, Nat.reduceMul, Nat.reduceSub, Int.reduceToNat, Int.reduceNeg, h, Ld.t58, Ld.t42, cS])
    | (refine CallK.flat (by first | exact toField _ _) rfl ?_; simp -dsimp only [go_sem, reduceIte, reduceCtorEq, Nat.reduceEqDiff, Nat.reduceLT, Nat.reduceLeDiff, Nat.reduceAdd, Nat.reduceMul, Nat.reduceSub, Int.reduceToNat, Int.reduceNeg, Ld.t58, Ld.t42, cS])
    | (refine CallK.pure (by first | exact toField _ _) ?_; simp -dsimp only [go_sem, reduceIte, reduceCtorEq, Nat.reduceEqDiff, Nat.reduceLT, Nat.reduceLeDiff, Nat.reduceAdd, Nat.reduceMul, Nat.reduceSub, Int.reduceToNat, Int.reduceNeg, Ld.t58, Ld.t42, cS])
    | (refine And.intro (by first | rfl | decide | omega | exact ⟨rfl, rfl⟩) ?_))
  all_goals (exact ⟨_, _, rfl, rfl⟩)

theorem eqStep (x : Stp) : Vs.Fn Try.prog F.laws_eqStep [] [.agg (cS x), .agg (cS x)] (.v (.bool true)) [] := by
  refine Cd.laws_eqStep_ok.fn0 Try.mixed Cd.laws_eqStep_nt Cd.laws_eqStep_rs rfl fun X => ?_
  unfold Cd.laws_eqStep
  simp -dsimp only [go_sem, reduceIte, reduceCtorEq, Nat.reduceEqDiff, Nat.reduceLT, Nat.reduceLeDiff, Nat.reduceAdd, Nat.reduceMul, Nat.reduceSub, Int.reduceToNat, Int.reduceNeg, Ld.t58, Ld.t42, cS]
  repeat' (first
    | (refine RgK.mk rfl ?_; simp -dsimp only [go_sem, reduceIte, reduceCtorEq, Nat.reduceEqDiff, Nat.reduceLT, Nat.reduceLeDiff, Nat.reduceAdd, Nat.reduceMul, Nat.reduceSub, Int.reduceToNat, Int.reduceNeg, Ld.t58, Ld.t42, cS])
    | (refine Br.mk (fun h => ?_) (fun h => ?_) <;> simp -dsimp only [go_sem, reduceIte, reduceCtorEq, Nat.reduceEqDiff, Nat.reduceLT, Nat.reduceLeDiff, Nat.reduceAdd, Nat.reduceMul, Nat.reduceSub, Int.reduceToNat, Int.reduceNeg, h, Ld.t58, Ld.t42, cS])
    | (refine CallK.flat (by first | exact eqField _ _) rfl ?_; simp -dsimp only [go_sem, reduceIte, reduceCtorEq, Nat.reduceEqDiff, Nat.reduceLT, Nat.reduceLeDiff, Nat.reduceAdd, Nat.reduceMul, Nat.reduceSub, Int.reduceToNat, Int.reduceNeg, Ld.t58, Ld.t42, cS])
    | (refine CallK.pure (by first | exact eqField _ _) ?_; simp -dsimp only [go_sem, reduceIte, reduceCtorEq, Nat.reduceEqDiff, Nat.reduceLT, Nat.reduceLeDiff, Nat.reduceAdd, Nat.reduceMul, Nat.reduceSub, Int.reduceToNat, Int.reduceNeg, Ld.t58, Ld.t42, cS])
    | (refine And.intro (by first | rfl | decide | omega | exact ⟨rfl, rfl⟩) ?_))
  all_goals (simp_all)


theorem szStepS (l : List Stp) (n : Int) (hs : ∀ x, x ∈ l → x.text.size < 2 ^ 63) (hl : l.length < 2 ^ 63) (hn : 0 ≤ n ∧ n ≤ 1048576) : Vs.Fn Try.prog F.laws_szStepS [] [.sl 9 (E cS l), .v (.int .i64 n)] (.v (.int .i64 (szL szStp l n))) [] :=
  szS_fn Try.mixed (g := F.laws_szStep) (k := 9) Cd.laws_szStepS_ok Cd.laws_szStepS_nt Cd.laws_szStepS_rs rfl szStp (fun _ => rfl) (fun _ => rfl) (fun x hx n h0 hn => szStep _ _) (fun x hx n h0 hn h => szStp_le (hs x hx) h0 hn h) n hl hn
theorem toStepS (l : List Stp) (hl : l.length ≤ 1048576) : Vs.Fn Try.prog F.laws_toStepS [] [.sl 9 (E cS l)] (.sl 9 (E cS l)) [] :=
  toS_fn Try.mixed (g := F.laws_toStep) (k := 9) (y := 80) (z := [.v (.int .i64 (0)), .v (.int .i64 (0)), .v (.int .i64 (0)), .v (.int .i64 (0)), .v (.int .i64 (0)), .v (.int .i64 (0)), .v (.int .i64 (0)), .v (.int .i64 (0)), .v (.string ⟨#[]⟩)]) Cd.laws_toStepS_ok Cd.laws_toStepS_nt Cd.laws_toStepS_rs rfl (fun _ => rfl) (by decide) rfl rfl (fun _ => rfl) (fun x hx => toStep _) hl (by decide)
theorem eqStepS (l : List Stp) (hl : l.length ≤ 1048576) : Vs.Fn Try.prog F.laws_eqStepS [] [.sl 9 (E cS l), .sl 9 (E cS l)] (.v (.bool true)) [] :=
  eqS_fn Try.mixed (g := F.laws_eqStep) (k := 9) Cd.laws_eqStepS_ok Cd.laws_eqStepS_nt Cd.laws_eqStepS_rs rfl (fun _ => rfl) (fun _ => rfl) (fun x hx => eqStep _) hl

def qS (x y : Stp) : Bool := (x.kind == y.kind) && ((x.a == y.a) && ((x.b == y.b) && ((x.to == y.to) && ((x.f0 == y.f0) && ((x.f1 == y.f1) && ((x.s0 == y.s0) && ((x.s1 == y.s1) && (x.text.toList == y.text.toList))))))))
theorem qS_spec (x y : Stp) : eqC [0, 0, 0, 0, 0, 0, 0, 0, 2] (cS x) (cS y) = some (qS x y) := by simp [eqC, eqV, cS, qS]
theorem spec_SameFlow (l m : List Stp) (hl : l.length ≤ 1048576) : Vs.Fn Try.prog F.spec_SameFlow [] [.sl 9 (E cS l), .sl 9 (E cS m)] (.v (.bool (eqLB qS l m))) [] :=
  spEq_fn Try.mixed (k := 9) (ks := [0, 0, 0, 0, 0, 0, 0, 0, 2]) Cd.spec_SameFlow_ok Cd.spec_SameFlow_nt Cd.spec_SameFlow_rs rfl (fun _ => rfl) qS_spec hl
theorem slEqualS (l m : List Stp) (hl : l.length ≤ 1048576) : Vs.Fn Try.prog F.slices_Equal___impl_Step_impl_Step_ [] [.sl 9 (E cS l), .sl 9 (E cS m)] (.v (.bool (eqLB qS l m))) [] :=
  slEq_fn Try.mixed (k := 9) (ks := [0, 0, 0, 0, 0, 0, 0, 0, 2]) Cd.slices_Equal___impl_Step_impl_Step__ok Cd.slices_Equal___impl_Step_impl_Step__nt Cd.slices_Equal___impl_Step_impl_Step__rs rfl (fun _ => rfl) qS_spec hl
theorem impl_SameFlow (l m : List Stp) (hl : l.length ≤ 1048576) : Vs.Fn Try.prog F.impl_SameFlow [] [.sl 9 (E cS l), .sl 9 (E cS m)] (.v (.bool (eqLB qS l m))) [] := by
  refine Cd.impl_SameFlow_ok.fn0 Try.mixed Cd.impl_SameFlow_nt Cd.impl_SameFlow_rs rfl fun X => ?_
  unfold Cd.impl_SameFlow
  simp -dsimp only [go_sem, reduceIte, reduceCtorEq, Nat.reduceEqDiff, Nat.reduceLT, Nat.reduceLeDiff, Nat.reduceAdd, Nat.reduceMul, Nat.reduceSub, Int.reduceToNat, Int.reduceNeg]
  repeat' (first
    | (refine RgK.mk rfl ?_; simp -dsimp only [go_sem, reduceIte, reduceCtorEq, Nat.reduceEqDiff, Nat.reduceLT, Nat.reduceLeDiff, Nat.reduceAdd, Nat.reduceMul, Nat.reduceSub, Int.reduceToNat, Int.reduceNeg])
    | (refine Br.mk (fun h => ?_) (fun h => ?_) <;> simp -dsimp only [go_sem, reduceIte, reduceCtorEq, Nat.reduceEqDiff, Nat.reduceLT, Nat.reduceLeDiff, Nat.reduceAdd, Nat.reduceMul, Nat.reduceSub, Int.reduceToNat, Int.reduceNeg, h])
    | (refine CallK.flat (by first | exact slEqualS l m hl) rfl ?_; simp -dsimp only [go_sem, reduceIte, reduceCtorEq, Nat.reduceEqDiff, Nat.reduceLT, Nat.reduceLeDiff, Nat.reduceAdd, Nat.reduceMul, Nat.reduceSub, Int.reduceToNat, Int.reduceNeg])
    | (refine CallK.pure (by first | exact slEqualS l m hl) ?_; simp -dsimp only [go_sem, reduceIte, reduceCtorEq, Nat.reduceEqDiff, Nat.reduceLT, Nat.reduceLeDiff, Nat.reduceAdd, Nat.reduceMul, Nat.reduceSub, Int.reduceToNat, Int.reduceNeg])
    | (refine And.intro (by first | rfl | decide | omega | exact ⟨rfl, rfl⟩) ?_))
  all_goals (simp_all)

theorem law_SameFlow (l m : List Stp) (hs : ∀ x, x ∈ l → x.text.size < 2 ^ 63) (hs' : ∀ x, x ∈ m → x.text.size < 2 ^ 63) (hl : l.length < 2 ^ 63) (hm : m.length < 2 ^ 63) : Vs.Fn Try.prog F.laws_FnExactSameFlow [] [.sl 9 (E cS l), .sl 9 (E cS m)] (.v (.bool true)) [] := by
  refine Cd.laws_FnExactSameFlow_ok.fn0 Try.mixed Cd.laws_FnExactSameFlow_nt Cd.laws_FnExactSameFlow_rs rfl fun X => ?_
  unfold Cd.laws_FnExactSameFlow
  simp -dsimp only [go_sem, reduceIte, reduceCtorEq, Nat.reduceEqDiff, Nat.reduceLT, Nat.reduceLeDiff, Nat.reduceAdd, Nat.reduceMul, Nat.reduceSub, Int.reduceToNat, Int.reduceNeg]
  refine CallK.flat (szStepS l 1048576 hs hl (by omega)) rfl ?_
  simp -dsimp only [go_sem, reduceIte, reduceCtorEq, Nat.reduceEqDiff, Nat.reduceLT, Nat.reduceLeDiff, Nat.reduceAdd, Nat.reduceMul, Nat.reduceSub, Int.reduceToNat, Int.reduceNeg]
  refine Br.mk (fun h1 => by simp -dsimp only [go_sem, reduceIte, reduceCtorEq, Nat.reduceEqDiff, Nat.reduceLT, Nat.reduceLeDiff, Nat.reduceAdd, Nat.reduceMul, Nat.reduceSub, Int.reduceToNat, Int.reduceNeg]; simp) (fun h1 => ?_)
  simp -dsimp only [go_sem, reduceIte, reduceCtorEq, Nat.reduceEqDiff, Nat.reduceLT, Nat.reduceLeDiff, Nat.reduceAdd, Nat.reduceMul, Nat.reduceSub, Int.reduceToNat, Int.reduceNeg]
  simp only [decide_eq_false_iff_not] at h1
  have hl1 : l.length ≤ 1048576 := by have := szL_len hl (by omega) h1; omega
  have hn := szL_le (fun x hx n h0 hn h => szStp_le (hs x hx) h0 hn h) hl (by omega) h1
  refine CallK.flat (szStepS m _ hs' hm hn) rfl ?_
  simp -dsimp only [go_sem, reduceIte, reduceCtorEq, Nat.reduceEqDiff, Nat.reduceLT, Nat.reduceLeDiff, Nat.reduceAdd, Nat.reduceMul, Nat.reduceSub, Int.reduceToNat, Int.reduceNeg]
  refine Br.mk (fun h2 => by simp -dsimp only [go_sem, reduceIte, reduceCtorEq, Nat.reduceEqDiff, Nat.reduceLT, Nat.reduceLeDiff, Nat.reduceAdd, Nat.reduceMul, Nat.reduceSub, Int.reduceToNat, Int.reduceNeg]; simp) (fun h2 => ?_)
  simp -dsimp only [go_sem, reduceIte, reduceCtorEq, Nat.reduceEqDiff, Nat.reduceLT, Nat.reduceLeDiff, Nat.reduceAdd, Nat.reduceMul, Nat.reduceSub, Int.reduceToNat, Int.reduceNeg]
  simp only [decide_eq_false_iff_not] at h2
  have hm1 : m.length ≤ 1048576 := by have := szL_len hm hn h2; omega
  repeat' (first
    | (refine RgK.mk rfl ?_; simp -dsimp only [go_sem, reduceIte, reduceCtorEq, Nat.reduceEqDiff, Nat.reduceLT, Nat.reduceLeDiff, Nat.reduceAdd, Nat.reduceMul, Nat.reduceSub, Int.reduceToNat, Int.reduceNeg])
    | (refine Br.mk (fun h => ?_) (fun h => ?_) <;> simp -dsimp only [go_sem, reduceIte, reduceCtorEq, Nat.reduceEqDiff, Nat.reduceLT, Nat.reduceLeDiff, Nat.reduceAdd, Nat.reduceMul, Nat.reduceSub, Int.reduceToNat, Int.reduceNeg, h])
    | (refine CallK.flat (by first | exact toStepS l hl1 | exact toStepS m hm1 | exact spec_SameFlow l m hl1 | exact impl_SameFlow l m hl1 | exact eqStepS l hl1 | exact eqStepS m hm1) rfl ?_; simp -dsimp only [go_sem, reduceIte, reduceCtorEq, Nat.reduceEqDiff, Nat.reduceLT, Nat.reduceLeDiff, Nat.reduceAdd, Nat.reduceMul, Nat.reduceSub, Int.reduceToNat, Int.reduceNeg])
    | (refine CallK.pure (by first | exact toStepS l hl1 | exact toStepS m hm1 | exact spec_SameFlow l m hl1 | exact impl_SameFlow l m hl1 | exact eqStepS l hl1 | exact eqStepS m hm1) ?_; simp -dsimp only [go_sem, reduceIte, reduceCtorEq, Nat.reduceEqDiff, Nat.reduceLT, Nat.reduceLeDiff, Nat.reduceAdd, Nat.reduceMul, Nat.reduceSub, Int.reduceToNat, Int.reduceNeg])
    | (refine And.intro (by first | rfl | decide | omega | exact ⟨rfl, rfl⟩) ?_))
  all_goals simp_all

end Go.Proofs.Ytaegnbfboeeijaa
