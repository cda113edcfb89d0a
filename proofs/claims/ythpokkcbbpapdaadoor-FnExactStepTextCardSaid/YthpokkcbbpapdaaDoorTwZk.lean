/- The texts of steps, as the program gives them and as the reference does. -/
import Derived.Test.YthpokkcbbpapdaaDoorTwZi
import Derived.Test.YthpokkcbbpapdaaDoorTuI
namespace Go.Proofs.YthpokkcbbpapdaaDoor
open Go.Vs
set_option linter.unusedSimpArgs false
set_option linter.unusedVariables false
attribute [local irreducible] Vs.Fn chOK areCh chTo chAt l03

/-- a step in words: what stands ahead of its end -/
def stH (w : ByteArray) (x : Stp) : ByteArray := w ++ ⟨#[32]⟩ ++ dcl x.a
def stG (w : ByteArray) (x : Stp) : ByteArray := if inB x.kind 2 4 then stH w x ++ (⟨#[32]⟩ ++ dcl x.b) else stH w x
def stF (w : ByteArray) (x : Stp) : ByteArray := stG w x ++ (⟨#[32]⟩ ++ spnX x.f0 x.f1)
def stW (k : Int) : ByteArray := if k = 1 then ⟨#[115, 111, 114, 116]⟩ else if k = 2 then ⟨#[109, 101, 114, 103, 101]⟩ else if k = 3 then ⟨#[109, 97, 116, 99, 104]⟩ else if k = 4 then ⟨#[114, 101, 115, 116]⟩ else if k = 5 then ⟨#[115, 101, 108, 101, 99, 116]⟩ else if k = 6 then ⟨#[102, 105, 114, 115, 116]⟩ else if k = 7 then ⟨#[116, 111, 116, 97, 108]⟩ else ⟨#[]⟩
def stX (x : Stp) : ByteArray := if x.kind = 7 then stF (stW x.kind) x ++ ⟨#[32, 115, 117, 109, 32]⟩ ++ spnX x.s0 x.s1 else if x.kind = 5 then stF (stW x.kind) x ++ (⟨#[32, 61]⟩ ++ x.text) ++ ⟨#[32, 116, 111, 32]⟩ ++ dcl x.to else stF (stW x.kind) x ++ ⟨#[32, 116, 111, 32]⟩ ++ dcl x.to
def stT (x : Stp) : ByteArray := if stpB x 20 then stX x else ⟨#[]⟩
theorem inB_inR {a : Int} (h : inB a 0 5 = true) : inR a := by
  simp only [inB, Bool.and_eq_true, decide_eq_true_eq] at h
  unfold inR; omega
theorem stpB_rng {x : Stp} (h : stpB x 20 = true) : (inR x.a ∧ inR x.b ∧ inR x.to) ∧ (inR x.f0 ∧ inR x.f1) ∧ (inR x.s0 ∧ inR x.s1) ∧ (x.kind = 1 ∨ x.kind = 2 ∨ x.kind = 3 ∨ x.kind = 4 ∨ x.kind = 5 ∨ x.kind = 6 ∨ x.kind = 7) := by
  simp only [stpB, numB, Bool.and_eq_true] at h
  obtain ⟨h1, h2, h3, h4, h5, _, h6⟩ := h
  refine ⟨⟨inB_inR h2, inB_inR h3, inB_inR h4⟩, fldB_inR h5 (by omega), ?_, ?_⟩
  · split at h6
    · simp only [Bool.and_eq_true] at h6
      exact fldB_inR h6.2.1.1 (by omega)
    · simp only [Bool.and_eq_true, beq_iff_eq] at h6
      unfold inR; omega
  · simp only [inB, Bool.and_eq_true, decide_eq_true_eq] at h1
    omega
set_option maxHeartbeats 4000000 in
theorem spec_StepText (x : Stp) (hs : x.text.size ≤ 1048576) : Vs.Fn Tryd.prog F.spec_StepText [] [.agg (cS x)] (.v (.string (stT x))) [] := by
  have i20 : inB 20 1 20 = true := by decide
  cases hk : stpB x 20
  · have hT : stT x = ⟨#[]⟩ := by simp [stT, hk]
    rw [hT]
    refine Cd.spec_StepText_ok.fn0 Tryd.mixed Cd.spec_StepText_nt Cd.spec_StepText_rs rfl fun X => ?_
    unfold Cd.spec_StepText
    simp -dsimp only [go_sem, reduceIte, reduceCtorEq, Nat.reduceEqDiff, Nat.reduceLT, Nat.reduceLeDiff, Nat.reduceAdd, Nat.reduceMul, Nat.reduceSub, Int.reduceToNat, Int.reduceNeg, cS, hk]
    repeat' (first
      | (refine RgK.mk rfl ?_; simp -dsimp only [go_sem, reduceIte, reduceCtorEq, Nat.reduceEqDiff, Nat.reduceLT, Nat.reduceLeDiff, Nat.reduceAdd, Nat.reduceMul, Nat.reduceSub, Int.reduceToNat, Int.reduceNeg, cS, hk, i20, Bool.and_false, Bool.and_true])
      | (refine Br.mk (fun h => ?_) (fun h => ?_) <;> simp -dsimp only [go_sem, reduceIte, reduceCtorEq, Nat.reduceEqDiff, Nat.reduceLT, Nat.reduceLeDiff, Nat.reduceAdd, Nat.reduceMul, Nat.reduceSub, Int.reduceToNat, Int.reduceNeg, h, cS, hk, i20, Bool.and_false, Bool.and_true])
      | (refine CallK.flat (by first | exact l15Step x _ hs) rfl ?_; simp -dsimp only [go_sem, reduceIte, reduceCtorEq, Nat.reduceEqDiff, Nat.reduceLT, Nat.reduceLeDiff, Nat.reduceAdd, Nat.reduceMul, Nat.reduceSub, Int.reduceToNat, Int.reduceNeg, cS, hk, i20, Bool.and_false, Bool.and_true])
      | (refine CallK.pure (by first | exact l15Step x _ hs) ?_; simp -dsimp only [go_sem, reduceIte, reduceCtorEq, Nat.reduceEqDiff, Nat.reduceLT, Nat.reduceLeDiff, Nat.reduceAdd, Nat.reduceMul, Nat.reduceSub, Int.reduceToNat, Int.reduceNeg, cS, hk, i20, Bool.and_false, Bool.and_true])
      | (refine And.intro (by first | rfl | omega | decide | (refine ⟨?_, ?_⟩ <;> (first | rfl | omega | decide)) | (refine ⟨?_, ?_, ?_⟩ <;> (first | rfl | omega | decide)) | (refine ⟨?_, ?_, ?_, ?_⟩ <;> (first | rfl | omega | decide))) ?_)
      | fail)
    all_goals exact ret_eq rfl
  · have hT : stT x = stX x := by simp [stT, hk]
    rw [hT]
    obtain ⟨⟨a1, a2, a3⟩, ⟨a4, a5⟩, ⟨a6, a7⟩, hkd⟩ := stpB_rng hk
    have d1 := dcl_size a1.1 a1.2
    have d2 := dcl_size a2.1 a2.2
    have d3 := dcl_size a3.1 a3.2
    have d4 := spnX_size a4 a5
    have d5 := spnX_size a6 a7
    rcases hkd with h | h | h | h | h | h | h
    · obtain ⟨xk, xa, xb, xt, xf0, xf1, xs0, xs1, xtx⟩ := x
      dsimp only at h
      subst h
      dsimp only at a1 a2 a3 a4 a5 a6 a7 d1 d2 d3 d4 d5 hs
      have e5 : ((1 : Int) == 5) = false := rfl
      have e7 : ((1 : Int) == 7) = false := rfl
      have hB : inB 1 2 4 = false := by decide
      have wk : IntKind.i64.wrap ((1 : Int) - 1) = 0 := by decide
      refine Cd.spec_StepText_ok.fn0 Tryd.mixed Cd.spec_StepText_nt Cd.spec_StepText_rs rfl fun X => ?_
      unfold Cd.spec_StepText
      simp -dsimp only [go_sem, reduceIte, reduceCtorEq, Nat.reduceEqDiff, Nat.reduceLT, Nat.reduceLeDiff, Nat.reduceAdd, Nat.reduceMul, Nat.reduceSub, Int.reduceToNat, Int.reduceNeg, cS, hk]
      repeat' (first
        | (refine RgK.mk rfl ?_; simp -dsimp only [go_sem, reduceIte, reduceCtorEq, Nat.reduceEqDiff, Nat.reduceLT, Nat.reduceLeDiff, Nat.reduceAdd, Nat.reduceMul, Nat.reduceSub, Int.reduceToNat, Int.reduceNeg, e5, e7, hB, wk, Int.reduceToNat, List.getD_cons_zero, List.getD_cons_succ, cS, hk, i20, Bool.and_false, Bool.and_true, List.replicate_succ, List.replicate_zero, List.flatten_cons, List.flatten_nil, List.cons_append, List.nil_append, List.set_cons_zero, List.set_cons_succ, List.length_cons, List.length_nil, List.length_set])
        | (refine Br.mk (fun h => ?_) (fun h => ?_) <;> simp -dsimp only [go_sem, reduceIte, reduceCtorEq, Nat.reduceEqDiff, Nat.reduceLT, Nat.reduceLeDiff, Nat.reduceAdd, Nat.reduceMul, Nat.reduceSub, Int.reduceToNat, Int.reduceNeg, h, e5, e7, hB, wk, Int.reduceToNat, List.getD_cons_zero, List.getD_cons_succ, cS, hk, i20, Bool.and_false, Bool.and_true, List.replicate_succ, List.replicate_zero, List.flatten_cons, List.flatten_nil, List.cons_append, List.nil_append, List.set_cons_zero, List.set_cons_succ, List.length_cons, List.length_nil, List.length_set])
        | (refine CallK.flat (by first | exact l15Step ⟨1, xa, xb, xt, xf0, xf1, xs0, xs1, xtx⟩ _ hs | exact l01Dec xa a1.1 a1.2 | exact l01Dec xb a2.1 a2.2 | exact l01Dec xt a3.1 a3.2 | exact l15Field xf0 xf1 a4 a5 | exact l15Field xs0 xs1 a6 a7 | exact l15Both _) rfl ?_; simp -dsimp only [go_sem, reduceIte, reduceCtorEq, Nat.reduceEqDiff, Nat.reduceLT, Nat.reduceLeDiff, Nat.reduceAdd, Nat.reduceMul, Nat.reduceSub, Int.reduceToNat, Int.reduceNeg, e5, e7, hB, wk, Int.reduceToNat, List.getD_cons_zero, List.getD_cons_succ, cS, hk, i20, Bool.and_false, Bool.and_true, List.replicate_succ, List.replicate_zero, List.flatten_cons, List.flatten_nil, List.cons_append, List.nil_append, List.set_cons_zero, List.set_cons_succ, List.length_cons, List.length_nil, List.length_set])
        | (refine CallK.pure (by first | exact l15Step ⟨1, xa, xb, xt, xf0, xf1, xs0, xs1, xtx⟩ _ hs | exact l01Dec xa a1.1 a1.2 | exact l01Dec xb a2.1 a2.2 | exact l01Dec xt a3.1 a3.2 | exact l15Field xf0 xf1 a4 a5 | exact l15Field xs0 xs1 a6 a7 | exact l15Both _) ?_; simp -dsimp only [go_sem, reduceIte, reduceCtorEq, Nat.reduceEqDiff, Nat.reduceLT, Nat.reduceLeDiff, Nat.reduceAdd, Nat.reduceMul, Nat.reduceSub, Int.reduceToNat, Int.reduceNeg, e5, e7, hB, wk, Int.reduceToNat, List.getD_cons_zero, List.getD_cons_succ, cS, hk, i20, Bool.and_false, Bool.and_true, List.replicate_succ, List.replicate_zero, List.flatten_cons, List.flatten_nil, List.cons_append, List.nil_append, List.set_cons_zero, List.set_cons_succ, List.length_cons, List.length_nil, List.length_set])
        | (refine And.intro (by first | rfl | omega | decide | exact (by simp only [ByteArray.size_append, bsz, List.size_toArray, List.length_cons, List.length_nil]; omega) | (refine ⟨?_, ?_⟩ <;> (first | rfl | omega | decide | exact (by simp only [ByteArray.size_append, bsz, List.size_toArray, List.length_cons, List.length_nil]; omega))) | (refine ⟨?_, ?_, ?_⟩ <;> (first | rfl | omega | decide | exact (by simp only [ByteArray.size_append, bsz, List.size_toArray, List.length_cons, List.length_nil]; omega))) | (refine ⟨?_, ?_, ?_, ?_⟩ <;> (first | rfl | omega | decide | exact (by simp only [ByteArray.size_append, bsz, List.size_toArray, List.length_cons, List.length_nil]; omega)))) ?_)
        | fail)
      all_goals exact ret_eq (by simp only [stX, stF, stG, stH, stW, hB]; rfl)
    · obtain ⟨xk, xa, xb, xt, xf0, xf1, xs0, xs1, xtx⟩ := x
      dsimp only at h
      subst h
      dsimp only at a1 a2 a3 a4 a5 a6 a7 d1 d2 d3 d4 d5 hs
      have e5 : ((2 : Int) == 5) = false := rfl
      have e7 : ((2 : Int) == 7) = false := rfl
      have hB : inB 2 2 4 = true := by decide
      have wk : IntKind.i64.wrap ((2 : Int) - 1) = 1 := by decide
      refine Cd.spec_StepText_ok.fn0 Tryd.mixed Cd.spec_StepText_nt Cd.spec_StepText_rs rfl fun X => ?_
      unfold Cd.spec_StepText
      simp -dsimp only [go_sem, reduceIte, reduceCtorEq, Nat.reduceEqDiff, Nat.reduceLT, Nat.reduceLeDiff, Nat.reduceAdd, Nat.reduceMul, Nat.reduceSub, Int.reduceToNat, Int.reduceNeg, cS, hk]
      repeat' (first
        | (refine RgK.mk rfl ?_; simp -dsimp only [go_sem, reduceIte, reduceCtorEq, Nat.reduceEqDiff, Nat.reduceLT, Nat.reduceLeDiff, Nat.reduceAdd, Nat.reduceMul, Nat.reduceSub, Int.reduceToNat, Int.reduceNeg, e5, e7, hB, wk, Int.reduceToNat, List.getD_cons_zero, List.getD_cons_succ, cS, hk, i20, Bool.and_false, Bool.and_true, List.replicate_succ, List.replicate_zero, List.flatten_cons, List.flatten_nil, List.cons_append, List.nil_append, List.set_cons_zero, List.set_cons_succ, List.length_cons, List.length_nil, List.length_set])
        | (refine Br.mk (fun h => ?_) (fun h => ?_) <;> simp -dsimp only [go_sem, reduceIte, reduceCtorEq, Nat.reduceEqDiff, Nat.reduceLT, Nat.reduceLeDiff, Nat.reduceAdd, Nat.reduceMul, Nat.reduceSub, Int.reduceToNat, Int.reduceNeg, h, e5, e7, hB, wk, Int.reduceToNat, List.getD_cons_zero, List.getD_cons_succ, cS, hk, i20, Bool.and_false, Bool.and_true, List.replicate_succ, List.replicate_zero, List.flatten_cons, List.flatten_nil, List.cons_append, List.nil_append, List.set_cons_zero, List.set_cons_succ, List.length_cons, List.length_nil, List.length_set])
        | (refine CallK.flat (by first | exact l15Step ⟨2, xa, xb, xt, xf0, xf1, xs0, xs1, xtx⟩ _ hs | exact l01Dec xa a1.1 a1.2 | exact l01Dec xb a2.1 a2.2 | exact l01Dec xt a3.1 a3.2 | exact l15Field xf0 xf1 a4 a5 | exact l15Field xs0 xs1 a6 a7 | exact l15Both _) rfl ?_; simp -dsimp only [go_sem, reduceIte, reduceCtorEq, Nat.reduceEqDiff, Nat.reduceLT, Nat.reduceLeDiff, Nat.reduceAdd, Nat.reduceMul, Nat.reduceSub, Int.reduceToNat, Int.reduceNeg, e5, e7, hB, wk, Int.reduceToNat, List.getD_cons_zero, List.getD_cons_succ, cS, hk, i20, Bool.and_false, Bool.and_true, List.replicate_succ, List.replicate_zero, List.flatten_cons, List.flatten_nil, List.cons_append, List.nil_append, List.set_cons_zero, List.set_cons_succ, List.length_cons, List.length_nil, List.length_set])
        | (refine CallK.pure (by first | exact l15Step ⟨2, xa, xb, xt, xf0, xf1, xs0, xs1, xtx⟩ _ hs | exact l01Dec xa a1.1 a1.2 | exact l01Dec xb a2.1 a2.2 | exact l01Dec xt a3.1 a3.2 | exact l15Field xf0 xf1 a4 a5 | exact l15Field xs0 xs1 a6 a7 | exact l15Both _) ?_; simp -dsimp only [go_sem, reduceIte, reduceCtorEq, Nat.reduceEqDiff, Nat.reduceLT, Nat.reduceLeDiff, Nat.reduceAdd, Nat.reduceMul, Nat.reduceSub, Int.reduceToNat, Int.reduceNeg, e5, e7, hB, wk, Int.reduceToNat, List.getD_cons_zero, List.getD_cons_succ, cS, hk, i20, Bool.and_false, Bool.and_true, List.replicate_succ, List.replicate_zero, List.flatten_cons, List.flatten_nil, List.cons_append, List.nil_append, List.set_cons_zero, List.set_cons_succ, List.length_cons, List.length_nil, List.length_set])
        | (refine And.intro (by first | rfl | omega | decide | exact (by simp only [ByteArray.size_append, bsz, List.size_toArray, List.length_cons, List.length_nil]; omega) | (refine ⟨?_, ?_⟩ <;> (first | rfl | omega | decide | exact (by simp only [ByteArray.size_append, bsz, List.size_toArray, List.length_cons, List.length_nil]; omega))) | (refine ⟨?_, ?_, ?_⟩ <;> (first | rfl | omega | decide | exact (by simp only [ByteArray.size_append, bsz, List.size_toArray, List.length_cons, List.length_nil]; omega))) | (refine ⟨?_, ?_, ?_, ?_⟩ <;> (first | rfl | omega | decide | exact (by simp only [ByteArray.size_append, bsz, List.size_toArray, List.length_cons, List.length_nil]; omega)))) ?_)
        | fail)
      all_goals exact ret_eq (by simp only [stX, stF, stG, stH, stW, hB]; rfl)
    · obtain ⟨xk, xa, xb, xt, xf0, xf1, xs0, xs1, xtx⟩ := x
      dsimp only at h
      subst h
      dsimp only at a1 a2 a3 a4 a5 a6 a7 d1 d2 d3 d4 d5 hs
      have e5 : ((3 : Int) == 5) = false := rfl
      have e7 : ((3 : Int) == 7) = false := rfl
      have hB : inB 3 2 4 = true := by decide
      have wk : IntKind.i64.wrap ((3 : Int) - 1) = 2 := by decide
      refine Cd.spec_StepText_ok.fn0 Tryd.mixed Cd.spec_StepText_nt Cd.spec_StepText_rs rfl fun X => ?_
      unfold Cd.spec_StepText
      simp -dsimp only [go_sem, reduceIte, reduceCtorEq, Nat.reduceEqDiff, Nat.reduceLT, Nat.reduceLeDiff, Nat.reduceAdd, Nat.reduceMul, Nat.reduceSub, Int.reduceToNat, Int.reduceNeg, cS, hk]
      repeat' (first
        | (refine RgK.mk rfl ?_; simp -dsimp only [go_sem, reduceIte, reduceCtorEq, Nat.reduceEqDiff, Nat.reduceLT, Nat.reduceLeDiff, Nat.reduceAdd, Nat.reduceMul, Nat.reduceSub, Int.reduceToNat, Int.reduceNeg, e5, e7, hB, wk, Int.reduceToNat, List.getD_cons_zero, List.getD_cons_succ, cS, hk, i20, Bool.and_false, Bool.and_true, List.replicate_succ, List.replicate_zero, List.flatten_cons, List.flatten_nil, List.cons_append, List.nil_append, List.set_cons_zero, List.set_cons_succ, List.length_cons, List.length_nil, List.length_set])
        | (refine Br.mk (fun h => ?_) (fun h => ?_) <;> simp -dsimp only [go_sem, reduceIte, reduceCtorEq, Nat.reduceEqDiff, Nat.reduceLT, Nat.reduceLeDiff, Nat.reduceAdd, Nat.reduceMul, Nat.reduceSub, Int.reduceToNat, Int.reduceNeg, h, e5, e7, hB, wk, Int.reduceToNat, List.getD_cons_zero, List.getD_cons_succ, cS, hk, i20, Bool.and_false, Bool.and_true, List.replicate_succ, List.replicate_zero, List.flatten_cons, List.flatten_nil, List.cons_append, List.nil_append, List.set_cons_zero, List.set_cons_succ, List.length_cons, List.length_nil, List.length_set])
        | (refine CallK.flat (by first | exact l15Step ⟨3, xa, xb, xt, xf0, xf1, xs0, xs1, xtx⟩ _ hs | exact l01Dec xa a1.1 a1.2 | exact l01Dec xb a2.1 a2.2 | exact l01Dec xt a3.1 a3.2 | exact l15Field xf0 xf1 a4 a5 | exact l15Field xs0 xs1 a6 a7 | exact l15Both _) rfl ?_; simp -dsimp only [go_sem, reduceIte, reduceCtorEq, Nat.reduceEqDiff, Nat.reduceLT, Nat.reduceLeDiff, Nat.reduceAdd, Nat.reduceMul, Nat.reduceSub, Int.reduceToNat, Int.reduceNeg, e5, e7, hB, wk, Int.reduceToNat, List.getD_cons_zero, List.getD_cons_succ, cS, hk, i20, Bool.and_false, Bool.and_true, List.replicate_succ, List.replicate_zero, List.flatten_cons, List.flatten_nil, List.cons_append, List.nil_append, List.set_cons_zero, List.set_cons_succ, List.length_cons, List.length_nil, List.length_set])
        | (refine CallK.pure (by first | exact l15Step ⟨3, xa, xb, xt, xf0, xf1, xs0, xs1, xtx⟩ _ hs | exact l01Dec xa a1.1 a1.2 | exact l01Dec xb a2.1 a2.2 | exact l01Dec xt a3.1 a3.2 | exact l15Field xf0 xf1 a4 a5 | exact l15Field xs0 xs1 a6 a7 | exact l15Both _) ?_; simp -dsimp only [go_sem, reduceIte, reduceCtorEq, Nat.reduceEqDiff, Nat.reduceLT, Nat.reduceLeDiff, Nat.reduceAdd, Nat.reduceMul, Nat.reduceSub, Int.reduceToNat, Int.reduceNeg, e5, e7, hB, wk, Int.reduceToNat, List.getD_cons_zero, List.getD_cons_succ, cS, hk, i20, Bool.and_false, Bool.and_true, List.replicate_succ, List.replicate_zero, List.flatten_cons, List.flatten_nil, List.cons_append, List.nil_append, List.set_cons_zero, List.set_cons_succ, List.length_cons, List.length_nil, List.length_set])
        | (refine And.intro (by first | rfl | omega | decide | exact (by simp only [ByteArray.size_append, bsz, List.size_toArray, List.length_cons, List.length_nil]; omega) | (refine ⟨?_, ?_⟩ <;> (first | rfl | omega | decide | exact (by simp only [ByteArray.size_append, bsz, List.size_toArray, List.length_cons, List.length_nil]; omega))) | (refine ⟨?_, ?_, ?_⟩ <;> (first | rfl | omega | decide | exact (by simp only [ByteArray.size_append, bsz, List.size_toArray, List.length_cons, List.length_nil]; omega))) | (refine ⟨?_, ?_, ?_, ?_⟩ <;> (first | rfl | omega | decide | exact (by simp only [ByteArray.size_append, bsz, List.size_toArray, List.length_cons, List.length_nil]; omega)))) ?_)
        | fail)
      all_goals exact ret_eq (by simp only [stX, stF, stG, stH, stW, hB]; rfl)
    · obtain ⟨xk, xa, xb, xt, xf0, xf1, xs0, xs1, xtx⟩ := x
      dsimp only at h
      subst h
      dsimp only at a1 a2 a3 a4 a5 a6 a7 d1 d2 d3 d4 d5 hs
      have e5 : ((4 : Int) == 5) = false := rfl
      have e7 : ((4 : Int) == 7) = false := rfl
      have hB : inB 4 2 4 = true := by decide
      have wk : IntKind.i64.wrap ((4 : Int) - 1) = 3 := by decide
      refine Cd.spec_StepText_ok.fn0 Tryd.mixed Cd.spec_StepText_nt Cd.spec_StepText_rs rfl fun X => ?_
      unfold Cd.spec_StepText
      simp -dsimp only [go_sem, reduceIte, reduceCtorEq, Nat.reduceEqDiff, Nat.reduceLT, Nat.reduceLeDiff, Nat.reduceAdd, Nat.reduceMul, Nat.reduceSub, Int.reduceToNat, Int.reduceNeg, cS, hk]
      repeat' (first
        | (refine RgK.mk rfl ?_; simp -dsimp only [go_sem, reduceIte, reduceCtorEq, Nat.reduceEqDiff, Nat.reduceLT, Nat.reduceLeDiff, Nat.reduceAdd, Nat.reduceMul, Nat.reduceSub, Int.reduceToNat, Int.reduceNeg, e5, e7, hB, wk, Int.reduceToNat, List.getD_cons_zero, List.getD_cons_succ, cS, hk, i20, Bool.and_false, Bool.and_true, List.replicate_succ, List.replicate_zero, List.flatten_cons, List.flatten_nil, List.cons_append, List.nil_append, List.set_cons_zero, List.set_cons_succ, List.length_cons, List.length_nil, List.length_set])
        | (refine Br.mk (fun h => ?_) (fun h => ?_) <;> simp -dsimp only [go_sem, reduceIte, reduceCtorEq, Nat.reduceEqDiff, Nat.reduceLT, Nat.reduceLeDiff, Nat.reduceAdd, Nat.reduceMul, Nat.reduceSub, Int.reduceToNat, Int.reduceNeg, h, e5, e7, hB, wk, Int.reduceToNat, List.getD_cons_zero, List.getD_cons_succ, cS, hk, i20, Bool.and_false, Bool.and_true, List.replicate_succ, List.replicate_zero, List.flatten_cons, List.flatten_nil, List.cons_append, List.nil_append, List.set_cons_zero, List.set_cons_succ, List.length_cons, List.length_nil, List.length_set])
        | (refine CallK.flat (by first | exact l15Step ⟨4, xa, xb, xt, xf0, xf1, xs0, xs1, xtx⟩ _ hs | exact l01Dec xa a1.1 a1.2 | exact l01Dec xb a2.1 a2.2 | exact l01Dec xt a3.1 a3.2 | exact l15Field xf0 xf1 a4 a5 | exact l15Field xs0 xs1 a6 a7 | exact l15Both _) rfl ?_; simp -dsimp only [go_sem, reduceIte, reduceCtorEq, Nat.reduceEqDiff, Nat.reduceLT, Nat.reduceLeDiff, Nat.reduceAdd, Nat.reduceMul, Nat.reduceSub, Int.reduceToNat, Int.reduceNeg, e5, e7, hB, wk, Int.reduceToNat, List.getD_cons_zero, List.getD_cons_succ, cS, hk, i20, Bool.and_false, Bool.and_true, List.replicate_succ, List.replicate_zero, List.flatten_cons, List.flatten_nil, List.cons_append, List.nil_append, List.set_cons_zero, List.set_cons_succ, List.length_cons, List.length_nil, List.length_set])
        | (refine CallK.pure (by first | exact l15Step ⟨4, xa, xb, xt, xf0, xf1, xs0, xs1, xtx⟩ _ hs | exact l01Dec xa a1.1 a1.2 | exact l01Dec xb a2.1 a2.2 | exact l01Dec xt a3.1 a3.2 | exact l15Field xf0 xf1 a4 a5 | exact l15Field xs0 xs1 a6 a7 | exact l15Both _) ?_; simp -dsimp only [go_sem, reduceIte, reduceCtorEq, Nat.reduceEqDiff, Nat.reduceLT, Nat.reduceLeDiff, Nat.reduceAdd, Nat.reduceMul, Nat.reduceSub, Int.reduceToNat, Int.reduceNeg, e5, e7, hB, wk, Int.reduceToNat, List.getD_cons_zero, List.getD_cons_succ, cS, hk, i20, Bool.and_false, Bool.and_true, List.replicate_succ, List.replicate_zero, List.flatten_cons, List.flatten_nil, List.cons_append, List.nil_append, List.set_cons_zero, List.set_cons_succ, List.length_cons, List.length_nil, List.length_set])
        | (refine And.intro (by first | rfl | omega | decide | exact (by simp only [ByteArray.size_append, bsz, List.size_toArray, List.length_cons, List.length_nil]; omega) | (refine ⟨?_, ?_⟩ <;> (first | rfl | omega | decide | exact (by simp only [ByteArray.size_append, bsz, List.size_toArray, List.length_cons, List.length_nil]; omega))) | (refine ⟨?_, ?_, ?_⟩ <;> (first | rfl | omega | decide | exact (by simp only [ByteArray.size_append, bsz, List.size_toArray, List.length_cons, List.length_nil]; omega))) | (refine ⟨?_, ?_, ?_, ?_⟩ <;> (first | rfl | omega | decide | exact (by simp only [ByteArray.size_append, bsz, List.size_toArray, List.length_cons, List.length_nil]; omega)))) ?_)
        | fail)
      all_goals exact ret_eq (by simp only [stX, stF, stG, stH, stW, hB]; rfl)
    · obtain ⟨xk, xa, xb, xt, xf0, xf1, xs0, xs1, xtx⟩ := x
      dsimp only at h
      subst h
      dsimp only at a1 a2 a3 a4 a5 a6 a7 d1 d2 d3 d4 d5 hs
      have e5 : ((5 : Int) == 5) = true := rfl
      have e7 : ((5 : Int) == 7) = false := rfl
      have hB : inB 5 2 4 = false := by decide
      have wk : IntKind.i64.wrap ((5 : Int) - 1) = 4 := by decide
      refine Cd.spec_StepText_ok.fn0 Tryd.mixed Cd.spec_StepText_nt Cd.spec_StepText_rs rfl fun X => ?_
      unfold Cd.spec_StepText
      simp -dsimp only [go_sem, reduceIte, reduceCtorEq, Nat.reduceEqDiff, Nat.reduceLT, Nat.reduceLeDiff, Nat.reduceAdd, Nat.reduceMul, Nat.reduceSub, Int.reduceToNat, Int.reduceNeg, cS, hk]
      repeat' (first
        | (refine RgK.mk rfl ?_; simp -dsimp only [go_sem, reduceIte, reduceCtorEq, Nat.reduceEqDiff, Nat.reduceLT, Nat.reduceLeDiff, Nat.reduceAdd, Nat.reduceMul, Nat.reduceSub, Int.reduceToNat, Int.reduceNeg, e5, e7, hB, wk, Int.reduceToNat, List.getD_cons_zero, List.getD_cons_succ, cS, hk, i20, Bool.and_false, Bool.and_true, List.replicate_succ, List.replicate_zero, List.flatten_cons, List.flatten_nil, List.cons_append, List.nil_append, List.set_cons_zero, List.set_cons_succ, List.length_cons, List.length_nil, List.length_set])
        | (refine Br.mk (fun h => ?_) (fun h => ?_) <;> simp -dsimp only [go_sem, reduceIte, reduceCtorEq, Nat.reduceEqDiff, Nat.reduceLT, Nat.reduceLeDiff, Nat.reduceAdd, Nat.reduceMul, Nat.reduceSub, Int.reduceToNat, Int.reduceNeg, h, e5, e7, hB, wk, Int.reduceToNat, List.getD_cons_zero, List.getD_cons_succ, cS, hk, i20, Bool.and_false, Bool.and_true, List.replicate_succ, List.replicate_zero, List.flatten_cons, List.flatten_nil, List.cons_append, List.nil_append, List.set_cons_zero, List.set_cons_succ, List.length_cons, List.length_nil, List.length_set])
        | (refine CallK.flat (by first | exact l15Step ⟨5, xa, xb, xt, xf0, xf1, xs0, xs1, xtx⟩ _ hs | exact l01Dec xa a1.1 a1.2 | exact l01Dec xb a2.1 a2.2 | exact l01Dec xt a3.1 a3.2 | exact l15Field xf0 xf1 a4 a5 | exact l15Field xs0 xs1 a6 a7 | exact l15Both _) rfl ?_; simp -dsimp only [go_sem, reduceIte, reduceCtorEq, Nat.reduceEqDiff, Nat.reduceLT, Nat.reduceLeDiff, Nat.reduceAdd, Nat.reduceMul, Nat.reduceSub, Int.reduceToNat, Int.reduceNeg, e5, e7, hB, wk, Int.reduceToNat, List.getD_cons_zero, List.getD_cons_succ, cS, hk, i20, Bool.and_false, Bool.and_true, List.replicate_succ, List.replicate_zero, List.flatten_cons, List.flatten_nil, List.cons_append, List.nil_append, List.set_cons_zero, List.set_cons_succ, List.length_cons, List.length_nil, List.length_set])
        | (refine CallK.pure (by first | exact l15Step ⟨5, xa, xb, xt, xf0, xf1, xs0, xs1, xtx⟩ _ hs | exact l01Dec xa a1.1 a1.2 | exact l01Dec xb a2.1 a2.2 | exact l01Dec xt a3.1 a3.2 | exact l15Field xf0 xf1 a4 a5 | exact l15Field xs0 xs1 a6 a7 | exact l15Both _) ?_; simp -dsimp only [go_sem, reduceIte, reduceCtorEq, Nat.reduceEqDiff, Nat.reduceLT, Nat.reduceLeDiff, Nat.reduceAdd, Nat.reduceMul, Nat.reduceSub, Int.reduceToNat, Int.reduceNeg, e5, e7, hB, wk, Int.reduceToNat, List.getD_cons_zero, List.getD_cons_succ, cS, hk, i20, Bool.and_false, Bool.and_true, List.replicate_succ, List.replicate_zero, List.flatten_cons, List.flatten_nil, List.cons_append, List.nil_append, List.set_cons_zero, List.set_cons_succ, List.length_cons, List.length_nil, List.length_set])
        | (refine And.intro (by first | rfl | omega | decide | exact (by simp only [ByteArray.size_append, bsz, List.size_toArray, List.length_cons, List.length_nil]; omega) | (refine ⟨?_, ?_⟩ <;> (first | rfl | omega | decide | exact (by simp only [ByteArray.size_append, bsz, List.size_toArray, List.length_cons, List.length_nil]; omega))) | (refine ⟨?_, ?_, ?_⟩ <;> (first | rfl | omega | decide | exact (by simp only [ByteArray.size_append, bsz, List.size_toArray, List.length_cons, List.length_nil]; omega))) | (refine ⟨?_, ?_, ?_, ?_⟩ <;> (first | rfl | omega | decide | exact (by simp only [ByteArray.size_append, bsz, List.size_toArray, List.length_cons, List.length_nil]; omega)))) ?_)
        | fail)
      all_goals exact ret_eq (by simp only [stX, stF, stG, stH, stW, hB]; rfl)
    · obtain ⟨xk, xa, xb, xt, xf0, xf1, xs0, xs1, xtx⟩ := x
      dsimp only at h
      subst h
      dsimp only at a1 a2 a3 a4 a5 a6 a7 d1 d2 d3 d4 d5 hs
      have e5 : ((6 : Int) == 5) = false := rfl
      have e7 : ((6 : Int) == 7) = false := rfl
      have hB : inB 6 2 4 = false := by decide
      have wk : IntKind.i64.wrap ((6 : Int) - 1) = 5 := by decide
      refine Cd.spec_StepText_ok.fn0 Tryd.mixed Cd.spec_StepText_nt Cd.spec_StepText_rs rfl fun X => ?_
      unfold Cd.spec_StepText
      simp -dsimp only [go_sem, reduceIte, reduceCtorEq, Nat.reduceEqDiff, Nat.reduceLT, Nat.reduceLeDiff, Nat.reduceAdd, Nat.reduceMul, Nat.reduceSub, Int.reduceToNat, Int.reduceNeg, cS, hk]
      repeat' (first
        | (refine RgK.mk rfl ?_; simp -dsimp only [go_sem, reduceIte, reduceCtorEq, Nat.reduceEqDiff, Nat.reduceLT, Nat.reduceLeDiff, Nat.reduceAdd, Nat.reduceMul, Nat.reduceSub, Int.reduceToNat, Int.reduceNeg, e5, e7, hB, wk, Int.reduceToNat, List.getD_cons_zero, List.getD_cons_succ, cS, hk, i20, Bool.and_false, Bool.and_true, List.replicate_succ, List.replicate_zero, List.flatten_cons, List.flatten_nil, List.cons_append, List.nil_append, List.set_cons_zero, List.set_cons_succ, List.length_cons, List.length_nil, List.length_set])
        | (refine Br.mk (fun h => ?_) (fun h => ?_) <;> simp -dsimp only [go_sem, reduceIte, reduceCtorEq, Nat.reduceEqDiff, Nat.reduceLT, Nat.reduceLeDiff, Nat.reduceAdd, Nat.reduceMul, Nat.reduceSub, Int.reduceToNat, Int.reduceNeg, h, e5, e7, hB, wk, Int.reduceToNat, List.getD_cons_zero, List.getD_cons_succ, cS, hk, i20, Bool.and_false, Bool.and_true, List.replicate_succ, List.replicate_zero, List.flatten_cons, List.flatten_nil, List.cons_append, List.nil_append, List.set_cons_zero, List.set_cons_succ, List.length_cons, List.length_nil, List.length_set])
        | (refine CallK.flat (by first | exact l15Step ⟨6, xa, xb, xt, xf0, xf1, xs0, xs1, xtx⟩ _ hs | exact l01Dec xa a1.1 a1.2 | exact l01Dec xb a2.1 a2.2 | exact l01Dec xt a3.1 a3.2 | exact l15Field xf0 xf1 a4 a5 | exact l15Field xs0 xs1 a6 a7 | exact l15Both _) rfl ?_; simp -dsimp only [go_sem, reduceIte, reduceCtorEq, Nat.reduceEqDiff, Nat.reduceLT, Nat.reduceLeDiff, Nat.reduceAdd, Nat.reduceMul, Nat.reduceSub, Int.reduceToNat, Int.reduceNeg, e5, e7, hB, wk, Int.reduceToNat, List.getD_cons_zero, List.getD_cons_succ, cS, hk, i20, Bool.and_false, Bool.and_true, List.replicate_succ, List.replicate_zero, List.flatten_cons, List.flatten_nil, List.cons_append, List.nil_append, List.set_cons_zero, List.set_cons_succ, List.length_cons, List.length_nil, List.length_set])
        | (refine CallK.pure (by first | exact l15Step ⟨6, xa, xb, xt, xf0, xf1, xs0, xs1, xtx⟩ _ hs | exact l01Dec xa a1.1 a1.2 | exact l01Dec xb a2.1 a2.2 | exact l01Dec xt a3.1 a3.2 | exact l15Field xf0 xf1 a4 a5 | exact l15Field xs0 xs1 a6 a7 | exact l15Both _) ?_; simp -dsimp only [go_sem, reduceIte, reduceCtorEq, Nat.reduceEqDiff, Nat.reduceLT, Nat.reduceLeDiff, Nat.reduceAdd, Nat.reduceMul, Nat.reduceSub, Int.reduceToNat, Int.reduceNeg, e5, e7, hB, wk, Int.reduceToNat, List.getD_cons_zero, List.getD_cons_succ, cS, hk, i20, Bool.and_false, Bool.and_true, List.replicate_succ, List.replicate_zero, List.flatten_cons, List.flatten_nil, List.cons_append, List.nil_append, List.set_cons_zero, List.set_cons_succ, List.length_cons, List.length_nil, List.length_set])
        | (refine And.intro (by first | rfl | omega | decide | exact (by simp only [ByteArray.size_append, bsz, List.size_toArray, List.length_cons, List.length_nil]; omega) | (refine ⟨?_, ?_⟩ <;> (first | rfl | omega | decide | exact (by simp only [ByteArray.size_append, bsz, List.size_toArray, List.length_cons, List.length_nil]; omega))) | (refine ⟨?_, ?_, ?_⟩ <;> (first | rfl | omega | decide | exact (by simp only [ByteArray.size_append, bsz, List.size_toArray, List.length_cons, List.length_nil]; omega))) | (refine ⟨?_, ?_, ?_, ?_⟩ <;> (first | rfl | omega | decide | exact (by simp only [ByteArray.size_append, bsz, List.size_toArray, List.length_cons, List.length_nil]; omega)))) ?_)
        | fail)
      all_goals exact ret_eq (by simp only [stX, stF, stG, stH, stW, hB]; rfl)
    · obtain ⟨xk, xa, xb, xt, xf0, xf1, xs0, xs1, xtx⟩ := x
      dsimp only at h
      subst h
      dsimp only at a1 a2 a3 a4 a5 a6 a7 d1 d2 d3 d4 d5 hs
      have e5 : ((7 : Int) == 5) = false := rfl
      have e7 : ((7 : Int) == 7) = true := rfl
      have hB : inB 7 2 4 = false := by decide
      have wk : IntKind.i64.wrap ((7 : Int) - 1) = 6 := by decide
      refine Cd.spec_StepText_ok.fn0 Tryd.mixed Cd.spec_StepText_nt Cd.spec_StepText_rs rfl fun X => ?_
      unfold Cd.spec_StepText
      simp -dsimp only [go_sem, reduceIte, reduceCtorEq, Nat.reduceEqDiff, Nat.reduceLT, Nat.reduceLeDiff, Nat.reduceAdd, Nat.reduceMul, Nat.reduceSub, Int.reduceToNat, Int.reduceNeg, cS, hk]
      repeat' (first
        | (refine RgK.mk rfl ?_; simp -dsimp only [go_sem, reduceIte, reduceCtorEq, Nat.reduceEqDiff, Nat.reduceLT, Nat.reduceLeDiff, Nat.reduceAdd, Nat.reduceMul, Nat.reduceSub, Int.reduceToNat, Int.reduceNeg, e5, e7, hB, wk, Int.reduceToNat, List.getD_cons_zero, List.getD_cons_succ, cS, hk, i20, Bool.and_false, Bool.and_true, List.replicate_succ, List.replicate_zero, List.flatten_cons, List.flatten_nil, List.cons_append, List.nil_append, List.set_cons_zero, List.set_cons_succ, List.length_cons, List.length_nil, List.length_set])
        | (refine Br.mk (fun h => ?_) (fun h => ?_) <;> simp -dsimp only [go_sem, reduceIte, reduceCtorEq, Nat.reduceEqDiff, Nat.reduceLT, Nat.reduceLeDiff, Nat.reduceAdd, Nat.reduceMul, Nat.reduceSub, Int.reduceToNat, Int.reduceNeg, h, e5, e7, hB, wk, Int.reduceToNat, List.getD_cons_zero, List.getD_cons_succ, cS, hk, i20, Bool.and_false, Bool.and_true, List.replicate_succ, List.replicate_zero, List.flatten_cons, List.flatten_nil, List.cons_append, List.nil_append, List.set_cons_zero, List.set_cons_succ, List.length_cons, List.length_nil, List.length_set])
        | (refine CallK.flat (by first | exact l15Step ⟨7, xa, xb, xt, xf0, xf1, xs0, xs1, xtx⟩ _ hs | exact l01Dec xa a1.1 a1.2 | exact l01Dec xb a2.1 a2.2 | exact l01Dec xt a3.1 a3.2 | exact l15Field xf0 xf1 a4 a5 | exact l15Field xs0 xs1 a6 a7 | exact l15Both _) rfl ?_; simp -dsimp only [go_sem, reduceIte, reduceCtorEq, Nat.reduceEqDiff, Nat.reduceLT, Nat.reduceLeDiff, Nat.reduceAdd, Nat.reduceMul, Nat.reduceSub, Int.reduceToNat, Int.reduceNeg, e5, e7, hB, wk, Int.reduceToNat, List.getD_cons_zero, List.getD_cons_succ, cS, hk, i20, Bool.and_false, Bool.and_true, List.replicate_succ, List.replicate_zero, List.flatten_cons, List.flatten_nil, List.cons_append, List.nil_append, List.set_cons_zero, List.set_cons_succ, List.length_cons, List.length_nil, List.length_set])
        | (refine CallK.pure (by first | exact l15Step ⟨7, xa, xb, xt, xf0, xf1, xs0, xs1, xtx⟩ _ hs | exact l01Dec xa a1.1 a1.2 | exact l01Dec xb a2.1 a2.2 | exact l01Dec xt a3.1 a3.2 | exact l15Field xf0 xf1 a4 a5 | exact l15Field xs0 xs1 a6 a7 | exact l15Both _) ?_; simp -dsimp only [go_sem, reduceIte, reduceCtorEq, Nat.reduceEqDiff, Nat.reduceLT, Nat.reduceLeDiff, Nat.reduceAdd, Nat.reduceMul, Nat.reduceSub, Int.reduceToNat, Int.reduceNeg, e5, e7, hB, wk, Int.reduceToNat, List.getD_cons_zero, List.getD_cons_succ, cS, hk, i20, Bool.and_false, Bool.and_true, List.replicate_succ, List.replicate_zero, List.flatten_cons, List.flatten_nil, List.cons_append, List.nil_append, List.set_cons_zero, List.set_cons_succ, List.length_cons, List.length_nil, List.length_set])
        | (refine And.intro (by first | rfl | omega | decide | exact (by simp only [ByteArray.size_append, bsz, List.size_toArray, List.length_cons, List.length_nil]; omega) | (refine ⟨?_, ?_⟩ <;> (first | rfl | omega | decide | exact (by simp only [ByteArray.size_append, bsz, List.size_toArray, List.length_cons, List.length_nil]; omega))) | (refine ⟨?_, ?_, ?_⟩ <;> (first | rfl | omega | decide | exact (by simp only [ByteArray.size_append, bsz, List.size_toArray, List.length_cons, List.length_nil]; omega))) | (refine ⟨?_, ?_, ?_, ?_⟩ <;> (first | rfl | omega | decide | exact (by simp only [ByteArray.size_append, bsz, List.size_toArray, List.length_cons, List.length_nil]; omega)))) ?_)
        | fail)
      all_goals exact ret_eq (by simp only [stX, stF, stG, stH, stW, hB]; rfl)
end Go.Proofs.YthpokkcbbpapdaaDoor
