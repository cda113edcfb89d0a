/- The texts of specifications, as the program gives them and as the reference does. -/
import Derived.Test.YthpokkcbbpapdaaDoorTwZc
import Derived.Test.YthpokkcbbpapdaaDoorTuG
namespace Go.Proofs.YthpokkcbbpapdaaDoor
open Go.Vs
set_option linter.unusedSimpArgs false
set_option linter.unusedVariables false
attribute [local irreducible] Vs.Fn chOK areCh chTo chAt l03

theorem bsz (a : Array UInt8) : (ByteArray.mk a).size = a.size := rfl
def spnX (a b : Int) : ByteArray := dcl a ++ ⟨#[45]⟩ ++ dcl b
def inR (n : Int) : Prop := -9223372036854775808 ≤ n ∧ n ≤ 9223372036854775807
theorem spnX_size {a b : Int} (ha : inR a) (hb : inR b) : (spnX a b).size ≤ 41 := by
  have da := dcl_size ha.1 ha.2
  have db := dcl_size hb.1 hb.2
  unfold spnX
  simp only [ByteArray.size_append, bsz, List.size_toArray, List.length_cons, List.length_nil]
  omega
theorem span (a b : Int) (ha : inR a) (hb : inR b) : Vs.Fn Tryd.prog F.impl_span [] [.agg [.v (.int .i64 a), .v (.int .i64 b)]] (.v (.string (spnX a b))) [] := by
  have da := dcl_size ha.1 ha.2
  have db := dcl_size hb.1 hb.2
  refine Cd.impl_span_ok.fn0 Tryd.mixed Cd.impl_span_nt Cd.impl_span_rs rfl fun X => ?_
  unfold Cd.impl_span
  simp -dsimp only [go_sem, reduceIte, reduceCtorEq, Nat.reduceEqDiff, Nat.reduceLT, Nat.reduceLeDiff, Nat.reduceAdd, Nat.reduceMul, Nat.reduceSub, Int.reduceToNat, Int.reduceNeg]
  repeat' (first
    | (refine RgK.mk rfl ?_; simp -dsimp only [go_sem, reduceIte, reduceCtorEq, Nat.reduceEqDiff, Nat.reduceLT, Nat.reduceLeDiff, Nat.reduceAdd, Nat.reduceMul, Nat.reduceSub, Int.reduceToNat, Int.reduceNeg])
    | (refine Br.mk (fun h => ?_) (fun h => ?_) <;> simp -dsimp only [go_sem, reduceIte, reduceCtorEq, Nat.reduceEqDiff, Nat.reduceLT, Nat.reduceLeDiff, Nat.reduceAdd, Nat.reduceMul, Nat.reduceSub, Int.reduceToNat, Int.reduceNeg, h])
    | (refine CallK.flat (by first | exact decimalA a ha.1 ha.2 | exact decimalA b hb.1 hb.2) rfl ?_; simp -dsimp only [go_sem, reduceIte, reduceCtorEq, Nat.reduceEqDiff, Nat.reduceLT, Nat.reduceLeDiff, Nat.reduceAdd, Nat.reduceMul, Nat.reduceSub, Int.reduceToNat, Int.reduceNeg])
    | (refine CallK.pure (by first | exact decimalA a ha.1 ha.2 | exact decimalA b hb.1 hb.2) ?_; simp -dsimp only [go_sem, reduceIte, reduceCtorEq, Nat.reduceEqDiff, Nat.reduceLT, Nat.reduceLeDiff, Nat.reduceAdd, Nat.reduceMul, Nat.reduceSub, Int.reduceToNat, Int.reduceNeg])
    | (refine And.intro (by first | rfl | omega | decide | exact (by simp only [ByteArray.size_append, bsz, List.size_toArray, List.length_cons, List.length_nil]; omega) | (refine ⟨?_, ?_⟩ <;> (first | rfl | omega | decide | exact (by simp only [ByteArray.size_append, bsz, List.size_toArray, List.length_cons, List.length_nil]; omega))) | (refine ⟨?_, ?_, ?_⟩ <;> (first | rfl | omega | decide | exact (by simp only [ByteArray.size_append, bsz, List.size_toArray, List.length_cons, List.length_nil]; omega))) | (refine ⟨?_, ?_, ?_, ?_⟩ <;> (first | rfl | omega | decide | exact (by simp only [ByteArray.size_append, bsz, List.size_toArray, List.length_cons, List.length_nil]; omega)))) ?_)
    | fail)
  all_goals (exact ret_eq rfl)

theorem l15Field (a b : Int) (ha : inR a) (hb : inR b) : Vs.Fn Tryd.prog F.spec_l15Field [] [.agg [.v (.int .i64 a), .v (.int .i64 b)]] (.v (.string (spnX a b))) [] := by
  have da := dcl_size ha.1 ha.2
  have db := dcl_size hb.1 hb.2
  refine Cd.spec_l15Field_ok.fn0 Tryd.mixed Cd.spec_l15Field_nt Cd.spec_l15Field_rs rfl fun X => ?_
  unfold Cd.spec_l15Field
  simp -dsimp only [go_sem, reduceIte, reduceCtorEq, Nat.reduceEqDiff, Nat.reduceLT, Nat.reduceLeDiff, Nat.reduceAdd, Nat.reduceMul, Nat.reduceSub, Int.reduceToNat, Int.reduceNeg]
  repeat' (first
    | (refine RgK.mk rfl ?_; simp -dsimp only [go_sem, reduceIte, reduceCtorEq, Nat.reduceEqDiff, Nat.reduceLT, Nat.reduceLeDiff, Nat.reduceAdd, Nat.reduceMul, Nat.reduceSub, Int.reduceToNat, Int.reduceNeg])
    | (refine Br.mk (fun h => ?_) (fun h => ?_) <;> simp -dsimp only [go_sem, reduceIte, reduceCtorEq, Nat.reduceEqDiff, Nat.reduceLT, Nat.reduceLeDiff, Nat.reduceAdd, Nat.reduceMul, Nat.reduceSub, Int.reduceToNat, Int.reduceNeg, h])
    | (refine CallK.flat (by first | exact l01Dec a ha.1 ha.2 | exact l01Dec b hb.1 hb.2) rfl ?_; simp -dsimp only [go_sem, reduceIte, reduceCtorEq, Nat.reduceEqDiff, Nat.reduceLT, Nat.reduceLeDiff, Nat.reduceAdd, Nat.reduceMul, Nat.reduceSub, Int.reduceToNat, Int.reduceNeg])
    | (refine CallK.pure (by first | exact l01Dec a ha.1 ha.2 | exact l01Dec b hb.1 hb.2) ?_; simp -dsimp only [go_sem, reduceIte, reduceCtorEq, Nat.reduceEqDiff, Nat.reduceLT, Nat.reduceLeDiff, Nat.reduceAdd, Nat.reduceMul, Nat.reduceSub, Int.reduceToNat, Int.reduceNeg])
    | (refine And.intro (by first | rfl | omega | decide | exact (by simp only [ByteArray.size_append, bsz, List.size_toArray, List.length_cons, List.length_nil]; omega) | (refine ⟨?_, ?_⟩ <;> (first | rfl | omega | decide | exact (by simp only [ByteArray.size_append, bsz, List.size_toArray, List.length_cons, List.length_nil]; omega))) | (refine ⟨?_, ?_, ?_⟩ <;> (first | rfl | omega | decide | exact (by simp only [ByteArray.size_append, bsz, List.size_toArray, List.length_cons, List.length_nil]; omega))) | (refine ⟨?_, ?_, ?_, ?_⟩ <;> (first | rfl | omega | decide | exact (by simp only [ByteArray.size_append, bsz, List.size_toArray, List.length_cons, List.length_nil]; omega)))) ?_)
    | fail)
  all_goals (exact ret_eq rfl)


/-- a specification in words -/
def spX0 (x : Spc) : ByteArray := ⟨#[115, 117, 109, 32]⟩ ++ spnX x.s0 x.s1 ++ ⟨#[32, 98, 121, 32]⟩ ++ spnX x.g0 x.g1
def spX1 (x : Spc) : ByteArray := ⟨#[115, 117, 109, 32]⟩ ++ spnX x.s0 x.s1 ++ ⟨#[32, 98, 121, 32]⟩ ++ spnX x.g0 x.g1 ++ (⟨#[32, 119, 104, 101, 114, 101, 32]⟩ ++ spnX x.w0 x.w1 ++ ⟨#[32, 61]⟩ ++ x.text)
def spX (x : Spc) : ByteArray := if noText x.text then spX0 x else spX1 x
def spT (x : Spc) : ByteArray := if spcB x 20 then spX x else ⟨#[]⟩
theorem fldB_inR {a b w : Int} (h : fldB a b w = true) (hw : 0 ≤ w ∧ w ≤ 1000) : inR a ∧ inR b := by
  simp only [fldB, Bool.and_eq_true, decide_eq_true_eq] at h
  unfold inR; omega
theorem spcB_rng {x : Spc} (h : spcB x 20 = true) : (inR x.s0 ∧ inR x.s1) ∧ (inR x.g0 ∧ inR x.g1) ∧ inR x.w0 ∧ inR x.w1 := by
  simp only [spcB, numB, Bool.and_eq_true] at h
  obtain ⟨h1, ⟨h2, _⟩, h3⟩ := h
  refine ⟨fldB_inR h2 (by omega), fldB_inR h1 (by omega), ?_⟩
  split at h3
  · simp only [Bool.and_eq_true, beq_iff_eq] at h3
    unfold inR; omega
  · simp only [Bool.and_eq_true] at h3
    exact fldB_inR h3.1 (by omega)
theorem l16Text (x : Spc) (hs : x.text.size ≤ 1048576) (hk : spcB x 20 = true) : Vs.Fn Tryd.prog F.spec_l16Text [] [.ro (cP x)] (.v (.string (spX x))) [] := by
  obtain ⟨⟨a1, a2⟩, ⟨a3, a4⟩, a5, a6⟩ := spcB_rng hk
  have d1 := spnX_size a1 a2
  have d2 := spnX_size a3 a4
  have d3 := spnX_size a5 a6
  cases hn : noText x.text
  · have hX : spX x = spX1 x := by simp [spX, hn]
    rw [hX]
    unfold noText at hn
    refine Cd.spec_l16Text_ok.fn0 Tryd.mixed Cd.spec_l16Text_nt Cd.spec_l16Text_rs rfl fun X => ?_
    unfold Cd.spec_l16Text
    simp -dsimp only [go_sem, reduceIte, reduceCtorEq, Nat.reduceEqDiff, Nat.reduceLT, Nat.reduceLeDiff, Nat.reduceAdd, Nat.reduceMul, Nat.reduceSub, Int.reduceToNat, Int.reduceNeg, cP, hn]
    repeat' (first
      | (refine RgK.mk rfl ?_; simp -dsimp only [go_sem, reduceIte, reduceCtorEq, Nat.reduceEqDiff, Nat.reduceLT, Nat.reduceLeDiff, Nat.reduceAdd, Nat.reduceMul, Nat.reduceSub, Int.reduceToNat, Int.reduceNeg, cP, hn])
      | (refine Br.mk (fun h => ?_) (fun h => ?_) <;> simp -dsimp only [go_sem, reduceIte, reduceCtorEq, Nat.reduceEqDiff, Nat.reduceLT, Nat.reduceLeDiff, Nat.reduceAdd, Nat.reduceMul, Nat.reduceSub, Int.reduceToNat, Int.reduceNeg, h, cP, hn])
      | (refine CallK.flat (by first | exact l15Field x.s0 x.s1 a1 a2 | exact l15Field x.g0 x.g1 a3 a4 | exact l15Field x.w0 x.w1 a5 a6) rfl ?_; simp -dsimp only [go_sem, reduceIte, reduceCtorEq, Nat.reduceEqDiff, Nat.reduceLT, Nat.reduceLeDiff, Nat.reduceAdd, Nat.reduceMul, Nat.reduceSub, Int.reduceToNat, Int.reduceNeg, cP, hn])
      | (refine CallK.pure (by first | exact l15Field x.s0 x.s1 a1 a2 | exact l15Field x.g0 x.g1 a3 a4 | exact l15Field x.w0 x.w1 a5 a6) ?_; simp -dsimp only [go_sem, reduceIte, reduceCtorEq, Nat.reduceEqDiff, Nat.reduceLT, Nat.reduceLeDiff, Nat.reduceAdd, Nat.reduceMul, Nat.reduceSub, Int.reduceToNat, Int.reduceNeg, cP, hn])
      | (refine And.intro (by first | rfl | omega | decide | exact (by simp only [ByteArray.size_append, bsz, List.size_toArray, List.length_cons, List.length_nil]; omega) | (refine ⟨?_, ?_⟩ <;> (first | rfl | omega | decide | exact (by simp only [ByteArray.size_append, bsz, List.size_toArray, List.length_cons, List.length_nil]; omega))) | (refine ⟨?_, ?_, ?_⟩ <;> (first | rfl | omega | decide | exact (by simp only [ByteArray.size_append, bsz, List.size_toArray, List.length_cons, List.length_nil]; omega))) | (refine ⟨?_, ?_, ?_, ?_⟩ <;> (first | rfl | omega | decide | exact (by simp only [ByteArray.size_append, bsz, List.size_toArray, List.length_cons, List.length_nil]; omega)))) ?_)
      | fail)
    all_goals exact ret_eq rfl
  · have hX : spX x = spX0 x := by simp [spX, hn]
    rw [hX]
    unfold noText at hn
    refine Cd.spec_l16Text_ok.fn0 Tryd.mixed Cd.spec_l16Text_nt Cd.spec_l16Text_rs rfl fun X => ?_
    unfold Cd.spec_l16Text
    simp -dsimp only [go_sem, reduceIte, reduceCtorEq, Nat.reduceEqDiff, Nat.reduceLT, Nat.reduceLeDiff, Nat.reduceAdd, Nat.reduceMul, Nat.reduceSub, Int.reduceToNat, Int.reduceNeg, cP, hn]
    repeat' (first
      | (refine RgK.mk rfl ?_; simp -dsimp only [go_sem, reduceIte, reduceCtorEq, Nat.reduceEqDiff, Nat.reduceLT, Nat.reduceLeDiff, Nat.reduceAdd, Nat.reduceMul, Nat.reduceSub, Int.reduceToNat, Int.reduceNeg, cP, hn])
      | (refine Br.mk (fun h => ?_) (fun h => ?_) <;> simp -dsimp only [go_sem, reduceIte, reduceCtorEq, Nat.reduceEqDiff, Nat.reduceLT, Nat.reduceLeDiff, Nat.reduceAdd, Nat.reduceMul, Nat.reduceSub, Int.reduceToNat, Int.reduceNeg, h, cP, hn])
      | (refine CallK.flat (by first | exact l15Field x.s0 x.s1 a1 a2 | exact l15Field x.g0 x.g1 a3 a4 | exact l15Field x.w0 x.w1 a5 a6) rfl ?_; simp -dsimp only [go_sem, reduceIte, reduceCtorEq, Nat.reduceEqDiff, Nat.reduceLT, Nat.reduceLeDiff, Nat.reduceAdd, Nat.reduceMul, Nat.reduceSub, Int.reduceToNat, Int.reduceNeg, cP, hn])
      | (refine CallK.pure (by first | exact l15Field x.s0 x.s1 a1 a2 | exact l15Field x.g0 x.g1 a3 a4 | exact l15Field x.w0 x.w1 a5 a6) ?_; simp -dsimp only [go_sem, reduceIte, reduceCtorEq, Nat.reduceEqDiff, Nat.reduceLT, Nat.reduceLeDiff, Nat.reduceAdd, Nat.reduceMul, Nat.reduceSub, Int.reduceToNat, Int.reduceNeg, cP, hn])
      | (refine And.intro (by first | rfl | omega | decide | exact (by simp only [ByteArray.size_append, bsz, List.size_toArray, List.length_cons, List.length_nil]; omega) | (refine ⟨?_, ?_⟩ <;> (first | rfl | omega | decide | exact (by simp only [ByteArray.size_append, bsz, List.size_toArray, List.length_cons, List.length_nil]; omega))) | (refine ⟨?_, ?_, ?_⟩ <;> (first | rfl | omega | decide | exact (by simp only [ByteArray.size_append, bsz, List.size_toArray, List.length_cons, List.length_nil]; omega))) | (refine ⟨?_, ?_, ?_, ?_⟩ <;> (first | rfl | omega | decide | exact (by simp only [ByteArray.size_append, bsz, List.size_toArray, List.length_cons, List.length_nil]; omega)))) ?_)
      | fail)
    all_goals exact ret_eq rfl
theorem spec_SpecText (x : Spc) (hs : x.text.size ≤ 1048576) : Vs.Fn Tryd.prog F.spec_SpecText [] [.agg (cP x)] (.v (.string (spT x))) [] := by
  have i20 : inB 20 1 20 = true := by decide
  cases hk : spcB x 20
  · have hT : spT x = ⟨#[]⟩ := by simp [spT, hk]
    rw [hT]
    refine Cd.spec_SpecText_ok.fn0 Tryd.mixed Cd.spec_SpecText_nt Cd.spec_SpecText_rs rfl fun X => ?_
    unfold Cd.spec_SpecText
    simp -dsimp only [go_sem, reduceIte, reduceCtorEq, Nat.reduceEqDiff, Nat.reduceLT, Nat.reduceLeDiff, Nat.reduceAdd, Nat.reduceMul, Nat.reduceSub, Int.reduceToNat, Int.reduceNeg, cP, hk]
    repeat' (first
      | (refine RgK.mk rfl ?_; simp -dsimp only [go_sem, reduceIte, reduceCtorEq, Nat.reduceEqDiff, Nat.reduceLT, Nat.reduceLeDiff, Nat.reduceAdd, Nat.reduceMul, Nat.reduceSub, Int.reduceToNat, Int.reduceNeg, cP, hk, i20, Bool.and_false, Bool.and_true])
      | (refine Br.mk (fun h => ?_) (fun h => ?_) <;> simp -dsimp only [go_sem, reduceIte, reduceCtorEq, Nat.reduceEqDiff, Nat.reduceLT, Nat.reduceLeDiff, Nat.reduceAdd, Nat.reduceMul, Nat.reduceSub, Int.reduceToNat, Int.reduceNeg, h, cP, hk, i20, Bool.and_false, Bool.and_true])
      | (refine CallK.flat (by first | exact l16Ok x _ hs) rfl ?_; simp -dsimp only [go_sem, reduceIte, reduceCtorEq, Nat.reduceEqDiff, Nat.reduceLT, Nat.reduceLeDiff, Nat.reduceAdd, Nat.reduceMul, Nat.reduceSub, Int.reduceToNat, Int.reduceNeg, cP, hk, i20, Bool.and_false, Bool.and_true])
      | (refine CallK.pure (by first | exact l16Ok x _ hs) ?_; simp -dsimp only [go_sem, reduceIte, reduceCtorEq, Nat.reduceEqDiff, Nat.reduceLT, Nat.reduceLeDiff, Nat.reduceAdd, Nat.reduceMul, Nat.reduceSub, Int.reduceToNat, Int.reduceNeg, cP, hk, i20, Bool.and_false, Bool.and_true])
      | (refine And.intro (by first | rfl | omega | decide | (refine ⟨?_, ?_⟩ <;> (first | rfl | omega | decide)) | (refine ⟨?_, ?_, ?_⟩ <;> (first | rfl | omega | decide)) | (refine ⟨?_, ?_, ?_, ?_⟩ <;> (first | rfl | omega | decide))) ?_)
      | fail)
    all_goals exact ret_eq rfl
  · have hT : spT x = spX x := by simp [spT, hk]
    rw [hT]
    refine Cd.spec_SpecText_ok.fn0 Tryd.mixed Cd.spec_SpecText_nt Cd.spec_SpecText_rs rfl fun X => ?_
    unfold Cd.spec_SpecText
    simp -dsimp only [go_sem, reduceIte, reduceCtorEq, Nat.reduceEqDiff, Nat.reduceLT, Nat.reduceLeDiff, Nat.reduceAdd, Nat.reduceMul, Nat.reduceSub, Int.reduceToNat, Int.reduceNeg, cP, hk]
    repeat' (first
      | (refine RgK.mk rfl ?_; simp -dsimp only [go_sem, reduceIte, reduceCtorEq, Nat.reduceEqDiff, Nat.reduceLT, Nat.reduceLeDiff, Nat.reduceAdd, Nat.reduceMul, Nat.reduceSub, Int.reduceToNat, Int.reduceNeg, cP, hk])
      | (refine Br.mk (fun h => ?_) (fun h => ?_) <;> simp -dsimp only [go_sem, reduceIte, reduceCtorEq, Nat.reduceEqDiff, Nat.reduceLT, Nat.reduceLeDiff, Nat.reduceAdd, Nat.reduceMul, Nat.reduceSub, Int.reduceToNat, Int.reduceNeg, h, cP, hk])
      | (refine CallK.flat (by first | exact l16Ok x _ hs | exact l16Text x hs hk) rfl ?_; simp -dsimp only [go_sem, reduceIte, reduceCtorEq, Nat.reduceEqDiff, Nat.reduceLT, Nat.reduceLeDiff, Nat.reduceAdd, Nat.reduceMul, Nat.reduceSub, Int.reduceToNat, Int.reduceNeg, cP, hk])
      | (refine CallK.pure (by first | exact l16Ok x _ hs | exact l16Text x hs hk) ?_; simp -dsimp only [go_sem, reduceIte, reduceCtorEq, Nat.reduceEqDiff, Nat.reduceLT, Nat.reduceLeDiff, Nat.reduceAdd, Nat.reduceMul, Nat.reduceSub, Int.reduceToNat, Int.reduceNeg, cP, hk])
      | (refine And.intro (by first | rfl | omega | decide | (refine ⟨?_, ?_⟩ <;> (first | rfl | omega | decide)) | (refine ⟨?_, ?_, ?_⟩ <;> (first | rfl | omega | decide)) | (refine ⟨?_, ?_, ?_, ?_⟩ <;> (first | rfl | omega | decide))) ?_)
      | fail)
    all_goals exact ret_eq rfl
theorem impl_SpecText (x : Spc) (hs : x.text.size ≤ 1048576) : Vs.Fn Tryd.prog F.impl_SpecText [] [.agg (cP x)] (.v (.string (spT x))) [] := by
  have i20 : inB 20 1 20 = true := by decide
  cases hk : spcB x 20
  · have hT : spT x = ⟨#[]⟩ := by simp [spT, hk]
    rw [hT]
    refine Cd.impl_SpecText_ok.fn0 Tryd.mixed Cd.impl_SpecText_nt Cd.impl_SpecText_rs rfl fun X => ?_
    unfold Cd.impl_SpecText
    simp -dsimp only [go_sem, reduceIte, reduceCtorEq, Nat.reduceEqDiff, Nat.reduceLT, Nat.reduceLeDiff, Nat.reduceAdd, Nat.reduceMul, Nat.reduceSub, Int.reduceToNat, Int.reduceNeg, cP, hk]
    repeat' (first
      | (refine RgK.mk rfl ?_; simp -dsimp only [go_sem, reduceIte, reduceCtorEq, Nat.reduceEqDiff, Nat.reduceLT, Nat.reduceLeDiff, Nat.reduceAdd, Nat.reduceMul, Nat.reduceSub, Int.reduceToNat, Int.reduceNeg, cP, hk, i20, Bool.and_false, Bool.and_true])
      | (refine Br.mk (fun h => ?_) (fun h => ?_) <;> simp -dsimp only [go_sem, reduceIte, reduceCtorEq, Nat.reduceEqDiff, Nat.reduceLT, Nat.reduceLeDiff, Nat.reduceAdd, Nat.reduceMul, Nat.reduceSub, Int.reduceToNat, Int.reduceNeg, h, cP, hk, i20, Bool.and_false, Bool.and_true])
      | (refine CallK.flat (by first | exact impl_ValidSpec x _ hs) rfl ?_; simp -dsimp only [go_sem, reduceIte, reduceCtorEq, Nat.reduceEqDiff, Nat.reduceLT, Nat.reduceLeDiff, Nat.reduceAdd, Nat.reduceMul, Nat.reduceSub, Int.reduceToNat, Int.reduceNeg, cP, hk, i20, Bool.and_false, Bool.and_true])
      | (refine CallK.pure (by first | exact impl_ValidSpec x _ hs) ?_; simp -dsimp only [go_sem, reduceIte, reduceCtorEq, Nat.reduceEqDiff, Nat.reduceLT, Nat.reduceLeDiff, Nat.reduceAdd, Nat.reduceMul, Nat.reduceSub, Int.reduceToNat, Int.reduceNeg, cP, hk, i20, Bool.and_false, Bool.and_true])
      | (refine And.intro (by first | rfl | omega | decide | (refine ⟨?_, ?_⟩ <;> (first | rfl | omega | decide)) | (refine ⟨?_, ?_, ?_⟩ <;> (first | rfl | omega | decide)) | (refine ⟨?_, ?_, ?_, ?_⟩ <;> (first | rfl | omega | decide))) ?_)
      | fail)
    all_goals exact ret_eq rfl
  · have hT : spT x = spX x := by simp [spT, hk]
    rw [hT]
    obtain ⟨⟨a1, a2⟩, ⟨a3, a4⟩, a5, a6⟩ := spcB_rng hk
    have d1 := spnX_size a1 a2
    have d2 := spnX_size a3 a4
    have d3 := spnX_size a5 a6
    cases hn : noText x.text
    · have hX : spX x = spX1 x := by simp [spX, hn]
      rw [hX]
      unfold noText at hn
      refine Cd.impl_SpecText_ok.fn0 Tryd.mixed Cd.impl_SpecText_nt Cd.impl_SpecText_rs rfl fun X => ?_
      unfold Cd.impl_SpecText
      simp -dsimp only [go_sem, reduceIte, reduceCtorEq, Nat.reduceEqDiff, Nat.reduceLT, Nat.reduceLeDiff, Nat.reduceAdd, Nat.reduceMul, Nat.reduceSub, Int.reduceToNat, Int.reduceNeg, cP, hn, hk, i20, Bool.and_false, Bool.and_true]
      repeat' (first
        | (refine RgK.mk rfl ?_; simp -dsimp only [go_sem, reduceIte, reduceCtorEq, Nat.reduceEqDiff, Nat.reduceLT, Nat.reduceLeDiff, Nat.reduceAdd, Nat.reduceMul, Nat.reduceSub, Int.reduceToNat, Int.reduceNeg, cP, hn, hk, i20, Bool.and_false, Bool.and_true])
        | (refine Br.mk (fun h => ?_) (fun h => ?_) <;> simp -dsimp only [go_sem, reduceIte, reduceCtorEq, Nat.reduceEqDiff, Nat.reduceLT, Nat.reduceLeDiff, Nat.reduceAdd, Nat.reduceMul, Nat.reduceSub, Int.reduceToNat, Int.reduceNeg, h, cP, hn, hk, i20, Bool.and_false, Bool.and_true])
        | (refine CallK.flat (by first | exact impl_ValidSpec x _ hs | exact span x.s0 x.s1 a1 a2 | exact span x.g0 x.g1 a3 a4 | exact span x.w0 x.w1 a5 a6) rfl ?_; simp -dsimp only [go_sem, reduceIte, reduceCtorEq, Nat.reduceEqDiff, Nat.reduceLT, Nat.reduceLeDiff, Nat.reduceAdd, Nat.reduceMul, Nat.reduceSub, Int.reduceToNat, Int.reduceNeg, cP, hn, hk, i20, Bool.and_false, Bool.and_true])
        | (refine CallK.pure (by first | exact impl_ValidSpec x _ hs | exact span x.s0 x.s1 a1 a2 | exact span x.g0 x.g1 a3 a4 | exact span x.w0 x.w1 a5 a6) ?_; simp -dsimp only [go_sem, reduceIte, reduceCtorEq, Nat.reduceEqDiff, Nat.reduceLT, Nat.reduceLeDiff, Nat.reduceAdd, Nat.reduceMul, Nat.reduceSub, Int.reduceToNat, Int.reduceNeg, cP, hn, hk, i20, Bool.and_false, Bool.and_true])
        | (refine And.intro (by first | rfl | omega | decide | exact (by simp only [ByteArray.size_append, bsz, List.size_toArray, List.length_cons, List.length_nil]; omega) | (refine ⟨?_, ?_⟩ <;> (first | rfl | omega | decide | exact (by simp only [ByteArray.size_append, bsz, List.size_toArray, List.length_cons, List.length_nil]; omega))) | (refine ⟨?_, ?_, ?_⟩ <;> (first | rfl | omega | decide | exact (by simp only [ByteArray.size_append, bsz, List.size_toArray, List.length_cons, List.length_nil]; omega))) | (refine ⟨?_, ?_, ?_, ?_⟩ <;> (first | rfl | omega | decide | exact (by simp only [ByteArray.size_append, bsz, List.size_toArray, List.length_cons, List.length_nil]; omega)))) ?_)
        | fail)
      all_goals exact ret_eq rfl
    · have hX : spX x = spX0 x := by simp [spX, hn]
      rw [hX]
      unfold noText at hn
      refine Cd.impl_SpecText_ok.fn0 Tryd.mixed Cd.impl_SpecText_nt Cd.impl_SpecText_rs rfl fun X => ?_
      unfold Cd.impl_SpecText
      simp -dsimp only [go_sem, reduceIte, reduceCtorEq, Nat.reduceEqDiff, Nat.reduceLT, Nat.reduceLeDiff, Nat.reduceAdd, Nat.reduceMul, Nat.reduceSub, Int.reduceToNat, Int.reduceNeg, cP, hn, hk, i20, Bool.and_false, Bool.and_true]
      repeat' (first
        | (refine RgK.mk rfl ?_; simp -dsimp only [go_sem, reduceIte, reduceCtorEq, Nat.reduceEqDiff, Nat.reduceLT, Nat.reduceLeDiff, Nat.reduceAdd, Nat.reduceMul, Nat.reduceSub, Int.reduceToNat, Int.reduceNeg, cP, hn, hk, i20, Bool.and_false, Bool.and_true])
        | (refine Br.mk (fun h => ?_) (fun h => ?_) <;> simp -dsimp only [go_sem, reduceIte, reduceCtorEq, Nat.reduceEqDiff, Nat.reduceLT, Nat.reduceLeDiff, Nat.reduceAdd, Nat.reduceMul, Nat.reduceSub, Int.reduceToNat, Int.reduceNeg, h, cP, hn, hk, i20, Bool.and_false, Bool.and_true])
        | (refine CallK.flat (by first | exact impl_ValidSpec x _ hs | exact span x.s0 x.s1 a1 a2 | exact span x.g0 x.g1 a3 a4 | exact span x.w0 x.w1 a5 a6) rfl ?_; simp -dsimp only [go_sem, reduceIte, reduceCtorEq, Nat.reduceEqDiff, Nat.reduceLT, Nat.reduceLeDiff, Nat.reduceAdd, Nat.reduceMul, Nat.reduceSub, Int.reduceToNat, Int.reduceNeg, cP, hn, hk, i20, Bool.and_false, Bool.and_true])
        | (refine CallK.pure (by first | exact impl_ValidSpec x _ hs | exact span x.s0 x.s1 a1 a2 | exact span x.g0 x.g1 a3 a4 | exact span x.w0 x.w1 a5 a6) ?_; simp -dsimp only [go_sem, reduceIte, reduceCtorEq, Nat.reduceEqDiff, Nat.reduceLT, Nat.reduceLeDiff, Nat.reduceAdd, Nat.reduceMul, Nat.reduceSub, Int.reduceToNat, Int.reduceNeg, cP, hn, hk, i20, Bool.and_false, Bool.and_true])
        | (refine And.intro (by first | rfl | omega | decide | exact (by simp only [ByteArray.size_append, bsz, List.size_toArray, List.length_cons, List.length_nil]; omega) | (refine ⟨?_, ?_⟩ <;> (first | rfl | omega | decide | exact (by simp only [ByteArray.size_append, bsz, List.size_toArray, List.length_cons, List.length_nil]; omega))) | (refine ⟨?_, ?_, ?_⟩ <;> (first | rfl | omega | decide | exact (by simp only [ByteArray.size_append, bsz, List.size_toArray, List.length_cons, List.length_nil]; omega))) | (refine ⟨?_, ?_, ?_, ?_⟩ <;> (first | rfl | omega | decide | exact (by simp only [ByteArray.size_append, bsz, List.size_toArray, List.length_cons, List.length_nil]; omega)))) ?_)
        | fail)
      all_goals exact ret_eq rfl
theorem law_SpecText (x : Spc) (hs0 : x.text.size < 2 ^ 63) : Vs.Fn Tryd.prog F.laws_FnExactSpecText [] [.agg (cP x)] (.v (.bool true)) [] := by
  refine Cd.laws_FnExactSpecText_ok.fn0 Tryd.mixed Cd.laws_FnExactSpecText_nt Cd.laws_FnExactSpecText_rs rfl fun X => ?_
  unfold Cd.laws_FnExactSpecText
  simp -dsimp only [go_sem, reduceIte, reduceCtorEq, Nat.reduceEqDiff, Nat.reduceLT, Nat.reduceLeDiff, Nat.reduceAdd, Nat.reduceMul, Nat.reduceSub, Int.reduceToNat, Int.reduceNeg, cP]
  refine CallK.flat (szSpec x _) rfl ?_
  simp -dsimp only [go_sem, reduceIte, reduceCtorEq, Nat.reduceEqDiff, Nat.reduceLT, Nat.reduceLeDiff, Nat.reduceAdd, Nat.reduceMul, Nat.reduceSub, Int.reduceToNat, Int.reduceNeg, cP]
  refine Br.mk (fun h1 => by simp -dsimp only [go_sem, reduceIte, reduceCtorEq, Nat.reduceEqDiff, Nat.reduceLT, Nat.reduceLeDiff, Nat.reduceAdd, Nat.reduceMul, Nat.reduceSub, Int.reduceToNat, Int.reduceNeg, cP]; simp) (fun h1 => ?_)
  simp -dsimp only [go_sem, reduceIte, reduceCtorEq, Nat.reduceEqDiff, Nat.reduceLT, Nat.reduceLeDiff, Nat.reduceAdd, Nat.reduceMul, Nat.reduceSub, Int.reduceToNat, Int.reduceNeg, cP]
  have hs : x.text.size ≤ 1048576 := by
    have h2 : ¬ szT x.text 1048576 < 0 := of_decide_eq_false h1
    have := (szT_le hs0 (n := 1048576) (by omega) (by omega) (by omega)).2
    omega
  repeat' (first
    | (refine RgK.mk rfl ?_; simp -dsimp only [go_sem, reduceIte, reduceCtorEq, Nat.reduceEqDiff, Nat.reduceLT, Nat.reduceLeDiff, Nat.reduceAdd, Nat.reduceMul, Nat.reduceSub, Int.reduceToNat, Int.reduceNeg, cP])
    | (refine Br.mk (fun h => ?_) (fun h => ?_) <;> simp -dsimp only [go_sem, reduceIte, reduceCtorEq, Nat.reduceEqDiff, Nat.reduceLT, Nat.reduceLeDiff, Nat.reduceAdd, Nat.reduceMul, Nat.reduceSub, Int.reduceToNat, Int.reduceNeg, h, cP])
    | (refine CallK.flat (by first | exact toSpec x | exact spec_SpecText x hs | exact impl_SpecText x hs) rfl ?_; simp -dsimp only [go_sem, reduceIte, reduceCtorEq, Nat.reduceEqDiff, Nat.reduceLT, Nat.reduceLeDiff, Nat.reduceAdd, Nat.reduceMul, Nat.reduceSub, Int.reduceToNat, Int.reduceNeg, cP])
    | (refine CallK.pure (by first | exact toSpec x | exact spec_SpecText x hs | exact impl_SpecText x hs) ?_; simp -dsimp only [go_sem, reduceIte, reduceCtorEq, Nat.reduceEqDiff, Nat.reduceLT, Nat.reduceLeDiff, Nat.reduceAdd, Nat.reduceMul, Nat.reduceSub, Int.reduceToNat, Int.reduceNeg, cP])
    | (refine And.intro (by first | rfl | omega | decide | (refine ⟨?_, ?_⟩ <;> (first | rfl | omega | decide)) | (refine ⟨?_, ?_, ?_⟩ <;> (first | rfl | omega | decide)) | (refine ⟨?_, ?_, ?_, ?_⟩ <;> (first | rfl | omega | decide))) ?_)
    | fail)
  all_goals simp_all

end Go.Proofs.YthpokkcbbpapdaaDoor
