/- What a calculation on a card gives; the program's calculatedCard. -/
import Derived.Test.YthpokkcbbpapdaaDoorTwXj
namespace Go.Proofs.YthpokkcbbpapdaaDoor
open Go.Vs
set_option linter.unusedSimpArgs false
set_option linter.unusedVariables false
attribute [local irreducible] Vs.Fn

theorem nnB_rng {n : Int} (h : nnB n = true) : -1000000000000 ≤ n ∧ n ≤ 1000000000000 := by
  simp only [nnB, inB, Bool.and_eq_true, decide_eq_true_eq] at h
  omega
theorem calT_rng {k a b : Int} (h : (calT k a b).2.2 = 0) : -1000000000000 ≤ (calT k a b).1 ∧ (calT k a b).1 ≤ 1000000000000 := by
  unfold calT at h ⊢
  by_cases h3 : k = 3
  · rw [if_pos h3] at h ⊢
    rcases proT_cases a b with ⟨_, hn⟩ | hn
    · exact nnB_rng hn
    · rw [hn]; exact ⟨by decide, by decide⟩
  · rw [if_neg h3] at h ⊢
    by_cases h4 : k = 4
    · rw [if_pos h4] at h ⊢
      rcases quoT_cases a b with ⟨_, hn⟩ | ⟨hn, _⟩
      · exact nnB_rng hn
      · rw [hn]; exact ⟨by decide, by decide⟩
    · rw [if_neg h4] at h ⊢
      generalize (if k = 2 then W (a - b) else W (a + b)) = z
      split
      · split
        · exact nnB_rng (by assumption)
        · exact ⟨by decide, by decide⟩
      · exact ⟨by decide, by decide⟩
theorem calR_rng {k : Int} {p q : Int × Int} {c : List Int} (h : (calR k p q c).2.2 = 0) : -1000000000000 ≤ (calR k p q c).1 ∧ (calR k p q c).1 ≤ 1000000000000 := by
  unfold calR at h ⊢
  split at h
  · rw [if_pos (by assumption)]; exact calT_rng h
  · rw [if_neg (by assumption)]; exact ⟨by decide, by decide⟩
def clash (fr w : Nat) (c : List Int) : Bool := ((c.take (fr + w)).drop fr).any fun x => x != 0
/-- the code of a calculation on a card -/
def cdC (k : Int) (p q : Int × Int) (fr w : Nat) (c : List Int) : Int :=
  if (calR k p q c).2.2 = 0 then (if (calR k p q c).1.natAbs / 10 ^ w = 0 then (if clash fr w c then 9 else 0) else 5) else (calR k p q c).2.2
def cdH (k : Int) (p q : Int × Int) (fr w : Nat) (c : List Int) : List Int := inF c fr w (pt w (calR k p q c).1)
theorem nDig_gt {n w : Nat} (hw : 0 < w) : decide ((Lib.nDigits n : Int) > (w : Int)) = !decide (n / 10 ^ w = 0) := by
  have h1 : n / 10 ^ w = 0 ↔ n < 10 ^ w := by
    rw [Nat.div_eq_zero_iff]
    have : 0 < 10 ^ w := Nat.pow_pos (by omega)
    omega
  have h2 : n < 10 ^ w ↔ Lib.nDigits n ≤ w := by
    constructor
    · intro h
      have key : ∀ (k m : Nat), m < 10 ^ (k + 1) → Lib.nDigits m ≤ k + 1 := by
        intro k
        induction k with
        | zero => intro m hm; rw [Lib.nDigits_small (by simpa using hm)]; omega
        | succ k ih =>
          intro m hm
          by_cases h : m < 10
          · rw [Lib.nDigits_small h]; omega
          · rw [Lib.nDigits_big h]
            have := ih (m / 10) (by rw [Nat.pow_succ] at hm; omega)
            omega
      obtain ⟨k, rfl⟩ : ∃ k, w = k + 1 := ⟨w - 1, by omega⟩
      exact key k n h
    · intro h
      exact Nat.lt_of_lt_of_le (Lib.lt_pow_nDigits n) (Nat.pow_le_pow_right (by omega) h)
  by_cases h : n / 10 ^ w = 0
  · have := h2.1 (h1.1 h)
    simp [h]; omega
  · have : ¬ Lib.nDigits n ≤ w := fun h' => h (h1.2 (h2.2 h'))
    simp [h]; omega
theorem calcd1 (x : Int) : Vs.Fn Tryd.prog F.impl_calculatedCard_1 [] [.v (.int .i64 x)] (.v (.bool (x != 0))) [] := by
  refine Cd.impl_calculatedCard_1_ok.fn0 Tryd.mixed Cd.impl_calculatedCard_1_nt Cd.impl_calculatedCard_1_rs rfl fun X => ?_
  unfold Cd.impl_calculatedCard_1
  simp -dsimp only [go_sem, reduceIte, reduceCtorEq, Nat.reduceEqDiff, Nat.reduceLT, Nat.reduceLeDiff, Nat.reduceAdd, Nat.reduceMul, Nat.reduceSub, Int.reduceToNat, Int.reduceNeg]
  repeat' (first
    | (refine RgK.mk rfl ?_; simp -dsimp only [go_sem, reduceIte, reduceCtorEq, Nat.reduceEqDiff, Nat.reduceLT, Nat.reduceLeDiff, Nat.reduceAdd, Nat.reduceMul, Nat.reduceSub, Int.reduceToNat, Int.reduceNeg])
    | (refine Br.mk (fun h => ?_) (fun h => ?_) <;> simp -dsimp only [go_sem, reduceIte, reduceCtorEq, Nat.reduceEqDiff, Nat.reduceLT, Nat.reduceLeDiff, Nat.reduceAdd, Nat.reduceMul, Nat.reduceSub, Int.reduceToNat, Int.reduceNeg, h])
    | (refine And.intro (by first | rfl | omega | decide | (refine ⟨?_, ?_⟩ <;> (first | rfl | omega | decide)) | (refine ⟨?_, ?_, ?_⟩ <;> (first | rfl | omega | decide)) | (refine ⟨?_, ?_, ?_, ?_⟩ <;> (first | rfl | omega | decide))) ?_)
    | fail)
  all_goals (simp_all)

theorem idxCl (l : List Int) (hl : l.length ≤ 1048576) : Vs.Fn Tryd.prog F.slices_IndexFunc___int64_int64_ [] [.sl 1 (E cI l), .fn F.impl_calculatedCard_1 []] (.v (.int .i64 (idxP (fun x => x != 0) l))) [] :=
  ixI_fn Tryd.mixed Cd.slices_IndexFunc___int64_int64__ok Cd.slices_IndexFunc___int64_int64__nt Cd.slices_IndexFunc___int64_int64__rs rfl (fun x => x != 0) F.impl_calculatedCard_1 [] rfl (fun x hx => calcd1 x) hl
theorem conCl (l : List Int) (hl : l.length ≤ 1048576) : Vs.Fn Tryd.prog F.slices_ContainsFunc___int64_int64_ [] [.sl 1 (E cI l), .fn F.impl_calculatedCard_1 []] (.v (.bool (l.any (fun x => x != 0)))) [] :=
  ct_fn Tryd.mixed (g := F.slices_IndexFunc___int64_int64_) Cd.slices_ContainsFunc___int64_int64__ok Cd.slices_ContainsFunc___int64_int64__nt Cd.slices_ContainsFunc___int64_int64__rs rfl (fun x => x != 0) F.impl_calculatedCard_1 [] rfl (idxCl l hl)
set_option maxHeartbeats 1000000 in
theorem calcCard0 (k : Int) (p q : Int × Int) (fr w : Nat) (c : List Int) (hk : inB k 1 4 = true) (hp : okP p.1 p.2 c) (hq : okP q.1 q.2 c) (hf : fr + w ≤ c.length) (hw0 : 0 < w) (hw12 : w ≤ 12) (hc20 : c.length ≤ 20) (h0 : cdC k p q fr w c ≠ 0) : Vs.Fn Tryd.prog F.impl_calculatedCard [] [.v (.int .i64 k), .agg (cC c), .agg (cP p), .agg (cP q), .agg [.v (.int .i64 (fr : Nat)), .v (.int .i64 (fr + w : Nat))]] (.tup [.agg [.v (.slice none 0 0)], .v (.int .i64 (cdC k p q fr w c))]) [] := by
  have hww : IntKind.i64.wrap (((fr + w : Nat) : Int) - (fr : Int)) = (w : Int) := by rw [wrap_in (by omega) (by omega)]; omega
  have hE : List.drop fr (List.take (fr + w) (E cI c)) = E cI ((c.take (fr + w)).drop fr) := by simp [E, List.map_take, List.map_drop]
  have hcl : ((c.take (fr + w)).drop fr).length ≤ 1048576 := by simp; omega
  by_cases hr : (calR k p q c).2.2 = 0
  · have hrg := calR_rng hr
    have hr0 : -9223372036854775807 ≤ (calR k p q c).1 := by omega
    have hr1 : (calR k p q c).1 ≤ 9223372036854775807 := by omega
    have hnn : (calR k p q c).1.natAbs < 2 ^ 63 := by omega
    have hz0 : ((calR k p q c).2.2 != 0) = false := by simp [hr]
    have hgt := nDig_gt (n := (calR k p q c).1.natAbs) hw0
    by_cases hd : (calR k p q c).1.natAbs / 10 ^ w = 0
    · have hcl9 : clash fr w c = true := by
        cases h : clash fr w c
        · exact absurd (by simp [cdC, hr, hd, h]) h0
        · rfl
      have hC : cdC k p q fr w c = 9 := by simp [cdC, hr, hd, hcl9]
      rw [hC]
      have hd2 : (!decide ((calR k p q c).1.natAbs / 10 ^ w = 0)) = false := by simp [hd]
      rw [hd2] at hgt
      unfold clash at hcl9
      refine Cd.impl_calculatedCard_ok.fn0 Tryd.mixed Cd.impl_calculatedCard_nt Cd.impl_calculatedCard_rs rfl fun X => ?_
      unfold Cd.impl_calculatedCard
      simp -dsimp only [go_sem, reduceIte, reduceCtorEq, Nat.reduceEqDiff, Nat.reduceLT, Nat.reduceLeDiff, Nat.reduceAdd, Nat.reduceMul, Nat.reduceSub, Int.reduceToNat, Int.reduceNeg, cC, cP, cFd]
      repeat' (first
        | (refine RgK.mk rfl ?_; simp -dsimp only [go_sem, reduceIte, reduceCtorEq, Nat.reduceEqDiff, Nat.reduceLT, Nat.reduceLeDiff, Nat.reduceAdd, Nat.reduceMul, Nat.reduceSub, Int.reduceToNat, Int.reduceNeg, cC, cP, cFd, cT3, hww, hE, Int.toNat_natCast, List.length_take, List.length_drop, E_len, hz0, hgt, hcl9])
        | (refine Br.mk (fun h => ?_) (fun h => ?_) <;> simp -dsimp only [go_sem, reduceIte, reduceCtorEq, Nat.reduceEqDiff, Nat.reduceLT, Nat.reduceLeDiff, Nat.reduceAdd, Nat.reduceMul, Nat.reduceSub, Int.reduceToNat, Int.reduceNeg, h, cC, cP, cFd, cT3, hww, hE, Int.toNat_natCast, List.length_take, List.length_drop, E_len, hz0, hgt, hcl9])
        | (refine CallK.flat (by first | exact calculated k hk p q c hp hq | exact absOf _ hr0 hr1 | exact digitsOf _ hnn | exact conCl _ hcl) rfl ?_; simp -dsimp only [go_sem, reduceIte, reduceCtorEq, Nat.reduceEqDiff, Nat.reduceLT, Nat.reduceLeDiff, Nat.reduceAdd, Nat.reduceMul, Nat.reduceSub, Int.reduceToNat, Int.reduceNeg, cC, cP, cFd, cT3, hww, hE, Int.toNat_natCast, List.length_take, List.length_drop, E_len, hz0, hgt, hcl9])
        | (refine CallK.pure (by first | exact calculated k hk p q c hp hq | exact absOf _ hr0 hr1 | exact digitsOf _ hnn | exact conCl _ hcl) ?_; simp -dsimp only [go_sem, reduceIte, reduceCtorEq, Nat.reduceEqDiff, Nat.reduceLT, Nat.reduceLeDiff, Nat.reduceAdd, Nat.reduceMul, Nat.reduceSub, Int.reduceToNat, Int.reduceNeg, cC, cP, cFd, cT3, hww, hE, Int.toNat_natCast, List.length_take, List.length_drop, E_len, hz0, hgt, hcl9])
        | (refine And.intro (by first | rfl | omega | decide | (refine ⟨?_, ?_⟩ <;> (first | rfl | omega | decide)) | (refine ⟨?_, ?_, ?_⟩ <;> (first | rfl | omega | decide)) | (refine ⟨?_, ?_, ?_, ?_⟩ <;> (first | rfl | omega | decide))) ?_)
        | fail)
      all_goals exact ⟨_, _, rfl, rfl⟩
    · have hC : cdC k p q fr w c = 5 := by simp [cdC, hr, hd]
      rw [hC]
      have hd2 : (!decide ((calR k p q c).1.natAbs / 10 ^ w = 0)) = true := by simp [hd]
      rw [hd2] at hgt
      refine Cd.impl_calculatedCard_ok.fn0 Tryd.mixed Cd.impl_calculatedCard_nt Cd.impl_calculatedCard_rs rfl fun X => ?_
      unfold Cd.impl_calculatedCard
      simp -dsimp only [go_sem, reduceIte, reduceCtorEq, Nat.reduceEqDiff, Nat.reduceLT, Nat.reduceLeDiff, Nat.reduceAdd, Nat.reduceMul, Nat.reduceSub, Int.reduceToNat, Int.reduceNeg, cC, cP, cFd]
      repeat' (first
        | (refine RgK.mk rfl ?_; simp -dsimp only [go_sem, reduceIte, reduceCtorEq, Nat.reduceEqDiff, Nat.reduceLT, Nat.reduceLeDiff, Nat.reduceAdd, Nat.reduceMul, Nat.reduceSub, Int.reduceToNat, Int.reduceNeg, cC, cP, cFd, cT3, hww, hE, Int.toNat_natCast, List.length_take, List.length_drop, E_len, hz0, hgt])
        | (refine Br.mk (fun h => ?_) (fun h => ?_) <;> simp -dsimp only [go_sem, reduceIte, reduceCtorEq, Nat.reduceEqDiff, Nat.reduceLT, Nat.reduceLeDiff, Nat.reduceAdd, Nat.reduceMul, Nat.reduceSub, Int.reduceToNat, Int.reduceNeg, h, cC, cP, cFd, cT3, hww, hE, Int.toNat_natCast, List.length_take, List.length_drop, E_len, hz0, hgt])
        | (refine CallK.flat (by first | exact calculated k hk p q c hp hq | exact absOf _ hr0 hr1 | exact digitsOf _ hnn | exact conCl _ hcl) rfl ?_; simp -dsimp only [go_sem, reduceIte, reduceCtorEq, Nat.reduceEqDiff, Nat.reduceLT, Nat.reduceLeDiff, Nat.reduceAdd, Nat.reduceMul, Nat.reduceSub, Int.reduceToNat, Int.reduceNeg, cC, cP, cFd, cT3, hww, hE, Int.toNat_natCast, List.length_take, List.length_drop, E_len, hz0, hgt])
        | (refine CallK.pure (by first | exact calculated k hk p q c hp hq | exact absOf _ hr0 hr1 | exact digitsOf _ hnn | exact conCl _ hcl) ?_; simp -dsimp only [go_sem, reduceIte, reduceCtorEq, Nat.reduceEqDiff, Nat.reduceLT, Nat.reduceLeDiff, Nat.reduceAdd, Nat.reduceMul, Nat.reduceSub, Int.reduceToNat, Int.reduceNeg, cC, cP, cFd, cT3, hww, hE, Int.toNat_natCast, List.length_take, List.length_drop, E_len, hz0, hgt])
        | (refine And.intro (by first | rfl | omega | decide | (refine ⟨?_, ?_⟩ <;> (first | rfl | omega | decide)) | (refine ⟨?_, ?_, ?_⟩ <;> (first | rfl | omega | decide)) | (refine ⟨?_, ?_, ?_, ?_⟩ <;> (first | rfl | omega | decide))) ?_)
        | fail)
      all_goals exact ⟨_, _, rfl, rfl⟩
  · have hC : cdC k p q fr w c = (calR k p q c).2.2 := by simp [cdC, hr]
    rw [hC]
    have hz0 : ((calR k p q c).2.2 != 0) = true := by simp [hr]
    refine Cd.impl_calculatedCard_ok.fn0 Tryd.mixed Cd.impl_calculatedCard_nt Cd.impl_calculatedCard_rs rfl fun X => ?_
    unfold Cd.impl_calculatedCard
    simp -dsimp only [go_sem, reduceIte, reduceCtorEq, Nat.reduceEqDiff, Nat.reduceLT, Nat.reduceLeDiff, Nat.reduceAdd, Nat.reduceMul, Nat.reduceSub, Int.reduceToNat, Int.reduceNeg, cC, cP, cFd]
    repeat' (first
      | (refine RgK.mk rfl ?_; simp -dsimp only [go_sem, reduceIte, reduceCtorEq, Nat.reduceEqDiff, Nat.reduceLT, Nat.reduceLeDiff, Nat.reduceAdd, Nat.reduceMul, Nat.reduceSub, Int.reduceToNat, Int.reduceNeg, cC, cP, cFd, cT3, hww, hE, Int.toNat_natCast, List.length_take, List.length_drop, E_len, hz0])
      | (refine Br.mk (fun h => ?_) (fun h => ?_) <;> simp -dsimp only [go_sem, reduceIte, reduceCtorEq, Nat.reduceEqDiff, Nat.reduceLT, Nat.reduceLeDiff, Nat.reduceAdd, Nat.reduceMul, Nat.reduceSub, Int.reduceToNat, Int.reduceNeg, h, cC, cP, cFd, cT3, hww, hE, Int.toNat_natCast, List.length_take, List.length_drop, E_len, hz0])
      | (refine CallK.flat (by first | exact calculated k hk p q c hp hq) rfl ?_; simp -dsimp only [go_sem, reduceIte, reduceCtorEq, Nat.reduceEqDiff, Nat.reduceLT, Nat.reduceLeDiff, Nat.reduceAdd, Nat.reduceMul, Nat.reduceSub, Int.reduceToNat, Int.reduceNeg, cC, cP, cFd, cT3, hww, hE, Int.toNat_natCast, List.length_take, List.length_drop, E_len, hz0])
      | (refine CallK.pure (by first | exact calculated k hk p q c hp hq) ?_; simp -dsimp only [go_sem, reduceIte, reduceCtorEq, Nat.reduceEqDiff, Nat.reduceLT, Nat.reduceLeDiff, Nat.reduceAdd, Nat.reduceMul, Nat.reduceSub, Int.reduceToNat, Int.reduceNeg, cC, cP, cFd, cT3, hww, hE, Int.toNat_natCast, List.length_take, List.length_drop, E_len, hz0])
      | (refine And.intro (by first | rfl | omega | decide | (refine ⟨?_, ?_⟩ <;> (first | rfl | omega | decide)) | (refine ⟨?_, ?_, ?_⟩ <;> (first | rfl | omega | decide)) | (refine ⟨?_, ?_, ?_, ?_⟩ <;> (first | rfl | omega | decide))) ?_)
      | fail)
    all_goals exact ⟨_, _, rfl, rfl⟩

theorem cdC_zero {k : Int} {p q : Int × Int} {fr w : Nat} {c : List Int} (h : cdC k p q fr w c = 0) : (calR k p q c).2.2 = 0 ∧ (calR k p q c).1.natAbs / 10 ^ w = 0 ∧ clash fr w c = false := by
  unfold cdC at h
  split at h
  · split at h
    · split at h
      · cases h
      · exact ⟨by assumption, by assumption, by simpa using (by assumption : ¬ clash fr w c = true)⟩
    · cases h
  · exact absurd h (by assumption)
set_option maxHeartbeats 1000000 in
theorem calcCard1 (k : Int) (p q : Int × Int) (fr w : Nat) (c : List Int) (hk : inB k 1 4 = true) (hp : okP p.1 p.2 c) (hq : okP q.1 q.2 c) (hf : fr + w ≤ c.length) (hw0 : 0 < w) (hw12 : w ≤ 12) (hc20 : c.length ≤ 20) (h0 : cdC k p q fr w c = 0) : Vs.Fn Tryd.prog F.impl_calculatedCard [] [.v (.int .i64 k), .agg (cC c), .agg (cP p), .agg (cP q), .agg [.v (.int .i64 (fr : Nat)), .v (.int .i64 (fr + w : Nat))]] (.tup [.agg [.loc (.b 0) 0 c.length], .v (.int .i64 0)]) [some (.arr 1 (E cI (cdH k p q fr w c)) false)] := by
  have hww : IntKind.i64.wrap (((fr + w : Nat) : Int) - (fr : Int)) = (w : Int) := by rw [wrap_in (by omega) (by omega)]; omega
  have hE : List.drop fr (List.take (fr + w) (E cI c)) = E cI ((c.take (fr + w)).drop fr) := by simp [E, List.map_take, List.map_drop]
  have hcl : ((c.take (fr + w)).drop fr).length ≤ 1048576 := by simp; omega
  obtain ⟨hr, hd, hcl9⟩ := cdC_zero h0
  unfold clash at hcl9
  have hrg := calR_rng hr
  have hr0 : -9223372036854775807 ≤ (calR k p q c).1 := by omega
  have hr1 : (calR k p q c).1 ≤ 9223372036854775807 := by omega
  have hnn : (calR k p q c).1.natAbs < 2 ^ 63 := by omega
  have hz0 : ((calR k p q c).2.2 != 0) = false := by simp [hr]
  have hgt := nDig_gt (n := (calR k p q c).1.natAbs) hw0
  have hd2 : (!decide ((calR k p q c).1.natAbs / 10 ^ w = 0)) = false := by simp [hd]
  rw [hd2] at hgt
  refine Cd.impl_calculatedCard_ok.fn Tryd.mixed (hin := []) 54 _ [.t 53 0] [.arr 1 (E cI (cdH k p q fr w c)) false] Cd.impl_calculatedCard_nt Cd.impl_calculatedCard_rs rfl (by simp) rfl (by simp) fun X => ?_
  unfold Cd.impl_calculatedCard
  simp -dsimp only [go_sem, reduceIte, reduceCtorEq, Nat.reduceEqDiff, Nat.reduceLT, Nat.reduceLeDiff, Nat.reduceAdd, Nat.reduceMul, Nat.reduceSub, Int.reduceToNat, Int.reduceNeg, cC, cP, cFd]
  repeat' (first
    | (refine RgK.mk rfl ?_; simp -dsimp only [go_sem, reduceIte, reduceCtorEq, Nat.reduceEqDiff, Nat.reduceLT, Nat.reduceLeDiff, Nat.reduceAdd, Nat.reduceMul, Nat.reduceSub, Int.reduceToNat, Int.reduceNeg, cC, cP, cFd, cT3, hww, hE, Int.toNat_natCast, List.length_take, List.length_drop, E_len, hz0, hgt, hcl9])
    | (refine Br.mk (fun h => ?_) (fun h => ?_) <;> simp -dsimp only [go_sem, reduceIte, reduceCtorEq, Nat.reduceEqDiff, Nat.reduceLT, Nat.reduceLeDiff, Nat.reduceAdd, Nat.reduceMul, Nat.reduceSub, Int.reduceToNat, Int.reduceNeg, h, cC, cP, cFd, cT3, hww, hE, Int.toNat_natCast, List.length_take, List.length_drop, E_len, hz0, hgt, hcl9])
    | (refine CallK.flat (by first | exact calculated k hk p q c hp hq | exact absOf _ hr0 hr1 | exact digitsOf _ hnn | exact conCl _ hcl) rfl ?_; simp -dsimp only [go_sem, reduceIte, reduceCtorEq, Nat.reduceEqDiff, Nat.reduceLT, Nat.reduceLeDiff, Nat.reduceAdd, Nat.reduceMul, Nat.reduceSub, Int.reduceToNat, Int.reduceNeg, cC, cP, cFd, cT3, hww, hE, Int.toNat_natCast, List.length_take, List.length_drop, E_len, hz0, hgt, hcl9])
    | (refine CallK.pure (by first | exact calculated k hk p q c hp hq | exact absOf _ hr0 hr1 | exact digitsOf _ hnn | exact conCl _ hcl) ?_; simp -dsimp only [go_sem, reduceIte, reduceCtorEq, Nat.reduceEqDiff, Nat.reduceLT, Nat.reduceLeDiff, Nat.reduceAdd, Nat.reduceMul, Nat.reduceSub, Int.reduceToNat, Int.reduceNeg, cC, cP, cFd, cT3, hww, hE, Int.toNat_natCast, List.length_take, List.length_drop, E_len, hz0, hgt, hcl9])
    | (refine And.intro (by first | rfl | omega | decide | (refine ⟨?_, ?_⟩ <;> (first | rfl | omega | decide)) | (refine ⟨?_, ?_, ?_⟩ <;> (first | rfl | omega | decide)) | (refine ⟨?_, ?_, ?_, ?_⟩ <;> (first | rfl | omega | decide))) ?_)
    | fail)
  refine CallK.own (punchO c fr w _ (by omega) hf hw0 hrg.1 hrg.2) rfl ?_
  simp -dsimp only [go_sem, reduceIte, reduceCtorEq, Nat.reduceEqDiff, Nat.reduceLT, Nat.reduceLeDiff, Nat.reduceAdd, Nat.reduceMul, Nat.reduceSub, Int.reduceToNat, Int.reduceNeg, cC, cP, cFd, cT3, hww, hE, Int.toNat_natCast, List.length_take, List.length_drop, E_len]
  exact ⟨_, _, rfl, rfl⟩

end Go.Proofs.YthpokkcbbpapdaaDoor
