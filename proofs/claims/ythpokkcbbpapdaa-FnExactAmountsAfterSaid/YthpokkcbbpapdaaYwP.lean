/- The reference's l19After. -/
import Derived.Test.YthpokkcbbpapdaaYwO
namespace Go.Proofs.Ythpokkcbbpapdaa
open Go.Vs
set_option linter.unusedSimpArgs false
set_option linter.unusedVariables false
attribute [local irreducible] Vs.Fn
theorem l19Read (n : Int) (f : Flt) (h0 : 0 ≤ n) (h1 : n ≤ 9999) (p : Nat) (hf : f.place = p) (hp : p < 4) (hd : 0 ≤ f.digit ∧ f.digit ≤ 9) : Vs.Fn Try.prog F.spec_l19Read [] [.v (.int .i64 n), .agg (cF f)] (.v (.int .i64 (rdD n f))) [] := by
  obtain ⟨hr, he⟩ := rd_eq h0 h1 hf hp hd
  have hz : ((10 ^ p : Nat) : Int) ≠ 0 := by
    have : 0 < 10 ^ p := Nat.pow_pos (by omega)
    omega
  refine Cd.spec_l19Read_ok.fn0 Try.mixed Cd.spec_l19Read_nt Cd.spec_l19Read_rs rfl fun X => ?_
  unfold Cd.spec_l19Read
  simp -dsimp only [go_sem, reduceIte, reduceCtorEq, Nat.reduceEqDiff, Nat.reduceLT, Nat.reduceLeDiff, Nat.reduceAdd, Nat.reduceMul, Nat.reduceSub, Int.reduceToNat, Int.reduceNeg, cF, hf]
  repeat' (first
    | (refine RgK.mk rfl ?_; simp -dsimp only [go_sem, reduceIte, reduceCtorEq, Nat.reduceEqDiff, Nat.reduceLT, Nat.reduceLeDiff, Nat.reduceAdd, Nat.reduceMul, Nat.reduceSub, Int.reduceToNat, Int.reduceNeg, cF, hf])
    | (refine Br.mk (fun h => ?_) (fun h => ?_) <;> simp -dsimp only [go_sem, reduceIte, reduceCtorEq, Nat.reduceEqDiff, Nat.reduceLT, Nat.reduceLeDiff, Nat.reduceAdd, Nat.reduceMul, Nat.reduceSub, Int.reduceToNat, Int.reduceNeg, h, cF, hf])
    | (refine CallK.flat (by first | exact l19Power p hp) rfl ?_; simp -dsimp only [go_sem, reduceIte, reduceCtorEq, Nat.reduceEqDiff, Nat.reduceLT, Nat.reduceLeDiff, Nat.reduceAdd, Nat.reduceMul, Nat.reduceSub, Int.reduceToNat, Int.reduceNeg, cF, hf])
    | (refine CallK.pure (by first | exact l19Power p hp) ?_; simp -dsimp only [go_sem, reduceIte, reduceCtorEq, Nat.reduceEqDiff, Nat.reduceLT, Nat.reduceLeDiff, Nat.reduceAdd, Nat.reduceMul, Nat.reduceSub, Int.reduceToNat, Int.reduceNeg, cF, hf])
    | (refine And.intro (by first | rfl | omega | decide | exact hz | exact (by decide : (10 : Int) ≠ 0) | (refine ⟨?_, ?_⟩ <;> (first | rfl | omega | decide | exact hz | exact (by decide : (10 : Int) ≠ 0))) | (refine ⟨?_, ?_, ?_⟩ <;> (first | rfl | omega | decide | exact hz | exact (by decide : (10 : Int) ≠ 0))) | (refine ⟨?_, ?_, ?_, ?_⟩ <;> (first | rfl | omega | decide | exact hz | exact (by decide : (10 : Int) ≠ 0)))) ?_)
    | fail)
  all_goals exact ret_eq (by rw [← he])


theorem fs_none {fs : List Flt} {i k : Nat} (h1 : ∀ j, j < k → (fs.getD j default).card < i) (h2 : ∀ j, k ≤ j → j < fs.length → (i : Int) + 1 ≤ (fs.getD j default).card) : fs.findIdx? (fun f => f.card == (i : Int)) = none := by
  rw [List.findIdx?_eq_none_iff]
  intro x hx
  obtain ⟨j, hj, rfl⟩ := List.getElem_of_mem hx
  have g := getD_lt hj (default : Flt)
  by_cases hjk : j < k
  · have := h1 j hjk
    rw [g] at this
    simp; omega
  · have := h2 j (by omega) hj
    rw [g] at this
    simp; omega
theorem fs_some {fs : List Flt} {i k : Nat} (h1 : ∀ j, j < k → (fs.getD j default).card < i) (hk : k < fs.length) (h2 : (fs.getD k default).card = i) : fs.findIdx? (fun f => f.card == (i : Int)) = some k := by
  rw [List.findIdx?_eq_some_iff_getElem]
  refine ⟨hk, ?_, fun j hj => ?_⟩
  · rw [getD_lt hk] at h2; simp [h2]
  · have := h1 j hj
    rw [getD_lt (by omega : j < fs.length)] at this
    simp; omega
set_option maxHeartbeats 2000000 in
theorem l19After (l : List Int) (fs : List Flt) (hl : amB l = true) (hA : arB l fs = true) : Vs.Fn Try.prog F.spec_l19After [] [.sl 1 (E cI l), .sl 4 (E cF fs)] (.sl 1 (E cI (aft l fs l.length))) [] := by
  obtain ⟨h12, hr⟩ := amB_spec hl
  obtain ⟨hf2, hF⟩ := arSpec hA
  have h00 : ∀ j, j < fs.length → ((0 : Nat) : Int) ≤ (fs.getD j default).card := fun j h2 => by
    have := hF j h2
    simp only [fltB, inB, Bool.and_eq_true, decide_eq_true_eq] at this
    omega
  refine Cd.spec_l19After_ok.fn0 Try.mixed Cd.spec_l19After_nt Cd.spec_l19After_rs rfl fun X => ?_
  unfold Cd.spec_l19After
  simp -dsimp only [go_sem, reduceIte, reduceCtorEq, Nat.reduceEqDiff, Nat.reduceLT, Nat.reduceLeDiff, Nat.reduceAdd, Nat.reduceMul, Nat.reduceSub, Int.reduceToNat, Int.reduceNeg]
  refine ⟨⟨by omega, by omega⟩, rfl, ?_⟩
  refine LoopK.intro (drawn_ok Try.mixed) (X := { zz : Nat × Nat × Name // zz.1 ≤ l.length ∧ (zz.2.2 = .t 8 0 ∨ zz.2.2 = .t 34 0 ∨ zz.2.2 = .t 52 0 ∨ zz.2.2 = .t 66 0) ∧ ((∀ j, j < zz.2.1 → (fs.getD j default).card < zz.1) ∧ (∀ j, zz.2.1 ≤ j → j < fs.length → zz.1 ≤ (fs.getD j default).card) ∧ zz.2.1 ≤ fs.length) }) (fun zz => ⟨[(0, .sl 1 (E cI l)), (1, .sl 4 (E cF fs)), (5, .loc zz.1.2.2 0 (aft l fs zz.1.1).length), (6, .v (.int .i64 zz.1.2.1)), (7, .v (.int .i64 zz.1.1))], [(zz.1.2.2, .arr 1 (E cI (aft l fs zz.1.1)) false)]⟩) (fun zz => l.length - zz.1.1) ⟨(0, 0, .t 8 0), by omega, .inl rfl, ⟨fun j h => absurd h (Nat.not_lt_zero j), fun j h1 h2 => h00 j h2, Nat.zero_le _⟩⟩ ?_ ?_
  · simp [Vs.LeL, Vs.look, Vs.hlook, aft, Vs.E]
  · rintro ⟨⟨i, k, nm⟩, hi, hnm, hi1, hi2, hi3⟩
    dsimp only at hi hnm hi1 hi2 hi3
    have hal := aft_len l fs i hi
    simp -dsimp only [go_sem, reduceIte, reduceCtorEq, Nat.reduceEqDiff, Nat.reduceLT, Nat.reduceLeDiff, Nat.reduceAdd, Nat.reduceMul, Nat.reduceSub, Int.reduceToNat, Int.reduceNeg]
    refine Br.mk (fun hc => ?_) fun hc => ?_
    · have hlt : i < l.length := by simpa using hc
      have hw := wrap_succ hlt (by omega)
      have hwk : IntKind.i64.wrap ((k : Int) + 1) = ((k + 1 : Nat) : Int) := by rw [wrap_in (by omega) (by omega)]; omega
      have hgi : (E cI l).getD i [] = [.v (.int .i64 l[i])] := cI_get hlt
      obtain ⟨n0, n1⟩ := hr l[i] (List.getElem_mem hlt)
      by_cases hke : k = fs.length
      · have e1 : ((k : Int) == (fs.length : Int)) = true := beq_iff_eq.2 (by omega)
        have hx := fs_none (i := i) hi1 (fun j h1 h2 => by omega)
        have hN : aftN fs i l[i] = [l[i]] := by simp [aftN, hx]
        have hi2 : ∀ j, k ≤ j → j < fs.length → (i : Int) + 1 ≤ (fs.getD j default).card := fun j h1 h2 => by omega
        have inv1 : (∀ j, j < k → (fs.getD j default).card < ((i + 1 : Nat) : Int)) ∧ (∀ j, k ≤ j → j < fs.length → ((i + 1 : Nat) : Int) ≤ (fs.getD j default).card) ∧ k ≤ fs.length := ⟨fun j h => by have := hi1 j h; omega, fun j h1 h2 => by have := hi2 j h1 h2; omega, hi3⟩
        rcases hnm with rfl | rfl | rfl | rfl
        all_goals
          simp -dsimp only [go_sem, reduceIte, reduceCtorEq, Nat.reduceEqDiff, Nat.reduceLT, Nat.reduceLeDiff, Nat.reduceAdd, Nat.reduceMul, Nat.reduceSub, Int.reduceToNat, Int.reduceNeg, e1, hw, hgi, E_len, cF, List.replicate_succ, List.replicate_zero, List.flatten_cons, List.flatten_nil]
          repeat' (first
            | (refine RgK.mk rfl ?_; simp -dsimp only [go_sem, reduceIte, reduceCtorEq, Nat.reduceEqDiff, Nat.reduceLT, Nat.reduceLeDiff, Nat.reduceAdd, Nat.reduceMul, Nat.reduceSub, Int.reduceToNat, Int.reduceNeg, e1, hw, hgi, E_len, cF, List.replicate_succ, List.replicate_zero, List.flatten_cons, List.flatten_nil])
            | (refine Br.mk (fun h => ?_) (fun h => ?_) <;> simp -dsimp only [go_sem, reduceIte, reduceCtorEq, Nat.reduceEqDiff, Nat.reduceLT, Nat.reduceLeDiff, Nat.reduceAdd, Nat.reduceMul, Nat.reduceSub, Int.reduceToNat, Int.reduceNeg, h, e1, hw, hgi, E_len, cF, List.replicate_succ, List.replicate_zero, List.flatten_cons, List.flatten_nil])
            | (refine And.intro (by first | rfl | omega | decide | (refine ⟨?_, ?_⟩ <;> (first | rfl | omega | decide)) | (refine ⟨?_, ?_, ?_⟩ <;> (first | rfl | omega | decide)) | (refine ⟨?_, ?_, ?_, ?_⟩ <;> (first | rfl | omega | decide))) ?_)
            | fail)

          all_goals (refine ⟨?_, fun h => absurd rfl h⟩; exact ⟨⟨(i + 1, k, .t 34 0), by first | omega | simp | exact ⟨by omega, by omega⟩, by simp, inv1⟩, by simp [Vs.LeL, Vs.look, Vs.hlook, aft_succ l fs hlt, hN, E_append, Vs.E, cI], by simp only; omega⟩)
      · have hj : k < fs.length := by omega
        have e1 : ((k : Int) == (fs.length : Int)) = false := beq_eq_false_iff_ne.2 (by omega)
        have gdj := getD_lt hj (default : Flt)
        have hgj : (E cF fs).getD k [] = cF fs[k] := E_get hj
        have hflt := (hF k hj).1
        rw [gdj] at hflt
        have hisF : isF fs[k] = true := by simp only [fltB, Bool.and_eq_true] at hflt; exact hflt.1
        have hi4 : ∀ j, k + 1 ≤ j → j < fs.length → (fs.getD k default).card < (fs.getD j default).card := fun j h1 h2 => by
          have h3 : j = k + 1 := by omega
          have := (hF j h2).2 (by omega)
          rw [h3] at this ⊢
          simpa using this
        by_cases hce : fs[k].card = i
        · have e4 : (fs[k].card != (i : Int)) = false := by simp [hce]
          have hck : (fs.getD k default).card = i := by rw [gdj]; exact hce
          have hx := fs_some (i := i) hi1 hj hck
          have inv2 : (∀ j, j < k + 1 → (fs.getD j default).card < ((i + 1 : Nat) : Int)) ∧ (∀ j, k + 1 ≤ j → j < fs.length → ((i + 1 : Nat) : Int) ≤ (fs.getD j default).card) ∧ k + 1 ≤ fs.length := by
            refine ⟨fun j h => ?_, fun j h1 h2 => ?_, by omega⟩
            · rcases Nat.lt_or_ge j k with h' | h'
              · have := hi1 j h'; omega
              · have hjk : j = k := by omega
                rw [hjk]; omega
            · have := hi4 j h1 h2; omega
          by_cases h2 : fs[k].kind = 2
          · have e2 : (fs[k].kind == 2) = true := beq_iff_eq.2 h2
            have hN : aftN fs i l[i] = [l[i], l[i]] := by simp only [aftN, hx]; rw [gdj]; simp [aftE, h2]
            rcases hnm with rfl | rfl | rfl | rfl
            all_goals
              simp -dsimp only [go_sem, reduceIte, reduceCtorEq, Nat.reduceEqDiff, Nat.reduceLT, Nat.reduceLeDiff, Nat.reduceAdd, Nat.reduceMul, Nat.reduceSub, Int.reduceToNat, Int.reduceNeg, hgj, hwk, e1, e2, e4, hw, hgi, E_len, cF, List.replicate_succ, List.replicate_zero, List.flatten_cons, List.flatten_nil]
              repeat' (first
                | (refine RgK.mk rfl ?_; simp -dsimp only [go_sem, reduceIte, reduceCtorEq, Nat.reduceEqDiff, Nat.reduceLT, Nat.reduceLeDiff, Nat.reduceAdd, Nat.reduceMul, Nat.reduceSub, Int.reduceToNat, Int.reduceNeg, hgj, hwk, e1, e2, e4, hw, hgi, E_len, cF, List.replicate_succ, List.replicate_zero, List.flatten_cons, List.flatten_nil])
                | (refine Br.mk (fun h => ?_) (fun h => ?_) <;> simp -dsimp only [go_sem, reduceIte, reduceCtorEq, Nat.reduceEqDiff, Nat.reduceLT, Nat.reduceLeDiff, Nat.reduceAdd, Nat.reduceMul, Nat.reduceSub, Int.reduceToNat, Int.reduceNeg, h, hgj, hwk, e1, e2, e4, hw, hgi, E_len, cF, List.replicate_succ, List.replicate_zero, List.flatten_cons, List.flatten_nil])
                | (refine And.intro (by first | rfl | omega | decide | (refine ⟨?_, ?_⟩ <;> (first | rfl | omega | decide)) | (refine ⟨?_, ?_, ?_⟩ <;> (first | rfl | omega | decide)) | (refine ⟨?_, ?_, ?_, ?_⟩ <;> (first | rfl | omega | decide))) ?_)
                | fail)

              all_goals (exact ⟨⟨(i + 1, k + 1, .t 52 0), by first | omega | simp | exact ⟨by omega, by omega⟩, by simp, inv2⟩, by simp [Vs.LeL, Vs.look, Vs.hlook, aft_succ l fs hlt, hN, E_append, Vs.E, cI], by simp only; omega⟩)
          · have e2 : (fs[k].kind == 2) = false := beq_eq_false_iff_ne.2 h2
            by_cases h3 : fs[k].kind = 3
            · have e3 : (fs[k].kind == 3) = true := beq_iff_eq.2 h3
              have hN : aftN fs i l[i] = [rdD l[i] fs[k]] := by simp only [aftN, hx]; rw [gdj]; simp [aftE, h3]
              obtain ⟨q, hq, hq4⟩ := isF_digit hisF h3
              have hdg := isF_dig hisF h3
              rcases hnm with rfl | rfl | rfl | rfl
              all_goals
                simp -dsimp only [go_sem, reduceIte, reduceCtorEq, Nat.reduceEqDiff, Nat.reduceLT, Nat.reduceLeDiff, Nat.reduceAdd, Nat.reduceMul, Nat.reduceSub, Int.reduceToNat, Int.reduceNeg, hgj, hwk, e1, e2, e3, e4, hw, hgi, E_len, cF, List.replicate_succ, List.replicate_zero, List.flatten_cons, List.flatten_nil]
                repeat' (first
                  | (refine RgK.mk rfl ?_; simp -dsimp only [go_sem, reduceIte, reduceCtorEq, Nat.reduceEqDiff, Nat.reduceLT, Nat.reduceLeDiff, Nat.reduceAdd, Nat.reduceMul, Nat.reduceSub, Int.reduceToNat, Int.reduceNeg, hgj, hwk, e1, e2, e3, e4, hw, hgi, E_len, cF, List.replicate_succ, List.replicate_zero, List.flatten_cons, List.flatten_nil])
                  | (refine Br.mk (fun h => ?_) (fun h => ?_) <;> simp -dsimp only [go_sem, reduceIte, reduceCtorEq, Nat.reduceEqDiff, Nat.reduceLT, Nat.reduceLeDiff, Nat.reduceAdd, Nat.reduceMul, Nat.reduceSub, Int.reduceToNat, Int.reduceNeg, h, hgj, hwk, e1, e2, e3, e4, hw, hgi, E_len, cF, List.replicate_succ, List.replicate_zero, List.flatten_cons, List.flatten_nil])
                  | (refine CallK.flat (by first | exact l19Read l[i] fs[k] n0 n1 q hq hq4 hdg) rfl ?_; simp -dsimp only [go_sem, reduceIte, reduceCtorEq, Nat.reduceEqDiff, Nat.reduceLT, Nat.reduceLeDiff, Nat.reduceAdd, Nat.reduceMul, Nat.reduceSub, Int.reduceToNat, Int.reduceNeg, hgj, hwk, e1, e2, e3, e4, hw, hgi, E_len, cF, List.replicate_succ, List.replicate_zero, List.flatten_cons, List.flatten_nil])
                  | (refine CallK.pure (by first | exact l19Read l[i] fs[k] n0 n1 q hq hq4 hdg) ?_; simp -dsimp only [go_sem, reduceIte, reduceCtorEq, Nat.reduceEqDiff, Nat.reduceLT, Nat.reduceLeDiff, Nat.reduceAdd, Nat.reduceMul, Nat.reduceSub, Int.reduceToNat, Int.reduceNeg, hgj, hwk, e1, e2, e3, e4, hw, hgi, E_len, cF, List.replicate_succ, List.replicate_zero, List.flatten_cons, List.flatten_nil])
                  | (refine And.intro (by first | rfl | omega | decide | (refine ⟨?_, ?_⟩ <;> (first | rfl | omega | decide)) | (refine ⟨?_, ?_, ?_⟩ <;> (first | rfl | omega | decide)) | (refine ⟨?_, ?_, ?_, ?_⟩ <;> (first | rfl | omega | decide))) ?_)
                  | fail)

                all_goals (exact ⟨⟨(i + 1, k + 1, .t 66 0), by first | omega | simp | exact ⟨by omega, by omega⟩, by simp, inv2⟩, by simp [Vs.LeL, Vs.look, Vs.hlook, aft_succ l fs hlt, hN, E_append, Vs.E, cI], by simp only; omega⟩)
            · have e3 : (fs[k].kind == 3) = false := beq_eq_false_iff_ne.2 h3
              have hN : aftN fs i l[i] = [] := by simp only [aftN, hx]; rw [gdj]; simp [aftE, h2, h3]
              rcases hnm with rfl | rfl | rfl | rfl
              · simp -dsimp only [go_sem, reduceIte, reduceCtorEq, Nat.reduceEqDiff, Nat.reduceLT, Nat.reduceLeDiff, Nat.reduceAdd, Nat.reduceMul, Nat.reduceSub, Int.reduceToNat, Int.reduceNeg, hgj, hwk, e1, e2, e3, e4, hw, hgi, E_len, cF, List.replicate_succ, List.replicate_zero, List.flatten_cons, List.flatten_nil]
                repeat' (first
                  | (refine RgK.mk rfl ?_; simp -dsimp only [go_sem, reduceIte, reduceCtorEq, Nat.reduceEqDiff, Nat.reduceLT, Nat.reduceLeDiff, Nat.reduceAdd, Nat.reduceMul, Nat.reduceSub, Int.reduceToNat, Int.reduceNeg, hgj, hwk, e1, e2, e3, e4, hw, hgi, E_len, cF, List.replicate_succ, List.replicate_zero, List.flatten_cons, List.flatten_nil])
                  | (refine Br.mk (fun h => ?_) (fun h => ?_) <;> simp -dsimp only [go_sem, reduceIte, reduceCtorEq, Nat.reduceEqDiff, Nat.reduceLT, Nat.reduceLeDiff, Nat.reduceAdd, Nat.reduceMul, Nat.reduceSub, Int.reduceToNat, Int.reduceNeg, h, hgj, hwk, e1, e2, e3, e4, hw, hgi, E_len, cF, List.replicate_succ, List.replicate_zero, List.flatten_cons, List.flatten_nil])
                  | (refine And.intro (by first | rfl | omega | decide | (refine ⟨?_, ?_⟩ <;> (first | rfl | omega | decide)) | (refine ⟨?_, ?_, ?_⟩ <;> (first | rfl | omega | decide)) | (refine ⟨?_, ?_, ?_, ?_⟩ <;> (first | rfl | omega | decide))) ?_)
                  | fail)
                all_goals (exact ⟨⟨(i + 1, k + 1, .t 8 0), by first | omega | simp | exact ⟨by omega, by omega⟩, by simp, inv2⟩, by simp [Vs.LeL, Vs.look, Vs.hlook, aft_succ l fs hlt, hN, E_append, Vs.E, cI], by simp only; omega⟩)
              · simp -dsimp only [go_sem, reduceIte, reduceCtorEq, Nat.reduceEqDiff, Nat.reduceLT, Nat.reduceLeDiff, Nat.reduceAdd, Nat.reduceMul, Nat.reduceSub, Int.reduceToNat, Int.reduceNeg, hgj, hwk, e1, e2, e3, e4, hw, hgi, E_len, cF, List.replicate_succ, List.replicate_zero, List.flatten_cons, List.flatten_nil]
                repeat' (first
                  | (refine RgK.mk rfl ?_; simp -dsimp only [go_sem, reduceIte, reduceCtorEq, Nat.reduceEqDiff, Nat.reduceLT, Nat.reduceLeDiff, Nat.reduceAdd, Nat.reduceMul, Nat.reduceSub, Int.reduceToNat, Int.reduceNeg, hgj, hwk, e1, e2, e3, e4, hw, hgi, E_len, cF, List.replicate_succ, List.replicate_zero, List.flatten_cons, List.flatten_nil])
                  | (refine Br.mk (fun h => ?_) (fun h => ?_) <;> simp -dsimp only [go_sem, reduceIte, reduceCtorEq, Nat.reduceEqDiff, Nat.reduceLT, Nat.reduceLeDiff, Nat.reduceAdd, Nat.reduceMul, Nat.reduceSub, Int.reduceToNat, Int.reduceNeg, h, hgj, hwk, e1, e2, e3, e4, hw, hgi, E_len, cF, List.replicate_succ, List.replicate_zero, List.flatten_cons, List.flatten_nil])
                  | (refine And.intro (by first | rfl | omega | decide | (refine ⟨?_, ?_⟩ <;> (first | rfl | omega | decide)) | (refine ⟨?_, ?_, ?_⟩ <;> (first | rfl | omega | decide)) | (refine ⟨?_, ?_, ?_, ?_⟩ <;> (first | rfl | omega | decide))) ?_)
                  | fail)
                all_goals (exact ⟨⟨(i + 1, k + 1, .t 34 0), by first | omega | simp | exact ⟨by omega, by omega⟩, by simp, inv2⟩, by simp [Vs.LeL, Vs.look, Vs.hlook, aft_succ l fs hlt, hN, E_append, Vs.E, cI], by simp only; omega⟩)
              · simp -dsimp only [go_sem, reduceIte, reduceCtorEq, Nat.reduceEqDiff, Nat.reduceLT, Nat.reduceLeDiff, Nat.reduceAdd, Nat.reduceMul, Nat.reduceSub, Int.reduceToNat, Int.reduceNeg, hgj, hwk, e1, e2, e3, e4, hw, hgi, E_len, cF, List.replicate_succ, List.replicate_zero, List.flatten_cons, List.flatten_nil]
                repeat' (first
                  | (refine RgK.mk rfl ?_; simp -dsimp only [go_sem, reduceIte, reduceCtorEq, Nat.reduceEqDiff, Nat.reduceLT, Nat.reduceLeDiff, Nat.reduceAdd, Nat.reduceMul, Nat.reduceSub, Int.reduceToNat, Int.reduceNeg, hgj, hwk, e1, e2, e3, e4, hw, hgi, E_len, cF, List.replicate_succ, List.replicate_zero, List.flatten_cons, List.flatten_nil])
                  | (refine Br.mk (fun h => ?_) (fun h => ?_) <;> simp -dsimp only [go_sem, reduceIte, reduceCtorEq, Nat.reduceEqDiff, Nat.reduceLT, Nat.reduceLeDiff, Nat.reduceAdd, Nat.reduceMul, Nat.reduceSub, Int.reduceToNat, Int.reduceNeg, h, hgj, hwk, e1, e2, e3, e4, hw, hgi, E_len, cF, List.replicate_succ, List.replicate_zero, List.flatten_cons, List.flatten_nil])
                  | (refine And.intro (by first | rfl | omega | decide | (refine ⟨?_, ?_⟩ <;> (first | rfl | omega | decide)) | (refine ⟨?_, ?_, ?_⟩ <;> (first | rfl | omega | decide)) | (refine ⟨?_, ?_, ?_, ?_⟩ <;> (first | rfl | omega | decide))) ?_)
                  | fail)
                all_goals (exact ⟨⟨(i + 1, k + 1, .t 52 0), by first | omega | simp | exact ⟨by omega, by omega⟩, by simp, inv2⟩, by simp [Vs.LeL, Vs.look, Vs.hlook, aft_succ l fs hlt, hN, E_append, Vs.E, cI], by simp only; omega⟩)
              · simp -dsimp only [go_sem, reduceIte, reduceCtorEq, Nat.reduceEqDiff, Nat.reduceLT, Nat.reduceLeDiff, Nat.reduceAdd, Nat.reduceMul, Nat.reduceSub, Int.reduceToNat, Int.reduceNeg, hgj, hwk, e1, e2, e3, e4, hw, hgi, E_len, cF, List.replicate_succ, List.replicate_zero, List.flatten_cons, List.flatten_nil]
                repeat' (first
                  | (refine RgK.mk rfl ?_; simp -dsimp only [go_sem, reduceIte, reduceCtorEq, Nat.reduceEqDiff, Nat.reduceLT, Nat.reduceLeDiff, Nat.reduceAdd, Nat.reduceMul, Nat.reduceSub, Int.reduceToNat, Int.reduceNeg, hgj, hwk, e1, e2, e3, e4, hw, hgi, E_len, cF, List.replicate_succ, List.replicate_zero, List.flatten_cons, List.flatten_nil])
                  | (refine Br.mk (fun h => ?_) (fun h => ?_) <;> simp -dsimp only [go_sem, reduceIte, reduceCtorEq, Nat.reduceEqDiff, Nat.reduceLT, Nat.reduceLeDiff, Nat.reduceAdd, Nat.reduceMul, Nat.reduceSub, Int.reduceToNat, Int.reduceNeg, h, hgj, hwk, e1, e2, e3, e4, hw, hgi, E_len, cF, List.replicate_succ, List.replicate_zero, List.flatten_cons, List.flatten_nil])
                  | (refine And.intro (by first | rfl | omega | decide | (refine ⟨?_, ?_⟩ <;> (first | rfl | omega | decide)) | (refine ⟨?_, ?_, ?_⟩ <;> (first | rfl | omega | decide)) | (refine ⟨?_, ?_, ?_, ?_⟩ <;> (first | rfl | omega | decide))) ?_)
                  | fail)
                all_goals (exact ⟨⟨(i + 1, k + 1, .t 66 0), by first | omega | simp | exact ⟨by omega, by omega⟩, by simp, inv2⟩, by simp [Vs.LeL, Vs.look, Vs.hlook, aft_succ l fs hlt, hN, E_append, Vs.E, cI], by simp only; omega⟩)
        · have e4 : (fs[k].card != (i : Int)) = true := by simp [hce]
          have hi2' : ∀ j, k ≤ j → j < fs.length → (i : Int) + 1 ≤ (fs.getD j default).card := fun j h1 h2 => by
            have := hi2 k (Nat.le_refl _) hj
            rw [gdj] at this
            rcases Nat.lt_or_ge k j with h | h
            · have := hi4 j h h2; rw [gdj] at this; omega
            · obtain rfl : j = k := by omega
              rw [gdj]; omega
          have hx := fs_none (i := i) hi1 hi2'
          have hN : aftN fs i l[i] = [l[i]] := by simp [aftN, hx]
          have hi2 := hi2'
          have inv1 : (∀ j, j < k → (fs.getD j default).card < ((i + 1 : Nat) : Int)) ∧ (∀ j, k ≤ j → j < fs.length → ((i + 1 : Nat) : Int) ≤ (fs.getD j default).card) ∧ k ≤ fs.length := ⟨fun j h => by have := hi1 j h; omega, fun j h1 h2 => by have := hi2 j h1 h2; omega, hi3⟩
          rcases hnm with rfl | rfl | rfl | rfl
          all_goals
            simp -dsimp only [go_sem, reduceIte, reduceCtorEq, Nat.reduceEqDiff, Nat.reduceLT, Nat.reduceLeDiff, Nat.reduceAdd, Nat.reduceMul, Nat.reduceSub, Int.reduceToNat, Int.reduceNeg, hgj, e1, e4, hw, hgi, E_len, cF, List.replicate_succ, List.replicate_zero, List.flatten_cons, List.flatten_nil]
            repeat' (first
              | (refine RgK.mk rfl ?_; simp -dsimp only [go_sem, reduceIte, reduceCtorEq, Nat.reduceEqDiff, Nat.reduceLT, Nat.reduceLeDiff, Nat.reduceAdd, Nat.reduceMul, Nat.reduceSub, Int.reduceToNat, Int.reduceNeg, hgj, e1, e4, hw, hgi, E_len, cF, List.replicate_succ, List.replicate_zero, List.flatten_cons, List.flatten_nil])
              | (refine Br.mk (fun h => ?_) (fun h => ?_) <;> simp -dsimp only [go_sem, reduceIte, reduceCtorEq, Nat.reduceEqDiff, Nat.reduceLT, Nat.reduceLeDiff, Nat.reduceAdd, Nat.reduceMul, Nat.reduceSub, Int.reduceToNat, Int.reduceNeg, h, hgj, e1, e4, hw, hgi, E_len, cF, List.replicate_succ, List.replicate_zero, List.flatten_cons, List.flatten_nil])
              | (refine And.intro (by first | rfl | omega | decide | (refine ⟨?_, ?_⟩ <;> (first | rfl | omega | decide)) | (refine ⟨?_, ?_, ?_⟩ <;> (first | rfl | omega | decide)) | (refine ⟨?_, ?_, ?_, ?_⟩ <;> (first | rfl | omega | decide))) ?_)
              | fail)

            all_goals (refine ⟨?_, fun h => absurd rfl h⟩; exact ⟨⟨(i + 1, k, .t 34 0), by first | omega | simp | exact ⟨by omega, by omega⟩, by simp, inv1⟩, by simp [Vs.LeL, Vs.look, Vs.hlook, aft_succ l fs hlt, hN, E_append, Vs.E, cI], by simp only; omega⟩)
    · have hge : i = l.length := by
        have : ¬ i < l.length := by simpa using hc
        omega
      subst hge
      rcases hnm with rfl | rfl | rfl | rfl
      all_goals
        simp -dsimp only [go_sem, reduceIte, reduceCtorEq, Nat.reduceEqDiff, Nat.reduceLT, Nat.reduceLeDiff, Nat.reduceAdd, Nat.reduceMul, Nat.reduceSub, Int.reduceToNat, Int.reduceNeg, E_take]
        simp
end Go.Proofs.Ythpokkcbbpapdaa
