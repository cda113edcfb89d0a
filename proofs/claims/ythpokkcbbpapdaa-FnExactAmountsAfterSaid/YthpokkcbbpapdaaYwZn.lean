/- amountsAfter, the row handed over. -/
import Derived.Test.YthpokkcbbpapdaaYwO
namespace Go.Proofs.Ythpokkcbbpapdaa
open Go.Vs
set_option linter.unusedSimpArgs false
set_option linter.unusedVariables false
attribute [local irreducible] Vs.Fn

set_option maxHeartbeats 2000000 in
theorem amountsAfterO (l : List Int) (fs : List Flt) (hl : amB l = true) (hA : arB l fs = true) : Vs.Fn Try.prog F.impl_amountsAfter [] [.sl 1 (E cI l), .sl 4 (E cF fs)] (.loc (.b 0) 0 (aft l fs l.length).length) [some (.arr 1 (E cI (aft l fs l.length)) false)] := by
  obtain ⟨h12, hr⟩ := amB_spec hl
  obtain ⟨hf2, hF⟩ := arSpec hA
  refine Cd.impl_amountsAfter_ok.fn Try.mixed (hin := []) 59 _ [.t 5 0] [.arr 1 (E cI (aft l fs l.length)) false] Cd.impl_amountsAfter_nt Cd.impl_amountsAfter_rs rfl (by simp) rfl (by simp) fun X => ?_
  unfold Cd.impl_amountsAfter
  simp -dsimp only [go_sem, reduceIte, reduceCtorEq, Nat.reduceEqDiff, Nat.reduceLT, Nat.reduceLeDiff, Nat.reduceAdd, Nat.reduceMul, Nat.reduceSub, Int.reduceToNat, Int.reduceNeg]
  refine ⟨⟨by omega, by omega⟩, rfl, ?_⟩
  refine LoopK.intro (drawn_ok Try.mixed) (X := { zz : Nat × Nat × Name // zz.1 ≤ l.length ∧ (zz.2.2 = .t 5 0) ∧ (True) }) (fun zz => ⟨[(1, .sl 4 (E cF fs)), (5, .loc zz.1.2.2 0 (aft l fs zz.1.1).length), (12, .sl 1 (E cI l)), (13, .v (.int .i64 l.length)), (14, .v (.int .i64 zz.1.1))], [(zz.1.2.2, .arr 1 (E cI (aft l fs zz.1.1)) false)]⟩) (fun zz => l.length - zz.1.1) ⟨(0, 0, .t 5 0), by omega, rfl, trivial⟩ ?_ ?_
  · simp [Vs.LeL, Vs.look, Vs.hlook, aft, Vs.E]
  · rintro ⟨⟨i, k0, nm⟩, hi, hnm, _⟩
    dsimp only at hi hnm
    have hal := aft_len l fs i hi
    simp -dsimp only [go_sem, reduceIte, reduceCtorEq, Nat.reduceEqDiff, Nat.reduceLT, Nat.reduceLeDiff, Nat.reduceAdd, Nat.reduceMul, Nat.reduceSub, Int.reduceToNat, Int.reduceNeg]
    refine Br.mk (fun hc => ?_) fun hc => ?_
    · have hlt : i < l.length := by simpa using hc
      have hw := wrap_succ hlt (by omega)
      have hgi : (E cI l).getD i [] = [.v (.int .i64 l[i])] := cI_get hlt
      have hneg : decide ((-1 : Int) < 0) = true := rfl
      obtain ⟨n0, n1⟩ := hr l[i] (List.getElem_mem hlt)
      cases hx : fs.findIdx? (fun f => f.card == (i : Int)) with
      | none =>
        have hN : aftN fs i l[i] = [l[i]] := by simp [aftN, hx]
        have hp : idxP (fun f => f.card == (i : Int)) fs = -1 := by simp [idxP, hx]
        subst hnm
        all_goals
          simp -dsimp only [go_sem, reduceIte, reduceCtorEq, Nat.reduceEqDiff, Nat.reduceLT, Nat.reduceLeDiff, Nat.reduceAdd, Nat.reduceMul, Nat.reduceSub, Int.reduceToNat, Int.reduceNeg, hp, E_len, hw, hgi, hneg, List.replicate_succ, List.replicate_zero, List.flatten_cons, List.flatten_nil]
          repeat' (first
            | (refine RgK.mk rfl ?_; simp -dsimp only [go_sem, reduceIte, reduceCtorEq, Nat.reduceEqDiff, Nat.reduceLT, Nat.reduceLeDiff, Nat.reduceAdd, Nat.reduceMul, Nat.reduceSub, Int.reduceToNat, Int.reduceNeg, hp, E_len, hw, hgi, hneg, List.replicate_succ, List.replicate_zero, List.flatten_cons, List.flatten_nil])
            | (refine Br.mk (fun h => ?_) (fun h => ?_) <;> simp -dsimp only [go_sem, reduceIte, reduceCtorEq, Nat.reduceEqDiff, Nat.reduceLT, Nat.reduceLeDiff, Nat.reduceAdd, Nat.reduceMul, Nat.reduceSub, Int.reduceToNat, Int.reduceNeg, h, hp, E_len, hw, hgi, hneg, List.replicate_succ, List.replicate_zero, List.flatten_cons, List.flatten_nil])
            | (refine CallK.flat (by first | exact idxAft fs i (by omega)) rfl ?_; simp -dsimp only [go_sem, reduceIte, reduceCtorEq, Nat.reduceEqDiff, Nat.reduceLT, Nat.reduceLeDiff, Nat.reduceAdd, Nat.reduceMul, Nat.reduceSub, Int.reduceToNat, Int.reduceNeg, hp, E_len, hw, hgi, hneg, List.replicate_succ, List.replicate_zero, List.flatten_cons, List.flatten_nil])
            | (refine CallK.pure (by first | exact idxAft fs i (by omega)) ?_; simp -dsimp only [go_sem, reduceIte, reduceCtorEq, Nat.reduceEqDiff, Nat.reduceLT, Nat.reduceLeDiff, Nat.reduceAdd, Nat.reduceMul, Nat.reduceSub, Int.reduceToNat, Int.reduceNeg, hp, E_len, hw, hgi, hneg, List.replicate_succ, List.replicate_zero, List.flatten_cons, List.flatten_nil])
            | (refine And.intro (by first | rfl | omega | decide | (refine ⟨?_, ?_⟩ <;> (first | rfl | omega | decide)) | (refine ⟨?_, ?_, ?_⟩ <;> (first | rfl | omega | decide)) | (refine ⟨?_, ?_, ?_, ?_⟩ <;> (first | rfl | omega | decide))) ?_)
            | fail)

          all_goals (refine ⟨?_, fun h => absurd rfl h⟩; exact ⟨⟨(i + 1, 0, .t 5 0), by first | omega | simp | exact ⟨by omega, by omega⟩, by simp, trivial⟩, by simp [Vs.LeL, Vs.look, Vs.hlook, aft_succ l fs hlt, hN, E_append, Vs.E, cI], by simp only; omega⟩)
      | some j =>
        obtain ⟨hj, hpj, _⟩ := List.findIdx?_eq_some_iff_getElem.1 hx
        have hp : idxP (fun f => f.card == (i : Int)) fs = (j : Int) := by simp [idxP, hx]
        have hneg2 : decide ((j : Int) < 0) = false := by simp
        have gdj := getD_lt hj (default : Flt)
        have hgj : (E cF fs).getD j [] = cF fs[j] := E_get hj
        have hflt := (hF j hj).1
        rw [gdj] at hflt
        have hisF : isF fs[j] = true := by simp only [fltB, Bool.and_eq_true] at hflt; exact hflt.1
        by_cases h2 : fs[j].kind = 2
        · have e2 : (fs[j].kind == 2) = true := beq_iff_eq.2 h2
          have hN : aftN fs i l[i] = [l[i], l[i]] := by simp only [aftN, hx]; rw [gdj]; simp [aftE, h2]
          subst hnm
          all_goals
            simp -dsimp only [go_sem, reduceIte, reduceCtorEq, Nat.reduceEqDiff, Nat.reduceLT, Nat.reduceLeDiff, Nat.reduceAdd, Nat.reduceMul, Nat.reduceSub, Int.reduceToNat, Int.reduceNeg, hp, E_len, hw, hgi, hgj, hneg2, cF, e2, List.replicate_succ, List.replicate_zero, List.flatten_cons, List.flatten_nil]
            repeat' (first
              | (refine RgK.mk rfl ?_; simp -dsimp only [go_sem, reduceIte, reduceCtorEq, Nat.reduceEqDiff, Nat.reduceLT, Nat.reduceLeDiff, Nat.reduceAdd, Nat.reduceMul, Nat.reduceSub, Int.reduceToNat, Int.reduceNeg, hp, E_len, hw, hgi, hgj, hneg2, cF, e2, List.replicate_succ, List.replicate_zero, List.flatten_cons, List.flatten_nil])
              | (refine Br.mk (fun h => ?_) (fun h => ?_) <;> simp -dsimp only [go_sem, reduceIte, reduceCtorEq, Nat.reduceEqDiff, Nat.reduceLT, Nat.reduceLeDiff, Nat.reduceAdd, Nat.reduceMul, Nat.reduceSub, Int.reduceToNat, Int.reduceNeg, h, hp, E_len, hw, hgi, hgj, hneg2, cF, e2, List.replicate_succ, List.replicate_zero, List.flatten_cons, List.flatten_nil])
              | (refine CallK.flat (by first | exact idxAft fs i (by omega)) rfl ?_; simp -dsimp only [go_sem, reduceIte, reduceCtorEq, Nat.reduceEqDiff, Nat.reduceLT, Nat.reduceLeDiff, Nat.reduceAdd, Nat.reduceMul, Nat.reduceSub, Int.reduceToNat, Int.reduceNeg, hp, E_len, hw, hgi, hgj, hneg2, cF, e2, List.replicate_succ, List.replicate_zero, List.flatten_cons, List.flatten_nil])
              | (refine CallK.pure (by first | exact idxAft fs i (by omega)) ?_; simp -dsimp only [go_sem, reduceIte, reduceCtorEq, Nat.reduceEqDiff, Nat.reduceLT, Nat.reduceLeDiff, Nat.reduceAdd, Nat.reduceMul, Nat.reduceSub, Int.reduceToNat, Int.reduceNeg, hp, E_len, hw, hgi, hgj, hneg2, cF, e2, List.replicate_succ, List.replicate_zero, List.flatten_cons, List.flatten_nil])
              | (refine And.intro (by first | rfl | omega | decide | (refine ⟨?_, ?_⟩ <;> (first | rfl | omega | decide)) | (refine ⟨?_, ?_, ?_⟩ <;> (first | rfl | omega | decide)) | (refine ⟨?_, ?_, ?_, ?_⟩ <;> (first | rfl | omega | decide))) ?_)
              | fail)

            all_goals (exact ⟨⟨(i + 1, 0, .t 5 0), by first | omega | simp | exact ⟨by omega, by omega⟩, by simp, trivial⟩, by simp [Vs.LeL, Vs.look, Vs.hlook, aft_succ l fs hlt, hN, E_append, Vs.E, cI], by simp only; omega⟩)
        · have e2 : (fs[j].kind == 2) = false := beq_eq_false_iff_ne.2 h2
          by_cases h3 : fs[j].kind = 3
          · have e3 : (fs[j].kind == 3) = true := beq_iff_eq.2 h3
            have hN : aftN fs i l[i] = [rdD l[i] fs[j]] := by simp only [aftN, hx]; rw [gdj]; simp [aftE, h3]
            obtain ⟨q, hq, hq4⟩ := isF_digit hisF h3
            have hst : (E cI (wl 4 l[i])).set q [.v (.int .i64 fs[j].digit)] = E cI ((wl 4 l[i]).set q fs[j].digit) := by simp [E, cI, List.map_set]
            have hgw : (E cI (wl 4 l[i])).getD q [] = [.v (.int .i64 ((wl 4 l[i])[q]'(by rw [wl_length]; exact hq4)))] := cI_get (by rw [wl_length]; exact hq4)
            have htk : List.take 4 (E cI ((wl 4 l[i]).set q fs[j].digit)) = E cI ((wl 4 l[i]).set q fs[j].digit) := List.take_of_length_le (by simp [E, wl_length])
            have hrd : hW ((wl 4 l[i]).set q fs[j].digit) = rdD l[i] fs[j] := by simp [rdD, hq]
            have hl4 : ((wl 4 l[i]).set q fs[j].digit).length ≤ 1000 := by simp [wl_length]
            subst hnm
            all_goals
              simp -dsimp only [go_sem, reduceIte, reduceCtorEq, Nat.reduceEqDiff, Nat.reduceLT, Nat.reduceLeDiff, Nat.reduceAdd, Nat.reduceMul, Nat.reduceSub, Int.reduceToNat, Int.reduceNeg, hp, E_len, hw, hgi, hgj, hneg2, cF, e2, e3, hq, List.replicate_succ, List.replicate_zero, List.flatten_cons, List.flatten_nil]
              repeat' (first
                | (refine RgK.mk rfl ?_; simp -dsimp only [go_sem, reduceIte, reduceCtorEq, Nat.reduceEqDiff, Nat.reduceLT, Nat.reduceLeDiff, Nat.reduceAdd, Nat.reduceMul, Nat.reduceSub, Int.reduceToNat, Int.reduceNeg, hp, E_len, hw, hgi, hgj, hneg2, cF, e2, e3, hq, List.replicate_succ, List.replicate_zero, List.flatten_cons, List.flatten_nil])
                | (refine Br.mk (fun h => ?_) (fun h => ?_) <;> simp -dsimp only [go_sem, reduceIte, reduceCtorEq, Nat.reduceEqDiff, Nat.reduceLT, Nat.reduceLeDiff, Nat.reduceAdd, Nat.reduceMul, Nat.reduceSub, Int.reduceToNat, Int.reduceNeg, h, hp, E_len, hw, hgi, hgj, hneg2, cF, e2, e3, hq, List.replicate_succ, List.replicate_zero, List.flatten_cons, List.flatten_nil])
                | (refine CallK.flat (by first | exact idxAft fs i (by omega)) rfl ?_; simp -dsimp only [go_sem, reduceIte, reduceCtorEq, Nat.reduceEqDiff, Nat.reduceLT, Nat.reduceLeDiff, Nat.reduceAdd, Nat.reduceMul, Nat.reduceSub, Int.reduceToNat, Int.reduceNeg, hp, E_len, hw, hgi, hgj, hneg2, cF, e2, e3, hq, List.replicate_succ, List.replicate_zero, List.flatten_cons, List.flatten_nil])
                | (refine CallK.pure (by first | exact idxAft fs i (by omega)) ?_; simp -dsimp only [go_sem, reduceIte, reduceCtorEq, Nat.reduceEqDiff, Nat.reduceLT, Nat.reduceLeDiff, Nat.reduceAdd, Nat.reduceMul, Nat.reduceSub, Int.reduceToNat, Int.reduceNeg, hp, E_len, hw, hgi, hgj, hneg2, cF, e2, e3, hq, List.replicate_succ, List.replicate_zero, List.flatten_cons, List.flatten_nil])
                | (refine And.intro (by first | rfl | omega | decide | (refine ⟨?_, ?_⟩ <;> (first | rfl | omega | decide)) | (refine ⟨?_, ?_, ?_⟩ <;> (first | rfl | omega | decide)) | (refine ⟨?_, ?_, ?_, ?_⟩ <;> (first | rfl | omega | decide))) ?_)
                | fail)

              all_goals (refine Aft.CallK.own (wheelsShowO l[i]) rfl ?_)
              all_goals
                simp -dsimp only [go_sem, reduceIte, reduceCtorEq, Nat.reduceEqDiff, Nat.reduceLT, Nat.reduceLeDiff, Nat.reduceAdd, Nat.reduceMul, Nat.reduceSub, Int.reduceToNat, Int.reduceNeg, hp, E_len, hw, hgi, hgj, hneg2, cF, e2, e3, hq, hst, htk, hrd, hgw, List.replicate_succ, List.replicate_zero, List.flatten_cons, List.flatten_nil]
                repeat' (first
                  | (refine RgK.mk rfl ?_; simp -dsimp only [go_sem, reduceIte, reduceCtorEq, Nat.reduceEqDiff, Nat.reduceLT, Nat.reduceLeDiff, Nat.reduceAdd, Nat.reduceMul, Nat.reduceSub, Int.reduceToNat, Int.reduceNeg, hp, E_len, hw, hgi, hgj, hneg2, cF, e2, e3, hq, hst, htk, hrd, hgw, List.replicate_succ, List.replicate_zero, List.flatten_cons, List.flatten_nil])
                  | (refine Br.mk (fun h => ?_) (fun h => ?_) <;> simp -dsimp only [go_sem, reduceIte, reduceCtorEq, Nat.reduceEqDiff, Nat.reduceLT, Nat.reduceLeDiff, Nat.reduceAdd, Nat.reduceMul, Nat.reduceSub, Int.reduceToNat, Int.reduceNeg, h, hp, E_len, hw, hgi, hgj, hneg2, cF, e2, e3, hq, hst, htk, hrd, hgw, List.replicate_succ, List.replicate_zero, List.flatten_cons, List.flatten_nil])
                  | (refine CallK.flat (by first | exact shown _ hl4) rfl ?_; simp -dsimp only [go_sem, reduceIte, reduceCtorEq, Nat.reduceEqDiff, Nat.reduceLT, Nat.reduceLeDiff, Nat.reduceAdd, Nat.reduceMul, Nat.reduceSub, Int.reduceToNat, Int.reduceNeg, hp, E_len, hw, hgi, hgj, hneg2, cF, e2, e3, hq, hst, htk, hrd, hgw, List.replicate_succ, List.replicate_zero, List.flatten_cons, List.flatten_nil])
                  | (refine CallK.pure (by first | exact shown _ hl4) ?_; simp -dsimp only [go_sem, reduceIte, reduceCtorEq, Nat.reduceEqDiff, Nat.reduceLT, Nat.reduceLeDiff, Nat.reduceAdd, Nat.reduceMul, Nat.reduceSub, Int.reduceToNat, Int.reduceNeg, hp, E_len, hw, hgi, hgj, hneg2, cF, e2, e3, hq, hst, htk, hrd, hgw, List.replicate_succ, List.replicate_zero, List.flatten_cons, List.flatten_nil])
                  | (refine And.intro (by first | rfl | omega | decide | (refine ⟨?_, ?_⟩ <;> (first | rfl | omega | decide)) | (refine ⟨?_, ?_, ?_⟩ <;> (first | rfl | omega | decide)) | (refine ⟨?_, ?_, ?_, ?_⟩ <;> (first | rfl | omega | decide))) ?_)
                  | fail)

              all_goals (exact ⟨⟨(i + 1, 0, .t 5 0), by first | omega | simp | exact ⟨by omega, by omega⟩, by simp, trivial⟩, by simp [Vs.LeL, Vs.look, Vs.hlook, aft_succ l fs hlt, hN, E_append, Vs.E, cI], by simp only; omega⟩)
          · have e3 : (fs[j].kind == 3) = false := beq_eq_false_iff_ne.2 h3
            have hN : aftN fs i l[i] = [] := by simp only [aftN, hx]; rw [gdj]; simp [aftE, h2, h3]
            subst hnm
            · simp -dsimp only [go_sem, reduceIte, reduceCtorEq, Nat.reduceEqDiff, Nat.reduceLT, Nat.reduceLeDiff, Nat.reduceAdd, Nat.reduceMul, Nat.reduceSub, Int.reduceToNat, Int.reduceNeg, hp, E_len, hw, hgi, hgj, hneg2, cF, e2, e3, List.replicate_succ, List.replicate_zero, List.flatten_cons, List.flatten_nil]
              repeat' (first
                | (refine RgK.mk rfl ?_; simp -dsimp only [go_sem, reduceIte, reduceCtorEq, Nat.reduceEqDiff, Nat.reduceLT, Nat.reduceLeDiff, Nat.reduceAdd, Nat.reduceMul, Nat.reduceSub, Int.reduceToNat, Int.reduceNeg, hp, E_len, hw, hgi, hgj, hneg2, cF, e2, e3, List.replicate_succ, List.replicate_zero, List.flatten_cons, List.flatten_nil])
                | (refine Br.mk (fun h => ?_) (fun h => ?_) <;> simp -dsimp only [go_sem, reduceIte, reduceCtorEq, Nat.reduceEqDiff, Nat.reduceLT, Nat.reduceLeDiff, Nat.reduceAdd, Nat.reduceMul, Nat.reduceSub, Int.reduceToNat, Int.reduceNeg, h, hp, E_len, hw, hgi, hgj, hneg2, cF, e2, e3, List.replicate_succ, List.replicate_zero, List.flatten_cons, List.flatten_nil])
                | (refine CallK.flat (by first | exact idxAft fs i (by omega)) rfl ?_; simp -dsimp only [go_sem, reduceIte, reduceCtorEq, Nat.reduceEqDiff, Nat.reduceLT, Nat.reduceLeDiff, Nat.reduceAdd, Nat.reduceMul, Nat.reduceSub, Int.reduceToNat, Int.reduceNeg, hp, E_len, hw, hgi, hgj, hneg2, cF, e2, e3, List.replicate_succ, List.replicate_zero, List.flatten_cons, List.flatten_nil])
                | (refine CallK.pure (by first | exact idxAft fs i (by omega)) ?_; simp -dsimp only [go_sem, reduceIte, reduceCtorEq, Nat.reduceEqDiff, Nat.reduceLT, Nat.reduceLeDiff, Nat.reduceAdd, Nat.reduceMul, Nat.reduceSub, Int.reduceToNat, Int.reduceNeg, hp, E_len, hw, hgi, hgj, hneg2, cF, e2, e3, List.replicate_succ, List.replicate_zero, List.flatten_cons, List.flatten_nil])
                | (refine And.intro (by first | rfl | omega | decide | (refine ⟨?_, ?_⟩ <;> (first | rfl | omega | decide)) | (refine ⟨?_, ?_, ?_⟩ <;> (first | rfl | omega | decide)) | (refine ⟨?_, ?_, ?_, ?_⟩ <;> (first | rfl | omega | decide))) ?_)
                | fail)
              all_goals (exact ⟨⟨(i + 1, 0, .t 5 0), by first | omega | simp | exact ⟨by omega, by omega⟩, by simp, trivial⟩, by simp [Vs.LeL, Vs.look, Vs.hlook, aft_succ l fs hlt, hN, E_append, Vs.E, cI], by simp only; omega⟩)
    · have hge : i = l.length := by
        have : ¬ i < l.length := by simpa using hc
        omega
      subst hge
      subst hnm
      all_goals
        simp -dsimp only [go_sem, reduceIte, reduceCtorEq, Nat.reduceEqDiff, Nat.reduceLT, Nat.reduceLeDiff, Nat.reduceAdd, Nat.reduceMul, Nat.reduceSub, Int.reduceToNat, Int.reduceNeg, E_take]
        exact ⟨⟨_, _, rfl, rfl⟩, by simp⟩
end Go.Proofs.Ythpokkcbbpapdaa
