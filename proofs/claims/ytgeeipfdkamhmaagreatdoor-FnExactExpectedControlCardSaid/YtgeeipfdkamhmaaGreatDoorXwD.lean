/- Offices that are valid. -/
import Derived.Test.YtgeeipfdkamhmaaGreatDoorXwC
import Derived.Test.YtgeeipfdkamhmaaGreatDoorXuD
namespace Go.Proofs.YtgeeipfdkamhmaaGreatDoor
open Go.Vs
set_option linter.unusedSimpArgs false
set_option linter.unusedVariables false
attribute [local irreducible] Vs.Fn

/-- the number of columns of the cards of trays -/
def wO : List (List (List Int)) → Nat
  | [] => 20
  | d :: r => if d.length = 0 then wO r else (d.getD 0 []).length
theorem wO_step {l : List (List (List Int))} {i : Nat} (h : i < l.length) : wO (l.drop i) = if l[i].length = 0 then wO (l.drop (i + 1)) else (l[i].getD 0 []).length := by
  rw [List.drop_eq_getElem_cons h, wO]
def offI (o : Off) (i : Nat) : Bool := deckB (o.trays.getD i []) && ((o.trays.getD i []).length == 0 || ((o.trays.getD i []).getD 0 []).length == wO o.trays)
def offB (o : Off) : Bool := rall o.trays.length (offI o) && (((o.trays.length : Int) == 6) && decide ((o.totals.length : Int) ≤ 20))
theorem officeColumns (o : Off) (ho : smallO o) : Vs.Fn Tryz.prog F.impl_officeColumns [] [.agg (cO o)] (.v (.int .i64 (wO o.trays))) [] := by
  refine Cd.impl_officeColumns_ok.fn0 Tryz.mixed Cd.impl_officeColumns_nt Cd.impl_officeColumns_rs rfl fun X => ?_
  unfold Cd.impl_officeColumns
  simp -dsimp only [go_sem, reduceIte, reduceCtorEq, Nat.reduceEqDiff, Nat.reduceLT, Nat.reduceLeDiff, Nat.reduceAdd, Nat.reduceMul, Nat.reduceSub, Int.reduceToNat, Int.reduceNeg, cO]
  refine LoopK.at (drawn_ok Tryz.mixed) (X := { zz : Nat × (Unit) // zz.1 ≤ o.trays.length ∧ wO (o.trays.drop zz.1) = wO o.trays }) (fun zz => [(8, .v (.int .i64 zz.1.1))]) (fun zz => []) (fun zz => o.trays.length - zz.1.1) ⟨(0, ()), by omega, rfl⟩ ?_ ?_
  · simp [Vs.LeL, Vs.look, Vs.hlook, Vs.sput, Vs.sputs, Vs.hset, Vs.hputs]
  · rintro ⟨⟨i, _⟩, hi, hg⟩
    dsimp only at hi hg
    simp -dsimp only [go_sem, reduceIte, reduceCtorEq, Nat.reduceEqDiff, Nat.reduceLT, Nat.reduceLeDiff, Nat.reduceAdd, Nat.reduceMul, Nat.reduceSub, Int.reduceToNat, Int.reduceNeg]
    refine Br.mk (fun hc => ?_) fun hc => ?_
    · have hlt : i < o.trays.length := by simpa using hc
      have hw := wrap_succ hlt ho.1.1
      rw [wO_step hlt] at hg
      by_cases hd0 : o.trays[i].length = 0
      · have hgt : decide ((o.trays[i].length : Int) > 0) = false := decide_eq_false (by omega)
        rw [if_pos hd0] at hg
        simp -dsimp only [go_sem, reduceIte, reduceCtorEq, Nat.reduceEqDiff, Nat.reduceLT, Nat.reduceLeDiff, Nat.reduceAdd, Nat.reduceMul, Nat.reduceSub, Int.reduceToNat, Int.reduceNeg, E_get hlt, cD, hgt, hw]
        repeat' (first
          | (refine RgK.mk rfl ?_; simp -dsimp only [go_sem, reduceIte, reduceCtorEq, Nat.reduceEqDiff, Nat.reduceLT, Nat.reduceLeDiff, Nat.reduceAdd, Nat.reduceMul, Nat.reduceSub, Int.reduceToNat, Int.reduceNeg, E_get hlt, cD, hgt, hw])
          | (refine Br.mk (fun h => ?_) (fun h => ?_) <;> simp -dsimp only [go_sem, reduceIte, reduceCtorEq, Nat.reduceEqDiff, Nat.reduceLT, Nat.reduceLeDiff, Nat.reduceAdd, Nat.reduceMul, Nat.reduceSub, Int.reduceToNat, Int.reduceNeg, h, E_get hlt, cD, hgt, hw])
          | (refine And.intro (by first | rfl | omega | decide | (refine ⟨?_, ?_⟩ <;> (first | rfl | omega | decide)) | (refine ⟨?_, ?_, ?_⟩ <;> (first | rfl | omega | decide)) | (refine ⟨?_, ?_, ?_, ?_⟩ <;> (first | rfl | omega | decide))) ?_)
          | fail)

        all_goals (exact ⟨⟨(i + 1, ()), by first | omega | simp | exact ⟨by omega, by omega⟩, hg⟩, by simp [Vs.LeL, Vs.look, Vs.hlook, Vs.sput, Vs.sputs, Vs.hset, Vs.hputs], by simp only; omega⟩)
      · have hgt : decide ((o.trays[i].length : Int) > 0) = true := decide_eq_true (by omega)
        have h0 : 0 < o.trays[i].length := by omega
        rw [if_neg hd0, getD_lt h0] at hg
        simp -dsimp only [go_sem, reduceIte, reduceCtorEq, Nat.reduceEqDiff, Nat.reduceLT, Nat.reduceLeDiff, Nat.reduceAdd, Nat.reduceMul, Nat.reduceSub, Int.reduceToNat, Int.reduceNeg, E_get hlt, E_get h0, cD, hgt, cC]
        repeat' (first
          | (refine RgK.mk rfl ?_; simp -dsimp only [go_sem, reduceIte, reduceCtorEq, Nat.reduceEqDiff, Nat.reduceLT, Nat.reduceLeDiff, Nat.reduceAdd, Nat.reduceMul, Nat.reduceSub, Int.reduceToNat, Int.reduceNeg, E_get hlt, E_get h0, cD, hgt, cC])
          | (refine Br.mk (fun h => ?_) (fun h => ?_) <;> simp -dsimp only [go_sem, reduceIte, reduceCtorEq, Nat.reduceEqDiff, Nat.reduceLT, Nat.reduceLeDiff, Nat.reduceAdd, Nat.reduceMul, Nat.reduceSub, Int.reduceToNat, Int.reduceNeg, h, E_get hlt, E_get h0, cD, hgt, cC])
          | (refine CallK.flat (by first | exact columns _) rfl ?_; simp -dsimp only [go_sem, reduceIte, reduceCtorEq, Nat.reduceEqDiff, Nat.reduceLT, Nat.reduceLeDiff, Nat.reduceAdd, Nat.reduceMul, Nat.reduceSub, Int.reduceToNat, Int.reduceNeg, E_get hlt, E_get h0, cD, hgt, cC])
          | (refine CallK.pure (by first | exact columns _) ?_; simp -dsimp only [go_sem, reduceIte, reduceCtorEq, Nat.reduceEqDiff, Nat.reduceLT, Nat.reduceLeDiff, Nat.reduceAdd, Nat.reduceMul, Nat.reduceSub, Int.reduceToNat, Int.reduceNeg, E_get hlt, E_get h0, cD, hgt, cC])
          | (refine And.intro (by first | rfl | omega | decide | (refine ⟨?_, ?_⟩ <;> (first | rfl | omega | decide)) | (refine ⟨?_, ?_, ?_⟩ <;> (first | rfl | omega | decide)) | (refine ⟨?_, ?_, ?_, ?_⟩ <;> (first | rfl | omega | decide))) ?_)
          | fail)

        all_goals (refine ret_eq ?_; simp [← hg]; done)
    · have hge : i = o.trays.length := by
        have : ¬ i < o.trays.length := by simpa using hc
        omega
      subst hge
      simp -dsimp only [go_sem, reduceIte, reduceCtorEq, Nat.reduceEqDiff, Nat.reduceLT, Nat.reduceLeDiff, Nat.reduceAdd, Nat.reduceMul, Nat.reduceSub, Int.reduceToNat, Int.reduceNeg]
      rw [List.drop_length, wO] at hg
      simp [← hg]
theorem l15Width (o : Off) (ho : smallO o) : Vs.Fn Tryz.prog F.spec_l15Width [] [.ro (cO o)] (.v (.int .i64 (wO o.trays))) [] := by
  refine Cd.spec_l15Width_ok.fn0 Tryz.mixed Cd.spec_l15Width_nt Cd.spec_l15Width_rs rfl fun X => ?_
  unfold Cd.spec_l15Width
  simp -dsimp only [go_sem, reduceIte, reduceCtorEq, Nat.reduceEqDiff, Nat.reduceLT, Nat.reduceLeDiff, Nat.reduceAdd, Nat.reduceMul, Nat.reduceSub, Int.reduceToNat, Int.reduceNeg, cO]
  refine LoopK.at (drawn_ok Tryz.mixed) (X := { zz : Nat × (Unit) // zz.1 ≤ o.trays.length ∧ wO (o.trays.drop zz.1) = wO o.trays }) (fun zz => [(3, .v (.int .i64 zz.1.1))]) (fun zz => []) (fun zz => o.trays.length - zz.1.1) ⟨(0, ()), by omega, rfl⟩ ?_ ?_
  · simp [Vs.LeL, Vs.look, Vs.hlook, Vs.sput, Vs.sputs, Vs.hset, Vs.hputs]
  · rintro ⟨⟨i, _⟩, hi, hg⟩
    dsimp only at hi hg
    simp -dsimp only [go_sem, reduceIte, reduceCtorEq, Nat.reduceEqDiff, Nat.reduceLT, Nat.reduceLeDiff, Nat.reduceAdd, Nat.reduceMul, Nat.reduceSub, Int.reduceToNat, Int.reduceNeg]
    refine Br.mk (fun hc => ?_) fun hc => ?_
    · have hlt : i < o.trays.length := by simpa using hc
      have hw := wrap_succ hlt ho.1.1
      rw [wO_step hlt] at hg
      by_cases hd0 : o.trays[i].length = 0
      · have hgt : decide ((o.trays[i].length : Int) > 0) = false := decide_eq_false (by omega)
        rw [if_pos hd0] at hg
        simp -dsimp only [go_sem, reduceIte, reduceCtorEq, Nat.reduceEqDiff, Nat.reduceLT, Nat.reduceLeDiff, Nat.reduceAdd, Nat.reduceMul, Nat.reduceSub, Int.reduceToNat, Int.reduceNeg, E_get hlt, cD, hgt, hw]
        repeat' (first
          | (refine RgK.mk rfl ?_; simp -dsimp only [go_sem, reduceIte, reduceCtorEq, Nat.reduceEqDiff, Nat.reduceLT, Nat.reduceLeDiff, Nat.reduceAdd, Nat.reduceMul, Nat.reduceSub, Int.reduceToNat, Int.reduceNeg, E_get hlt, cD, hgt, hw])
          | (refine Br.mk (fun h => ?_) (fun h => ?_) <;> simp -dsimp only [go_sem, reduceIte, reduceCtorEq, Nat.reduceEqDiff, Nat.reduceLT, Nat.reduceLeDiff, Nat.reduceAdd, Nat.reduceMul, Nat.reduceSub, Int.reduceToNat, Int.reduceNeg, h, E_get hlt, cD, hgt, hw])
          | (refine And.intro (by first | rfl | omega | decide | (refine ⟨?_, ?_⟩ <;> (first | rfl | omega | decide)) | (refine ⟨?_, ?_, ?_⟩ <;> (first | rfl | omega | decide)) | (refine ⟨?_, ?_, ?_, ?_⟩ <;> (first | rfl | omega | decide))) ?_)
          | fail)

        all_goals (exact ⟨⟨(i + 1, ()), by first | omega | simp | exact ⟨by omega, by omega⟩, hg⟩, by simp [Vs.LeL, Vs.look, Vs.hlook, Vs.sput, Vs.sputs, Vs.hset, Vs.hputs], by simp only; omega⟩)
      · have hgt : decide ((o.trays[i].length : Int) > 0) = true := decide_eq_true (by omega)
        have h0 : 0 < o.trays[i].length := by omega
        rw [if_neg hd0, getD_lt h0] at hg
        simp -dsimp only [go_sem, reduceIte, reduceCtorEq, Nat.reduceEqDiff, Nat.reduceLT, Nat.reduceLeDiff, Nat.reduceAdd, Nat.reduceMul, Nat.reduceSub, Int.reduceToNat, Int.reduceNeg, E_get hlt, E_get h0, cD, hgt, cC]
        repeat' (first
          | (refine RgK.mk rfl ?_; simp -dsimp only [go_sem, reduceIte, reduceCtorEq, Nat.reduceEqDiff, Nat.reduceLT, Nat.reduceLeDiff, Nat.reduceAdd, Nat.reduceMul, Nat.reduceSub, Int.reduceToNat, Int.reduceNeg, E_get hlt, E_get h0, cD, hgt, cC])
          | (refine Br.mk (fun h => ?_) (fun h => ?_) <;> simp -dsimp only [go_sem, reduceIte, reduceCtorEq, Nat.reduceEqDiff, Nat.reduceLT, Nat.reduceLeDiff, Nat.reduceAdd, Nat.reduceMul, Nat.reduceSub, Int.reduceToNat, Int.reduceNeg, h, E_get hlt, E_get h0, cD, hgt, cC])
          | (refine CallK.flat (by first | exact columns _) rfl ?_; simp -dsimp only [go_sem, reduceIte, reduceCtorEq, Nat.reduceEqDiff, Nat.reduceLT, Nat.reduceLeDiff, Nat.reduceAdd, Nat.reduceMul, Nat.reduceSub, Int.reduceToNat, Int.reduceNeg, E_get hlt, E_get h0, cD, hgt, cC])
          | (refine CallK.pure (by first | exact columns _) ?_; simp -dsimp only [go_sem, reduceIte, reduceCtorEq, Nat.reduceEqDiff, Nat.reduceLT, Nat.reduceLeDiff, Nat.reduceAdd, Nat.reduceMul, Nat.reduceSub, Int.reduceToNat, Int.reduceNeg, E_get hlt, E_get h0, cD, hgt, cC])
          | (refine And.intro (by first | rfl | omega | decide | (refine ⟨?_, ?_⟩ <;> (first | rfl | omega | decide)) | (refine ⟨?_, ?_, ?_⟩ <;> (first | rfl | omega | decide)) | (refine ⟨?_, ?_, ?_, ?_⟩ <;> (first | rfl | omega | decide))) ?_)
          | fail)

        all_goals (refine ret_eq ?_; simp [← hg]; done)
    · have hge : i = o.trays.length := by
        have : ¬ i < o.trays.length := by simpa using hc
        omega
      subst hge
      simp -dsimp only [go_sem, reduceIte, reduceCtorEq, Nat.reduceEqDiff, Nat.reduceLT, Nat.reduceLeDiff, Nat.reduceAdd, Nat.reduceMul, Nat.reduceSub, Int.reduceToNat, Int.reduceNeg]
      rw [List.drop_length, wO] at hg
      simp [← hg]
theorem l15Ok (o : Off) (ho : smallO o) : Vs.Fn Tryz.prog F.spec_l15Ok [] [.ro (cO o)] (.v (.bool (offB o))) [] := by
  refine Cd.spec_l15Ok_ok.fn0 Tryz.mixed Cd.spec_l15Ok_nt Cd.spec_l15Ok_rs rfl fun X => ?_
  unfold Cd.spec_l15Ok
  simp -dsimp only [go_sem, reduceIte, reduceCtorEq, Nat.reduceEqDiff, Nat.reduceLT, Nat.reduceLeDiff, Nat.reduceAdd, Nat.reduceMul, Nat.reduceSub, Int.reduceToNat, Int.reduceNeg, cO]
  refine LoopK.at (drawn_ok Tryz.mixed) (X := { zz : Nat × (Unit) // zz.1 ≤ o.trays.length ∧ rall zz.1 (offI o) = true }) (fun zz => [(3, .v (.int .i64 zz.1.1))]) (fun zz => []) (fun zz => o.trays.length - zz.1.1) ⟨(0, ()), by omega, rall_zero _⟩ ?_ ?_
  · simp [Vs.LeL, Vs.look, Vs.hlook, Vs.sput, Vs.sputs, Vs.hset, Vs.hputs]
  · rintro ⟨⟨i, _⟩, hi, hg⟩
    dsimp only at hi hg
    simp -dsimp only [go_sem, reduceIte, reduceCtorEq, Nat.reduceEqDiff, Nat.reduceLT, Nat.reduceLeDiff, Nat.reduceAdd, Nat.reduceMul, Nat.reduceSub, Int.reduceToNat, Int.reduceNeg]
    refine Br.mk (fun hc => ?_) fun hc => ?_
    · have hlt : i < o.trays.length := by simpa using hc
      have hw := wrap_succ hlt ho.1.1
      have hgi := getD_lt hlt ([] : List (List Int))
      have hs := ho.1.2 _ (List.getElem_mem hlt)
      by_cases hd0 : o.trays[i].length = 0
      · have hgt : decide ((o.trays[i].length : Int) > 0) = false := decide_eq_false (by omega)
        simp -dsimp only [go_sem, reduceIte, reduceCtorEq, Nat.reduceEqDiff, Nat.reduceLT, Nat.reduceLeDiff, Nat.reduceAdd, Nat.reduceMul, Nat.reduceSub, Int.reduceToNat, Int.reduceNeg, E_get hlt, cD, hgt, hw]
        repeat' (first
          | (refine RgK.mk rfl ?_; simp -dsimp only [go_sem, reduceIte, reduceCtorEq, Nat.reduceEqDiff, Nat.reduceLT, Nat.reduceLeDiff, Nat.reduceAdd, Nat.reduceMul, Nat.reduceSub, Int.reduceToNat, Int.reduceNeg, E_get hlt, cD, hgt, hw])
          | (refine Br.mk (fun h => ?_) (fun h => ?_) <;> simp -dsimp only [go_sem, reduceIte, reduceCtorEq, Nat.reduceEqDiff, Nat.reduceLT, Nat.reduceLeDiff, Nat.reduceAdd, Nat.reduceMul, Nat.reduceSub, Int.reduceToNat, Int.reduceNeg, h, E_get hlt, cD, hgt, hw])
          | (refine CallK.flat (by first | exact l02Deck _ hs.2 hs.1 | exact l15Width o ho) rfl ?_; simp -dsimp only [go_sem, reduceIte, reduceCtorEq, Nat.reduceEqDiff, Nat.reduceLT, Nat.reduceLeDiff, Nat.reduceAdd, Nat.reduceMul, Nat.reduceSub, Int.reduceToNat, Int.reduceNeg, E_get hlt, cD, hgt, hw])
          | (refine CallK.pure (by first | exact l02Deck _ hs.2 hs.1 | exact l15Width o ho) ?_; simp -dsimp only [go_sem, reduceIte, reduceCtorEq, Nat.reduceEqDiff, Nat.reduceLT, Nat.reduceLeDiff, Nat.reduceAdd, Nat.reduceMul, Nat.reduceSub, Int.reduceToNat, Int.reduceNeg, E_get hlt, cD, hgt, hw])
          | (refine And.intro (by first | rfl | omega | decide | (refine ⟨?_, ?_⟩ <;> (first | rfl | omega | decide)) | (refine ⟨?_, ?_, ?_⟩ <;> (first | rfl | omega | decide)) | (refine ⟨?_, ?_, ?_, ?_⟩ <;> (first | rfl | omega | decide))) ?_)
          | fail)

        all_goals first
          | (refine ret_eq ?_; have hp : offI o i = false := by (simp only [offI, hgi]; simp_all)
             simp [offB, rall_not hlt hp]; done)
          | (exact ⟨⟨(i + 1, ()), by first | omega | simp | exact ⟨by omega, by omega⟩, rall_succ hg (by (simp only [offI, hgi]; simp_all))⟩, by simp [Vs.LeL, Vs.look, Vs.hlook, Vs.sput, Vs.sputs, Vs.hset, Vs.hputs], by simp only; omega⟩)
      · have hgt : decide ((o.trays[i].length : Int) > 0) = true := decide_eq_true (by omega)
        have h0 : 0 < o.trays[i].length := by omega
        have hg0 := getD_lt h0 ([] : List Int)
        by_cases hww : o.trays[i][0].length = wO o.trays
        · have hb : ((o.trays[i][0].length : Int) != (wO o.trays : Int)) = false := by simp [hww]
          simp -dsimp only [go_sem, reduceIte, reduceCtorEq, Nat.reduceEqDiff, Nat.reduceLT, Nat.reduceLeDiff, Nat.reduceAdd, Nat.reduceMul, Nat.reduceSub, Int.reduceToNat, Int.reduceNeg, E_get hlt, E_get h0, cD, hgt, cC, hb, hw]
          repeat' (first
            | (refine RgK.mk rfl ?_; simp -dsimp only [go_sem, reduceIte, reduceCtorEq, Nat.reduceEqDiff, Nat.reduceLT, Nat.reduceLeDiff, Nat.reduceAdd, Nat.reduceMul, Nat.reduceSub, Int.reduceToNat, Int.reduceNeg, E_get hlt, E_get h0, cD, hgt, cC, hb, hw])
            | (refine Br.mk (fun h => ?_) (fun h => ?_) <;> simp -dsimp only [go_sem, reduceIte, reduceCtorEq, Nat.reduceEqDiff, Nat.reduceLT, Nat.reduceLeDiff, Nat.reduceAdd, Nat.reduceMul, Nat.reduceSub, Int.reduceToNat, Int.reduceNeg, h, E_get hlt, E_get h0, cD, hgt, cC, hb, hw])
            | (refine CallK.flat (by first | exact l02Deck _ hs.2 hs.1 | exact l15Width o ho) rfl ?_; simp -dsimp only [go_sem, reduceIte, reduceCtorEq, Nat.reduceEqDiff, Nat.reduceLT, Nat.reduceLeDiff, Nat.reduceAdd, Nat.reduceMul, Nat.reduceSub, Int.reduceToNat, Int.reduceNeg, E_get hlt, E_get h0, cD, hgt, cC, hb, hw])
            | (refine CallK.pure (by first | exact l02Deck _ hs.2 hs.1 | exact l15Width o ho) ?_; simp -dsimp only [go_sem, reduceIte, reduceCtorEq, Nat.reduceEqDiff, Nat.reduceLT, Nat.reduceLeDiff, Nat.reduceAdd, Nat.reduceMul, Nat.reduceSub, Int.reduceToNat, Int.reduceNeg, E_get hlt, E_get h0, cD, hgt, cC, hb, hw])
            | (refine And.intro (by first | rfl | omega | decide | (refine ⟨?_, ?_⟩ <;> (first | rfl | omega | decide)) | (refine ⟨?_, ?_, ?_⟩ <;> (first | rfl | omega | decide)) | (refine ⟨?_, ?_, ?_, ?_⟩ <;> (first | rfl | omega | decide))) ?_)
            | fail)

          all_goals first
            | (refine ret_eq ?_; have hp : offI o i = false := by (simp only [offI, hgi, hg0]; simp_all)
               simp [offB, rall_not hlt hp]; done)
            | (exact ⟨⟨(i + 1, ()), by first | omega | simp | exact ⟨by omega, by omega⟩, rall_succ hg (by (simp only [offI, hgi, hg0]; simp_all))⟩, by simp [Vs.LeL, Vs.look, Vs.hlook, Vs.sput, Vs.sputs, Vs.hset, Vs.hputs], by simp only; omega⟩)
        · have hb : ((o.trays[i][0].length : Int) != (wO o.trays : Int)) = true := by simp; omega
          simp -dsimp only [go_sem, reduceIte, reduceCtorEq, Nat.reduceEqDiff, Nat.reduceLT, Nat.reduceLeDiff, Nat.reduceAdd, Nat.reduceMul, Nat.reduceSub, Int.reduceToNat, Int.reduceNeg, E_get hlt, E_get h0, cD, hgt, cC, hb, hw]
          repeat' (first
            | (refine RgK.mk rfl ?_; simp -dsimp only [go_sem, reduceIte, reduceCtorEq, Nat.reduceEqDiff, Nat.reduceLT, Nat.reduceLeDiff, Nat.reduceAdd, Nat.reduceMul, Nat.reduceSub, Int.reduceToNat, Int.reduceNeg, E_get hlt, E_get h0, cD, hgt, cC, hb, hw])
            | (refine Br.mk (fun h => ?_) (fun h => ?_) <;> simp -dsimp only [go_sem, reduceIte, reduceCtorEq, Nat.reduceEqDiff, Nat.reduceLT, Nat.reduceLeDiff, Nat.reduceAdd, Nat.reduceMul, Nat.reduceSub, Int.reduceToNat, Int.reduceNeg, h, E_get hlt, E_get h0, cD, hgt, cC, hb, hw])
            | (refine CallK.flat (by first | exact l02Deck _ hs.2 hs.1 | exact l15Width o ho) rfl ?_; simp -dsimp only [go_sem, reduceIte, reduceCtorEq, Nat.reduceEqDiff, Nat.reduceLT, Nat.reduceLeDiff, Nat.reduceAdd, Nat.reduceMul, Nat.reduceSub, Int.reduceToNat, Int.reduceNeg, E_get hlt, E_get h0, cD, hgt, cC, hb, hw])
            | (refine CallK.pure (by first | exact l02Deck _ hs.2 hs.1 | exact l15Width o ho) ?_; simp -dsimp only [go_sem, reduceIte, reduceCtorEq, Nat.reduceEqDiff, Nat.reduceLT, Nat.reduceLeDiff, Nat.reduceAdd, Nat.reduceMul, Nat.reduceSub, Int.reduceToNat, Int.reduceNeg, E_get hlt, E_get h0, cD, hgt, cC, hb, hw])
            | (refine And.intro (by first | rfl | omega | decide | (refine ⟨?_, ?_⟩ <;> (first | rfl | omega | decide)) | (refine ⟨?_, ?_, ?_⟩ <;> (first | rfl | omega | decide)) | (refine ⟨?_, ?_, ?_, ?_⟩ <;> (first | rfl | omega | decide))) ?_)
            | fail)

          all_goals first
            | (refine ret_eq ?_; have hp : offI o i = false := by (simp only [offI, hgi, hg0]; simp_all)
               simp [offB, rall_not hlt hp]; done)
    · have hge : i = o.trays.length := by
        have : ¬ i < o.trays.length := by simpa using hc
        omega
      subst hge
      simp -dsimp only [go_sem, reduceIte, reduceCtorEq, Nat.reduceEqDiff, Nat.reduceLT, Nat.reduceLeDiff, Nat.reduceAdd, Nat.reduceMul, Nat.reduceSub, Int.reduceToNat, Int.reduceNeg]
      refine ⟨?_, by simp⟩
      refine Br.mk (fun h => ?_) (fun h => ?_)
      all_goals
        simp -dsimp only [go_sem, reduceIte, reduceCtorEq, Nat.reduceEqDiff, Nat.reduceLT, Nat.reduceLeDiff, Nat.reduceAdd, Nat.reduceMul, Nat.reduceSub, Int.reduceToNat, Int.reduceNeg, h]
        simp_all [offB]
theorem impl_ValidOffice (o : Off) (ho : smallO o) : Vs.Fn Tryz.prog F.impl_ValidOffice [] [.agg (cO o)] (.v (.bool (offB o))) [] := by
  refine Cd.impl_ValidOffice_ok.fn0 Tryz.mixed Cd.impl_ValidOffice_nt Cd.impl_ValidOffice_rs rfl fun X => ?_
  unfold Cd.impl_ValidOffice
  simp -dsimp only [go_sem, reduceIte, reduceCtorEq, Nat.reduceEqDiff, Nat.reduceLT, Nat.reduceLeDiff, Nat.reduceAdd, Nat.reduceMul, Nat.reduceSub, Int.reduceToNat, Int.reduceNeg, cO]
  by_cases h6 : o.trays.length = 6
  rotate_left
  · have hb : ((o.trays.length : Int) != 6) = true := by simp; omega
    have hb' : ((o.trays.length : Int) == 6) = false := by simp; omega
    simp -dsimp only [go_sem, reduceIte, reduceCtorEq, Nat.reduceEqDiff, Nat.reduceLT, Nat.reduceLeDiff, Nat.reduceAdd, Nat.reduceMul, Nat.reduceSub, Int.reduceToNat, Int.reduceNeg, hb]
    simp [offB, hb']
  have hb : ((o.trays.length : Int) != 6) = false := by simp; omega
  have hb' : ((o.trays.length : Int) == 6) = true := by simp; omega
  by_cases h20 : (o.totals.length : Int) > 20
  · have hb2 : decide ((o.totals.length : Int) > 20) = true := decide_eq_true (by omega)
    have hb2' : decide ((o.totals.length : Int) ≤ 20) = false := decide_eq_false (by omega)
    simp -dsimp only [go_sem, reduceIte, reduceCtorEq, Nat.reduceEqDiff, Nat.reduceLT, Nat.reduceLeDiff, Nat.reduceAdd, Nat.reduceMul, Nat.reduceSub, Int.reduceToNat, Int.reduceNeg, hb, hb2]
    simp [offB, hb2']
  have hb2 : decide ((o.totals.length : Int) > 20) = false := decide_eq_false (by omega)
  have hb2' : decide ((o.totals.length : Int) ≤ 20) = true := decide_eq_true (by omega)
  simp -dsimp only [go_sem, reduceIte, reduceCtorEq, Nat.reduceEqDiff, Nat.reduceLT, Nat.reduceLeDiff, Nat.reduceAdd, Nat.reduceMul, Nat.reduceSub, Int.reduceToNat, Int.reduceNeg, hb, hb2]
  refine LoopK.at (drawn_ok Tryz.mixed) (X := { zz : Nat × (Unit) // zz.1 ≤ o.trays.length ∧ rall zz.1 (offI o) = true }) (fun zz => [(18, .v (.int .i64 zz.1.1))]) (fun zz => []) (fun zz => o.trays.length - zz.1.1) ⟨(0, ()), by omega, rall_zero _⟩ ?_ ?_
  · simp [Vs.LeL, Vs.look, Vs.hlook, Vs.sput, Vs.sputs, Vs.hset, Vs.hputs]
  · rintro ⟨⟨i, _⟩, hi, hg⟩
    dsimp only at hi hg
    simp -dsimp only [go_sem, reduceIte, reduceCtorEq, Nat.reduceEqDiff, Nat.reduceLT, Nat.reduceLeDiff, Nat.reduceAdd, Nat.reduceMul, Nat.reduceSub, Int.reduceToNat, Int.reduceNeg]
    refine Br.mk (fun hc => ?_) fun hc => ?_
    · have hlt : i < o.trays.length := by simpa using hc
      have hw := wrap_succ hlt ho.1.1
      have hgi := getD_lt hlt ([] : List (List Int))
      have hs := ho.1.2 _ (List.getElem_mem hlt)
      by_cases hd0 : o.trays[i].length = 0
      · have hgt : decide ((o.trays[i].length : Int) > 0) = false := decide_eq_false (by omega)
        simp -dsimp only [go_sem, reduceIte, reduceCtorEq, Nat.reduceEqDiff, Nat.reduceLT, Nat.reduceLeDiff, Nat.reduceAdd, Nat.reduceMul, Nat.reduceSub, Int.reduceToNat, Int.reduceNeg, E_get hlt, cD, hgt, hw]
        repeat' (first
          | (refine RgK.mk rfl ?_; simp -dsimp only [go_sem, reduceIte, reduceCtorEq, Nat.reduceEqDiff, Nat.reduceLT, Nat.reduceLeDiff, Nat.reduceAdd, Nat.reduceMul, Nat.reduceSub, Int.reduceToNat, Int.reduceNeg, E_get hlt, cD, hgt, hw])
          | (refine Br.mk (fun h => ?_) (fun h => ?_) <;> simp -dsimp only [go_sem, reduceIte, reduceCtorEq, Nat.reduceEqDiff, Nat.reduceLT, Nat.reduceLeDiff, Nat.reduceAdd, Nat.reduceMul, Nat.reduceSub, Int.reduceToNat, Int.reduceNeg, h, E_get hlt, cD, hgt, hw])
          | (refine CallK.flat (by first | exact validDeck _ hs.2 hs.1 | exact columns _ | exact officeColumns o ho) rfl ?_; simp -dsimp only [go_sem, reduceIte, reduceCtorEq, Nat.reduceEqDiff, Nat.reduceLT, Nat.reduceLeDiff, Nat.reduceAdd, Nat.reduceMul, Nat.reduceSub, Int.reduceToNat, Int.reduceNeg, E_get hlt, cD, hgt, hw])
          | (refine CallK.pure (by first | exact validDeck _ hs.2 hs.1 | exact columns _ | exact officeColumns o ho) ?_; simp -dsimp only [go_sem, reduceIte, reduceCtorEq, Nat.reduceEqDiff, Nat.reduceLT, Nat.reduceLeDiff, Nat.reduceAdd, Nat.reduceMul, Nat.reduceSub, Int.reduceToNat, Int.reduceNeg, E_get hlt, cD, hgt, hw])
          | (refine And.intro (by first | rfl | omega | decide | (refine ⟨?_, ?_⟩ <;> (first | rfl | omega | decide)) | (refine ⟨?_, ?_, ?_⟩ <;> (first | rfl | omega | decide)) | (refine ⟨?_, ?_, ?_, ?_⟩ <;> (first | rfl | omega | decide))) ?_)
          | fail)

        all_goals first
          | (refine ret_eq ?_; have hp : offI o i = false := by (simp only [offI, hgi]; simp_all)
             simp [offB, rall_not hlt hp]; done)
          | (exact ⟨⟨(i + 1, ()), by first | omega | simp | exact ⟨by omega, by omega⟩, rall_succ hg (by (simp only [offI, hgi]; simp_all))⟩, by simp [Vs.LeL, Vs.look, Vs.hlook, Vs.sput, Vs.sputs, Vs.hset, Vs.hputs], by simp only; omega⟩)
      · have hgt : decide ((o.trays[i].length : Int) > 0) = true := decide_eq_true (by omega)
        have h0 : 0 < o.trays[i].length := by omega
        have hg0 := getD_lt h0 ([] : List Int)
        by_cases hww : o.trays[i][0].length = wO o.trays
        · have hb : ((o.trays[i][0].length : Int) != (wO o.trays : Int)) = false := by simp [hww]
          simp -dsimp only [go_sem, reduceIte, reduceCtorEq, Nat.reduceEqDiff, Nat.reduceLT, Nat.reduceLeDiff, Nat.reduceAdd, Nat.reduceMul, Nat.reduceSub, Int.reduceToNat, Int.reduceNeg, E_get hlt, E_get h0, cD, hgt, cC, hb, hw]
          repeat' (first
            | (refine RgK.mk rfl ?_; simp -dsimp only [go_sem, reduceIte, reduceCtorEq, Nat.reduceEqDiff, Nat.reduceLT, Nat.reduceLeDiff, Nat.reduceAdd, Nat.reduceMul, Nat.reduceSub, Int.reduceToNat, Int.reduceNeg, E_get hlt, E_get h0, cD, hgt, cC, hb, hw])
            | (refine Br.mk (fun h => ?_) (fun h => ?_) <;> simp -dsimp only [go_sem, reduceIte, reduceCtorEq, Nat.reduceEqDiff, Nat.reduceLT, Nat.reduceLeDiff, Nat.reduceAdd, Nat.reduceMul, Nat.reduceSub, Int.reduceToNat, Int.reduceNeg, h, E_get hlt, E_get h0, cD, hgt, cC, hb, hw])
            | (refine CallK.flat (by first | exact validDeck _ hs.2 hs.1 | exact columns _ | exact officeColumns o ho) rfl ?_; simp -dsimp only [go_sem, reduceIte, reduceCtorEq, Nat.reduceEqDiff, Nat.reduceLT, Nat.reduceLeDiff, Nat.reduceAdd, Nat.reduceMul, Nat.reduceSub, Int.reduceToNat, Int.reduceNeg, E_get hlt, E_get h0, cD, hgt, cC, hb, hw])
            | (refine CallK.pure (by first | exact validDeck _ hs.2 hs.1 | exact columns _ | exact officeColumns o ho) ?_; simp -dsimp only [go_sem, reduceIte, reduceCtorEq, Nat.reduceEqDiff, Nat.reduceLT, Nat.reduceLeDiff, Nat.reduceAdd, Nat.reduceMul, Nat.reduceSub, Int.reduceToNat, Int.reduceNeg, E_get hlt, E_get h0, cD, hgt, cC, hb, hw])
            | (refine And.intro (by first | rfl | omega | decide | (refine ⟨?_, ?_⟩ <;> (first | rfl | omega | decide)) | (refine ⟨?_, ?_, ?_⟩ <;> (first | rfl | omega | decide)) | (refine ⟨?_, ?_, ?_, ?_⟩ <;> (first | rfl | omega | decide))) ?_)
            | fail)

          all_goals first
            | (refine ret_eq ?_; have hp : offI o i = false := by (simp only [offI, hgi, hg0]; simp_all)
               simp [offB, rall_not hlt hp]; done)
            | (exact ⟨⟨(i + 1, ()), by first | omega | simp | exact ⟨by omega, by omega⟩, rall_succ hg (by (simp only [offI, hgi, hg0]; simp_all))⟩, by simp [Vs.LeL, Vs.look, Vs.hlook, Vs.sput, Vs.sputs, Vs.hset, Vs.hputs], by simp only; omega⟩)
        · have hb : ((o.trays[i][0].length : Int) != (wO o.trays : Int)) = true := by simp; omega
          simp -dsimp only [go_sem, reduceIte, reduceCtorEq, Nat.reduceEqDiff, Nat.reduceLT, Nat.reduceLeDiff, Nat.reduceAdd, Nat.reduceMul, Nat.reduceSub, Int.reduceToNat, Int.reduceNeg, E_get hlt, E_get h0, cD, hgt, cC, hb, hw]
          repeat' (first
            | (refine RgK.mk rfl ?_; simp -dsimp only [go_sem, reduceIte, reduceCtorEq, Nat.reduceEqDiff, Nat.reduceLT, Nat.reduceLeDiff, Nat.reduceAdd, Nat.reduceMul, Nat.reduceSub, Int.reduceToNat, Int.reduceNeg, E_get hlt, E_get h0, cD, hgt, cC, hb, hw])
            | (refine Br.mk (fun h => ?_) (fun h => ?_) <;> simp -dsimp only [go_sem, reduceIte, reduceCtorEq, Nat.reduceEqDiff, Nat.reduceLT, Nat.reduceLeDiff, Nat.reduceAdd, Nat.reduceMul, Nat.reduceSub, Int.reduceToNat, Int.reduceNeg, h, E_get hlt, E_get h0, cD, hgt, cC, hb, hw])
            | (refine CallK.flat (by first | exact validDeck _ hs.2 hs.1 | exact columns _ | exact officeColumns o ho) rfl ?_; simp -dsimp only [go_sem, reduceIte, reduceCtorEq, Nat.reduceEqDiff, Nat.reduceLT, Nat.reduceLeDiff, Nat.reduceAdd, Nat.reduceMul, Nat.reduceSub, Int.reduceToNat, Int.reduceNeg, E_get hlt, E_get h0, cD, hgt, cC, hb, hw])
            | (refine CallK.pure (by first | exact validDeck _ hs.2 hs.1 | exact columns _ | exact officeColumns o ho) ?_; simp -dsimp only [go_sem, reduceIte, reduceCtorEq, Nat.reduceEqDiff, Nat.reduceLT, Nat.reduceLeDiff, Nat.reduceAdd, Nat.reduceMul, Nat.reduceSub, Int.reduceToNat, Int.reduceNeg, E_get hlt, E_get h0, cD, hgt, cC, hb, hw])
            | (refine And.intro (by first | rfl | omega | decide | (refine ⟨?_, ?_⟩ <;> (first | rfl | omega | decide)) | (refine ⟨?_, ?_, ?_⟩ <;> (first | rfl | omega | decide)) | (refine ⟨?_, ?_, ?_, ?_⟩ <;> (first | rfl | omega | decide))) ?_)
            | fail)

          all_goals first
            | (refine ret_eq ?_; have hp : offI o i = false := by (simp only [offI, hgi, hg0]; simp_all)
               simp [offB, rall_not hlt hp]; done)
    · have hge : i = o.trays.length := by
        have : ¬ i < o.trays.length := by simpa using hc
        omega
      subst hge
      simp -dsimp only [go_sem, reduceIte, reduceCtorEq, Nat.reduceEqDiff, Nat.reduceLT, Nat.reduceLeDiff, Nat.reduceAdd, Nat.reduceMul, Nat.reduceSub, Int.reduceToNat, Int.reduceNeg]
      simp [offB, hg, hb', hb2']
end Go.Proofs.YtgeeipfdkamhmaaGreatDoor
