/- The reference's number of a field. -/
import Derived.Test.YtgeeipfdkamhmaaGreatDoorXwJ
namespace Go.Proofs.YtgeeipfdkamhmaaGreatDoor
open Go.Vs
set_option linter.unusedSimpArgs false
set_option linter.unusedVariables false
attribute [local irreducible] Vs.Fn

/-- the state behind the last column, told as the answer -/
def finN (a : Int) (m : Bool) : Int × Bool := if m then (W (0 - a), a != 0) else (a, true)
theorem numF_last (u : List Int) (x : Int) (h0 : 0 ≤ x) (h1 : x ≤ 4095) :
    numF u x = match nGo u 0 false with
      | none => (0, false)
      | some (a, b) => if nY x = 0 ∧ b = false ∧ nB x = false then (a, true) else if dg (nY x) < 0 then (0, false) else finN (W (W (10 * a) + dg (nY x))) (nB x) := by
  have hb := bit2 x h0 h1
  have hd0 : dg 0 = -1 := rfl
  unfold numF finN
  rw [nGo_app, List.any_append]
  rcases nGo_f u 0 with ⟨hu, hg⟩ | ⟨hu, hg | ⟨k, hg⟩⟩
  · rw [hg, hu]
    simp only [Option.bind_some, nGo, List.any_cons, List.any_nil, Bool.or_false, Bool.false_or]
    have hw0 : W 0 = 0 := by decide
    cases hn : nB x <;> simp only [hn, Bool.false_eq_true, if_false, if_true] at hb
    · rw [hb]
      by_cases hx : x = 0
      · simp [hx]
      · by_cases hd : dg x < 0
        · simp [hx, hd]
        · simp [hx, hd]
    · obtain ⟨hb, h2⟩ := hb
      have hx : x ≠ 0 := by omega
      by_cases hy : nY x = 0
      · simp [hy, hx, hd0]
      · by_cases hd : dg (nY x) < 0
        · simp [hx, hy, hd]
        · by_cases hz : W (dg (nY x)) = 0
          · simp [hx, hy, hd, hz, hw0]
          · simp [hx, hy, hd, hz, hw0]
  · rw [hg, hu]; simp
  · rw [hg, hu]
    have hw0 : W 0 = 0 := by decide
    simp only [Option.bind_some, nGo, Bool.true_or, if_true, Bool.true_eq_false, and_false, false_and, if_false]
    by_cases hd : dg (nY x) < 0
    · simp [hd]
    · have hy : nY x ≠ 0 := by intro e; rw [e] at hd; exact hd (by decide)
      cases hn : nB x
      · simp [hy, hd]
      · by_cases hz : W (W (10 * k) + dg (nY x)) = 0
        · simp [hy, hd, hz, hw0]
        · simp [hy, hd, hz]
set_option maxHeartbeats 1000000 in
theorem l03Number (u : List Int) (x : Int) (h0 : 0 ≤ x) (h1 : x ≤ 4095) (hu : u.length + 1 ≤ 12) : Vs.Fn Tryz.prog F.spec_l03Number [] [.sl 1 (E cI (u ++ [x]))] (.tup [.v (.int .i64 (numF u x).1), .v (.bool (numF u x).2)]) [] := by
  have hF := numF_last u x h0 h1
  have hb2 := bit2 x h0 h1
  obtain ⟨l, hl⟩ : ∃ l : List Int, u ++ [x] = l := ⟨_, rfl⟩
  have hll : l.length = u.length + 1 := by rw [← hl]; simp
  have hw1 : IntKind.i64.wrap ((l.length : Int) - 1) = (u.length : Int) := by rw [wrap_in (by omega) (by omega)]; omega
  rw [hl]
  refine Cd.spec_l03Number_ok.fn0 Tryz.mixed Cd.spec_l03Number_nt Cd.spec_l03Number_rs rfl fun X => ?_
  unfold Cd.spec_l03Number
  simp -dsimp only [go_sem, reduceIte, reduceCtorEq, Nat.reduceEqDiff, Nat.reduceLT, Nat.reduceLeDiff, Nat.reduceAdd, Nat.reduceMul, Nat.reduceSub, Int.reduceToNat, Int.reduceNeg]
  refine LoopK.at (drawn_ok Tryz.mixed) (X := { zz : Nat × (Int × Bool × Bool) // zz.1 ≤ l.length ∧ ((zz.1 ≤ u.length ∧ zz.2.2.2 = false ∧ nGo (u.drop zz.1) zz.2.1 zz.2.2.1 = nGo u 0 false) ∨ (zz.1 = u.length + 1 ∧ finN zz.2.1 zz.2.2.2 = numF u x)) }) (fun zz => [(7, .v (.int .i64 zz.1.1)), (4, .v (.int .i64 zz.1.2.1)), (5, .v (.bool zz.1.2.2.1)), (6, .v (.bool zz.1.2.2.2))]) (fun zz => []) (fun zz => l.length - zz.1.1) ⟨(0, (0, false, false)), by omega, .inl ⟨by omega, rfl, by simp⟩⟩ ?_ ?_
  · simp [Vs.LeL, Vs.look, Vs.hlook, Vs.sput, Vs.sputs, Vs.hset, Vs.hputs]
  · rintro ⟨⟨i, a, b, m⟩, hi, hg⟩
    dsimp only at hi hg
    simp -dsimp only [go_sem, reduceIte, reduceCtorEq, Nat.reduceEqDiff, Nat.reduceLT, Nat.reduceLeDiff, Nat.reduceAdd, Nat.reduceMul, Nat.reduceSub, Int.reduceToNat, Int.reduceNeg, hw1]
    refine Br.mk (fun hc => ?_) fun hc => ?_
    · have hlt : i < l.length := by simpa using hc
      have hw := wrap_succ hlt (by omega)
      have hm : (E cI l).getD i [] = [.v (.int .i64 l[i])] := cI_get hlt
      have hiu : i ≤ u.length := by omega
      rcases hg with ⟨_, hmi, hg⟩ | ⟨hi2, _⟩
      case inr => omega
      subst hmi
      by_cases hi2 : i < u.length
      · have hq : ((i : Int) == (u.length : Int)) = false := beq_eq_false_iff_ne.2 (by omega)
        have hm : (E cI l).getD i [] = [.v (.int .i64 u[i])] := by rw [hm]; subst hl; simp [List.getElem_append, hi2]
        rw [List.drop_eq_getElem_cons hi2, nGo] at hg
        by_cases hz : u[i] = 0
        · have e1 : (u[i] == 0) = true := beq_iff_eq.2 hz
          cases b with
          | false =>
            rw [if_pos ⟨hz, rfl⟩] at hg
            simp -dsimp only [go_sem, reduceIte, reduceCtorEq, Nat.reduceEqDiff, Nat.reduceLT, Nat.reduceLeDiff, Nat.reduceAdd, Nat.reduceMul, Nat.reduceSub, Int.reduceToNat, Int.reduceNeg, hm, hw, hq, e1, hw1]
            repeat' (first
              | (refine RgK.mk rfl ?_; simp -dsimp only [go_sem, reduceIte, reduceCtorEq, Nat.reduceEqDiff, Nat.reduceLT, Nat.reduceLeDiff, Nat.reduceAdd, Nat.reduceMul, Nat.reduceSub, Int.reduceToNat, Int.reduceNeg, hm, hw, hq, e1, hw1])
              | (refine Br.mk (fun h => ?_) (fun h => ?_) <;> simp -dsimp only [go_sem, reduceIte, reduceCtorEq, Nat.reduceEqDiff, Nat.reduceLT, Nat.reduceLeDiff, Nat.reduceAdd, Nat.reduceMul, Nat.reduceSub, Int.reduceToNat, Int.reduceNeg, h, hm, hw, hq, e1, hw1])
              | (refine CallK.flat (by first | exact l03Digit _) rfl ?_; simp -dsimp only [go_sem, reduceIte, reduceCtorEq, Nat.reduceEqDiff, Nat.reduceLT, Nat.reduceLeDiff, Nat.reduceAdd, Nat.reduceMul, Nat.reduceSub, Int.reduceToNat, Int.reduceNeg, hm, hw, hq, e1, hw1])
              | (refine CallK.pure (by first | exact l03Digit _) ?_; simp -dsimp only [go_sem, reduceIte, reduceCtorEq, Nat.reduceEqDiff, Nat.reduceLT, Nat.reduceLeDiff, Nat.reduceAdd, Nat.reduceMul, Nat.reduceSub, Int.reduceToNat, Int.reduceNeg, hm, hw, hq, e1, hw1])
              | (refine And.intro (by first | rfl | omega | decide | (refine ⟨?_, ?_⟩ <;> (first | rfl | omega | decide)) | (refine ⟨?_, ?_, ?_⟩ <;> (first | rfl | omega | decide)) | (refine ⟨?_, ?_, ?_, ?_⟩ <;> (first | rfl | omega | decide))) ?_)
              | fail)

            all_goals ((refine ⟨?_, fun h => absurd rfl h⟩); exact ⟨⟨(i + 1, (a, false, false)), by first | omega | simp | exact ⟨by omega, by omega⟩, .inl ⟨by first | omega | (simp; omega), rfl, hg⟩⟩, by simp [Vs.LeL, Vs.look, Vs.hlook, Vs.sput, Vs.sputs, Vs.hset, Vs.hputs], by simp only; omega⟩)
          | true =>
            rw [if_neg (by simp)] at hg
            have hd : dg u[i] = -1 := by rw [hz]; rfl
            rw [if_pos (by omega)] at hg
            rw [← hg] at hF
            have e2 : decide (dg u[i] < 0) = true := decide_eq_true (by omega)
            simp -dsimp only [go_sem, reduceIte, reduceCtorEq, Nat.reduceEqDiff, Nat.reduceLT, Nat.reduceLeDiff, Nat.reduceAdd, Nat.reduceMul, Nat.reduceSub, Int.reduceToNat, Int.reduceNeg, hm, hw, hq, e1, e2, hw1]
            repeat' (first
              | (refine RgK.mk rfl ?_; simp -dsimp only [go_sem, reduceIte, reduceCtorEq, Nat.reduceEqDiff, Nat.reduceLT, Nat.reduceLeDiff, Nat.reduceAdd, Nat.reduceMul, Nat.reduceSub, Int.reduceToNat, Int.reduceNeg, hm, hw, hq, e1, e2, hw1])
              | (refine Br.mk (fun h => ?_) (fun h => ?_) <;> simp -dsimp only [go_sem, reduceIte, reduceCtorEq, Nat.reduceEqDiff, Nat.reduceLT, Nat.reduceLeDiff, Nat.reduceAdd, Nat.reduceMul, Nat.reduceSub, Int.reduceToNat, Int.reduceNeg, h, hm, hw, hq, e1, e2, hw1])
              | (refine CallK.flat (by first | exact l03Digit _) rfl ?_; simp -dsimp only [go_sem, reduceIte, reduceCtorEq, Nat.reduceEqDiff, Nat.reduceLT, Nat.reduceLeDiff, Nat.reduceAdd, Nat.reduceMul, Nat.reduceSub, Int.reduceToNat, Int.reduceNeg, hm, hw, hq, e1, e2, hw1])
              | (refine CallK.pure (by first | exact l03Digit _) ?_; simp -dsimp only [go_sem, reduceIte, reduceCtorEq, Nat.reduceEqDiff, Nat.reduceLT, Nat.reduceLeDiff, Nat.reduceAdd, Nat.reduceMul, Nat.reduceSub, Int.reduceToNat, Int.reduceNeg, hm, hw, hq, e1, e2, hw1])
              | (refine And.intro (by first | rfl | omega | decide | (refine ⟨?_, ?_⟩ <;> (first | rfl | omega | decide)) | (refine ⟨?_, ?_, ?_⟩ <;> (first | rfl | omega | decide)) | (refine ⟨?_, ?_, ?_, ?_⟩ <;> (first | rfl | omega | decide))) ?_)
              | fail)

            all_goals simp [hF]
        · have e1 : (u[i] == 0) = false := beq_eq_false_iff_ne.2 hz
          rw [if_neg (by simp [hz])] at hg
          by_cases hd : dg u[i] < 0
          · rw [if_pos hd] at hg
            rw [← hg] at hF
            have e2 : decide (dg u[i] < 0) = true := decide_eq_true hd
            simp -dsimp only [go_sem, reduceIte, reduceCtorEq, Nat.reduceEqDiff, Nat.reduceLT, Nat.reduceLeDiff, Nat.reduceAdd, Nat.reduceMul, Nat.reduceSub, Int.reduceToNat, Int.reduceNeg, hm, hw, hq, e1, e2, hw1]
            repeat' (first
              | (refine RgK.mk rfl ?_; simp -dsimp only [go_sem, reduceIte, reduceCtorEq, Nat.reduceEqDiff, Nat.reduceLT, Nat.reduceLeDiff, Nat.reduceAdd, Nat.reduceMul, Nat.reduceSub, Int.reduceToNat, Int.reduceNeg, hm, hw, hq, e1, e2, hw1])
              | (refine Br.mk (fun h => ?_) (fun h => ?_) <;> simp -dsimp only [go_sem, reduceIte, reduceCtorEq, Nat.reduceEqDiff, Nat.reduceLT, Nat.reduceLeDiff, Nat.reduceAdd, Nat.reduceMul, Nat.reduceSub, Int.reduceToNat, Int.reduceNeg, h, hm, hw, hq, e1, e2, hw1])
              | (refine CallK.flat (by first | exact l03Digit _) rfl ?_; simp -dsimp only [go_sem, reduceIte, reduceCtorEq, Nat.reduceEqDiff, Nat.reduceLT, Nat.reduceLeDiff, Nat.reduceAdd, Nat.reduceMul, Nat.reduceSub, Int.reduceToNat, Int.reduceNeg, hm, hw, hq, e1, e2, hw1])
              | (refine CallK.pure (by first | exact l03Digit _) ?_; simp -dsimp only [go_sem, reduceIte, reduceCtorEq, Nat.reduceEqDiff, Nat.reduceLT, Nat.reduceLeDiff, Nat.reduceAdd, Nat.reduceMul, Nat.reduceSub, Int.reduceToNat, Int.reduceNeg, hm, hw, hq, e1, e2, hw1])
              | (refine And.intro (by first | rfl | omega | decide | (refine ⟨?_, ?_⟩ <;> (first | rfl | omega | decide)) | (refine ⟨?_, ?_, ?_⟩ <;> (first | rfl | omega | decide)) | (refine ⟨?_, ?_, ?_, ?_⟩ <;> (first | rfl | omega | decide))) ?_)
              | fail)

            all_goals simp [hF]
          · rw [if_neg hd] at hg
            have e2 : decide (dg u[i] < 0) = false := decide_eq_false hd
            simp -dsimp only [go_sem, reduceIte, reduceCtorEq, Nat.reduceEqDiff, Nat.reduceLT, Nat.reduceLeDiff, Nat.reduceAdd, Nat.reduceMul, Nat.reduceSub, Int.reduceToNat, Int.reduceNeg, hm, hw, hq, e1, e2, hw1]
            repeat' (first
              | (refine RgK.mk rfl ?_; simp -dsimp only [go_sem, reduceIte, reduceCtorEq, Nat.reduceEqDiff, Nat.reduceLT, Nat.reduceLeDiff, Nat.reduceAdd, Nat.reduceMul, Nat.reduceSub, Int.reduceToNat, Int.reduceNeg, hm, hw, hq, e1, e2, hw1])
              | (refine Br.mk (fun h => ?_) (fun h => ?_) <;> simp -dsimp only [go_sem, reduceIte, reduceCtorEq, Nat.reduceEqDiff, Nat.reduceLT, Nat.reduceLeDiff, Nat.reduceAdd, Nat.reduceMul, Nat.reduceSub, Int.reduceToNat, Int.reduceNeg, h, hm, hw, hq, e1, e2, hw1])
              | (refine CallK.flat (by first | exact l03Digit _) rfl ?_; simp -dsimp only [go_sem, reduceIte, reduceCtorEq, Nat.reduceEqDiff, Nat.reduceLT, Nat.reduceLeDiff, Nat.reduceAdd, Nat.reduceMul, Nat.reduceSub, Int.reduceToNat, Int.reduceNeg, hm, hw, hq, e1, e2, hw1])
              | (refine CallK.pure (by first | exact l03Digit _) ?_; simp -dsimp only [go_sem, reduceIte, reduceCtorEq, Nat.reduceEqDiff, Nat.reduceLT, Nat.reduceLeDiff, Nat.reduceAdd, Nat.reduceMul, Nat.reduceSub, Int.reduceToNat, Int.reduceNeg, hm, hw, hq, e1, e2, hw1])
              | (refine And.intro (by first | rfl | omega | decide | (refine ⟨?_, ?_⟩ <;> (first | rfl | omega | decide)) | (refine ⟨?_, ?_, ?_⟩ <;> (first | rfl | omega | decide)) | (refine ⟨?_, ?_, ?_, ?_⟩ <;> (first | rfl | omega | decide))) ?_)
              | fail)

            all_goals (exact ⟨⟨(i + 1, (W (W (10 * a) + dg u[i]), true, false)), by first | omega | simp | exact ⟨by omega, by omega⟩, .inl ⟨by first | omega | (simp; omega), rfl, hg⟩⟩, by simp [Vs.LeL, Vs.look, Vs.hlook, Vs.sput, Vs.sputs, Vs.hset, Vs.hputs], by simp only; omega⟩)
      · have hiu : i = u.length := by omega
        subst hiu
        have hq : ((u.length : Int) == (u.length : Int)) = true := beq_iff_eq.2 rfl
        have hm : (E cI l).getD u.length [] = [.v (.int .i64 x)] := by rw [hm]; subst hl; simp
        rw [List.drop_length, nGo] at hg
        rw [← hg] at hF
        dsimp only at hF
        have hB : (bitsOp BinOp.and IntKind.i64 x 2 != 0) = nB x := rfl
        cases hn : nB x <;> simp only [hn, Bool.false_eq_true, if_false, if_true] at hb2
        · rw [hb2, hn] at hF
          by_cases hz : x = 0
          · have e1 : (x == 0) = true := beq_iff_eq.2 hz
            cases b with
            | false =>
              rw [if_pos ⟨hz, rfl, rfl⟩] at hF
              simp -dsimp only [go_sem, reduceIte, reduceCtorEq, Nat.reduceEqDiff, Nat.reduceLT, Nat.reduceLeDiff, Nat.reduceAdd, Nat.reduceMul, Nat.reduceSub, Int.reduceToNat, Int.reduceNeg, hm, hw, hq, e1, hB, hn, hw1]
              repeat' (first
                | (refine RgK.mk rfl ?_; simp -dsimp only [go_sem, reduceIte, reduceCtorEq, Nat.reduceEqDiff, Nat.reduceLT, Nat.reduceLeDiff, Nat.reduceAdd, Nat.reduceMul, Nat.reduceSub, Int.reduceToNat, Int.reduceNeg, hm, hw, hq, e1, hB, hn, hw1])
                | (refine Br.mk (fun h => ?_) (fun h => ?_) <;> simp -dsimp only [go_sem, reduceIte, reduceCtorEq, Nat.reduceEqDiff, Nat.reduceLT, Nat.reduceLeDiff, Nat.reduceAdd, Nat.reduceMul, Nat.reduceSub, Int.reduceToNat, Int.reduceNeg, h, hm, hw, hq, e1, hB, hn, hw1])
                | (refine CallK.flat (by first | exact l03Digit _) rfl ?_; simp -dsimp only [go_sem, reduceIte, reduceCtorEq, Nat.reduceEqDiff, Nat.reduceLT, Nat.reduceLeDiff, Nat.reduceAdd, Nat.reduceMul, Nat.reduceSub, Int.reduceToNat, Int.reduceNeg, hm, hw, hq, e1, hB, hn, hw1])
                | (refine CallK.pure (by first | exact l03Digit _) ?_; simp -dsimp only [go_sem, reduceIte, reduceCtorEq, Nat.reduceEqDiff, Nat.reduceLT, Nat.reduceLeDiff, Nat.reduceAdd, Nat.reduceMul, Nat.reduceSub, Int.reduceToNat, Int.reduceNeg, hm, hw, hq, e1, hB, hn, hw1])
                | (refine And.intro (by first | rfl | omega | decide | (refine ⟨?_, ?_⟩ <;> (first | rfl | omega | decide)) | (refine ⟨?_, ?_, ?_⟩ <;> (first | rfl | omega | decide)) | (refine ⟨?_, ?_, ?_, ?_⟩ <;> (first | rfl | omega | decide))) ?_)
                | fail)

              all_goals ((refine ⟨?_, fun h => absurd rfl h⟩); exact ⟨⟨(u.length + 1, (a, false, false)), by first | omega | simp | exact ⟨by omega, by omega⟩, .inr ⟨rfl, by first | (rw [hF]; done) | (rw [hF]; simp [finN])⟩⟩, by simp [Vs.LeL, Vs.look, Vs.hlook, Vs.sput, Vs.sputs, Vs.hset, Vs.hputs], by simp only; omega⟩)
            | true =>
              have hd : dg x = -1 := by rw [hz]; rfl
              rw [if_neg (by simp), if_pos (by omega)] at hF
              have e2 : decide (dg x < 0) = true := decide_eq_true (by omega)
              simp -dsimp only [go_sem, reduceIte, reduceCtorEq, Nat.reduceEqDiff, Nat.reduceLT, Nat.reduceLeDiff, Nat.reduceAdd, Nat.reduceMul, Nat.reduceSub, Int.reduceToNat, Int.reduceNeg, hm, hw, hq, e1, e2, hB, hn, hw1]
              repeat' (first
                | (refine RgK.mk rfl ?_; simp -dsimp only [go_sem, reduceIte, reduceCtorEq, Nat.reduceEqDiff, Nat.reduceLT, Nat.reduceLeDiff, Nat.reduceAdd, Nat.reduceMul, Nat.reduceSub, Int.reduceToNat, Int.reduceNeg, hm, hw, hq, e1, e2, hB, hn, hw1])
                | (refine Br.mk (fun h => ?_) (fun h => ?_) <;> simp -dsimp only [go_sem, reduceIte, reduceCtorEq, Nat.reduceEqDiff, Nat.reduceLT, Nat.reduceLeDiff, Nat.reduceAdd, Nat.reduceMul, Nat.reduceSub, Int.reduceToNat, Int.reduceNeg, h, hm, hw, hq, e1, e2, hB, hn, hw1])
                | (refine CallK.flat (by first | exact l03Digit _) rfl ?_; simp -dsimp only [go_sem, reduceIte, reduceCtorEq, Nat.reduceEqDiff, Nat.reduceLT, Nat.reduceLeDiff, Nat.reduceAdd, Nat.reduceMul, Nat.reduceSub, Int.reduceToNat, Int.reduceNeg, hm, hw, hq, e1, e2, hB, hn, hw1])
                | (refine CallK.pure (by first | exact l03Digit _) ?_; simp -dsimp only [go_sem, reduceIte, reduceCtorEq, Nat.reduceEqDiff, Nat.reduceLT, Nat.reduceLeDiff, Nat.reduceAdd, Nat.reduceMul, Nat.reduceSub, Int.reduceToNat, Int.reduceNeg, hm, hw, hq, e1, e2, hB, hn, hw1])
                | (refine And.intro (by first | rfl | omega | decide | (refine ⟨?_, ?_⟩ <;> (first | rfl | omega | decide)) | (refine ⟨?_, ?_, ?_⟩ <;> (first | rfl | omega | decide)) | (refine ⟨?_, ?_, ?_, ?_⟩ <;> (first | rfl | omega | decide))) ?_)
                | fail)

              all_goals simp [hF]
          · have e1 : (x == 0) = false := beq_eq_false_iff_ne.2 hz
            rw [if_neg (by simp [hz])] at hF
            by_cases hd : dg x < 0
            · rw [if_pos hd] at hF
              have e2 : decide (dg x < 0) = true := decide_eq_true hd
              simp -dsimp only [go_sem, reduceIte, reduceCtorEq, Nat.reduceEqDiff, Nat.reduceLT, Nat.reduceLeDiff, Nat.reduceAdd, Nat.reduceMul, Nat.reduceSub, Int.reduceToNat, Int.reduceNeg, hm, hw, hq, e1, e2, hB, hn, hw1]
              repeat' (first
                | (refine RgK.mk rfl ?_; simp -dsimp only [go_sem, reduceIte, reduceCtorEq, Nat.reduceEqDiff, Nat.reduceLT, Nat.reduceLeDiff, Nat.reduceAdd, Nat.reduceMul, Nat.reduceSub, Int.reduceToNat, Int.reduceNeg, hm, hw, hq, e1, e2, hB, hn, hw1])
                | (refine Br.mk (fun h => ?_) (fun h => ?_) <;> simp -dsimp only [go_sem, reduceIte, reduceCtorEq, Nat.reduceEqDiff, Nat.reduceLT, Nat.reduceLeDiff, Nat.reduceAdd, Nat.reduceMul, Nat.reduceSub, Int.reduceToNat, Int.reduceNeg, h, hm, hw, hq, e1, e2, hB, hn, hw1])
                | (refine CallK.flat (by first | exact l03Digit _) rfl ?_; simp -dsimp only [go_sem, reduceIte, reduceCtorEq, Nat.reduceEqDiff, Nat.reduceLT, Nat.reduceLeDiff, Nat.reduceAdd, Nat.reduceMul, Nat.reduceSub, Int.reduceToNat, Int.reduceNeg, hm, hw, hq, e1, e2, hB, hn, hw1])
                | (refine CallK.pure (by first | exact l03Digit _) ?_; simp -dsimp only [go_sem, reduceIte, reduceCtorEq, Nat.reduceEqDiff, Nat.reduceLT, Nat.reduceLeDiff, Nat.reduceAdd, Nat.reduceMul, Nat.reduceSub, Int.reduceToNat, Int.reduceNeg, hm, hw, hq, e1, e2, hB, hn, hw1])
                | (refine And.intro (by first | rfl | omega | decide | (refine ⟨?_, ?_⟩ <;> (first | rfl | omega | decide)) | (refine ⟨?_, ?_, ?_⟩ <;> (first | rfl | omega | decide)) | (refine ⟨?_, ?_, ?_, ?_⟩ <;> (first | rfl | omega | decide))) ?_)
                | fail)

              all_goals simp [hF]
            · rw [if_neg hd] at hF
              have e2 : decide (dg x < 0) = false := decide_eq_false hd
              simp -dsimp only [go_sem, reduceIte, reduceCtorEq, Nat.reduceEqDiff, Nat.reduceLT, Nat.reduceLeDiff, Nat.reduceAdd, Nat.reduceMul, Nat.reduceSub, Int.reduceToNat, Int.reduceNeg, hm, hw, hq, e1, e2, hB, hn, hw1]
              repeat' (first
                | (refine RgK.mk rfl ?_; simp -dsimp only [go_sem, reduceIte, reduceCtorEq, Nat.reduceEqDiff, Nat.reduceLT, Nat.reduceLeDiff, Nat.reduceAdd, Nat.reduceMul, Nat.reduceSub, Int.reduceToNat, Int.reduceNeg, hm, hw, hq, e1, e2, hB, hn, hw1])
                | (refine Br.mk (fun h => ?_) (fun h => ?_) <;> simp -dsimp only [go_sem, reduceIte, reduceCtorEq, Nat.reduceEqDiff, Nat.reduceLT, Nat.reduceLeDiff, Nat.reduceAdd, Nat.reduceMul, Nat.reduceSub, Int.reduceToNat, Int.reduceNeg, h, hm, hw, hq, e1, e2, hB, hn, hw1])
                | (refine CallK.flat (by first | exact l03Digit _) rfl ?_; simp -dsimp only [go_sem, reduceIte, reduceCtorEq, Nat.reduceEqDiff, Nat.reduceLT, Nat.reduceLeDiff, Nat.reduceAdd, Nat.reduceMul, Nat.reduceSub, Int.reduceToNat, Int.reduceNeg, hm, hw, hq, e1, e2, hB, hn, hw1])
                | (refine CallK.pure (by first | exact l03Digit _) ?_; simp -dsimp only [go_sem, reduceIte, reduceCtorEq, Nat.reduceEqDiff, Nat.reduceLT, Nat.reduceLeDiff, Nat.reduceAdd, Nat.reduceMul, Nat.reduceSub, Int.reduceToNat, Int.reduceNeg, hm, hw, hq, e1, e2, hB, hn, hw1])
                | (refine And.intro (by first | rfl | omega | decide | (refine ⟨?_, ?_⟩ <;> (first | rfl | omega | decide)) | (refine ⟨?_, ?_, ?_⟩ <;> (first | rfl | omega | decide)) | (refine ⟨?_, ?_, ?_, ?_⟩ <;> (first | rfl | omega | decide))) ?_)
                | fail)

              all_goals (exact ⟨⟨(u.length + 1, (W (W (10 * a) + dg x), true, false)), by first | omega | simp | exact ⟨by omega, by omega⟩, .inr ⟨rfl, by first | (rw [hF]; done) | (rw [hF]; simp [finN])⟩⟩, by simp [Vs.LeL, Vs.look, Vs.hlook, Vs.sput, Vs.sputs, Vs.hset, Vs.hputs], by simp only; omega⟩)
        · obtain ⟨hb2, hx2⟩ := hb2
          rw [hb2, hn] at hF
          rw [if_neg (by simp)] at hF
          have hw2 : IntKind.i64.wrap (x - 2) = x - 2 := wrap_in (by omega) (by omega)
          by_cases hd : dg (x - 2) < 0
          · rw [if_pos hd] at hF
            have e2 : decide (dg (x - 2) < 0) = true := decide_eq_true hd
            cases e1 : (x - 2 == 0) <;> cases b
            all_goals
              simp -dsimp only [go_sem, reduceIte, reduceCtorEq, Nat.reduceEqDiff, Nat.reduceLT, Nat.reduceLeDiff, Nat.reduceAdd, Nat.reduceMul, Nat.reduceSub, Int.reduceToNat, Int.reduceNeg, hm, hw, hq, hw2, e1, e2, hB, hn, hw1]
              repeat' (first
                | (refine RgK.mk rfl ?_; simp -dsimp only [go_sem, reduceIte, reduceCtorEq, Nat.reduceEqDiff, Nat.reduceLT, Nat.reduceLeDiff, Nat.reduceAdd, Nat.reduceMul, Nat.reduceSub, Int.reduceToNat, Int.reduceNeg, hm, hw, hq, hw2, e1, e2, hB, hn, hw1])
                | (refine Br.mk (fun h => ?_) (fun h => ?_) <;> simp -dsimp only [go_sem, reduceIte, reduceCtorEq, Nat.reduceEqDiff, Nat.reduceLT, Nat.reduceLeDiff, Nat.reduceAdd, Nat.reduceMul, Nat.reduceSub, Int.reduceToNat, Int.reduceNeg, h, hm, hw, hq, hw2, e1, e2, hB, hn, hw1])
                | (refine CallK.flat (by first | exact l03Digit _) rfl ?_; simp -dsimp only [go_sem, reduceIte, reduceCtorEq, Nat.reduceEqDiff, Nat.reduceLT, Nat.reduceLeDiff, Nat.reduceAdd, Nat.reduceMul, Nat.reduceSub, Int.reduceToNat, Int.reduceNeg, hm, hw, hq, hw2, e1, e2, hB, hn, hw1])
                | (refine CallK.pure (by first | exact l03Digit _) ?_; simp -dsimp only [go_sem, reduceIte, reduceCtorEq, Nat.reduceEqDiff, Nat.reduceLT, Nat.reduceLeDiff, Nat.reduceAdd, Nat.reduceMul, Nat.reduceSub, Int.reduceToNat, Int.reduceNeg, hm, hw, hq, hw2, e1, e2, hB, hn, hw1])
                | (refine And.intro (by first | rfl | omega | decide | (refine ⟨?_, ?_⟩ <;> (first | rfl | omega | decide)) | (refine ⟨?_, ?_, ?_⟩ <;> (first | rfl | omega | decide)) | (refine ⟨?_, ?_, ?_, ?_⟩ <;> (first | rfl | omega | decide))) ?_)
                | fail)

              all_goals simp [hF]
          · rw [if_neg hd] at hF
            have e2 : decide (dg (x - 2) < 0) = false := decide_eq_false hd
            cases e1 : (x - 2 == 0) <;> cases b
            all_goals
              simp -dsimp only [go_sem, reduceIte, reduceCtorEq, Nat.reduceEqDiff, Nat.reduceLT, Nat.reduceLeDiff, Nat.reduceAdd, Nat.reduceMul, Nat.reduceSub, Int.reduceToNat, Int.reduceNeg, hm, hw, hq, hw2, e1, e2, hB, hn, hw1]
              repeat' (first
                | (refine RgK.mk rfl ?_; simp -dsimp only [go_sem, reduceIte, reduceCtorEq, Nat.reduceEqDiff, Nat.reduceLT, Nat.reduceLeDiff, Nat.reduceAdd, Nat.reduceMul, Nat.reduceSub, Int.reduceToNat, Int.reduceNeg, hm, hw, hq, hw2, e1, e2, hB, hn, hw1])
                | (refine Br.mk (fun h => ?_) (fun h => ?_) <;> simp -dsimp only [go_sem, reduceIte, reduceCtorEq, Nat.reduceEqDiff, Nat.reduceLT, Nat.reduceLeDiff, Nat.reduceAdd, Nat.reduceMul, Nat.reduceSub, Int.reduceToNat, Int.reduceNeg, h, hm, hw, hq, hw2, e1, e2, hB, hn, hw1])
                | (refine CallK.flat (by first | exact l03Digit _) rfl ?_; simp -dsimp only [go_sem, reduceIte, reduceCtorEq, Nat.reduceEqDiff, Nat.reduceLT, Nat.reduceLeDiff, Nat.reduceAdd, Nat.reduceMul, Nat.reduceSub, Int.reduceToNat, Int.reduceNeg, hm, hw, hq, hw2, e1, e2, hB, hn, hw1])
                | (refine CallK.pure (by first | exact l03Digit _) ?_; simp -dsimp only [go_sem, reduceIte, reduceCtorEq, Nat.reduceEqDiff, Nat.reduceLT, Nat.reduceLeDiff, Nat.reduceAdd, Nat.reduceMul, Nat.reduceSub, Int.reduceToNat, Int.reduceNeg, hm, hw, hq, hw2, e1, e2, hB, hn, hw1])
                | (refine And.intro (by first | rfl | omega | decide | (refine ⟨?_, ?_⟩ <;> (first | rfl | omega | decide)) | (refine ⟨?_, ?_, ?_⟩ <;> (first | rfl | omega | decide)) | (refine ⟨?_, ?_, ?_, ?_⟩ <;> (first | rfl | omega | decide))) ?_)
                | fail)

              all_goals (exact ⟨⟨(u.length + 1, (W (W (10 * a) + dg (x - 2)), true, true)), by first | omega | simp | exact ⟨by omega, by omega⟩, .inr ⟨rfl, by first | (rw [hF]; done) | (rw [hF]; simp [finN])⟩⟩, by simp [Vs.LeL, Vs.look, Vs.hlook, Vs.sput, Vs.sputs, Vs.hset, Vs.hputs], by simp only; omega⟩)
    · have hge : i = l.length := by
        have : ¬ i < l.length := by simpa using hc
        omega
      subst hge
      simp -dsimp only [go_sem, reduceIte, reduceCtorEq, Nat.reduceEqDiff, Nat.reduceLT, Nat.reduceLeDiff, Nat.reduceAdd, Nat.reduceMul, Nat.reduceSub, Int.reduceToNat, Int.reduceNeg, hw1]
      rcases hg with ⟨h3, _⟩ | ⟨_, hg⟩
      · omega
      cases m
      all_goals
        simp -dsimp only [go_sem, reduceIte, reduceCtorEq, Nat.reduceEqDiff, Nat.reduceLT, Nat.reduceLeDiff, Nat.reduceAdd, Nat.reduceMul, Nat.reduceSub, Int.reduceToNat, Int.reduceNeg, hw1]
      all_goals simp [← hg, finN]
end Go.Proofs.YtgeeipfdkamhmaaGreatDoor
