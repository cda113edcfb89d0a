/- CalculateCard, of the reference and of the program. -/
import Derived.Test.YthpokkcbbpapdaaDoorTwXm
namespace Go.Proofs.YthpokkcbbpapdaaDoor
open Go.Vs
set_option linter.unusedSimpArgs false
set_option linter.unusedVariables false
attribute [local irreducible] Vs.Fn

def ccB (k : Int) (p q t : Int × Int) (c : List Int) : Bool := inB k 1 4 && allP [p, q, t] c.length
def ccW (t : Int × Int) : Nat := (t.2 - t.1).toNat
/-- the code that CalculateCard gives -/
def ccC (k : Int) (p q t : Int × Int) (c : List Int) : Int := if cardB c then (if ccB k p q t c then cdC k p q t.1.toNat (ccW t) c else 2) else 1
def ccH (k : Int) (p q t : Int × Int) (c : List Int) : List Int := cdH k p q t.1.toNat (ccW t) c
theorem okP_card {c : List Int} {fr to : Int} (hd : cardB c = true) (hn : numB fr to c.length = true) : okP fr to c := by
  simp only [cardB, inB, Bool.and_eq_true, List.all_eq_true, decide_eq_true_eq] at hd
  simp only [numB, fldB, Bool.and_eq_true, decide_eq_true_eq] at hn
  obtain ⟨⟨h1, h2, h3⟩, h4⟩ := hn
  obtain ⟨h5, h6, h7⟩ := hd
  have hw : W (to - fr) = to - fr := wrap_in (by omega) (by omega)
  rw [hw] at h4
  exact ⟨h1, h2, h3, h4, by omega, fun x hx => h5 x hx⟩
theorem cc_ok {k : Int} {p q t : Int × Int} {c : List Int} (hd : cardB c = true) (hk : ccB k p q t c = true) : inB k 1 4 = true ∧ allP [p, q, t] c.length = true ∧ okP p.1 p.2 c ∧ okP q.1 q.2 c ∧
    ∃ fr w : Nat, t = ((fr : Int), ((fr + w : Nat) : Int)) ∧ t.1.toNat = fr ∧ ccW t = w ∧ fr + w ≤ c.length ∧ 0 < w ∧ w ≤ 12 := by
  simp only [ccB, Bool.and_eq_true] at hk
  have h := hk.2
  simp only [allP, List.all_cons, List.all_nil, Bool.and_true, Bool.and_eq_true] at h
  obtain ⟨h1, h2, h3⟩ := h
  have ht := okP_card hd h3
  obtain ⟨a1, a2, a3, a4, _, _⟩ := ht
  refine ⟨hk.1, hk.2, okP_card hd h1, okP_card hd h2, t.1.toNat, ccW t, ?_, rfl, rfl, ?_, ?_, ?_⟩
  · obtain ⟨t1, t2⟩ := t
    simp only [ccW] at *
    rw [Prod.mk.injEq]
    exact ⟨by omega, by omega⟩
  · unfold ccW; omega
  · unfold ccW; omega
  · unfold ccW; omega
theorem card20 {c : List Int} (hd : cardB c = true) : c.length ≤ 20 := by
  simp only [cardB, inB, Bool.and_eq_true, decide_eq_true_eq] at hd
  omega
set_option maxRecDepth 20000 in
set_option maxHeartbeats 1000000 in
theorem spec_CC0 (k : Int) (p q t : Int × Int) (c : List Int) (hc : c.length ≤ 1048576) (h0 : ccC k p q t c ≠ 0) : Vs.Fn Tryd.prog F.spec_CalculateCard [] [.v (.int .i64 k), .agg (cC c), .agg (cP p), .agg (cP q), .agg (cP t)] (.tup [.agg [.v (.slice none 0 0)], .v (.int .i64 (ccC k p q t c))]) [] := by
  have hl3 : [p, q, t].length ≤ 1048576 := by simp
  have e2 : ((2 : Int) != 0) = true := rfl
  cases hd : cardB c
  · have hC : ccC k p q t c = 1 := by simp [ccC, hd]
    rw [hC]
    refine Cd.spec_CalculateCard_ok.fn0 Tryd.mixed Cd.spec_CalculateCard_nt Cd.spec_CalculateCard_rs rfl fun X => ?_
    unfold Cd.spec_CalculateCard
    simp -dsimp only [go_sem, reduceIte, reduceCtorEq, Nat.reduceEqDiff, Nat.reduceLT, Nat.reduceLeDiff, Nat.reduceAdd, Nat.reduceMul, Nat.reduceSub, Int.reduceToNat, Int.reduceNeg, cC, cP, cFd, cT3, List.mem_singleton, Name.t.injEq, false_and, Blk.row, List.replicate_succ, List.replicate_zero, List.flatten_cons, List.flatten_nil, List.cons_append, List.nil_append, List.set_cons_zero, List.set_cons_succ, List.length_cons, List.length_nil, List.length_set, E_len, hd]
    repeat' (first
      | (refine RgK.mk rfl ?_; simp -dsimp only [go_sem, reduceIte, reduceCtorEq, Nat.reduceEqDiff, Nat.reduceLT, Nat.reduceLeDiff, Nat.reduceAdd, Nat.reduceMul, Nat.reduceSub, Int.reduceToNat, Int.reduceNeg, cC, cP, cFd, cT3, List.mem_singleton, Name.t.injEq, false_and, Blk.row, List.replicate_succ, List.replicate_zero, List.flatten_cons, List.flatten_nil, List.cons_append, List.nil_append, List.set_cons_zero, List.set_cons_succ, List.length_cons, List.length_nil, List.length_set, E_len, hd])
      | (refine Br.mk (fun h => ?_) (fun h => ?_) <;> simp -dsimp only [go_sem, reduceIte, reduceCtorEq, Nat.reduceEqDiff, Nat.reduceLT, Nat.reduceLeDiff, Nat.reduceAdd, Nat.reduceMul, Nat.reduceSub, Int.reduceToNat, Int.reduceNeg, h, cC, cP, cFd, cT3, List.mem_singleton, Name.t.injEq, false_and, Blk.row, List.replicate_succ, List.replicate_zero, List.flatten_cons, List.flatten_nil, List.cons_append, List.nil_append, List.set_cons_zero, List.set_cons_succ, List.length_cons, List.length_nil, List.length_set, E_len, hd])
      | (refine CallK.flat (by first | exact l02Ok c hc | exact l14Kind k | exact l14Fields [p, q, t] (c.length : Int) hl3 | exact l14Fields [p, q, ((fr : Int), ((fr + w : Nat) : Int))] (c.length : Int) hl3) rfl ?_; simp -dsimp only [go_sem, reduceIte, reduceCtorEq, Nat.reduceEqDiff, Nat.reduceLT, Nat.reduceLeDiff, Nat.reduceAdd, Nat.reduceMul, Nat.reduceSub, Int.reduceToNat, Int.reduceNeg, cC, cP, cFd, cT3, List.mem_singleton, Name.t.injEq, false_and, Blk.row, List.replicate_succ, List.replicate_zero, List.flatten_cons, List.flatten_nil, List.cons_append, List.nil_append, List.set_cons_zero, List.set_cons_succ, List.length_cons, List.length_nil, List.length_set, E_len, hd])
      | (refine CallK.pure (by first | exact l02Ok c hc | exact l14Kind k | exact l14Fields [p, q, t] (c.length : Int) hl3 | exact l14Fields [p, q, ((fr : Int), ((fr + w : Nat) : Int))] (c.length : Int) hl3) ?_; simp -dsimp only [go_sem, reduceIte, reduceCtorEq, Nat.reduceEqDiff, Nat.reduceLT, Nat.reduceLeDiff, Nat.reduceAdd, Nat.reduceMul, Nat.reduceSub, Int.reduceToNat, Int.reduceNeg, cC, cP, cFd, cT3, List.mem_singleton, Name.t.injEq, false_and, Blk.row, List.replicate_succ, List.replicate_zero, List.flatten_cons, List.flatten_nil, List.cons_append, List.nil_append, List.set_cons_zero, List.set_cons_succ, List.length_cons, List.length_nil, List.length_set, E_len, hd])
      | (refine And.intro (by first | rfl | omega | decide | (refine ⟨?_, ?_⟩ <;> (first | rfl | omega | decide)) | (refine ⟨?_, ?_, ?_⟩ <;> (first | rfl | omega | decide)) | (refine ⟨?_, ?_, ?_, ?_⟩ <;> (first | rfl | omega | decide))) ?_)
      | fail)
    all_goals exact ⟨_, _, rfl, rfl⟩
  · cases hb : ccB k p q t c
    · have hC : ccC k p q t c = 2 := by simp [ccC, hd, hb]
      rw [hC]
      cases hk1 : inB k 1 4
      · refine Cd.spec_CalculateCard_ok.fn0 Tryd.mixed Cd.spec_CalculateCard_nt Cd.spec_CalculateCard_rs rfl fun X => ?_
        unfold Cd.spec_CalculateCard
        simp -dsimp only [go_sem, reduceIte, reduceCtorEq, Nat.reduceEqDiff, Nat.reduceLT, Nat.reduceLeDiff, Nat.reduceAdd, Nat.reduceMul, Nat.reduceSub, Int.reduceToNat, Int.reduceNeg, cC, cP, cFd, cT3, List.mem_singleton, Name.t.injEq, false_and, Blk.row, List.replicate_succ, List.replicate_zero, List.flatten_cons, List.flatten_nil, List.cons_append, List.nil_append, List.set_cons_zero, List.set_cons_succ, List.length_cons, List.length_nil, List.length_set, E_len, hd]
        repeat' (first
          | (refine RgK.mk rfl ?_; simp -dsimp only [go_sem, reduceIte, reduceCtorEq, Nat.reduceEqDiff, Nat.reduceLT, Nat.reduceLeDiff, Nat.reduceAdd, Nat.reduceMul, Nat.reduceSub, Int.reduceToNat, Int.reduceNeg, cC, cP, cFd, cT3, List.mem_singleton, Name.t.injEq, false_and, Blk.row, List.replicate_succ, List.replicate_zero, List.flatten_cons, List.flatten_nil, List.cons_append, List.nil_append, List.set_cons_zero, List.set_cons_succ, List.length_cons, List.length_nil, List.length_set, E_len, hd, hk1, e2, Bool.false_and])
          | (refine Br.mk (fun h => ?_) (fun h => ?_) <;> simp -dsimp only [go_sem, reduceIte, reduceCtorEq, Nat.reduceEqDiff, Nat.reduceLT, Nat.reduceLeDiff, Nat.reduceAdd, Nat.reduceMul, Nat.reduceSub, Int.reduceToNat, Int.reduceNeg, h, cC, cP, cFd, cT3, List.mem_singleton, Name.t.injEq, false_and, Blk.row, List.replicate_succ, List.replicate_zero, List.flatten_cons, List.flatten_nil, List.cons_append, List.nil_append, List.set_cons_zero, List.set_cons_succ, List.length_cons, List.length_nil, List.length_set, E_len, hd, hk1, e2, Bool.false_and])
          | (refine CallK.flat (by first | exact l02Ok c hc | exact l14Kind k | exact l14Fields [p, q, t] (c.length : Int) hl3 | exact l14Fields [p, q, ((fr : Int), ((fr + w : Nat) : Int))] (c.length : Int) hl3) rfl ?_; simp -dsimp only [go_sem, reduceIte, reduceCtorEq, Nat.reduceEqDiff, Nat.reduceLT, Nat.reduceLeDiff, Nat.reduceAdd, Nat.reduceMul, Nat.reduceSub, Int.reduceToNat, Int.reduceNeg, cC, cP, cFd, cT3, List.mem_singleton, Name.t.injEq, false_and, Blk.row, List.replicate_succ, List.replicate_zero, List.flatten_cons, List.flatten_nil, List.cons_append, List.nil_append, List.set_cons_zero, List.set_cons_succ, List.length_cons, List.length_nil, List.length_set, E_len, hd, hk1, e2, Bool.false_and])
          | (refine CallK.pure (by first | exact l02Ok c hc | exact l14Kind k | exact l14Fields [p, q, t] (c.length : Int) hl3 | exact l14Fields [p, q, ((fr : Int), ((fr + w : Nat) : Int))] (c.length : Int) hl3) ?_; simp -dsimp only [go_sem, reduceIte, reduceCtorEq, Nat.reduceEqDiff, Nat.reduceLT, Nat.reduceLeDiff, Nat.reduceAdd, Nat.reduceMul, Nat.reduceSub, Int.reduceToNat, Int.reduceNeg, cC, cP, cFd, cT3, List.mem_singleton, Name.t.injEq, false_and, Blk.row, List.replicate_succ, List.replicate_zero, List.flatten_cons, List.flatten_nil, List.cons_append, List.nil_append, List.set_cons_zero, List.set_cons_succ, List.length_cons, List.length_nil, List.length_set, E_len, hd, hk1, e2, Bool.false_and])
          | (refine And.intro (by first | rfl | omega | decide | (refine ⟨?_, ?_⟩ <;> (first | rfl | omega | decide)) | (refine ⟨?_, ?_, ?_⟩ <;> (first | rfl | omega | decide)) | (refine ⟨?_, ?_, ?_, ?_⟩ <;> (first | rfl | omega | decide))) ?_)
          | fail)
        all_goals exact ⟨_, _, rfl, rfl⟩
      · have hk2 : allP [p, q, t] c.length = false := by simpa [ccB, hk1] using hb
        refine Cd.spec_CalculateCard_ok.fn0 Tryd.mixed Cd.spec_CalculateCard_nt Cd.spec_CalculateCard_rs rfl fun X => ?_
        unfold Cd.spec_CalculateCard
        simp -dsimp only [go_sem, reduceIte, reduceCtorEq, Nat.reduceEqDiff, Nat.reduceLT, Nat.reduceLeDiff, Nat.reduceAdd, Nat.reduceMul, Nat.reduceSub, Int.reduceToNat, Int.reduceNeg, cC, cP, cFd, cT3, List.mem_singleton, Name.t.injEq, false_and, Blk.row, List.replicate_succ, List.replicate_zero, List.flatten_cons, List.flatten_nil, List.cons_append, List.nil_append, List.set_cons_zero, List.set_cons_succ, List.length_cons, List.length_nil, List.length_set, E_len, hd]
        repeat' (first
          | (refine RgK.mk rfl ?_; simp -dsimp only [go_sem, reduceIte, reduceCtorEq, Nat.reduceEqDiff, Nat.reduceLT, Nat.reduceLeDiff, Nat.reduceAdd, Nat.reduceMul, Nat.reduceSub, Int.reduceToNat, Int.reduceNeg, cC, cP, cFd, cT3, List.mem_singleton, Name.t.injEq, false_and, Blk.row, List.replicate_succ, List.replicate_zero, List.flatten_cons, List.flatten_nil, List.cons_append, List.nil_append, List.set_cons_zero, List.set_cons_succ, List.length_cons, List.length_nil, List.length_set, E_len, hd, hk1, hk2, e2, Bool.and_false])
          | (refine Br.mk (fun h => ?_) (fun h => ?_) <;> simp -dsimp only [go_sem, reduceIte, reduceCtorEq, Nat.reduceEqDiff, Nat.reduceLT, Nat.reduceLeDiff, Nat.reduceAdd, Nat.reduceMul, Nat.reduceSub, Int.reduceToNat, Int.reduceNeg, h, cC, cP, cFd, cT3, List.mem_singleton, Name.t.injEq, false_and, Blk.row, List.replicate_succ, List.replicate_zero, List.flatten_cons, List.flatten_nil, List.cons_append, List.nil_append, List.set_cons_zero, List.set_cons_succ, List.length_cons, List.length_nil, List.length_set, E_len, hd, hk1, hk2, e2, Bool.and_false])
          | (refine CallK.flat (by first | exact l02Ok c hc | exact l14Kind k | exact l14Fields [p, q, t] (c.length : Int) hl3 | exact l14Fields [p, q, ((fr : Int), ((fr + w : Nat) : Int))] (c.length : Int) hl3) rfl ?_; simp -dsimp only [go_sem, reduceIte, reduceCtorEq, Nat.reduceEqDiff, Nat.reduceLT, Nat.reduceLeDiff, Nat.reduceAdd, Nat.reduceMul, Nat.reduceSub, Int.reduceToNat, Int.reduceNeg, cC, cP, cFd, cT3, List.mem_singleton, Name.t.injEq, false_and, Blk.row, List.replicate_succ, List.replicate_zero, List.flatten_cons, List.flatten_nil, List.cons_append, List.nil_append, List.set_cons_zero, List.set_cons_succ, List.length_cons, List.length_nil, List.length_set, E_len, hd, hk1, hk2, e2, Bool.and_false])
          | (refine CallK.pure (by first | exact l02Ok c hc | exact l14Kind k | exact l14Fields [p, q, t] (c.length : Int) hl3 | exact l14Fields [p, q, ((fr : Int), ((fr + w : Nat) : Int))] (c.length : Int) hl3) ?_; simp -dsimp only [go_sem, reduceIte, reduceCtorEq, Nat.reduceEqDiff, Nat.reduceLT, Nat.reduceLeDiff, Nat.reduceAdd, Nat.reduceMul, Nat.reduceSub, Int.reduceToNat, Int.reduceNeg, cC, cP, cFd, cT3, List.mem_singleton, Name.t.injEq, false_and, Blk.row, List.replicate_succ, List.replicate_zero, List.flatten_cons, List.flatten_nil, List.cons_append, List.nil_append, List.set_cons_zero, List.set_cons_succ, List.length_cons, List.length_nil, List.length_set, E_len, hd, hk1, hk2, e2, Bool.and_false])
          | (refine And.intro (by first | rfl | omega | decide | (refine ⟨?_, ?_⟩ <;> (first | rfl | omega | decide)) | (refine ⟨?_, ?_, ?_⟩ <;> (first | rfl | omega | decide)) | (refine ⟨?_, ?_, ?_, ?_⟩ <;> (first | rfl | omega | decide))) ?_)
          | fail)
        all_goals exact ⟨_, _, rfl, rfl⟩
    · obtain ⟨hk1, hk2, hp, hq, fr, w, ht, ht1, ht2, hf, hw0, hw12⟩ := cc_ok hd hb
      have hC : ccC k p q t c = cdC k p q fr w c := by simp [ccC, hd, hb, ht1, ht2]
      rw [hC] at h0 ⊢
      subst ht
      have hn0 : (cdC k p q fr w c != 0) = true := by simp [h0]
      refine Cd.spec_CalculateCard_ok.fn0 Tryd.mixed Cd.spec_CalculateCard_nt Cd.spec_CalculateCard_rs rfl fun X => ?_
      unfold Cd.spec_CalculateCard
      simp -dsimp only [go_sem, reduceIte, reduceCtorEq, Nat.reduceEqDiff, Nat.reduceLT, Nat.reduceLeDiff, Nat.reduceAdd, Nat.reduceMul, Nat.reduceSub, Int.reduceToNat, Int.reduceNeg, cC, cP, cFd, cT3, List.mem_singleton, Name.t.injEq, false_and, Blk.row, List.replicate_succ, List.replicate_zero, List.flatten_cons, List.flatten_nil, List.cons_append, List.nil_append, List.set_cons_zero, List.set_cons_succ, List.length_cons, List.length_nil, List.length_set, E_len, hd]
      repeat' (first
        | (refine RgK.mk rfl ?_; simp -dsimp only [go_sem, reduceIte, reduceCtorEq, Nat.reduceEqDiff, Nat.reduceLT, Nat.reduceLeDiff, Nat.reduceAdd, Nat.reduceMul, Nat.reduceSub, Int.reduceToNat, Int.reduceNeg, cC, cP, cFd, cT3, List.mem_singleton, Name.t.injEq, false_and, Blk.row, List.replicate_succ, List.replicate_zero, List.flatten_cons, List.flatten_nil, List.cons_append, List.nil_append, List.set_cons_zero, List.set_cons_succ, List.length_cons, List.length_nil, List.length_set, E_len, hd, hk1, hk2, Bool.and_true, hn0])
        | (refine Br.mk (fun h => ?_) (fun h => ?_) <;> simp -dsimp only [go_sem, reduceIte, reduceCtorEq, Nat.reduceEqDiff, Nat.reduceLT, Nat.reduceLeDiff, Nat.reduceAdd, Nat.reduceMul, Nat.reduceSub, Int.reduceToNat, Int.reduceNeg, h, cC, cP, cFd, cT3, List.mem_singleton, Name.t.injEq, false_and, Blk.row, List.replicate_succ, List.replicate_zero, List.flatten_cons, List.flatten_nil, List.cons_append, List.nil_append, List.set_cons_zero, List.set_cons_succ, List.length_cons, List.length_nil, List.length_set, E_len, hd, hk1, hk2, Bool.and_true, hn0])
        | (refine CallK.flat (by first | exact l02Ok c hc | exact l14Kind k | exact l14Fields [p, q, t] (c.length : Int) hl3 | exact l14Fields [p, q, ((fr : Int), ((fr + w : Nat) : Int))] (c.length : Int) hl3 | exact l14Card0 k p q fr w c hp hq hf hw0 hw12 (card20 hd) h0) rfl ?_; simp -dsimp only [go_sem, reduceIte, reduceCtorEq, Nat.reduceEqDiff, Nat.reduceLT, Nat.reduceLeDiff, Nat.reduceAdd, Nat.reduceMul, Nat.reduceSub, Int.reduceToNat, Int.reduceNeg, cC, cP, cFd, cT3, List.mem_singleton, Name.t.injEq, false_and, Blk.row, List.replicate_succ, List.replicate_zero, List.flatten_cons, List.flatten_nil, List.cons_append, List.nil_append, List.set_cons_zero, List.set_cons_succ, List.length_cons, List.length_nil, List.length_set, E_len, hd, hk1, hk2, Bool.and_true, hn0])
        | (refine CallK.pure (by first | exact l02Ok c hc | exact l14Kind k | exact l14Fields [p, q, t] (c.length : Int) hl3 | exact l14Fields [p, q, ((fr : Int), ((fr + w : Nat) : Int))] (c.length : Int) hl3 | exact l14Card0 k p q fr w c hp hq hf hw0 hw12 (card20 hd) h0) ?_; simp -dsimp only [go_sem, reduceIte, reduceCtorEq, Nat.reduceEqDiff, Nat.reduceLT, Nat.reduceLeDiff, Nat.reduceAdd, Nat.reduceMul, Nat.reduceSub, Int.reduceToNat, Int.reduceNeg, cC, cP, cFd, cT3, List.mem_singleton, Name.t.injEq, false_and, Blk.row, List.replicate_succ, List.replicate_zero, List.flatten_cons, List.flatten_nil, List.cons_append, List.nil_append, List.set_cons_zero, List.set_cons_succ, List.length_cons, List.length_nil, List.length_set, E_len, hd, hk1, hk2, Bool.and_true, hn0])
        | (refine And.intro (by first | rfl | omega | decide | (refine ⟨?_, ?_⟩ <;> (first | rfl | omega | decide)) | (refine ⟨?_, ?_, ?_⟩ <;> (first | rfl | omega | decide)) | (refine ⟨?_, ?_, ?_, ?_⟩ <;> (first | rfl | omega | decide))) ?_)
        | fail)
      all_goals exact ⟨_, _, rfl, rfl⟩
set_option maxRecDepth 20000 in
set_option maxHeartbeats 1000000 in
theorem spec_CC1 (k : Int) (p q t : Int × Int) (c : List Int) (hc : c.length ≤ 1048576) (h0 : ccC k p q t c = 0) : Vs.Fn Tryd.prog F.spec_CalculateCard [] [.v (.int .i64 k), .agg (cC c), .agg (cP p), .agg (cP q), .agg (cP t)] (.tup [.agg (cC (ccH k p q t c)), .v (.int .i64 0)]) [] := by
  have hl3 : [p, q, t].length ≤ 1048576 := by simp
  have hd : cardB c = true := by
    cases h : cardB c
    · exact absurd h0 (by simp [ccC, h])
    · rfl
  have hb : ccB k p q t c = true := by
    cases h : ccB k p q t c
    · exact absurd h0 (by simp [ccC, hd, h])
    · rfl
  obtain ⟨hk1, hk2, hp, hq, fr, w, ht, ht1, ht2, hf, hw0, hw12⟩ := cc_ok hd hb
  have hC : ccC k p q t c = cdC k p q fr w c := by simp [ccC, hd, hb, ht1, ht2]
  have hH : ccH k p q t c = cdH k p q fr w c := by simp only [ccH, ht1, ht2]
  rw [hC] at h0
  subst ht
  refine Cd.spec_CalculateCard_ok.fn0 Tryd.mixed Cd.spec_CalculateCard_nt Cd.spec_CalculateCard_rs rfl fun X => ?_
  unfold Cd.spec_CalculateCard
  simp -dsimp only [go_sem, reduceIte, reduceCtorEq, Nat.reduceEqDiff, Nat.reduceLT, Nat.reduceLeDiff, Nat.reduceAdd, Nat.reduceMul, Nat.reduceSub, Int.reduceToNat, Int.reduceNeg, cC, cP, cFd, cT3, List.mem_singleton, Name.t.injEq, false_and, Blk.row, List.replicate_succ, List.replicate_zero, List.flatten_cons, List.flatten_nil, List.cons_append, List.nil_append, List.set_cons_zero, List.set_cons_succ, List.length_cons, List.length_nil, List.length_set, E_len, hd]
  repeat' (first
    | (refine RgK.mk rfl ?_; simp -dsimp only [go_sem, reduceIte, reduceCtorEq, Nat.reduceEqDiff, Nat.reduceLT, Nat.reduceLeDiff, Nat.reduceAdd, Nat.reduceMul, Nat.reduceSub, Int.reduceToNat, Int.reduceNeg, cC, cP, cFd, cT3, List.mem_singleton, Name.t.injEq, false_and, Blk.row, List.replicate_succ, List.replicate_zero, List.flatten_cons, List.flatten_nil, List.cons_append, List.nil_append, List.set_cons_zero, List.set_cons_succ, List.length_cons, List.length_nil, List.length_set, E_len, hd, hk1, hk2, Bool.and_true])
    | (refine Br.mk (fun h => ?_) (fun h => ?_) <;> simp -dsimp only [go_sem, reduceIte, reduceCtorEq, Nat.reduceEqDiff, Nat.reduceLT, Nat.reduceLeDiff, Nat.reduceAdd, Nat.reduceMul, Nat.reduceSub, Int.reduceToNat, Int.reduceNeg, h, cC, cP, cFd, cT3, List.mem_singleton, Name.t.injEq, false_and, Blk.row, List.replicate_succ, List.replicate_zero, List.flatten_cons, List.flatten_nil, List.cons_append, List.nil_append, List.set_cons_zero, List.set_cons_succ, List.length_cons, List.length_nil, List.length_set, E_len, hd, hk1, hk2, Bool.and_true])
    | (refine CallK.flat (by first | exact l02Ok c hc | exact l14Kind k | exact l14Fields [p, q, t] (c.length : Int) hl3 | exact l14Fields [p, q, ((fr : Int), ((fr + w : Nat) : Int))] (c.length : Int) hl3 | exact l14Card1 k p q fr w c hp hq hf hw0 hw12 (card20 hd) h0) rfl ?_; simp -dsimp only [go_sem, reduceIte, reduceCtorEq, Nat.reduceEqDiff, Nat.reduceLT, Nat.reduceLeDiff, Nat.reduceAdd, Nat.reduceMul, Nat.reduceSub, Int.reduceToNat, Int.reduceNeg, cC, cP, cFd, cT3, List.mem_singleton, Name.t.injEq, false_and, Blk.row, List.replicate_succ, List.replicate_zero, List.flatten_cons, List.flatten_nil, List.cons_append, List.nil_append, List.set_cons_zero, List.set_cons_succ, List.length_cons, List.length_nil, List.length_set, E_len, hd, hk1, hk2, Bool.and_true])
    | (refine CallK.pure (by first | exact l02Ok c hc | exact l14Kind k | exact l14Fields [p, q, t] (c.length : Int) hl3 | exact l14Fields [p, q, ((fr : Int), ((fr + w : Nat) : Int))] (c.length : Int) hl3 | exact l14Card1 k p q fr w c hp hq hf hw0 hw12 (card20 hd) h0) ?_; simp -dsimp only [go_sem, reduceIte, reduceCtorEq, Nat.reduceEqDiff, Nat.reduceLT, Nat.reduceLeDiff, Nat.reduceAdd, Nat.reduceMul, Nat.reduceSub, Int.reduceToNat, Int.reduceNeg, cC, cP, cFd, cT3, List.mem_singleton, Name.t.injEq, false_and, Blk.row, List.replicate_succ, List.replicate_zero, List.flatten_cons, List.flatten_nil, List.cons_append, List.nil_append, List.set_cons_zero, List.set_cons_succ, List.length_cons, List.length_nil, List.length_set, E_len, hd, hk1, hk2, Bool.and_true])
    | (refine And.intro (by first | rfl | omega | decide | (refine ⟨?_, ?_⟩ <;> (first | rfl | omega | decide)) | (refine ⟨?_, ?_, ?_⟩ <;> (first | rfl | omega | decide)) | (refine ⟨?_, ?_, ?_, ?_⟩ <;> (first | rfl | omega | decide))) ?_)
    | fail)
  all_goals (rw [hH]; exact ⟨_, _, rfl, rfl⟩)
set_option maxRecDepth 20000 in
set_option maxHeartbeats 1000000 in
theorem impl_CC0 (k : Int) (p q t : Int × Int) (c : List Int) (hc : c.length ≤ 1048576) (h0 : ccC k p q t c ≠ 0) : Vs.Fn Tryd.prog F.impl_CalculateCard [] [.v (.int .i64 k), .agg (cC c), .agg (cP p), .agg (cP q), .agg (cP t)] (.tup [.agg [.v (.slice none 0 0)], .v (.int .i64 (ccC k p q t c))]) [] := by
  have hl3 : [p, q, t].length ≤ 1048576 := by simp
  have e2 : ((2 : Int) != 0) = true := rfl
  cases hd : cardB c
  · have hC : ccC k p q t c = 1 := by simp [ccC, hd]
    rw [hC]
    refine Cd.impl_CalculateCard_ok.fn0 Tryd.mixed Cd.impl_CalculateCard_nt Cd.impl_CalculateCard_rs rfl fun X => ?_
    unfold Cd.impl_CalculateCard
    simp -dsimp only [go_sem, reduceIte, reduceCtorEq, Nat.reduceEqDiff, Nat.reduceLT, Nat.reduceLeDiff, Nat.reduceAdd, Nat.reduceMul, Nat.reduceSub, Int.reduceToNat, Int.reduceNeg, cC, cP, cFd, cT3, List.mem_singleton, Name.t.injEq, false_and, Blk.row, List.replicate_succ, List.replicate_zero, List.flatten_cons, List.flatten_nil, List.cons_append, List.nil_append, List.set_cons_zero, List.set_cons_succ, List.length_cons, List.length_nil, List.length_set, E_len, hd]
    repeat' (first
      | (refine RgK.mk rfl ?_; simp -dsimp only [go_sem, reduceIte, reduceCtorEq, Nat.reduceEqDiff, Nat.reduceLT, Nat.reduceLeDiff, Nat.reduceAdd, Nat.reduceMul, Nat.reduceSub, Int.reduceToNat, Int.reduceNeg, cC, cP, cFd, cT3, List.mem_singleton, Name.t.injEq, false_and, Blk.row, List.replicate_succ, List.replicate_zero, List.flatten_cons, List.flatten_nil, List.cons_append, List.nil_append, List.set_cons_zero, List.set_cons_succ, List.length_cons, List.length_nil, List.length_set, E_len, hd])
      | (refine Br.mk (fun h => ?_) (fun h => ?_) <;> simp -dsimp only [go_sem, reduceIte, reduceCtorEq, Nat.reduceEqDiff, Nat.reduceLT, Nat.reduceLeDiff, Nat.reduceAdd, Nat.reduceMul, Nat.reduceSub, Int.reduceToNat, Int.reduceNeg, h, cC, cP, cFd, cT3, List.mem_singleton, Name.t.injEq, false_and, Blk.row, List.replicate_succ, List.replicate_zero, List.flatten_cons, List.flatten_nil, List.cons_append, List.nil_append, List.set_cons_zero, List.set_cons_succ, List.length_cons, List.length_nil, List.length_set, E_len, hd])
      | (refine CallK.flat (by first | exact validCard c hc | exact columns c | exact calcCode k (c.length : Int) [p, q, t] hl3 | exact calcCode k (c.length : Int) [p, q, ((fr : Int), ((fr + w : Nat) : Int))] hl3) rfl ?_; simp -dsimp only [go_sem, reduceIte, reduceCtorEq, Nat.reduceEqDiff, Nat.reduceLT, Nat.reduceLeDiff, Nat.reduceAdd, Nat.reduceMul, Nat.reduceSub, Int.reduceToNat, Int.reduceNeg, cC, cP, cFd, cT3, List.mem_singleton, Name.t.injEq, false_and, Blk.row, List.replicate_succ, List.replicate_zero, List.flatten_cons, List.flatten_nil, List.cons_append, List.nil_append, List.set_cons_zero, List.set_cons_succ, List.length_cons, List.length_nil, List.length_set, E_len, hd])
      | (refine CallK.pure (by first | exact validCard c hc | exact columns c | exact calcCode k (c.length : Int) [p, q, t] hl3 | exact calcCode k (c.length : Int) [p, q, ((fr : Int), ((fr + w : Nat) : Int))] hl3) ?_; simp -dsimp only [go_sem, reduceIte, reduceCtorEq, Nat.reduceEqDiff, Nat.reduceLT, Nat.reduceLeDiff, Nat.reduceAdd, Nat.reduceMul, Nat.reduceSub, Int.reduceToNat, Int.reduceNeg, cC, cP, cFd, cT3, List.mem_singleton, Name.t.injEq, false_and, Blk.row, List.replicate_succ, List.replicate_zero, List.flatten_cons, List.flatten_nil, List.cons_append, List.nil_append, List.set_cons_zero, List.set_cons_succ, List.length_cons, List.length_nil, List.length_set, E_len, hd])
      | (refine And.intro (by first | rfl | omega | decide | (refine ⟨?_, ?_⟩ <;> (first | rfl | omega | decide)) | (refine ⟨?_, ?_, ?_⟩ <;> (first | rfl | omega | decide)) | (refine ⟨?_, ?_, ?_, ?_⟩ <;> (first | rfl | omega | decide))) ?_)
      | fail)
    all_goals exact ⟨_, _, rfl, rfl⟩
  · cases hb : ccB k p q t c
    · have hC : ccC k p q t c = 2 := by simp [ccC, hd, hb]
      rw [hC]
      cases hk1 : inB k 1 4
      · refine Cd.impl_CalculateCard_ok.fn0 Tryd.mixed Cd.impl_CalculateCard_nt Cd.impl_CalculateCard_rs rfl fun X => ?_
        unfold Cd.impl_CalculateCard
        simp -dsimp only [go_sem, reduceIte, reduceCtorEq, Nat.reduceEqDiff, Nat.reduceLT, Nat.reduceLeDiff, Nat.reduceAdd, Nat.reduceMul, Nat.reduceSub, Int.reduceToNat, Int.reduceNeg, cC, cP, cFd, cT3, List.mem_singleton, Name.t.injEq, false_and, Blk.row, List.replicate_succ, List.replicate_zero, List.flatten_cons, List.flatten_nil, List.cons_append, List.nil_append, List.set_cons_zero, List.set_cons_succ, List.length_cons, List.length_nil, List.length_set, E_len, hd]
        repeat' (first
          | (refine RgK.mk rfl ?_; simp -dsimp only [go_sem, reduceIte, reduceCtorEq, Nat.reduceEqDiff, Nat.reduceLT, Nat.reduceLeDiff, Nat.reduceAdd, Nat.reduceMul, Nat.reduceSub, Int.reduceToNat, Int.reduceNeg, cC, cP, cFd, cT3, List.mem_singleton, Name.t.injEq, false_and, Blk.row, List.replicate_succ, List.replicate_zero, List.flatten_cons, List.flatten_nil, List.cons_append, List.nil_append, List.set_cons_zero, List.set_cons_succ, List.length_cons, List.length_nil, List.length_set, E_len, hd, hk1, e2, Bool.false_and])
          | (refine Br.mk (fun h => ?_) (fun h => ?_) <;> simp -dsimp only [go_sem, reduceIte, reduceCtorEq, Nat.reduceEqDiff, Nat.reduceLT, Nat.reduceLeDiff, Nat.reduceAdd, Nat.reduceMul, Nat.reduceSub, Int.reduceToNat, Int.reduceNeg, h, cC, cP, cFd, cT3, List.mem_singleton, Name.t.injEq, false_and, Blk.row, List.replicate_succ, List.replicate_zero, List.flatten_cons, List.flatten_nil, List.cons_append, List.nil_append, List.set_cons_zero, List.set_cons_succ, List.length_cons, List.length_nil, List.length_set, E_len, hd, hk1, e2, Bool.false_and])
          | (refine CallK.flat (by first | exact validCard c hc | exact columns c | exact calcCode k (c.length : Int) [p, q, t] hl3 | exact calcCode k (c.length : Int) [p, q, ((fr : Int), ((fr + w : Nat) : Int))] hl3) rfl ?_; simp -dsimp only [go_sem, reduceIte, reduceCtorEq, Nat.reduceEqDiff, Nat.reduceLT, Nat.reduceLeDiff, Nat.reduceAdd, Nat.reduceMul, Nat.reduceSub, Int.reduceToNat, Int.reduceNeg, cC, cP, cFd, cT3, List.mem_singleton, Name.t.injEq, false_and, Blk.row, List.replicate_succ, List.replicate_zero, List.flatten_cons, List.flatten_nil, List.cons_append, List.nil_append, List.set_cons_zero, List.set_cons_succ, List.length_cons, List.length_nil, List.length_set, E_len, hd, hk1, e2, Bool.false_and])
          | (refine CallK.pure (by first | exact validCard c hc | exact columns c | exact calcCode k (c.length : Int) [p, q, t] hl3 | exact calcCode k (c.length : Int) [p, q, ((fr : Int), ((fr + w : Nat) : Int))] hl3) ?_; simp -dsimp only [go_sem, reduceIte, reduceCtorEq, Nat.reduceEqDiff, Nat.reduceLT, Nat.reduceLeDiff, Nat.reduceAdd, Nat.reduceMul, Nat.reduceSub, Int.reduceToNat, Int.reduceNeg, cC, cP, cFd, cT3, List.mem_singleton, Name.t.injEq, false_and, Blk.row, List.replicate_succ, List.replicate_zero, List.flatten_cons, List.flatten_nil, List.cons_append, List.nil_append, List.set_cons_zero, List.set_cons_succ, List.length_cons, List.length_nil, List.length_set, E_len, hd, hk1, e2, Bool.false_and])
          | (refine And.intro (by first | rfl | omega | decide | (refine ⟨?_, ?_⟩ <;> (first | rfl | omega | decide)) | (refine ⟨?_, ?_, ?_⟩ <;> (first | rfl | omega | decide)) | (refine ⟨?_, ?_, ?_, ?_⟩ <;> (first | rfl | omega | decide))) ?_)
          | fail)
        all_goals exact ⟨_, _, rfl, rfl⟩
      · have hk2 : allP [p, q, t] c.length = false := by simpa [ccB, hk1] using hb
        refine Cd.impl_CalculateCard_ok.fn0 Tryd.mixed Cd.impl_CalculateCard_nt Cd.impl_CalculateCard_rs rfl fun X => ?_
        unfold Cd.impl_CalculateCard
        simp -dsimp only [go_sem, reduceIte, reduceCtorEq, Nat.reduceEqDiff, Nat.reduceLT, Nat.reduceLeDiff, Nat.reduceAdd, Nat.reduceMul, Nat.reduceSub, Int.reduceToNat, Int.reduceNeg, cC, cP, cFd, cT3, List.mem_singleton, Name.t.injEq, false_and, Blk.row, List.replicate_succ, List.replicate_zero, List.flatten_cons, List.flatten_nil, List.cons_append, List.nil_append, List.set_cons_zero, List.set_cons_succ, List.length_cons, List.length_nil, List.length_set, E_len, hd]
        repeat' (first
          | (refine RgK.mk rfl ?_; simp -dsimp only [go_sem, reduceIte, reduceCtorEq, Nat.reduceEqDiff, Nat.reduceLT, Nat.reduceLeDiff, Nat.reduceAdd, Nat.reduceMul, Nat.reduceSub, Int.reduceToNat, Int.reduceNeg, cC, cP, cFd, cT3, List.mem_singleton, Name.t.injEq, false_and, Blk.row, List.replicate_succ, List.replicate_zero, List.flatten_cons, List.flatten_nil, List.cons_append, List.nil_append, List.set_cons_zero, List.set_cons_succ, List.length_cons, List.length_nil, List.length_set, E_len, hd, hk1, hk2, e2, Bool.and_false])
          | (refine Br.mk (fun h => ?_) (fun h => ?_) <;> simp -dsimp only [go_sem, reduceIte, reduceCtorEq, Nat.reduceEqDiff, Nat.reduceLT, Nat.reduceLeDiff, Nat.reduceAdd, Nat.reduceMul, Nat.reduceSub, Int.reduceToNat, Int.reduceNeg, h, cC, cP, cFd, cT3, List.mem_singleton, Name.t.injEq, false_and, Blk.row, List.replicate_succ, List.replicate_zero, List.flatten_cons, List.flatten_nil, List.cons_append, List.nil_append, List.set_cons_zero, List.set_cons_succ, List.length_cons, List.length_nil, List.length_set, E_len, hd, hk1, hk2, e2, Bool.and_false])
          | (refine CallK.flat (by first | exact validCard c hc | exact columns c | exact calcCode k (c.length : Int) [p, q, t] hl3 | exact calcCode k (c.length : Int) [p, q, ((fr : Int), ((fr + w : Nat) : Int))] hl3) rfl ?_; simp -dsimp only [go_sem, reduceIte, reduceCtorEq, Nat.reduceEqDiff, Nat.reduceLT, Nat.reduceLeDiff, Nat.reduceAdd, Nat.reduceMul, Nat.reduceSub, Int.reduceToNat, Int.reduceNeg, cC, cP, cFd, cT3, List.mem_singleton, Name.t.injEq, false_and, Blk.row, List.replicate_succ, List.replicate_zero, List.flatten_cons, List.flatten_nil, List.cons_append, List.nil_append, List.set_cons_zero, List.set_cons_succ, List.length_cons, List.length_nil, List.length_set, E_len, hd, hk1, hk2, e2, Bool.and_false])
          | (refine CallK.pure (by first | exact validCard c hc | exact columns c | exact calcCode k (c.length : Int) [p, q, t] hl3 | exact calcCode k (c.length : Int) [p, q, ((fr : Int), ((fr + w : Nat) : Int))] hl3) ?_; simp -dsimp only [go_sem, reduceIte, reduceCtorEq, Nat.reduceEqDiff, Nat.reduceLT, Nat.reduceLeDiff, Nat.reduceAdd, Nat.reduceMul, Nat.reduceSub, Int.reduceToNat, Int.reduceNeg, cC, cP, cFd, cT3, List.mem_singleton, Name.t.injEq, false_and, Blk.row, List.replicate_succ, List.replicate_zero, List.flatten_cons, List.flatten_nil, List.cons_append, List.nil_append, List.set_cons_zero, List.set_cons_succ, List.length_cons, List.length_nil, List.length_set, E_len, hd, hk1, hk2, e2, Bool.and_false])
          | (refine And.intro (by first | rfl | omega | decide | (refine ⟨?_, ?_⟩ <;> (first | rfl | omega | decide)) | (refine ⟨?_, ?_, ?_⟩ <;> (first | rfl | omega | decide)) | (refine ⟨?_, ?_, ?_, ?_⟩ <;> (first | rfl | omega | decide))) ?_)
          | fail)
        all_goals exact ⟨_, _, rfl, rfl⟩
    · obtain ⟨hk1, hk2, hp, hq, fr, w, ht, ht1, ht2, hf, hw0, hw12⟩ := cc_ok hd hb
      have hC : ccC k p q t c = cdC k p q fr w c := by simp [ccC, hd, hb, ht1, ht2]
      rw [hC] at h0 ⊢
      subst ht
      have hn0 : (cdC k p q fr w c != 0) = true := by simp [h0]
      refine Cd.impl_CalculateCard_ok.fn0 Tryd.mixed Cd.impl_CalculateCard_nt Cd.impl_CalculateCard_rs rfl fun X => ?_
      unfold Cd.impl_CalculateCard
      simp -dsimp only [go_sem, reduceIte, reduceCtorEq, Nat.reduceEqDiff, Nat.reduceLT, Nat.reduceLeDiff, Nat.reduceAdd, Nat.reduceMul, Nat.reduceSub, Int.reduceToNat, Int.reduceNeg, cC, cP, cFd, cT3, List.mem_singleton, Name.t.injEq, false_and, Blk.row, List.replicate_succ, List.replicate_zero, List.flatten_cons, List.flatten_nil, List.cons_append, List.nil_append, List.set_cons_zero, List.set_cons_succ, List.length_cons, List.length_nil, List.length_set, E_len, hd]
      repeat' (first
        | (refine RgK.mk rfl ?_; simp -dsimp only [go_sem, reduceIte, reduceCtorEq, Nat.reduceEqDiff, Nat.reduceLT, Nat.reduceLeDiff, Nat.reduceAdd, Nat.reduceMul, Nat.reduceSub, Int.reduceToNat, Int.reduceNeg, cC, cP, cFd, cT3, List.mem_singleton, Name.t.injEq, false_and, Blk.row, List.replicate_succ, List.replicate_zero, List.flatten_cons, List.flatten_nil, List.cons_append, List.nil_append, List.set_cons_zero, List.set_cons_succ, List.length_cons, List.length_nil, List.length_set, E_len, hd, hk1, hk2, Bool.and_true, hn0])
        | (refine Br.mk (fun h => ?_) (fun h => ?_) <;> simp -dsimp only [go_sem, reduceIte, reduceCtorEq, Nat.reduceEqDiff, Nat.reduceLT, Nat.reduceLeDiff, Nat.reduceAdd, Nat.reduceMul, Nat.reduceSub, Int.reduceToNat, Int.reduceNeg, h, cC, cP, cFd, cT3, List.mem_singleton, Name.t.injEq, false_and, Blk.row, List.replicate_succ, List.replicate_zero, List.flatten_cons, List.flatten_nil, List.cons_append, List.nil_append, List.set_cons_zero, List.set_cons_succ, List.length_cons, List.length_nil, List.length_set, E_len, hd, hk1, hk2, Bool.and_true, hn0])
        | (refine CallK.flat (by first | exact validCard c hc | exact columns c | exact calcCode k (c.length : Int) [p, q, t] hl3 | exact calcCode k (c.length : Int) [p, q, ((fr : Int), ((fr + w : Nat) : Int))] hl3 | exact calcCard0 k p q fr w c hk1 hp hq hf hw0 hw12 (card20 hd) h0) rfl ?_; simp -dsimp only [go_sem, reduceIte, reduceCtorEq, Nat.reduceEqDiff, Nat.reduceLT, Nat.reduceLeDiff, Nat.reduceAdd, Nat.reduceMul, Nat.reduceSub, Int.reduceToNat, Int.reduceNeg, cC, cP, cFd, cT3, List.mem_singleton, Name.t.injEq, false_and, Blk.row, List.replicate_succ, List.replicate_zero, List.flatten_cons, List.flatten_nil, List.cons_append, List.nil_append, List.set_cons_zero, List.set_cons_succ, List.length_cons, List.length_nil, List.length_set, E_len, hd, hk1, hk2, Bool.and_true, hn0])
        | (refine CallK.pure (by first | exact validCard c hc | exact columns c | exact calcCode k (c.length : Int) [p, q, t] hl3 | exact calcCode k (c.length : Int) [p, q, ((fr : Int), ((fr + w : Nat) : Int))] hl3 | exact calcCard0 k p q fr w c hk1 hp hq hf hw0 hw12 (card20 hd) h0) ?_; simp -dsimp only [go_sem, reduceIte, reduceCtorEq, Nat.reduceEqDiff, Nat.reduceLT, Nat.reduceLeDiff, Nat.reduceAdd, Nat.reduceMul, Nat.reduceSub, Int.reduceToNat, Int.reduceNeg, cC, cP, cFd, cT3, List.mem_singleton, Name.t.injEq, false_and, Blk.row, List.replicate_succ, List.replicate_zero, List.flatten_cons, List.flatten_nil, List.cons_append, List.nil_append, List.set_cons_zero, List.set_cons_succ, List.length_cons, List.length_nil, List.length_set, E_len, hd, hk1, hk2, Bool.and_true, hn0])
        | (refine And.intro (by first | rfl | omega | decide | (refine ⟨?_, ?_⟩ <;> (first | rfl | omega | decide)) | (refine ⟨?_, ?_, ?_⟩ <;> (first | rfl | omega | decide)) | (refine ⟨?_, ?_, ?_, ?_⟩ <;> (first | rfl | omega | decide))) ?_)
        | fail)
      all_goals exact ⟨_, _, rfl, rfl⟩
set_option maxRecDepth 20000 in
set_option maxHeartbeats 1000000 in
theorem impl_CC1 (k : Int) (p q t : Int × Int) (c : List Int) (hc : c.length ≤ 1048576) (h0 : ccC k p q t c = 0) : Vs.Fn Tryd.prog F.impl_CalculateCard [] [.v (.int .i64 k), .agg (cC c), .agg (cP p), .agg (cP q), .agg (cP t)] (.tup [.agg [.loc (.b 0) 0 c.length], .v (.int .i64 0)]) [some (.arr 1 (E cI (ccH k p q t c)) false)] := by
  have hl3 : [p, q, t].length ≤ 1048576 := by simp
  have hd : cardB c = true := by
    cases h : cardB c
    · exact absurd h0 (by simp [ccC, h])
    · rfl
  have hb : ccB k p q t c = true := by
    cases h : ccB k p q t c
    · exact absurd h0 (by simp [ccC, hd, h])
    · rfl
  obtain ⟨hk1, hk2, hp, hq, fr, w, ht, ht1, ht2, hf, hw0, hw12⟩ := cc_ok hd hb
  have hC : ccC k p q t c = cdC k p q fr w c := by simp [ccC, hd, hb, ht1, ht2]
  have hH : ccH k p q t c = cdH k p q fr w c := by simp only [ccH, ht1, ht2]
  rw [hC] at h0
  subst ht
  refine Cd.impl_CalculateCard_ok.fn Tryd.mixed (hin := []) 37 _ [.t 34 0] [.arr 1 (E cI (ccH k p q ((fr : Int), ((fr + w : Nat) : Int)) c)) false] Cd.impl_CalculateCard_nt Cd.impl_CalculateCard_rs rfl (by simp) rfl (by simp) fun X => ?_
  unfold Cd.impl_CalculateCard
  simp -dsimp only [go_sem, reduceIte, reduceCtorEq, Nat.reduceEqDiff, Nat.reduceLT, Nat.reduceLeDiff, Nat.reduceAdd, Nat.reduceMul, Nat.reduceSub, Int.reduceToNat, Int.reduceNeg, cC, cP, cFd, cT3, List.mem_singleton, Name.t.injEq, false_and, Blk.row, List.replicate_succ, List.replicate_zero, List.flatten_cons, List.flatten_nil, List.cons_append, List.nil_append, List.set_cons_zero, List.set_cons_succ, List.length_cons, List.length_nil, List.length_set, E_len, hd]
  repeat' (first
    | (refine RgK.mk rfl ?_; simp -dsimp only [go_sem, reduceIte, reduceCtorEq, Nat.reduceEqDiff, Nat.reduceLT, Nat.reduceLeDiff, Nat.reduceAdd, Nat.reduceMul, Nat.reduceSub, Int.reduceToNat, Int.reduceNeg, cC, cP, cFd, cT3, List.mem_singleton, Name.t.injEq, false_and, Blk.row, List.replicate_succ, List.replicate_zero, List.flatten_cons, List.flatten_nil, List.cons_append, List.nil_append, List.set_cons_zero, List.set_cons_succ, List.length_cons, List.length_nil, List.length_set, E_len, hd, hk1, hk2, Bool.and_true])
    | (refine Br.mk (fun h => ?_) (fun h => ?_) <;> simp -dsimp only [go_sem, reduceIte, reduceCtorEq, Nat.reduceEqDiff, Nat.reduceLT, Nat.reduceLeDiff, Nat.reduceAdd, Nat.reduceMul, Nat.reduceSub, Int.reduceToNat, Int.reduceNeg, h, cC, cP, cFd, cT3, List.mem_singleton, Name.t.injEq, false_and, Blk.row, List.replicate_succ, List.replicate_zero, List.flatten_cons, List.flatten_nil, List.cons_append, List.nil_append, List.set_cons_zero, List.set_cons_succ, List.length_cons, List.length_nil, List.length_set, E_len, hd, hk1, hk2, Bool.and_true])
    | (refine CallK.flat (by first | exact validCard c hc | exact columns c | exact calcCode k (c.length : Int) [p, q, t] hl3 | exact calcCode k (c.length : Int) [p, q, ((fr : Int), ((fr + w : Nat) : Int))] hl3) rfl ?_; simp -dsimp only [go_sem, reduceIte, reduceCtorEq, Nat.reduceEqDiff, Nat.reduceLT, Nat.reduceLeDiff, Nat.reduceAdd, Nat.reduceMul, Nat.reduceSub, Int.reduceToNat, Int.reduceNeg, cC, cP, cFd, cT3, List.mem_singleton, Name.t.injEq, false_and, Blk.row, List.replicate_succ, List.replicate_zero, List.flatten_cons, List.flatten_nil, List.cons_append, List.nil_append, List.set_cons_zero, List.set_cons_succ, List.length_cons, List.length_nil, List.length_set, E_len, hd, hk1, hk2, Bool.and_true])
    | (refine CallK.pure (by first | exact validCard c hc | exact columns c | exact calcCode k (c.length : Int) [p, q, t] hl3 | exact calcCode k (c.length : Int) [p, q, ((fr : Int), ((fr + w : Nat) : Int))] hl3) ?_; simp -dsimp only [go_sem, reduceIte, reduceCtorEq, Nat.reduceEqDiff, Nat.reduceLT, Nat.reduceLeDiff, Nat.reduceAdd, Nat.reduceMul, Nat.reduceSub, Int.reduceToNat, Int.reduceNeg, cC, cP, cFd, cT3, List.mem_singleton, Name.t.injEq, false_and, Blk.row, List.replicate_succ, List.replicate_zero, List.flatten_cons, List.flatten_nil, List.cons_append, List.nil_append, List.set_cons_zero, List.set_cons_succ, List.length_cons, List.length_nil, List.length_set, E_len, hd, hk1, hk2, Bool.and_true])
    | (refine And.intro (by first | rfl | omega | decide | (refine ⟨?_, ?_⟩ <;> (first | rfl | omega | decide)) | (refine ⟨?_, ?_, ?_⟩ <;> (first | rfl | omega | decide)) | (refine ⟨?_, ?_, ?_, ?_⟩ <;> (first | rfl | omega | decide))) ?_)
    | fail)
  refine CallK.own (calcCard1 k p q fr w c hk1 hp hq hf hw0 hw12 (card20 hd) h0) rfl ?_
  simp -dsimp only [go_sem, reduceIte, reduceCtorEq, Nat.reduceEqDiff, Nat.reduceLT, Nat.reduceLeDiff, Nat.reduceAdd, Nat.reduceMul, Nat.reduceSub, Int.reduceToNat, Int.reduceNeg, cC, cP, cFd, cT3, List.mem_singleton, Name.t.injEq, false_and, Blk.row, List.replicate_succ, List.replicate_zero, List.flatten_cons, List.flatten_nil, List.cons_append, List.nil_append, List.set_cons_zero, List.set_cons_succ, List.length_cons, List.length_nil, List.length_set, E_len]
  all_goals (rw [hH]; exact ⟨_, _, rfl, rfl⟩)
end Go.Proofs.YthpokkcbbpapdaaDoor
