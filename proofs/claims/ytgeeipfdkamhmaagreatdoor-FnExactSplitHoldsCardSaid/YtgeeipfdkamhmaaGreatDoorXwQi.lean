/- A split deck's control totals: the program and the reference. -/
import Derived.Test.YtgeeipfdkamhmaaGreatDoorXwL
import Derived.Test.YtgeeipfdkamhmaaGreatDoorXwD
import Derived.Test.YtgeeipfdkamhmaaGreatDoorXuI
import Derived.Test.YtgeeipfdkamhmaaGreatDoorXwQh
namespace Go.Proofs.YtgeeipfdkamhmaaGreatDoor
open Go.Vs
set_option linter.unusedSimpArgs false
set_option linter.unusedVariables false
attribute [local irreducible] Vs.Fn
theorem dsN_lt : ∀ (k n : Nat), n < 10 ^ k → dsN n ≤ 9 * k
  | 0, n, h => by
    have : n = 0 := by simpa using h
    subst this; simp [dsN_zero]
  | k + 1, n, h => by
    rw [Nat.pow_succ] at h
    have := dsN_lt k (n / 10) (by omega)
    rw [dsN_any n]; omega
theorem ctlG_le (fr to : Int) : ∀ (l : List (List Int)) (m : Nat) (s d a b : Int), (∀ c, c ∈ l → okP fr to c) → m + l.length ≤ 40 → -1000000000000 * m ≤ s → s ≤ 1000000000000 * m → 0 ≤ d → d ≤ 117 * m →
    ctlG fr to l s d = some (a, b) → -40000000000000 ≤ a ∧ a ≤ 40000000000000 ∧ 0 ≤ b ∧ b ≤ 4680
  | [], m, s, d, a, b, _, hm, h1, h2, h3, h4, h => by
    simp only [ctlG, Option.some.injEq, Prod.mk.injEq] at h
    simp only [List.length_nil] at hm
    omega
  | c :: r, m, s, d, a, b, hk, hm, h1, h2, h3, h4, h => by
    simp only [List.length_cons] at hm
    have hc := hk c (by simp)
    have hle := numC_le hc
    have hd := dsN_lt 13 (numC fr to c).1.natAbs (by omega)
    simp only [ctlG] at h
    split at h
    · have e1 : W (s + (numC fr to c).1) = s + (numC fr to c).1 := wrap_in (by omega) (by omega)
      have e2 : W (d + (dsN (numC fr to c).1.natAbs : Int)) = d + (dsN (numC fr to c).1.natAbs : Int) := wrap_in (by omega) (by omega)
      rw [e1, e2] at h
      exact ctlG_le fr to r (m + 1) _ _ a b (fun x hx => hk x (by simp [hx])) (by omega) (by omega) (by omega) (by omega) (by omega) h
    · cases h
theorem ctlT_le {fr to : Int} {l : List (List Int)} (hk : ∀ c, c ∈ l → okP fr to c) (hl : l.length ≤ 40) :
    (0 ≤ (ctlT fr to l).1 ∧ (ctlT fr to l).1 ≤ 40) ∧ (-40000000000000 ≤ (ctlT fr to l).2.1 ∧ (ctlT fr to l).2.1 ≤ 40000000000000) ∧ (0 ≤ (ctlT fr to l).2.2 ∧ (ctlT fr to l).2.2 ≤ 4680) := by
  unfold ctlT
  split
  · rename_i s d h
    have := ctlG_le fr to l 0 0 0 s d hk (by omega) (by omega) (by omega) (by omega) (by omega) h
    simp only; omega
  · simp
theorem deck_len {l : List (List Int)} (h : deckB l = true) : l.length ≤ 40 := by
  simp only [deckB, Bool.and_eq_true, decide_eq_true_eq] at h
  omega
theorem plus_plain {a b : Int} {k : Int} (hk : 0 ≤ k ∧ k ≤ 1000000000000000) (ha : -k ≤ a ∧ a ≤ k) (hb : -k ≤ b ∧ b ≤ k) : IntKind.i64.wrap (a + IntKind.i64.wrap (1 * b)) = a + b := by
  rw [wrap_in (n := 1 * b) (by omega) (by omega), Int.one_mul, wrap_in (by omega) (by omega)]
end Go.Proofs.YtgeeipfdkamhmaaGreatDoor

namespace Go.Proofs.YtgeeipfdkamhmaaGreatDoor
open Go.Vs
set_option linter.unusedSimpArgs false
set_option linter.unusedVariables false
attribute [local irreducible] Vs.Fn chOK areCh chTo chAt l03 chB rk cd3 chI stp stpTo flt idxP zR clrL mat colC ascB stF ctlG ctlT ctlB mtC
theorem ctlG_some (fr to : Int) : ∀ (l : List (List Int)) (s d : Int), (ctlG fr to l s d).isSome = l.all fun c => (numC fr to c).2
  | [], s, d => by unfold ctlG; rfl
  | c :: r, s, d => by
    unfold ctlG
    split
    · rename_i h
      rw [ctlG_some fr to r]
      simp [h]
    · rename_i h
      simp [h]
theorem ctlB_all (fr to : Int) (l : List (List Int)) : ctlB fr to l = l.all fun c => (numC fr to c).2 := by unfold ctlB; exact ctlG_some ..
theorem mat_sub {fr to : Int} {l o : List (List Int)} {e : Bool} : ∀ c, c ∈ mat fr to l o e → c ∈ l := by
  intro c hc
  unfold mat flt at hc
  exact (List.mem_filter.1 hc).1
theorem ctlB_mat {fr to k0 k1 : Int} {l o : List (List Int)} {e : Bool} (h : ctlB fr to l = true) : ctlB fr to (mat k0 k1 l o e) = true := by
  rw [ctlB_all, List.all_eq_true] at h ⊢
  exact fun c hc => h c (mat_sub c hc)
theorem okP_of3 {l : List (List Int)} {fr to : Int} (hd : deckB l = true) (hn : numB fr to (widB l) = true) : ∀ c, c ∈ l → okP fr to c := by
  intro c hc
  simp only [deckB, Bool.and_eq_true, List.all_eq_true, decide_eq_true_eq] at hd
  simp only [numB, fldB, Bool.and_eq_true, decide_eq_true_eq] at hn
  obtain ⟨hcb, hcl⟩ := hd.1 c hc
  simp only [cardB, inB, Bool.and_eq_true, List.all_eq_true, decide_eq_true_eq] at hcb
  have h0 : l.length ≠ 0 := by intro e; rw [List.eq_nil_of_length_eq_zero e] at hc; cases hc
  rw [widB, if_neg h0, ← hcl] at hn
  obtain ⟨⟨h1, h2, h3⟩, h4⟩ := hn
  obtain ⟨h5, h6, h7⟩ := hcb
  have hw : W (to - fr) = to - fr := wrap_in (by omega) (by omega)
  rw [hw] at h4
  exact ⟨h1, h2, h3, h4, by omega, fun x hx => h5 x hx⟩
def splE (p q a : Int × Int × Int) : Bool := (p.1 + q.1 == a.1) && ((p.2.1 + q.2.1 == a.2.1) && (p.2.2 + q.2.2 == a.2.2))
theorem splE_comm (p q a : Int × Int × Int) : splE p q a = ((a.1 == p.1 + q.1) && ((a.2.1 == p.2.1 + q.2.1) && (a.2.2 == p.2.2 + q.2.2))) := by
  unfold splE
  rw [BEq.comm (a := p.1 + q.1), BEq.comm (a := p.2.1 + q.2.1), BEq.comm (a := p.2.2 + q.2.2)]
def splT (fr to k0 k1 : Int) (a b : List (List Int)) : Bool × Int :=
  if deckB a && deckB b then (if numB fr to (widB a) then (if ctlB fr to a then (if mtC k0 k1 a b = 0 then
    (splE (ctlT fr to (mat k0 k1 a b true)) (ctlT fr to (mat k0 k1 a b false)) (ctlT fr to a), 0) else (false, mtC k0 k1 a b)) else (false, 8)) else (false, 2)) else (false, 1)
def l18OK (n : Nat) : Prop := n ≤ 1048576
set_option maxHeartbeats 2000000 in
theorem impl_SplitHolds (a b : List (List Int)) (fr to k0 k1 : Int) (ha : smallC a) (hb : smallC b) : Vs.Fn Tryz.prog F.impl_SplitHolds [] [.sl 1 (E cC a), .sl 1 (E cC b), .agg (cFd fr to), .agg (cFd k0 k1)] (.tup [.v (.bool (splT fr to k0 k1 a b).1), .v (.int .i64 (splT fr to k0 k1 a b).2)]) [] := by
  cases da : deckB a
  · refine Cd.impl_SplitHolds_ok.fn0 Tryz.mixed Cd.impl_SplitHolds_nt Cd.impl_SplitHolds_rs rfl fun X => ?_
    unfold Cd.impl_SplitHolds
    simp -dsimp only [go_sem, reduceIte, reduceCtorEq, Nat.reduceEqDiff, Nat.reduceLT, Nat.reduceLeDiff, Nat.reduceAdd, Nat.reduceMul, Nat.reduceSub, Int.reduceToNat, Int.reduceNeg, cFd, cCt, List.replicate_succ, List.replicate_zero, List.flatten_cons, List.flatten_nil, List.cons_append, List.nil_append, List.set_cons_zero, List.set_cons_succ, List.length_cons, List.length_nil, List.length_set, da]
    repeat' (first
      | (refine RgK.mk rfl ?_; simp -dsimp only [go_sem, reduceIte, reduceCtorEq, Nat.reduceEqDiff, Nat.reduceLT, Nat.reduceLeDiff, Nat.reduceAdd, Nat.reduceMul, Nat.reduceSub, Int.reduceToNat, Int.reduceNeg, cFd, cCt, List.replicate_succ, List.replicate_zero, List.flatten_cons, List.flatten_nil, List.cons_append, List.nil_append, List.set_cons_zero, List.set_cons_succ, List.length_cons, List.length_nil, List.length_set, da])
      | (refine Br.mk (fun h => ?_) (fun h => ?_) <;> simp -dsimp only [go_sem, reduceIte, reduceCtorEq, Nat.reduceEqDiff, Nat.reduceLT, Nat.reduceLeDiff, Nat.reduceAdd, Nat.reduceMul, Nat.reduceSub, Int.reduceToNat, Int.reduceNeg, h, cFd, cCt, List.replicate_succ, List.replicate_zero, List.flatten_cons, List.flatten_nil, List.cons_append, List.nil_append, List.set_cons_zero, List.set_cons_succ, List.length_cons, List.length_nil, List.length_set, da])
      | (refine CallK.flat (by first | exact validDeck a ha.2 ha.1 | exact validDeck b hb.2 hb.1) rfl ?_; simp -dsimp only [go_sem, reduceIte, reduceCtorEq, Nat.reduceEqDiff, Nat.reduceLT, Nat.reduceLeDiff, Nat.reduceAdd, Nat.reduceMul, Nat.reduceSub, Int.reduceToNat, Int.reduceNeg, cFd, cCt, List.replicate_succ, List.replicate_zero, List.flatten_cons, List.flatten_nil, List.cons_append, List.nil_append, List.set_cons_zero, List.set_cons_succ, List.length_cons, List.length_nil, List.length_set, da])
      | (refine CallK.pure (by first | exact validDeck a ha.2 ha.1 | exact validDeck b hb.2 hb.1) ?_; simp -dsimp only [go_sem, reduceIte, reduceCtorEq, Nat.reduceEqDiff, Nat.reduceLT, Nat.reduceLeDiff, Nat.reduceAdd, Nat.reduceMul, Nat.reduceSub, Int.reduceToNat, Int.reduceNeg, cFd, cCt, List.replicate_succ, List.replicate_zero, List.flatten_cons, List.flatten_nil, List.cons_append, List.nil_append, List.set_cons_zero, List.set_cons_succ, List.length_cons, List.length_nil, List.length_set, da])
      | (refine And.intro (by first | rfl | omega | decide | (refine ⟨?_, ?_⟩ <;> (first | rfl | omega | decide)) | (refine ⟨?_, ?_, ?_⟩ <;> (first | rfl | omega | decide)) | (refine ⟨?_, ?_, ?_, ?_⟩ <;> (first | rfl | omega | decide))) ?_)
      | fail)
    all_goals first | (simp_all [splT]; done) | (refine ret_eq ?_; simp_all [splT]; done) | trace_state
  cases db : deckB b
  · refine Cd.impl_SplitHolds_ok.fn0 Tryz.mixed Cd.impl_SplitHolds_nt Cd.impl_SplitHolds_rs rfl fun X => ?_
    unfold Cd.impl_SplitHolds
    simp -dsimp only [go_sem, reduceIte, reduceCtorEq, Nat.reduceEqDiff, Nat.reduceLT, Nat.reduceLeDiff, Nat.reduceAdd, Nat.reduceMul, Nat.reduceSub, Int.reduceToNat, Int.reduceNeg, cFd, cCt, List.replicate_succ, List.replicate_zero, List.flatten_cons, List.flatten_nil, List.cons_append, List.nil_append, List.set_cons_zero, List.set_cons_succ, List.length_cons, List.length_nil, List.length_set, da, db]
    repeat' (first
      | (refine RgK.mk rfl ?_; simp -dsimp only [go_sem, reduceIte, reduceCtorEq, Nat.reduceEqDiff, Nat.reduceLT, Nat.reduceLeDiff, Nat.reduceAdd, Nat.reduceMul, Nat.reduceSub, Int.reduceToNat, Int.reduceNeg, cFd, cCt, List.replicate_succ, List.replicate_zero, List.flatten_cons, List.flatten_nil, List.cons_append, List.nil_append, List.set_cons_zero, List.set_cons_succ, List.length_cons, List.length_nil, List.length_set, da, db])
      | (refine Br.mk (fun h => ?_) (fun h => ?_) <;> simp -dsimp only [go_sem, reduceIte, reduceCtorEq, Nat.reduceEqDiff, Nat.reduceLT, Nat.reduceLeDiff, Nat.reduceAdd, Nat.reduceMul, Nat.reduceSub, Int.reduceToNat, Int.reduceNeg, h, cFd, cCt, List.replicate_succ, List.replicate_zero, List.flatten_cons, List.flatten_nil, List.cons_append, List.nil_append, List.set_cons_zero, List.set_cons_succ, List.length_cons, List.length_nil, List.length_set, da, db])
      | (refine CallK.flat (by first | exact validDeck a ha.2 ha.1 | exact validDeck b hb.2 hb.1) rfl ?_; simp -dsimp only [go_sem, reduceIte, reduceCtorEq, Nat.reduceEqDiff, Nat.reduceLT, Nat.reduceLeDiff, Nat.reduceAdd, Nat.reduceMul, Nat.reduceSub, Int.reduceToNat, Int.reduceNeg, cFd, cCt, List.replicate_succ, List.replicate_zero, List.flatten_cons, List.flatten_nil, List.cons_append, List.nil_append, List.set_cons_zero, List.set_cons_succ, List.length_cons, List.length_nil, List.length_set, da, db])
      | (refine CallK.pure (by first | exact validDeck a ha.2 ha.1 | exact validDeck b hb.2 hb.1) ?_; simp -dsimp only [go_sem, reduceIte, reduceCtorEq, Nat.reduceEqDiff, Nat.reduceLT, Nat.reduceLeDiff, Nat.reduceAdd, Nat.reduceMul, Nat.reduceSub, Int.reduceToNat, Int.reduceNeg, cFd, cCt, List.replicate_succ, List.replicate_zero, List.flatten_cons, List.flatten_nil, List.cons_append, List.nil_append, List.set_cons_zero, List.set_cons_succ, List.length_cons, List.length_nil, List.length_set, da, db])
      | (refine And.intro (by first | rfl | omega | decide | (refine ⟨?_, ?_⟩ <;> (first | rfl | omega | decide)) | (refine ⟨?_, ?_, ?_⟩ <;> (first | rfl | omega | decide)) | (refine ⟨?_, ?_, ?_, ?_⟩ <;> (first | rfl | omega | decide))) ?_)
      | fail)
    all_goals first | (simp_all [splT]; done) | (refine ret_eq ?_; simp_all [splT]; done) | trace_state
  cases hn : numB fr to (widB a)
  · refine Cd.impl_SplitHolds_ok.fn0 Tryz.mixed Cd.impl_SplitHolds_nt Cd.impl_SplitHolds_rs rfl fun X => ?_
    unfold Cd.impl_SplitHolds
    simp -dsimp only [go_sem, reduceIte, reduceCtorEq, Nat.reduceEqDiff, Nat.reduceLT, Nat.reduceLeDiff, Nat.reduceAdd, Nat.reduceMul, Nat.reduceSub, Int.reduceToNat, Int.reduceNeg, cFd, cCt, List.replicate_succ, List.replicate_zero, List.flatten_cons, List.flatten_nil, List.cons_append, List.nil_append, List.set_cons_zero, List.set_cons_succ, List.length_cons, List.length_nil, List.length_set, da, db, hn]
    repeat' (first
      | (refine RgK.mk rfl ?_; simp -dsimp only [go_sem, reduceIte, reduceCtorEq, Nat.reduceEqDiff, Nat.reduceLT, Nat.reduceLeDiff, Nat.reduceAdd, Nat.reduceMul, Nat.reduceSub, Int.reduceToNat, Int.reduceNeg, cFd, cCt, List.replicate_succ, List.replicate_zero, List.flatten_cons, List.flatten_nil, List.cons_append, List.nil_append, List.set_cons_zero, List.set_cons_succ, List.length_cons, List.length_nil, List.length_set, da, db, hn])
      | (refine Br.mk (fun h => ?_) (fun h => ?_) <;> simp -dsimp only [go_sem, reduceIte, reduceCtorEq, Nat.reduceEqDiff, Nat.reduceLT, Nat.reduceLeDiff, Nat.reduceAdd, Nat.reduceMul, Nat.reduceSub, Int.reduceToNat, Int.reduceNeg, h, cFd, cCt, List.replicate_succ, List.replicate_zero, List.flatten_cons, List.flatten_nil, List.cons_append, List.nil_append, List.set_cons_zero, List.set_cons_succ, List.length_cons, List.length_nil, List.length_set, da, db, hn])
      | (refine CallK.flat (by first | exact validDeck a ha.2 ha.1 | exact validDeck b hb.2 hb.1 | exact deckColumns a | exact isNumberField fr to _) rfl ?_; simp -dsimp only [go_sem, reduceIte, reduceCtorEq, Nat.reduceEqDiff, Nat.reduceLT, Nat.reduceLeDiff, Nat.reduceAdd, Nat.reduceMul, Nat.reduceSub, Int.reduceToNat, Int.reduceNeg, cFd, cCt, List.replicate_succ, List.replicate_zero, List.flatten_cons, List.flatten_nil, List.cons_append, List.nil_append, List.set_cons_zero, List.set_cons_succ, List.length_cons, List.length_nil, List.length_set, da, db, hn])
      | (refine CallK.pure (by first | exact validDeck a ha.2 ha.1 | exact validDeck b hb.2 hb.1 | exact deckColumns a | exact isNumberField fr to _) ?_; simp -dsimp only [go_sem, reduceIte, reduceCtorEq, Nat.reduceEqDiff, Nat.reduceLT, Nat.reduceLeDiff, Nat.reduceAdd, Nat.reduceMul, Nat.reduceSub, Int.reduceToNat, Int.reduceNeg, cFd, cCt, List.replicate_succ, List.replicate_zero, List.flatten_cons, List.flatten_nil, List.cons_append, List.nil_append, List.set_cons_zero, List.set_cons_succ, List.length_cons, List.length_nil, List.length_set, da, db, hn])
      | (refine And.intro (by first | rfl | omega | decide | (refine ⟨?_, ?_⟩ <;> (first | rfl | omega | decide)) | (refine ⟨?_, ?_, ?_⟩ <;> (first | rfl | omega | decide)) | (refine ⟨?_, ?_, ?_, ?_⟩ <;> (first | rfl | omega | decide))) ?_)
      | fail)
    all_goals first | (simp_all [splT]; done) | (refine ret_eq ?_; simp_all [splT]; done) | trace_state
  have oa := okP_of3 da hn
  cases hc : ctlB fr to a
  · refine Cd.impl_SplitHolds_ok.fn0 Tryz.mixed Cd.impl_SplitHolds_nt Cd.impl_SplitHolds_rs rfl fun X => ?_
    unfold Cd.impl_SplitHolds
    simp -dsimp only [go_sem, reduceIte, reduceCtorEq, Nat.reduceEqDiff, Nat.reduceLT, Nat.reduceLeDiff, Nat.reduceAdd, Nat.reduceMul, Nat.reduceSub, Int.reduceToNat, Int.reduceNeg, cFd, cCt, List.replicate_succ, List.replicate_zero, List.flatten_cons, List.flatten_nil, List.cons_append, List.nil_append, List.set_cons_zero, List.set_cons_succ, List.length_cons, List.length_nil, List.length_set, da, db, hn, hc]
    repeat' (first
      | (refine RgK.mk rfl ?_; simp -dsimp only [go_sem, reduceIte, reduceCtorEq, Nat.reduceEqDiff, Nat.reduceLT, Nat.reduceLeDiff, Nat.reduceAdd, Nat.reduceMul, Nat.reduceSub, Int.reduceToNat, Int.reduceNeg, cFd, cCt, List.replicate_succ, List.replicate_zero, List.flatten_cons, List.flatten_nil, List.cons_append, List.nil_append, List.set_cons_zero, List.set_cons_succ, List.length_cons, List.length_nil, List.length_set, da, db, hn, hc])
      | (refine Br.mk (fun h => ?_) (fun h => ?_) <;> simp -dsimp only [go_sem, reduceIte, reduceCtorEq, Nat.reduceEqDiff, Nat.reduceLT, Nat.reduceLeDiff, Nat.reduceAdd, Nat.reduceMul, Nat.reduceSub, Int.reduceToNat, Int.reduceNeg, h, cFd, cCt, List.replicate_succ, List.replicate_zero, List.flatten_cons, List.flatten_nil, List.cons_append, List.nil_append, List.set_cons_zero, List.set_cons_succ, List.length_cons, List.length_nil, List.length_set, da, db, hn, hc])
      | (refine CallK.flat (by first | exact validDeck a ha.2 ha.1 | exact validDeck b hb.2 hb.1 | exact deckColumns a | exact isNumberField fr to _ | exact controlOf a fr to ha.1 oa) rfl ?_; simp -dsimp only [go_sem, reduceIte, reduceCtorEq, Nat.reduceEqDiff, Nat.reduceLT, Nat.reduceLeDiff, Nat.reduceAdd, Nat.reduceMul, Nat.reduceSub, Int.reduceToNat, Int.reduceNeg, cFd, cCt, List.replicate_succ, List.replicate_zero, List.flatten_cons, List.flatten_nil, List.cons_append, List.nil_append, List.set_cons_zero, List.set_cons_succ, List.length_cons, List.length_nil, List.length_set, da, db, hn, hc])
      | (refine CallK.pure (by first | exact validDeck a ha.2 ha.1 | exact validDeck b hb.2 hb.1 | exact deckColumns a | exact isNumberField fr to _ | exact controlOf a fr to ha.1 oa) ?_; simp -dsimp only [go_sem, reduceIte, reduceCtorEq, Nat.reduceEqDiff, Nat.reduceLT, Nat.reduceLeDiff, Nat.reduceAdd, Nat.reduceMul, Nat.reduceSub, Int.reduceToNat, Int.reduceNeg, cFd, cCt, List.replicate_succ, List.replicate_zero, List.flatten_cons, List.flatten_nil, List.cons_append, List.nil_append, List.set_cons_zero, List.set_cons_succ, List.length_cons, List.length_nil, List.length_set, da, db, hn, hc])
      | (refine And.intro (by first | rfl | omega | decide | (refine ⟨?_, ?_⟩ <;> (first | rfl | omega | decide)) | (refine ⟨?_, ?_, ?_⟩ <;> (first | rfl | omega | decide)) | (refine ⟨?_, ?_, ?_, ?_⟩ <;> (first | rfl | omega | decide))) ?_)
      | fail)
    all_goals first | (simp_all [splT]; done) | (refine ret_eq ?_; simp_all [splT]; done) | trace_state
  by_cases hm : mtC k0 k1 a b = 0
  rotate_left
  · have e1 : (mtC k0 k1 a b != 0) = true := by simp [hm]
    refine Cd.impl_SplitHolds_ok.fn0 Tryz.mixed Cd.impl_SplitHolds_nt Cd.impl_SplitHolds_rs rfl fun X => ?_
    unfold Cd.impl_SplitHolds
    simp -dsimp only [go_sem, reduceIte, reduceCtorEq, Nat.reduceEqDiff, Nat.reduceLT, Nat.reduceLeDiff, Nat.reduceAdd, Nat.reduceMul, Nat.reduceSub, Int.reduceToNat, Int.reduceNeg, cFd, cCt, List.replicate_succ, List.replicate_zero, List.flatten_cons, List.flatten_nil, List.cons_append, List.nil_append, List.set_cons_zero, List.set_cons_succ, List.length_cons, List.length_nil, List.length_set, da, db, hn, hc, e1]
    repeat' (first
      | (refine RgK.mk rfl ?_; simp -dsimp only [go_sem, reduceIte, reduceCtorEq, Nat.reduceEqDiff, Nat.reduceLT, Nat.reduceLeDiff, Nat.reduceAdd, Nat.reduceMul, Nat.reduceSub, Int.reduceToNat, Int.reduceNeg, cFd, cCt, List.replicate_succ, List.replicate_zero, List.flatten_cons, List.flatten_nil, List.cons_append, List.nil_append, List.set_cons_zero, List.set_cons_succ, List.length_cons, List.length_nil, List.length_set, da, db, hn, hc, e1])
      | (refine Br.mk (fun h => ?_) (fun h => ?_) <;> simp -dsimp only [go_sem, reduceIte, reduceCtorEq, Nat.reduceEqDiff, Nat.reduceLT, Nat.reduceLeDiff, Nat.reduceAdd, Nat.reduceMul, Nat.reduceSub, Int.reduceToNat, Int.reduceNeg, h, cFd, cCt, List.replicate_succ, List.replicate_zero, List.flatten_cons, List.flatten_nil, List.cons_append, List.nil_append, List.set_cons_zero, List.set_cons_succ, List.length_cons, List.length_nil, List.length_set, da, db, hn, hc, e1])
      | (refine CallK.flat (by first | exact validDeck a ha.2 ha.1 | exact validDeck b hb.2 hb.1 | exact deckColumns a | exact isNumberField fr to _ | exact controlOf a fr to ha.1 oa | exact impl_MatchDecks a b k0 k1 ha hb) rfl ?_; simp -dsimp only [go_sem, reduceIte, reduceCtorEq, Nat.reduceEqDiff, Nat.reduceLT, Nat.reduceLeDiff, Nat.reduceAdd, Nat.reduceMul, Nat.reduceSub, Int.reduceToNat, Int.reduceNeg, cFd, cCt, List.replicate_succ, List.replicate_zero, List.flatten_cons, List.flatten_nil, List.cons_append, List.nil_append, List.set_cons_zero, List.set_cons_succ, List.length_cons, List.length_nil, List.length_set, da, db, hn, hc, e1])
      | (refine CallK.pure (by first | exact validDeck a ha.2 ha.1 | exact validDeck b hb.2 hb.1 | exact deckColumns a | exact isNumberField fr to _ | exact controlOf a fr to ha.1 oa | exact impl_MatchDecks a b k0 k1 ha hb) ?_; simp -dsimp only [go_sem, reduceIte, reduceCtorEq, Nat.reduceEqDiff, Nat.reduceLT, Nat.reduceLeDiff, Nat.reduceAdd, Nat.reduceMul, Nat.reduceSub, Int.reduceToNat, Int.reduceNeg, cFd, cCt, List.replicate_succ, List.replicate_zero, List.flatten_cons, List.flatten_nil, List.cons_append, List.nil_append, List.set_cons_zero, List.set_cons_succ, List.length_cons, List.length_nil, List.length_set, da, db, hn, hc, e1])
      | (refine And.intro (by first | rfl | omega | decide | (refine ⟨?_, ?_⟩ <;> (first | rfl | omega | decide)) | (refine ⟨?_, ?_, ?_⟩ <;> (first | rfl | omega | decide)) | (refine ⟨?_, ?_, ?_, ?_⟩ <;> (first | rfl | omega | decide))) ?_)
      | fail)
    all_goals first | (simp_all [splT]; done) | (refine ret_eq ?_; simp_all [splT]; done) | trace_state
  have hv : mtV k0 k1 a b = .sl 1 (E cD (mtL k0 k1 a b)) := by simp [mtV, hm]
  have CM := impl_MatchDecks a b k0 k1 ha hb
  rw [hv, hm] at CM
  have r0 : (E cD (mtL k0 k1 a b)).getD 0 [] = [.sl 1 (E cC (mat k0 k1 a b true))] := rfl
  have r2 : (E cD (mtL k0 k1 a b)).getD 2 [] = [.sl 1 (E cC (mat k0 k1 a b false))] := rfl
  have rl : (mtL k0 k1 a b).length = 4 := rfl
  have o1 : ∀ c, c ∈ mat k0 k1 a b true → okP fr to c := fun c hc => oa c (mat_sub c hc)
  have o2 : ∀ c, c ∈ mat k0 k1 a b false → okP fr to c := fun c hc => oa c (mat_sub c hc)
  have l1 : (mat k0 k1 a b true).length ≤ 40 := by have := mat_len k0 k1 a b true; have := deck_len da; omega
  have l2 : (mat k0 k1 a b false).length ≤ 40 := by have := mat_len k0 k1 a b false; have := deck_len da; omega
  have q1 := ctlT_le o1 l1
  have q2 := ctlT_le o2 l2
  have c1 : ctlB fr to (mat k0 k1 a b true) = true := ctlB_mat hc
  have c2 : ctlB fr to (mat k0 k1 a b false) = true := ctlB_mat hc
  have g1 : l18OK (mat k0 k1 a b true).length := by unfold l18OK; omega
  have g2 : l18OK (mat k0 k1 a b false).length := by unfold l18OK; omega
  have p1 : IntKind.i64.wrap ((ctlT fr to (mat k0 k1 a b true)).1 + IntKind.i64.wrap (1 * (ctlT fr to (mat k0 k1 a b false)).1)) = (ctlT fr to (mat k0 k1 a b true)).1 + (ctlT fr to (mat k0 k1 a b false)).1 := plus_plain (k := 40) (by omega) (by omega) (by omega)
  have p2 : IntKind.i64.wrap ((ctlT fr to (mat k0 k1 a b true)).2.1 + IntKind.i64.wrap (1 * (ctlT fr to (mat k0 k1 a b false)).2.1)) = (ctlT fr to (mat k0 k1 a b true)).2.1 + (ctlT fr to (mat k0 k1 a b false)).2.1 := plus_plain (k := 40000000000000) (by omega) (by omega) (by omega)
  have p3 : IntKind.i64.wrap ((ctlT fr to (mat k0 k1 a b true)).2.2 + IntKind.i64.wrap (1 * (ctlT fr to (mat k0 k1 a b false)).2.2)) = (ctlT fr to (mat k0 k1 a b true)).2.2 + (ctlT fr to (mat k0 k1 a b false)).2.2 := plus_plain (k := 4680) (by omega) (by omega) (by omega)
  refine Cd.impl_SplitHolds_ok.fn0 Tryz.mixed Cd.impl_SplitHolds_nt Cd.impl_SplitHolds_rs rfl fun X => ?_
  unfold Cd.impl_SplitHolds
  simp -dsimp only [go_sem, reduceIte, reduceCtorEq, Nat.reduceEqDiff, Nat.reduceLT, Nat.reduceLeDiff, Nat.reduceAdd, Nat.reduceMul, Nat.reduceSub, Int.reduceToNat, Int.reduceNeg, cFd, cCt, List.replicate_succ, List.replicate_zero, List.flatten_cons, List.flatten_nil, List.cons_append, List.nil_append, List.set_cons_zero, List.set_cons_succ, List.length_cons, List.length_nil, List.length_set, da, db, hn, hc, r0, r2, rl, E_len, c1, c2, p1, p2, p3]
  repeat' (first
    | (refine RgK.mk rfl ?_; simp -dsimp only [go_sem, reduceIte, reduceCtorEq, Nat.reduceEqDiff, Nat.reduceLT, Nat.reduceLeDiff, Nat.reduceAdd, Nat.reduceMul, Nat.reduceSub, Int.reduceToNat, Int.reduceNeg, cFd, cCt, List.replicate_succ, List.replicate_zero, List.flatten_cons, List.flatten_nil, List.cons_append, List.nil_append, List.set_cons_zero, List.set_cons_succ, List.length_cons, List.length_nil, List.length_set, da, db, hn, hc, r0, r2, rl, E_len, c1, c2, p1, p2, p3])
    | (refine Br.mk (fun h => ?_) (fun h => ?_) <;> simp -dsimp only [go_sem, reduceIte, reduceCtorEq, Nat.reduceEqDiff, Nat.reduceLT, Nat.reduceLeDiff, Nat.reduceAdd, Nat.reduceMul, Nat.reduceSub, Int.reduceToNat, Int.reduceNeg, h, cFd, cCt, List.replicate_succ, List.replicate_zero, List.flatten_cons, List.flatten_nil, List.cons_append, List.nil_append, List.set_cons_zero, List.set_cons_succ, List.length_cons, List.length_nil, List.length_set, da, db, hn, hc, r0, r2, rl, E_len, c1, c2, p1, p2, p3])
    | (refine CallK.flat (by first | exact validDeck a ha.2 ha.1 | exact validDeck b hb.2 hb.1 | exact deckColumns a | exact isNumberField fr to _ | exact controlOf a fr to ha.1 oa | exact CM | exact controlOf _ fr to g1 o1 | exact controlOf _ fr to g2 o2 | exact plusC _ _ _ _ _ _ _) rfl ?_; simp -dsimp only [go_sem, reduceIte, reduceCtorEq, Nat.reduceEqDiff, Nat.reduceLT, Nat.reduceLeDiff, Nat.reduceAdd, Nat.reduceMul, Nat.reduceSub, Int.reduceToNat, Int.reduceNeg, cFd, cCt, List.replicate_succ, List.replicate_zero, List.flatten_cons, List.flatten_nil, List.cons_append, List.nil_append, List.set_cons_zero, List.set_cons_succ, List.length_cons, List.length_nil, List.length_set, da, db, hn, hc, r0, r2, rl, E_len, c1, c2, p1, p2, p3])
    | (refine CallK.pure (by first | exact validDeck a ha.2 ha.1 | exact validDeck b hb.2 hb.1 | exact deckColumns a | exact isNumberField fr to _ | exact controlOf a fr to ha.1 oa | exact CM | exact controlOf _ fr to g1 o1 | exact controlOf _ fr to g2 o2 | exact plusC _ _ _ _ _ _ _) ?_; simp -dsimp only [go_sem, reduceIte, reduceCtorEq, Nat.reduceEqDiff, Nat.reduceLT, Nat.reduceLeDiff, Nat.reduceAdd, Nat.reduceMul, Nat.reduceSub, Int.reduceToNat, Int.reduceNeg, cFd, cCt, List.replicate_succ, List.replicate_zero, List.flatten_cons, List.flatten_nil, List.cons_append, List.nil_append, List.set_cons_zero, List.set_cons_succ, List.length_cons, List.length_nil, List.length_set, da, db, hn, hc, r0, r2, rl, E_len, c1, c2, p1, p2, p3])
    | (refine And.intro (by first | rfl | omega | decide | (refine ⟨?_, ?_⟩ <;> (first | rfl | omega | decide)) | (refine ⟨?_, ?_, ?_⟩ <;> (first | rfl | omega | decide)) | (refine ⟨?_, ?_, ?_, ?_⟩ <;> (first | rfl | omega | decide))) ?_)
    | fail)
  have hs : splT fr to k0 k1 a b = (splE (ctlT fr to (mat k0 k1 a b true)) (ctlT fr to (mat k0 k1 a b false)) (ctlT fr to a), 0) := by simp [splT, da, db, hn, hc, hm]
  rw [hs]
  all_goals first | exact ⟨_, _, rfl, rfl⟩ | (refine ret_eq rfl) | trace_state
set_option maxHeartbeats 2000000 in
theorem spec_SplitHolds (a b : List (List Int)) (fr to k0 k1 : Int) (ha : smallC a) (hb : smallC b) : Vs.Fn Tryz.prog F.spec_SplitHolds [] [.sl 1 (E cC a), .sl 1 (E cC b), .agg (cFd fr to), .agg (cFd k0 k1)] (.tup [.v (.bool (splT fr to k0 k1 a b).1), .v (.int .i64 (splT fr to k0 k1 a b).2)]) [] := by
  cases da : deckB a
  · refine Cd.spec_SplitHolds_ok.fn0 Tryz.mixed Cd.spec_SplitHolds_nt Cd.spec_SplitHolds_rs rfl fun X => ?_
    unfold Cd.spec_SplitHolds
    simp -dsimp only [go_sem, reduceIte, reduceCtorEq, Nat.reduceEqDiff, Nat.reduceLT, Nat.reduceLeDiff, Nat.reduceAdd, Nat.reduceMul, Nat.reduceSub, Int.reduceToNat, Int.reduceNeg, cFd, cCt, List.replicate_succ, List.replicate_zero, List.flatten_cons, List.flatten_nil, List.cons_append, List.nil_append, List.set_cons_zero, List.set_cons_succ, List.length_cons, List.length_nil, List.length_set, da]
    repeat' (first
      | (refine RgK.mk rfl ?_; simp -dsimp only [go_sem, reduceIte, reduceCtorEq, Nat.reduceEqDiff, Nat.reduceLT, Nat.reduceLeDiff, Nat.reduceAdd, Nat.reduceMul, Nat.reduceSub, Int.reduceToNat, Int.reduceNeg, cFd, cCt, List.replicate_succ, List.replicate_zero, List.flatten_cons, List.flatten_nil, List.cons_append, List.nil_append, List.set_cons_zero, List.set_cons_succ, List.length_cons, List.length_nil, List.length_set, da])
      | (refine Br.mk (fun h => ?_) (fun h => ?_) <;> simp -dsimp only [go_sem, reduceIte, reduceCtorEq, Nat.reduceEqDiff, Nat.reduceLT, Nat.reduceLeDiff, Nat.reduceAdd, Nat.reduceMul, Nat.reduceSub, Int.reduceToNat, Int.reduceNeg, h, cFd, cCt, List.replicate_succ, List.replicate_zero, List.flatten_cons, List.flatten_nil, List.cons_append, List.nil_append, List.set_cons_zero, List.set_cons_succ, List.length_cons, List.length_nil, List.length_set, da])
      | (refine CallK.flat (by first | exact l02Deck a ha.2 ha.1 | exact l02Deck b hb.2 hb.1) rfl ?_; simp -dsimp only [go_sem, reduceIte, reduceCtorEq, Nat.reduceEqDiff, Nat.reduceLT, Nat.reduceLeDiff, Nat.reduceAdd, Nat.reduceMul, Nat.reduceSub, Int.reduceToNat, Int.reduceNeg, cFd, cCt, List.replicate_succ, List.replicate_zero, List.flatten_cons, List.flatten_nil, List.cons_append, List.nil_append, List.set_cons_zero, List.set_cons_succ, List.length_cons, List.length_nil, List.length_set, da])
      | (refine CallK.pure (by first | exact l02Deck a ha.2 ha.1 | exact l02Deck b hb.2 hb.1) ?_; simp -dsimp only [go_sem, reduceIte, reduceCtorEq, Nat.reduceEqDiff, Nat.reduceLT, Nat.reduceLeDiff, Nat.reduceAdd, Nat.reduceMul, Nat.reduceSub, Int.reduceToNat, Int.reduceNeg, cFd, cCt, List.replicate_succ, List.replicate_zero, List.flatten_cons, List.flatten_nil, List.cons_append, List.nil_append, List.set_cons_zero, List.set_cons_succ, List.length_cons, List.length_nil, List.length_set, da])
      | (refine And.intro (by first | rfl | omega | decide | (refine ⟨?_, ?_⟩ <;> (first | rfl | omega | decide)) | (refine ⟨?_, ?_, ?_⟩ <;> (first | rfl | omega | decide)) | (refine ⟨?_, ?_, ?_, ?_⟩ <;> (first | rfl | omega | decide))) ?_)
      | fail)
    all_goals first | (simp_all [splT]; done) | (refine ret_eq ?_; simp_all [splT]; done) | trace_state
  cases db : deckB b
  · refine Cd.spec_SplitHolds_ok.fn0 Tryz.mixed Cd.spec_SplitHolds_nt Cd.spec_SplitHolds_rs rfl fun X => ?_
    unfold Cd.spec_SplitHolds
    simp -dsimp only [go_sem, reduceIte, reduceCtorEq, Nat.reduceEqDiff, Nat.reduceLT, Nat.reduceLeDiff, Nat.reduceAdd, Nat.reduceMul, Nat.reduceSub, Int.reduceToNat, Int.reduceNeg, cFd, cCt, List.replicate_succ, List.replicate_zero, List.flatten_cons, List.flatten_nil, List.cons_append, List.nil_append, List.set_cons_zero, List.set_cons_succ, List.length_cons, List.length_nil, List.length_set, da, db]
    repeat' (first
      | (refine RgK.mk rfl ?_; simp -dsimp only [go_sem, reduceIte, reduceCtorEq, Nat.reduceEqDiff, Nat.reduceLT, Nat.reduceLeDiff, Nat.reduceAdd, Nat.reduceMul, Nat.reduceSub, Int.reduceToNat, Int.reduceNeg, cFd, cCt, List.replicate_succ, List.replicate_zero, List.flatten_cons, List.flatten_nil, List.cons_append, List.nil_append, List.set_cons_zero, List.set_cons_succ, List.length_cons, List.length_nil, List.length_set, da, db])
      | (refine Br.mk (fun h => ?_) (fun h => ?_) <;> simp -dsimp only [go_sem, reduceIte, reduceCtorEq, Nat.reduceEqDiff, Nat.reduceLT, Nat.reduceLeDiff, Nat.reduceAdd, Nat.reduceMul, Nat.reduceSub, Int.reduceToNat, Int.reduceNeg, h, cFd, cCt, List.replicate_succ, List.replicate_zero, List.flatten_cons, List.flatten_nil, List.cons_append, List.nil_append, List.set_cons_zero, List.set_cons_succ, List.length_cons, List.length_nil, List.length_set, da, db])
      | (refine CallK.flat (by first | exact l02Deck a ha.2 ha.1 | exact l02Deck b hb.2 hb.1) rfl ?_; simp -dsimp only [go_sem, reduceIte, reduceCtorEq, Nat.reduceEqDiff, Nat.reduceLT, Nat.reduceLeDiff, Nat.reduceAdd, Nat.reduceMul, Nat.reduceSub, Int.reduceToNat, Int.reduceNeg, cFd, cCt, List.replicate_succ, List.replicate_zero, List.flatten_cons, List.flatten_nil, List.cons_append, List.nil_append, List.set_cons_zero, List.set_cons_succ, List.length_cons, List.length_nil, List.length_set, da, db])
      | (refine CallK.pure (by first | exact l02Deck a ha.2 ha.1 | exact l02Deck b hb.2 hb.1) ?_; simp -dsimp only [go_sem, reduceIte, reduceCtorEq, Nat.reduceEqDiff, Nat.reduceLT, Nat.reduceLeDiff, Nat.reduceAdd, Nat.reduceMul, Nat.reduceSub, Int.reduceToNat, Int.reduceNeg, cFd, cCt, List.replicate_succ, List.replicate_zero, List.flatten_cons, List.flatten_nil, List.cons_append, List.nil_append, List.set_cons_zero, List.set_cons_succ, List.length_cons, List.length_nil, List.length_set, da, db])
      | (refine And.intro (by first | rfl | omega | decide | (refine ⟨?_, ?_⟩ <;> (first | rfl | omega | decide)) | (refine ⟨?_, ?_, ?_⟩ <;> (first | rfl | omega | decide)) | (refine ⟨?_, ?_, ?_, ?_⟩ <;> (first | rfl | omega | decide))) ?_)
      | fail)
    all_goals first | (simp_all [splT]; done) | (refine ret_eq ?_; simp_all [splT]; done) | trace_state
  cases hn : numB fr to (widB a)
  · refine Cd.spec_SplitHolds_ok.fn0 Tryz.mixed Cd.spec_SplitHolds_nt Cd.spec_SplitHolds_rs rfl fun X => ?_
    unfold Cd.spec_SplitHolds
    simp -dsimp only [go_sem, reduceIte, reduceCtorEq, Nat.reduceEqDiff, Nat.reduceLT, Nat.reduceLeDiff, Nat.reduceAdd, Nat.reduceMul, Nat.reduceSub, Int.reduceToNat, Int.reduceNeg, cFd, cCt, List.replicate_succ, List.replicate_zero, List.flatten_cons, List.flatten_nil, List.cons_append, List.nil_append, List.set_cons_zero, List.set_cons_succ, List.length_cons, List.length_nil, List.length_set, da, db, hn]
    repeat' (first
      | (refine RgK.mk rfl ?_; simp -dsimp only [go_sem, reduceIte, reduceCtorEq, Nat.reduceEqDiff, Nat.reduceLT, Nat.reduceLeDiff, Nat.reduceAdd, Nat.reduceMul, Nat.reduceSub, Int.reduceToNat, Int.reduceNeg, cFd, cCt, List.replicate_succ, List.replicate_zero, List.flatten_cons, List.flatten_nil, List.cons_append, List.nil_append, List.set_cons_zero, List.set_cons_succ, List.length_cons, List.length_nil, List.length_set, da, db, hn])
      | (refine Br.mk (fun h => ?_) (fun h => ?_) <;> simp -dsimp only [go_sem, reduceIte, reduceCtorEq, Nat.reduceEqDiff, Nat.reduceLT, Nat.reduceLeDiff, Nat.reduceAdd, Nat.reduceMul, Nat.reduceSub, Int.reduceToNat, Int.reduceNeg, h, cFd, cCt, List.replicate_succ, List.replicate_zero, List.flatten_cons, List.flatten_nil, List.cons_append, List.nil_append, List.set_cons_zero, List.set_cons_succ, List.length_cons, List.length_nil, List.length_set, da, db, hn])
      | (refine CallK.flat (by first | exact l02Deck a ha.2 ha.1 | exact l02Deck b hb.2 hb.1 | exact l07Width a | exact l18Field fr to _) rfl ?_; simp -dsimp only [go_sem, reduceIte, reduceCtorEq, Nat.reduceEqDiff, Nat.reduceLT, Nat.reduceLeDiff, Nat.reduceAdd, Nat.reduceMul, Nat.reduceSub, Int.reduceToNat, Int.reduceNeg, cFd, cCt, List.replicate_succ, List.replicate_zero, List.flatten_cons, List.flatten_nil, List.cons_append, List.nil_append, List.set_cons_zero, List.set_cons_succ, List.length_cons, List.length_nil, List.length_set, da, db, hn])
      | (refine CallK.pure (by first | exact l02Deck a ha.2 ha.1 | exact l02Deck b hb.2 hb.1 | exact l07Width a | exact l18Field fr to _) ?_; simp -dsimp only [go_sem, reduceIte, reduceCtorEq, Nat.reduceEqDiff, Nat.reduceLT, Nat.reduceLeDiff, Nat.reduceAdd, Nat.reduceMul, Nat.reduceSub, Int.reduceToNat, Int.reduceNeg, cFd, cCt, List.replicate_succ, List.replicate_zero, List.flatten_cons, List.flatten_nil, List.cons_append, List.nil_append, List.set_cons_zero, List.set_cons_succ, List.length_cons, List.length_nil, List.length_set, da, db, hn])
      | (refine And.intro (by first | rfl | omega | decide | (refine ⟨?_, ?_⟩ <;> (first | rfl | omega | decide)) | (refine ⟨?_, ?_, ?_⟩ <;> (first | rfl | omega | decide)) | (refine ⟨?_, ?_, ?_, ?_⟩ <;> (first | rfl | omega | decide))) ?_)
      | fail)
    all_goals first | (simp_all [splT]; done) | (refine ret_eq ?_; simp_all [splT]; done) | trace_state
  have oa := okP_of3 da hn
  cases hc : ctlB fr to a
  · refine Cd.spec_SplitHolds_ok.fn0 Tryz.mixed Cd.spec_SplitHolds_nt Cd.spec_SplitHolds_rs rfl fun X => ?_
    unfold Cd.spec_SplitHolds
    simp -dsimp only [go_sem, reduceIte, reduceCtorEq, Nat.reduceEqDiff, Nat.reduceLT, Nat.reduceLeDiff, Nat.reduceAdd, Nat.reduceMul, Nat.reduceSub, Int.reduceToNat, Int.reduceNeg, cFd, cCt, List.replicate_succ, List.replicate_zero, List.flatten_cons, List.flatten_nil, List.cons_append, List.nil_append, List.set_cons_zero, List.set_cons_succ, List.length_cons, List.length_nil, List.length_set, da, db, hn, hc]
    repeat' (first
      | (refine RgK.mk rfl ?_; simp -dsimp only [go_sem, reduceIte, reduceCtorEq, Nat.reduceEqDiff, Nat.reduceLT, Nat.reduceLeDiff, Nat.reduceAdd, Nat.reduceMul, Nat.reduceSub, Int.reduceToNat, Int.reduceNeg, cFd, cCt, List.replicate_succ, List.replicate_zero, List.flatten_cons, List.flatten_nil, List.cons_append, List.nil_append, List.set_cons_zero, List.set_cons_succ, List.length_cons, List.length_nil, List.length_set, da, db, hn, hc])
      | (refine Br.mk (fun h => ?_) (fun h => ?_) <;> simp -dsimp only [go_sem, reduceIte, reduceCtorEq, Nat.reduceEqDiff, Nat.reduceLT, Nat.reduceLeDiff, Nat.reduceAdd, Nat.reduceMul, Nat.reduceSub, Int.reduceToNat, Int.reduceNeg, h, cFd, cCt, List.replicate_succ, List.replicate_zero, List.flatten_cons, List.flatten_nil, List.cons_append, List.nil_append, List.set_cons_zero, List.set_cons_succ, List.length_cons, List.length_nil, List.length_set, da, db, hn, hc])
      | (refine CallK.flat (by first | exact l02Deck a ha.2 ha.1 | exact l02Deck b hb.2 hb.1 | exact l07Width a | exact l18Field fr to _ | exact l18Of a fr to ha.1 oa) rfl ?_; simp -dsimp only [go_sem, reduceIte, reduceCtorEq, Nat.reduceEqDiff, Nat.reduceLT, Nat.reduceLeDiff, Nat.reduceAdd, Nat.reduceMul, Nat.reduceSub, Int.reduceToNat, Int.reduceNeg, cFd, cCt, List.replicate_succ, List.replicate_zero, List.flatten_cons, List.flatten_nil, List.cons_append, List.nil_append, List.set_cons_zero, List.set_cons_succ, List.length_cons, List.length_nil, List.length_set, da, db, hn, hc])
      | (refine CallK.pure (by first | exact l02Deck a ha.2 ha.1 | exact l02Deck b hb.2 hb.1 | exact l07Width a | exact l18Field fr to _ | exact l18Of a fr to ha.1 oa) ?_; simp -dsimp only [go_sem, reduceIte, reduceCtorEq, Nat.reduceEqDiff, Nat.reduceLT, Nat.reduceLeDiff, Nat.reduceAdd, Nat.reduceMul, Nat.reduceSub, Int.reduceToNat, Int.reduceNeg, cFd, cCt, List.replicate_succ, List.replicate_zero, List.flatten_cons, List.flatten_nil, List.cons_append, List.nil_append, List.set_cons_zero, List.set_cons_succ, List.length_cons, List.length_nil, List.length_set, da, db, hn, hc])
      | (refine And.intro (by first | rfl | omega | decide | (refine ⟨?_, ?_⟩ <;> (first | rfl | omega | decide)) | (refine ⟨?_, ?_, ?_⟩ <;> (first | rfl | omega | decide)) | (refine ⟨?_, ?_, ?_, ?_⟩ <;> (first | rfl | omega | decide))) ?_)
      | fail)
    all_goals first | (simp_all [splT]; done) | (refine ret_eq ?_; simp_all [splT]; done) | trace_state
  by_cases hm : mtC k0 k1 a b = 0
  rotate_left
  · have e1 : (mtC k0 k1 a b != 0) = true := by simp [hm]
    refine Cd.spec_SplitHolds_ok.fn0 Tryz.mixed Cd.spec_SplitHolds_nt Cd.spec_SplitHolds_rs rfl fun X => ?_
    unfold Cd.spec_SplitHolds
    simp -dsimp only [go_sem, reduceIte, reduceCtorEq, Nat.reduceEqDiff, Nat.reduceLT, Nat.reduceLeDiff, Nat.reduceAdd, Nat.reduceMul, Nat.reduceSub, Int.reduceToNat, Int.reduceNeg, cFd, cCt, List.replicate_succ, List.replicate_zero, List.flatten_cons, List.flatten_nil, List.cons_append, List.nil_append, List.set_cons_zero, List.set_cons_succ, List.length_cons, List.length_nil, List.length_set, da, db, hn, hc, e1]
    repeat' (first
      | (refine RgK.mk rfl ?_; simp -dsimp only [go_sem, reduceIte, reduceCtorEq, Nat.reduceEqDiff, Nat.reduceLT, Nat.reduceLeDiff, Nat.reduceAdd, Nat.reduceMul, Nat.reduceSub, Int.reduceToNat, Int.reduceNeg, cFd, cCt, List.replicate_succ, List.replicate_zero, List.flatten_cons, List.flatten_nil, List.cons_append, List.nil_append, List.set_cons_zero, List.set_cons_succ, List.length_cons, List.length_nil, List.length_set, da, db, hn, hc, e1])
      | (refine Br.mk (fun h => ?_) (fun h => ?_) <;> simp -dsimp only [go_sem, reduceIte, reduceCtorEq, Nat.reduceEqDiff, Nat.reduceLT, Nat.reduceLeDiff, Nat.reduceAdd, Nat.reduceMul, Nat.reduceSub, Int.reduceToNat, Int.reduceNeg, h, cFd, cCt, List.replicate_succ, List.replicate_zero, List.flatten_cons, List.flatten_nil, List.cons_append, List.nil_append, List.set_cons_zero, List.set_cons_succ, List.length_cons, List.length_nil, List.length_set, da, db, hn, hc, e1])
      | (refine CallK.flat (by first | exact l02Deck a ha.2 ha.1 | exact l02Deck b hb.2 hb.1 | exact l07Width a | exact l18Field fr to _ | exact l18Of a fr to ha.1 oa | exact spec_MatchDecks a b k0 k1 ha hb) rfl ?_; simp -dsimp only [go_sem, reduceIte, reduceCtorEq, Nat.reduceEqDiff, Nat.reduceLT, Nat.reduceLeDiff, Nat.reduceAdd, Nat.reduceMul, Nat.reduceSub, Int.reduceToNat, Int.reduceNeg, cFd, cCt, List.replicate_succ, List.replicate_zero, List.flatten_cons, List.flatten_nil, List.cons_append, List.nil_append, List.set_cons_zero, List.set_cons_succ, List.length_cons, List.length_nil, List.length_set, da, db, hn, hc, e1])
      | (refine CallK.pure (by first | exact l02Deck a ha.2 ha.1 | exact l02Deck b hb.2 hb.1 | exact l07Width a | exact l18Field fr to _ | exact l18Of a fr to ha.1 oa | exact spec_MatchDecks a b k0 k1 ha hb) ?_; simp -dsimp only [go_sem, reduceIte, reduceCtorEq, Nat.reduceEqDiff, Nat.reduceLT, Nat.reduceLeDiff, Nat.reduceAdd, Nat.reduceMul, Nat.reduceSub, Int.reduceToNat, Int.reduceNeg, cFd, cCt, List.replicate_succ, List.replicate_zero, List.flatten_cons, List.flatten_nil, List.cons_append, List.nil_append, List.set_cons_zero, List.set_cons_succ, List.length_cons, List.length_nil, List.length_set, da, db, hn, hc, e1])
      | (refine And.intro (by first | rfl | omega | decide | (refine ⟨?_, ?_⟩ <;> (first | rfl | omega | decide)) | (refine ⟨?_, ?_, ?_⟩ <;> (first | rfl | omega | decide)) | (refine ⟨?_, ?_, ?_, ?_⟩ <;> (first | rfl | omega | decide))) ?_)
      | fail)
    all_goals first | (simp_all [splT]; done) | (refine ret_eq ?_; simp_all [splT]; done) | trace_state
  have hv : mtV k0 k1 a b = .sl 1 (E cD (mtL k0 k1 a b)) := by simp [mtV, hm]
  have CM := spec_MatchDecks a b k0 k1 ha hb
  rw [hv, hm] at CM
  have r0 : (E cD (mtL k0 k1 a b)).getD 0 [] = [.sl 1 (E cC (mat k0 k1 a b true))] := rfl
  have r2 : (E cD (mtL k0 k1 a b)).getD 2 [] = [.sl 1 (E cC (mat k0 k1 a b false))] := rfl
  have rl : (mtL k0 k1 a b).length = 4 := rfl
  have o1 : ∀ c, c ∈ mat k0 k1 a b true → okP fr to c := fun c hc => oa c (mat_sub c hc)
  have o2 : ∀ c, c ∈ mat k0 k1 a b false → okP fr to c := fun c hc => oa c (mat_sub c hc)
  have l1 : (mat k0 k1 a b true).length ≤ 40 := by have := mat_len k0 k1 a b true; have := deck_len da; omega
  have l2 : (mat k0 k1 a b false).length ≤ 40 := by have := mat_len k0 k1 a b false; have := deck_len da; omega
  have q1 := ctlT_le o1 l1
  have q2 := ctlT_le o2 l2
  have c1 : ctlB fr to (mat k0 k1 a b true) = true := ctlB_mat hc
  have c2 : ctlB fr to (mat k0 k1 a b false) = true := ctlB_mat hc
  have g1 : l18OK (mat k0 k1 a b true).length := by unfold l18OK; omega
  have g2 : l18OK (mat k0 k1 a b false).length := by unfold l18OK; omega
  have p1 : IntKind.i64.wrap ((ctlT fr to (mat k0 k1 a b true)).1 + (ctlT fr to (mat k0 k1 a b false)).1) = (ctlT fr to (mat k0 k1 a b true)).1 + (ctlT fr to (mat k0 k1 a b false)).1 := wrap_in (by omega) (by omega)
  have p2 : IntKind.i64.wrap ((ctlT fr to (mat k0 k1 a b true)).2.1 + (ctlT fr to (mat k0 k1 a b false)).2.1) = (ctlT fr to (mat k0 k1 a b true)).2.1 + (ctlT fr to (mat k0 k1 a b false)).2.1 := wrap_in (by omega) (by omega)
  have p3 : IntKind.i64.wrap ((ctlT fr to (mat k0 k1 a b true)).2.2 + (ctlT fr to (mat k0 k1 a b false)).2.2) = (ctlT fr to (mat k0 k1 a b true)).2.2 + (ctlT fr to (mat k0 k1 a b false)).2.2 := wrap_in (by omega) (by omega)
  refine Cd.spec_SplitHolds_ok.fn0 Tryz.mixed Cd.spec_SplitHolds_nt Cd.spec_SplitHolds_rs rfl fun X => ?_
  unfold Cd.spec_SplitHolds
  simp -dsimp only [go_sem, reduceIte, reduceCtorEq, Nat.reduceEqDiff, Nat.reduceLT, Nat.reduceLeDiff, Nat.reduceAdd, Nat.reduceMul, Nat.reduceSub, Int.reduceToNat, Int.reduceNeg, cFd, cCt, List.replicate_succ, List.replicate_zero, List.flatten_cons, List.flatten_nil, List.cons_append, List.nil_append, List.set_cons_zero, List.set_cons_succ, List.length_cons, List.length_nil, List.length_set, da, db, hn, hc, r0, r2, rl, E_len, c1, c2, p1, p2, p3]
  repeat' (first
    | (refine RgK.mk rfl ?_; simp -dsimp only [go_sem, reduceIte, reduceCtorEq, Nat.reduceEqDiff, Nat.reduceLT, Nat.reduceLeDiff, Nat.reduceAdd, Nat.reduceMul, Nat.reduceSub, Int.reduceToNat, Int.reduceNeg, cFd, cCt, List.replicate_succ, List.replicate_zero, List.flatten_cons, List.flatten_nil, List.cons_append, List.nil_append, List.set_cons_zero, List.set_cons_succ, List.length_cons, List.length_nil, List.length_set, da, db, hn, hc, r0, r2, rl, E_len, c1, c2, p1, p2, p3])
    | (refine Br.mk (fun h => ?_) (fun h => ?_) <;> simp -dsimp only [go_sem, reduceIte, reduceCtorEq, Nat.reduceEqDiff, Nat.reduceLT, Nat.reduceLeDiff, Nat.reduceAdd, Nat.reduceMul, Nat.reduceSub, Int.reduceToNat, Int.reduceNeg, h, cFd, cCt, List.replicate_succ, List.replicate_zero, List.flatten_cons, List.flatten_nil, List.cons_append, List.nil_append, List.set_cons_zero, List.set_cons_succ, List.length_cons, List.length_nil, List.length_set, da, db, hn, hc, r0, r2, rl, E_len, c1, c2, p1, p2, p3])
    | (refine CallK.flat (by first | exact l02Deck a ha.2 ha.1 | exact l02Deck b hb.2 hb.1 | exact l07Width a | exact l18Field fr to _ | exact l18Of a fr to ha.1 oa | exact CM | exact l18Of _ fr to g1 o1 | exact l18Of _ fr to g2 o2) rfl ?_; simp -dsimp only [go_sem, reduceIte, reduceCtorEq, Nat.reduceEqDiff, Nat.reduceLT, Nat.reduceLeDiff, Nat.reduceAdd, Nat.reduceMul, Nat.reduceSub, Int.reduceToNat, Int.reduceNeg, cFd, cCt, List.replicate_succ, List.replicate_zero, List.flatten_cons, List.flatten_nil, List.cons_append, List.nil_append, List.set_cons_zero, List.set_cons_succ, List.length_cons, List.length_nil, List.length_set, da, db, hn, hc, r0, r2, rl, E_len, c1, c2, p1, p2, p3])
    | (refine CallK.pure (by first | exact l02Deck a ha.2 ha.1 | exact l02Deck b hb.2 hb.1 | exact l07Width a | exact l18Field fr to _ | exact l18Of a fr to ha.1 oa | exact CM | exact l18Of _ fr to g1 o1 | exact l18Of _ fr to g2 o2) ?_; simp -dsimp only [go_sem, reduceIte, reduceCtorEq, Nat.reduceEqDiff, Nat.reduceLT, Nat.reduceLeDiff, Nat.reduceAdd, Nat.reduceMul, Nat.reduceSub, Int.reduceToNat, Int.reduceNeg, cFd, cCt, List.replicate_succ, List.replicate_zero, List.flatten_cons, List.flatten_nil, List.cons_append, List.nil_append, List.set_cons_zero, List.set_cons_succ, List.length_cons, List.length_nil, List.length_set, da, db, hn, hc, r0, r2, rl, E_len, c1, c2, p1, p2, p3])
    | (refine And.intro (by first | rfl | omega | decide | (refine ⟨?_, ?_⟩ <;> (first | rfl | omega | decide)) | (refine ⟨?_, ?_, ?_⟩ <;> (first | rfl | omega | decide)) | (refine ⟨?_, ?_, ?_, ?_⟩ <;> (first | rfl | omega | decide))) ?_)
    | fail)
  have hs : splT fr to k0 k1 a b = (splE (ctlT fr to (mat k0 k1 a b true)) (ctlT fr to (mat k0 k1 a b false)) (ctlT fr to a), 0) := by simp [splT, da, db, hn, hc, hm]
  rw [hs, splE_comm]
  all_goals first | exact ⟨_, _, rfl, rfl⟩ | (refine ret_eq rfl) | trace_state
end Go.Proofs.YtgeeipfdkamhmaaGreatDoor
