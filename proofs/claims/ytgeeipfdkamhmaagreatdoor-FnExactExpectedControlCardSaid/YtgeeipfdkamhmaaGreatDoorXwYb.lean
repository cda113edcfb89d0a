/- The control totals of an office's decks: bounds, codes. -/
import Derived.Test.YtgeeipfdkamhmaaGreatDoorXwC
import Derived.Test.YtgeeipfdkamhmaaGreatDoorXwD
import Derived.Test.YtgeeipfdkamhmaaGreatDoorXuI
namespace Go.Proofs.YtgeeipfdkamhmaaGreatDoor
open Go.Vs
set_option linter.unusedSimpArgs false
set_option linter.unusedVariables false
attribute [local irreducible] Vs.Fn

theorem dsN_lt : ∀ (k n : Nat), n < 10 ^ k → dsN n ≤ 9 * k
  | 0, n, h => by
    have : n = 0 := by simpa using h
    subst this; simp [dsN_zero]
  | k + 1, n, h => by
    rw [Nat.pow_succ] at h
    have := dsN_lt k (n / 10) (by omega)
    rw [dsN_any n]; omega
theorem ctlG_le (fr to : Int) : ∀ (l : List (List Int)) (m : Nat) (s d a b : Int), (∀ c, c ∈ l → okP fr to c) → m + l.length ≤ 40 → -1000000000000 * m ≤ s → s ≤ 1000000000000 * m → 0 ≤ d → d ≤ 117 * m →
    ctlG fr to l s d = some (a, b) → -40000000000000 ≤ a ∧ a ≤ 40000000000000 ∧ 0 ≤ b ∧ b ≤ 4680
  | [], m, s, d, a, b, _, hm, h1, h2, h3, h4, h => by
    simp only [ctlG, Option.some.injEq, Prod.mk.injEq] at h
    simp only [List.length_nil] at hm
    omega
  | c :: r, m, s, d, a, b, hk, hm, h1, h2, h3, h4, h => by
    simp only [List.length_cons] at hm
    have hc := hk c (by simp)
    have hle := numC_le hc
    have hd := dsN_lt 13 (numC fr to c).1.natAbs (by omega)
    simp only [ctlG] at h
    split at h
    · have e1 : W (s + (numC fr to c).1) = s + (numC fr to c).1 := wrap_in (by omega) (by omega)
      have e2 : W (d + (dsN (numC fr to c).1.natAbs : Int)) = d + (dsN (numC fr to c).1.natAbs : Int) := wrap_in (by omega) (by omega)
      rw [e1, e2] at h
      exact ctlG_le fr to r (m + 1) _ _ a b (fun x hx => hk x (by simp [hx])) (by omega) (by omega) (by omega) (by omega) (by omega) h
    · cases h
theorem ctlT_le {fr to : Int} {l : List (List Int)} (hk : ∀ c, c ∈ l → okP fr to c) (hl : l.length ≤ 40) :
    (0 ≤ (ctlT fr to l).1 ∧ (ctlT fr to l).1 ≤ 40) ∧ (-40000000000000 ≤ (ctlT fr to l).2.1 ∧ (ctlT fr to l).2.1 ≤ 40000000000000) ∧ (0 ≤ (ctlT fr to l).2.2 ∧ (ctlT fr to l).2.2 ≤ 4680) := by
  unfold ctlT
  split
  · rename_i s d h
    have := ctlG_le fr to l 0 0 0 s d hk (by omega) (by omega) (by omega) (by omega) (by omega) h
    simp only; omega
  · simp
/-- the code of an office and a field for numbers -/
def exC (fr to : Int) (o : Off) : Int := if offB o then (if numB fr to (wO o.trays) then 0 else 2) else 1
theorem off_len {o : Off} (h : offB o = true) : o.trays.length = 6 := by
  simp only [offB, Bool.and_eq_true, beq_iff_eq] at h
  omega
theorem off_tray {o : Off} (h : offB o = true) {i : Nat} (hi : i < 6) : offI o i = true := by
  have h6 := off_len h
  simp only [offB, Bool.and_eq_true] at h
  have h1 := h.1
  rw [rall_true] at h1
  exact h1 i (by omega)
theorem off_deck {o : Off} (h : offB o = true) {i : Nat} (hi : i < 6) : deckB (o.trays.getD i []) = true := by
  have := off_tray h hi
  simp only [offI, Bool.and_eq_true] at this
  exact this.1
theorem deck_len {l : List (List Int)} (h : deckB l = true) : l.length ≤ 40 := by
  simp only [deckB, Bool.and_eq_true, decide_eq_true_eq] at h
  omega
theorem off_okP {o : Off} (h : offB o = true) {fr to : Int} (hn : numB fr to (wO o.trays) = true) {i : Nat} (hi : i < 6) : ∀ c, c ∈ o.trays.getD i [] → okP fr to c := by
  have ht := off_tray h hi
  simp only [offI, Bool.and_eq_true, Bool.or_eq_true, beq_iff_eq] at ht
  intro c hc
  have h0 : (o.trays.getD i []).length ≠ 0 := by intro e; rw [List.eq_nil_of_length_eq_zero e] at hc; cases hc
  have hw := ht.2.resolve_left h0
  have hd := ht.1
  simp only [deckB, Bool.and_eq_true, List.all_eq_true, decide_eq_true_eq] at hd
  simp only [numB, fldB, Bool.and_eq_true, decide_eq_true_eq] at hn
  obtain ⟨hcb, hcl⟩ := hd.1 c hc
  simp only [cardB, inB, Bool.and_eq_true, List.all_eq_true, decide_eq_true_eq] at hcb
  rw [← hw, ← hcl] at hn
  obtain ⟨⟨h1, h2, h3⟩, h4⟩ := hn
  obtain ⟨h5, h6, h7⟩ := hcb
  have hw : W (to - fr) = to - fr := wrap_in (by omega) (by omega)
  rw [hw] at h4
  exact ⟨h1, h2, h3, h4, by omega, fun x hx => h5 x hx⟩
theorem l18Code (fr to : Int) (o : Off) (ho : smallO o) : Vs.Fn Tryz.prog F.spec_l18Code [] [.ro (cO o), .agg (cFd fr to)] (.v (.int .i64 (exC fr to o))) [] := by
  refine Cd.spec_l18Code_ok.fn0 Tryz.mixed Cd.spec_l18Code_nt Cd.spec_l18Code_rs rfl fun X => ?_
  unfold Cd.spec_l18Code
  simp -dsimp only [go_sem, reduceIte, reduceCtorEq, Nat.reduceEqDiff, Nat.reduceLT, Nat.reduceLeDiff, Nat.reduceAdd, Nat.reduceMul, Nat.reduceSub, Int.reduceToNat, Int.reduceNeg, cFd, cO]
  repeat' (first
    | (refine RgK.mk rfl ?_; simp -dsimp only [go_sem, reduceIte, reduceCtorEq, Nat.reduceEqDiff, Nat.reduceLT, Nat.reduceLeDiff, Nat.reduceAdd, Nat.reduceMul, Nat.reduceSub, Int.reduceToNat, Int.reduceNeg, cFd, cO])
    | (refine Br.mk (fun h => ?_) (fun h => ?_) <;> simp -dsimp only [go_sem, reduceIte, reduceCtorEq, Nat.reduceEqDiff, Nat.reduceLT, Nat.reduceLeDiff, Nat.reduceAdd, Nat.reduceMul, Nat.reduceSub, Int.reduceToNat, Int.reduceNeg, h, cFd, cO])
    | (refine CallK.flat (by first | exact l15Ok o ho | exact l15Width o ho | exact l18Field fr to _) rfl ?_; simp -dsimp only [go_sem, reduceIte, reduceCtorEq, Nat.reduceEqDiff, Nat.reduceLT, Nat.reduceLeDiff, Nat.reduceAdd, Nat.reduceMul, Nat.reduceSub, Int.reduceToNat, Int.reduceNeg, cFd, cO])
    | (refine CallK.pure (by first | exact l15Ok o ho | exact l15Width o ho | exact l18Field fr to _) ?_; simp -dsimp only [go_sem, reduceIte, reduceCtorEq, Nat.reduceEqDiff, Nat.reduceLT, Nat.reduceLeDiff, Nat.reduceAdd, Nat.reduceMul, Nat.reduceSub, Int.reduceToNat, Int.reduceNeg, cFd, cO])
    | (refine And.intro (by first | rfl | omega | decide | (refine ⟨?_, ?_⟩ <;> (first | rfl | omega | decide)) | (refine ⟨?_, ?_, ?_⟩ <;> (first | rfl | omega | decide)) | (refine ⟨?_, ?_, ?_, ?_⟩ <;> (first | rfl | omega | decide))) ?_)
    | fail)
  all_goals (simp_all [exC])

theorem officeCode0 (fr to : Int) (o : Off) (ho : smallO o) : Vs.Fn Tryz.prog F.impl_officeCode [] [.agg (cO o), .v (.slice none 0 0), .agg (cFd fr to)] (.v (.int .i64 (exC fr to o))) [] := by
  refine Cd.impl_officeCode_ok.fn0 Tryz.mixed Cd.impl_officeCode_nt Cd.impl_officeCode_rs rfl fun X => ?_
  unfold Cd.impl_officeCode
  simp -dsimp only [go_sem, reduceIte, reduceCtorEq, Nat.reduceEqDiff, Nat.reduceLT, Nat.reduceLeDiff, Nat.reduceAdd, Nat.reduceMul, Nat.reduceSub, Int.reduceToNat, Int.reduceNeg, cFd, cO]
  repeat' (first
    | (refine RgK.mk rfl ?_; simp -dsimp only [go_sem, reduceIte, reduceCtorEq, Nat.reduceEqDiff, Nat.reduceLT, Nat.reduceLeDiff, Nat.reduceAdd, Nat.reduceMul, Nat.reduceSub, Int.reduceToNat, Int.reduceNeg, cFd, cO])
    | (refine Br.mk (fun h => ?_) (fun h => ?_) <;> simp -dsimp only [go_sem, reduceIte, reduceCtorEq, Nat.reduceEqDiff, Nat.reduceLT, Nat.reduceLeDiff, Nat.reduceAdd, Nat.reduceMul, Nat.reduceSub, Int.reduceToNat, Int.reduceNeg, h, cFd, cO])
    | (refine CallK.flat (by first | exact impl_ValidOffice o ho | exact officeColumns o ho | exact isNumberField fr to _) rfl ?_; simp -dsimp only [go_sem, reduceIte, reduceCtorEq, Nat.reduceEqDiff, Nat.reduceLT, Nat.reduceLeDiff, Nat.reduceAdd, Nat.reduceMul, Nat.reduceSub, Int.reduceToNat, Int.reduceNeg, cFd, cO])
    | (refine CallK.pure (by first | exact impl_ValidOffice o ho | exact officeColumns o ho | exact isNumberField fr to _) ?_; simp -dsimp only [go_sem, reduceIte, reduceCtorEq, Nat.reduceEqDiff, Nat.reduceLT, Nat.reduceLeDiff, Nat.reduceAdd, Nat.reduceMul, Nat.reduceSub, Int.reduceToNat, Int.reduceNeg, cFd, cO])
    | (refine And.intro (by first | rfl | omega | decide | (refine ⟨?_, ?_⟩ <;> (first | rfl | omega | decide)) | (refine ⟨?_, ?_, ?_⟩ <;> (first | rfl | omega | decide)) | (refine ⟨?_, ?_, ?_, ?_⟩ <;> (first | rfl | omega | decide))) ?_)
    | fail)
  all_goals (simp_all [exC])

theorem spec_KeepsControl (k : Int) : Vs.Fn Tryz.prog F.spec_KeepsControl [] [.v (.int .i64 k)] (.v (.bool (k == 1 || k == 2))) [] := by
  refine Cd.spec_KeepsControl_ok.fn0 Tryz.mixed Cd.spec_KeepsControl_nt Cd.spec_KeepsControl_rs rfl fun X => ?_
  unfold Cd.spec_KeepsControl
  simp -dsimp only [go_sem, reduceIte, reduceCtorEq, Nat.reduceEqDiff, Nat.reduceLT, Nat.reduceLeDiff, Nat.reduceAdd, Nat.reduceMul, Nat.reduceSub, Int.reduceToNat, Int.reduceNeg]
  repeat' (first
    | (refine RgK.mk rfl ?_; simp -dsimp only [go_sem, reduceIte, reduceCtorEq, Nat.reduceEqDiff, Nat.reduceLT, Nat.reduceLeDiff, Nat.reduceAdd, Nat.reduceMul, Nat.reduceSub, Int.reduceToNat, Int.reduceNeg])
    | (refine Br.mk (fun h => ?_) (fun h => ?_) <;> simp -dsimp only [go_sem, reduceIte, reduceCtorEq, Nat.reduceEqDiff, Nat.reduceLT, Nat.reduceLeDiff, Nat.reduceAdd, Nat.reduceMul, Nat.reduceSub, Int.reduceToNat, Int.reduceNeg, h])
    | (refine And.intro (by first | rfl | omega | decide | (refine ⟨?_, ?_⟩ <;> (first | rfl | omega | decide)) | (refine ⟨?_, ?_, ?_⟩ <;> (first | rfl | omega | decide)) | (refine ⟨?_, ?_, ?_, ?_⟩ <;> (first | rfl | omega | decide))) ?_)
    | fail)
  all_goals (first | (simp_all; done) | (refine ret_eq ?_; grind))

theorem impl_KeepsControl (k : Int) : Vs.Fn Tryz.prog F.impl_KeepsControl [] [.v (.int .i64 k)] (.v (.bool (k == 1 || k == 2))) [] := by
  refine Cd.impl_KeepsControl_ok.fn0 Tryz.mixed Cd.impl_KeepsControl_nt Cd.impl_KeepsControl_rs rfl fun X => ?_
  unfold Cd.impl_KeepsControl
  simp -dsimp only [go_sem, reduceIte, reduceCtorEq, Nat.reduceEqDiff, Nat.reduceLT, Nat.reduceLeDiff, Nat.reduceAdd, Nat.reduceMul, Nat.reduceSub, Int.reduceToNat, Int.reduceNeg]
  repeat' (first
    | (refine RgK.mk rfl ?_; simp -dsimp only [go_sem, reduceIte, reduceCtorEq, Nat.reduceEqDiff, Nat.reduceLT, Nat.reduceLeDiff, Nat.reduceAdd, Nat.reduceMul, Nat.reduceSub, Int.reduceToNat, Int.reduceNeg])
    | (refine Br.mk (fun h => ?_) (fun h => ?_) <;> simp -dsimp only [go_sem, reduceIte, reduceCtorEq, Nat.reduceEqDiff, Nat.reduceLT, Nat.reduceLeDiff, Nat.reduceAdd, Nat.reduceMul, Nat.reduceSub, Int.reduceToNat, Int.reduceNeg, h])
    | (refine And.intro (by first | rfl | omega | decide | (refine ⟨?_, ?_⟩ <;> (first | rfl | omega | decide)) | (refine ⟨?_, ?_, ?_⟩ <;> (first | rfl | omega | decide)) | (refine ⟨?_, ?_, ?_, ?_⟩ <;> (first | rfl | omega | decide))) ?_)
    | fail)
  all_goals (first | (simp_all; done) | (refine ret_eq ?_; grind))


def trD (o : Off) (k : Int) : List (List Int) := o.trays.getD k.toNat []
def plC (x y : Int × Int × Int) : Int × Int × Int := (x.1 + y.1, x.2.1 + y.2.1, x.2.2 + y.2.2)
def expT (fr to : Int) (o : Off) (x : Stp) : (Int × Int × Int) × Int :=
  if exC fr to o = 0 then (if stpB x (wO o.trays) then (if x.kind == 1 || x.kind == 2 then
    (if x.kind == 1 then (if ctlB fr to (trD o x.a) then (ctlT fr to (trD o x.a), 0) else ((0, 0, 0), 8))
      else (if ctlB fr to (trD o x.a) && ctlB fr to (trD o x.b) then (plC (ctlT fr to (trD o x.a)) (ctlT fr to (trD o x.b)), 0) else ((0, 0, 0), 8))) else ((0, 0, 0), 6)) else ((0, 0, 0), 2)) else ((0, 0, 0), exC fr to o)
theorem wO_in : ∀ (l : List (List (List Int))), (∀ d, d ∈ l → deckB d = true) → 1 ≤ wO l ∧ wO l ≤ 20
  | [], _ => by simp [wO]
  | d :: r, h => by
    rw [wO]
    split
    · exact wO_in r fun e he => h e (by simp [he])
    · rename_i h0
      have hd := h d (by simp)
      have h1 : 0 < d.length := by omega
      simp only [deckB, Bool.and_eq_true, List.all_eq_true, decide_eq_true_eq] at hd
      have hc := (hd.1 d[0] (List.getElem_mem h1)).1
      simp only [cardB, inB, Bool.and_eq_true, List.all_eq_true, decide_eq_true_eq] at hc
      rw [getD_lt h1]
      omega
theorem off_wO {o : Off} (h : offB o = true) : inB (wO o.trays : Int) 1 20 = true := by
  have h6 := off_len h
  have := wO_in o.trays fun d hd => by
    obtain ⟨i, hi, rfl⟩ := List.mem_iff_getElem.1 hd
    have := off_deck h (i := i) (by omega)
    rw [getD_lt hi] at this; exact this
  simp only [inB, Bool.and_eq_true, decide_eq_true_eq]
  omega
theorem exC_zero {fr to : Int} {o : Off} (h : exC fr to o = 0) : offB o = true ∧ numB fr to (wO o.trays) = true := by
  unfold exC at h
  split at h
  · split at h
    · exact ⟨by assumption, by assumption⟩
    · cases h
  · cases h
theorem stpB_ab {x : Stp} {w : Int} (h : stpB x w = true) : (0 ≤ x.a ∧ x.a ≤ 5) ∧ (0 ≤ x.b ∧ x.b ≤ 5) := by
  simp only [stpB, inB, Bool.and_eq_true, decide_eq_true_eq] at h
  omega
theorem tr_row {o : Off} (h : offB o = true) {k : Int} (h0 : 0 ≤ k ∧ k ≤ 5) : (0 ≤ k ∧ k < (o.trays.length : Int)) ∧ (E cD o.trays).getD k.toNat [] = [.sl 1 (E cC (trD o k))] := by
  have h6 := off_len h
  have hlt : k.toNat < o.trays.length := by omega
  refine ⟨by omega, ?_⟩
  rw [E_get hlt, trD, getD_lt hlt]; rfl
theorem joinR_plain {a b : Int × Int × Int} (ha : (0 ≤ a.1 ∧ a.1 ≤ 40) ∧ (-40000000000000 ≤ a.2.1 ∧ a.2.1 ≤ 40000000000000) ∧ (0 ≤ a.2.2 ∧ a.2.2 ≤ 4680)) (hb : (0 ≤ b.1 ∧ b.1 ≤ 40) ∧ (-40000000000000 ≤ b.2.1 ∧ b.2.1 ≤ 40000000000000) ∧ (0 ≤ b.2.2 ∧ b.2.2 ≤ 4680)) :
    joinR a.1 a.2.1 a.2.2 b.1 b.2.1 b.2.2 (W (a.1 + b.1)) (W (a.2.1 + b.2.1)) (W (a.2.2 + b.2.2)) = ((plC a b).1, (plC a b).2.1, (plC a b).2.2, 0) := by
  have e1 : W (a.1 + b.1) = a.1 + b.1 := wrap_in (by omega) (by omega)
  have e2 : W (a.2.1 + b.2.1) = a.2.1 + b.2.1 := wrap_in (by omega) (by omega)
  have e3 : W (a.2.2 + b.2.2) = a.2.2 + b.2.2 := wrap_in (by omega) (by omega)
  have k1 : okC a.1 a.2.1 a.2.2 = true := by simp only [okC, inB, Bool.and_eq_true, decide_eq_true_eq]; omega
  have k2 : okC b.1 b.2.1 b.2.2 = true := by simp only [okC, inB, Bool.and_eq_true, decide_eq_true_eq]; omega
  have k3 : okC (a.1 + b.1) (a.2.1 + b.2.1) (a.2.2 + b.2.2) = true := by simp only [okC, inB, Bool.and_eq_true, decide_eq_true_eq]; omega
  simp [joinR, e1, e2, e3, k1, k2, k3, plC]
theorem plus_plain {a b : Int} {k : Int} (hk : 0 ≤ k ∧ k ≤ 1000000000000000) (ha : -k ≤ a ∧ a ≤ k) (hb : -k ≤ b ∧ b ≤ k) : IntKind.i64.wrap (a + IntKind.i64.wrap (1 * b)) = a + b := by
  rw [wrap_in (n := 1 * b) (by omega) (by omega), Int.one_mul, wrap_in (by omega) (by omega)]
end Go.Proofs.YtgeeipfdkamhmaaGreatDoor
