/- The law FnExactValidFaults returns true for every input, and its arguments read behind the call as they read before. Conditions: none beyond the given statement. -/
import Derived.Test.YtgeeipfdkamhmaaDoorTwA
import Derived.Test.YtgeeipfdkamhmaaDoorTuO
namespace Go.Proofs.YtgeeipfdkamhmaaDoor
open Go.Vs
set_option linter.unusedSimpArgs false
set_option linter.unusedVariables false
attribute [local irreducible] Vs.Fn
theorem W_small {n : Int} (h1 : 0 ≤ n) (h2 : n ≤ 1048576) : W n = n := wrap_in (by omega) (by omega)
theorem wl_dig {n : Int} (h0 : 0 ≤ n) (h1 : n ≤ 9999) (p : Nat) (hp : p < 4) : (W (n.tdiv ((10 ^ p : Nat) : Int))).tmod 10 = (wl 4 n).getD p 0 := by
  have td : ∀ (m k : Int), 0 ≤ m → m.tdiv k = m / k := fun m k hm => Int.tdiv_eq_ediv_of_nonneg hm
  have h : p = 0 ∨ p = 1 ∨ p = 2 ∨ p = 3 := by omega
  have e1 : W (n.tdiv 10) = n / 10 := by rw [td _ _ h0, W_small (by omega) (by omega)]
  have e2 : W ((n / 10).tdiv 10) = n / 10 / 10 := by rw [td _ _ (by omega), W_small (by omega) (by omega)]
  have e3 : W ((n / 10 / 10).tdiv 10) = n / 10 / 10 / 10 := by rw [td _ _ (by omega), W_small (by omega) (by omega)]
  have q1 : ((10 ^ 1 : Nat) : Int) = 10 := rfl
  have q2 : ((10 ^ 2 : Nat) : Int) = 100 := rfl
  have q3 : ((10 ^ 3 : Nat) : Int) = 1000 := rfl
  have q0 : ((10 ^ 0 : Nat) : Int) = 1 := rfl
  rcases h with rfl | rfl | rfl | rfl
  · rw [q0, Int.tdiv_one, W_small h0 (by omega)]; simp [wl]
  · rw [q1, e1]; simp [wl, e1]
  · rw [q2, td _ _ h0, W_small (by omega) (by omega)]
    simp only [wl, e1, e2, List.getD_cons_succ, List.getD_cons_zero]
    rw [show n / 100 = n / 10 / 10 by omega]
  · rw [q3, td _ _ h0, W_small (by omega) (by omega)]
    simp only [wl, e1, e2, e3, List.getD_cons_succ, List.getD_cons_zero]
    rw [show n / 1000 = n / 10 / 10 / 10 by omega]
theorem amB_spec {l : List Int} (h : amB l = true) : l.length ≤ 12 ∧ ∀ x, x ∈ l → 0 ≤ x ∧ x ≤ 9999 := by
  simp only [amB, Bool.and_eq_true, List.all_eq_true, decide_eq_true_eq, inB] at h
  exact ⟨by omega, fun x hx => ⟨(h.1 x hx).1, (h.1 x hx).2⟩⟩
/-- the facts of a fault that is one of the forms -/
theorem isF_digit {f : Flt} (h : isF f = true) (hk : f.kind = 3) : ∃ p : Nat, f.place = p ∧ p < 4 := by
  simp only [isF, hk, if_true, inB, Bool.and_eq_true, decide_eq_true_eq] at h
  exact ⟨f.place.toNat, by omega, by omega⟩
theorem card_nat {l : List Int} {c : Int} (hl : l.length ≤ 12) (h : inB c 0 (W (l.length - 1)) = true) : ∃ k : Nat, c = k ∧ k < l.length := by
  simp only [inB, Bool.and_eq_true, decide_eq_true_eq] at h
  by_cases h0 : l.length = 0
  · rw [h0] at h
    have : W (((0 : Nat) : Int) - 1) = -1 := by decide
    rw [this] at h; omega
  · rw [W_small (by omega) (by omega)] at h
    exact ⟨c.toNat, by omega, by omega⟩

theorem l19Fault (l : List Int) (f : Flt) (hl : amB l = true) : Vs.Fn Tryd.prog F.spec_l19Fault [] [.sl 1 (E cI l), .agg (cF f)] (.v (.bool (fltB l f))) [] := by
  obtain ⟨h12, hr⟩ := amB_spec hl
  refine Cd.spec_l19Fault_ok.fn0 Tryd.mixed Cd.spec_l19Fault_nt Cd.spec_l19Fault_rs rfl fun X => ?_
  unfold Cd.spec_l19Fault
  simp -dsimp only [go_sem, reduceIte, reduceCtorEq, Nat.reduceEqDiff, Nat.reduceLT, Nat.reduceLeDiff, Nat.reduceAdd, Nat.reduceMul, Nat.reduceSub, Int.reduceToNat, Int.reduceNeg, cF]
  refine CallK.flat (l19Form f) rfl ?_
  cases hf : isF f with
  | false =>
    simp -dsimp only [go_sem, reduceIte, reduceCtorEq, Nat.reduceEqDiff, Nat.reduceLT, Nat.reduceLeDiff, Nat.reduceAdd, Nat.reduceMul, Nat.reduceSub, Int.reduceToNat, Int.reduceNeg, cF, hf, Bool.and_self]
    simp [fltB, hf]
  | true =>
    cases h11 : inB f.card 0 11 with
    | false =>
      have hc : inB f.card 0 (W (l.length - 1)) = false := by
        cases h : inB f.card 0 (W (l.length - 1)) with
        | false => rfl
        | true =>
          obtain ⟨k, hk, hk2⟩ := card_nat h12 h
          simp [inB] at h11
          omega
      simp -dsimp only [go_sem, reduceIte, reduceCtorEq, Nat.reduceEqDiff, Nat.reduceLT, Nat.reduceLeDiff, Nat.reduceAdd, Nat.reduceMul, Nat.reduceSub, Int.reduceToNat, Int.reduceNeg, cF, hf, Bool.and_self]
      simp [fltB, hf, hc]
    | true =>
      simp -dsimp only [go_sem, reduceIte, reduceCtorEq, Nat.reduceEqDiff, Nat.reduceLT, Nat.reduceLeDiff, Nat.reduceAdd, Nat.reduceMul, Nat.reduceSub, Int.reduceToNat, Int.reduceNeg, cF, hf, Bool.and_self]
      refine Br.mk (fun h2 => ?_) fun h2 => ?_
      · have hc : inB f.card 0 (W (l.length - 1)) = false := by
          cases h : inB f.card 0 (W (l.length - 1)) with
          | false => rfl
          | true =>
            obtain ⟨k, hk, hk2⟩ := card_nat h12 h
            simp at h2
            omega
        simp -dsimp only [go_sem, reduceIte, reduceCtorEq, Nat.reduceEqDiff, Nat.reduceLT, Nat.reduceLeDiff, Nat.reduceAdd, Nat.reduceMul, Nat.reduceSub, Int.reduceToNat, Int.reduceNeg, cF, hf, Bool.and_self]
        simp [fltB, hf, hc]
      · have hc : inB f.card 0 (W (l.length - 1)) = true := by
          simp only [inB, Bool.and_eq_true, decide_eq_true_eq, decide_eq_false_iff_not] at h11 h2 ⊢
          rw [W_small (by omega) (by omega)]
          omega
        obtain ⟨k, hk, hk2⟩ := card_nat h12 hc
        obtain ⟨n0, n1⟩ := hr l[k] (List.getElem_mem hk2)
        simp -dsimp only [go_sem, reduceIte, reduceCtorEq, Nat.reduceEqDiff, Nat.reduceLT, Nat.reduceLeDiff, Nat.reduceAdd, Nat.reduceMul, Nat.reduceSub, Int.reduceToNat, Int.reduceNeg, cF, hf, Bool.and_self]
        refine RgK.mk rfl ?_
        simp -dsimp only [go_sem, reduceIte, reduceCtorEq, Nat.reduceEqDiff, Nat.reduceLT, Nat.reduceLeDiff, Nat.reduceAdd, Nat.reduceMul, Nat.reduceSub, Int.reduceToNat, Int.reduceNeg, cF, hf, Bool.and_self]
        refine Br.mk (fun h3 => ?_) fun h3 => ?_
        · simp -dsimp only [go_sem, reduceIte, reduceCtorEq, Nat.reduceEqDiff, Nat.reduceLT, Nat.reduceLeDiff, Nat.reduceAdd, Nat.reduceMul, Nat.reduceSub, Int.reduceToNat, Int.reduceNeg, h3, cF]
          simp only [bne_iff_ne, ne_eq] at h3
          simp [fltB, hf, hc, h3]
        · have hk3 : f.kind = 3 := by simpa using h3
          obtain ⟨p, hp, hp4⟩ := isF_digit hf hk3
          simp -dsimp only [go_sem, reduceIte, reduceCtorEq, Nat.reduceEqDiff, Nat.reduceLT, Nat.reduceLeDiff, Nat.reduceAdd, Nat.reduceMul, Nat.reduceSub, Int.reduceToNat, Int.reduceNeg, cF, h3, hk, hp, cI_get hk2]
          refine ⟨⟨by omega, by omega⟩, CallK.flat (l19Power p hp4) rfl ?_⟩
          have hz : ((10 ^ p : Nat) : Int) ≠ 0 := by
            have : 0 < 10 ^ p := Nat.pow_pos (by omega)
            omega
          have hd := wl_dig n0 n1 p hp4
          simp -dsimp only [go_sem, reduceIte, reduceCtorEq, Nat.reduceEqDiff, Nat.reduceLT, Nat.reduceLeDiff, Nat.reduceAdd, Nat.reduceMul, Nat.reduceSub, Int.reduceToNat, Int.reduceNeg, cF, h3, hk, hp, cI_get hk2]
          refine ⟨hz, by omega, ?_⟩
          simp only [hd]
          have hc' := hc
          rw [hk] at hc'
          simp [fltB, hf, hc, hc', hk3, digI, hk, hp, List.getD, hk2]

/-- whether the fault at i is one, behind the one before it -/
def arI (l : List Int) (fs : List Flt) (i : Nat) : Bool := fltB l (fs.getD i default) && (i == 0 || decide ((fs.getD (i - 1) default).card < (fs.getD i default).card))
def arB (l : List Int) (fs : List Flt) : Bool := rall fs.length (arI l fs) && decide ((fs.length : Int) ≤ 2)
theorem getD_lt {α : Type} {l : List α} {i : Nat} (h : i < l.length) (d : α) : l.getD i d = l[i] := by simp [List.getD, h]
theorem l19Faults (l : List Int) (fs : List Flt) (hl : amB l = true) (hfs : fs.length ≤ 1048576) : Vs.Fn Tryd.prog F.spec_l19Faults [] [.sl 1 (E cI l), .sl 4 (E cF fs)] (.v (.bool (arB l fs))) [] := by
  refine Cd.spec_l19Faults_ok.fn0 Tryd.mixed Cd.spec_l19Faults_nt Cd.spec_l19Faults_rs rfl fun X => ?_
  unfold Cd.spec_l19Faults
  simp -dsimp only [go_sem, reduceIte, reduceCtorEq, Nat.reduceEqDiff, Nat.reduceLT, Nat.reduceLeDiff, Nat.reduceAdd, Nat.reduceMul, Nat.reduceSub, Int.reduceToNat, Int.reduceNeg]
  refine LoopK.at (drawn_ok Tryd.mixed) (X := { zz : Nat × (Unit) // zz.1 ≤ fs.length ∧ rall zz.1 (arI l fs) = true }) (fun zz => [(5, .v (.int .i64 zz.1.1))]) (fun zz => []) (fun zz => fs.length - zz.1.1) ⟨(0, ()), by omega, rall_zero _⟩ ?_ ?_
  · simp [Vs.LeL, Vs.look, Vs.hlook, Vs.sput, Vs.sputs, Vs.hset, Vs.hputs]
  · rintro ⟨⟨i, _⟩, hi, hg⟩
    dsimp only at hi hg
    simp -dsimp only [go_sem, reduceIte, reduceCtorEq, Nat.reduceEqDiff, Nat.reduceLT, Nat.reduceLeDiff, Nat.reduceAdd, Nat.reduceMul, Nat.reduceSub, Int.reduceToNat, Int.reduceNeg]
    refine Br.mk (fun hc => ?_) fun hc => ?_
    · have hlt : i < fs.length := by first | (simpa using hc) | (simp at hc; omega)
      have hw := wrap_succ hlt hfs
      have hgi := getD_lt hlt (default : Flt)
      by_cases h0 : i = 0
      · have hd0 : decide ((i : Int) > 0) = false := by simp; omega
        simp -dsimp only [go_sem, reduceIte, reduceCtorEq, Nat.reduceEqDiff, Nat.reduceLT, Nat.reduceLeDiff, Nat.reduceAdd, Nat.reduceMul, Nat.reduceSub, Int.reduceToNat, Int.reduceNeg, E_get hlt, cF, hd0]
        repeat' (first
          | (refine RgK.mk rfl ?_; simp -dsimp only [go_sem, reduceIte, reduceCtorEq, Nat.reduceEqDiff, Nat.reduceLT, Nat.reduceLeDiff, Nat.reduceAdd, Nat.reduceMul, Nat.reduceSub, Int.reduceToNat, Int.reduceNeg, E_get hlt, cF, hd0, hw])
          | (refine Br.mk (fun h => ?_) (fun h => ?_) <;> simp -dsimp only [go_sem, reduceIte, reduceCtorEq, Nat.reduceEqDiff, Nat.reduceLT, Nat.reduceLeDiff, Nat.reduceAdd, Nat.reduceMul, Nat.reduceSub, Int.reduceToNat, Int.reduceNeg, h, E_get hlt, cF, hd0, hw])
          | (refine CallK.flat (by first | exact l19Fault l fs[i] hl) rfl ?_; simp -dsimp only [go_sem, reduceIte, reduceCtorEq, Nat.reduceEqDiff, Nat.reduceLT, Nat.reduceLeDiff, Nat.reduceAdd, Nat.reduceMul, Nat.reduceSub, Int.reduceToNat, Int.reduceNeg, E_get hlt, cF, hd0, hw])
          | (refine CallK.pure (by first | exact l19Fault l fs[i] hl) ?_; simp -dsimp only [go_sem, reduceIte, reduceCtorEq, Nat.reduceEqDiff, Nat.reduceLT, Nat.reduceLeDiff, Nat.reduceAdd, Nat.reduceMul, Nat.reduceSub, Int.reduceToNat, Int.reduceNeg, E_get hlt, cF, hd0, hw])
          | (refine And.intro (by first | rfl | omega | decide | (refine ⟨?_, ?_⟩ <;> (first | rfl | omega | decide)) | (refine ⟨?_, ?_, ?_⟩ <;> (first | rfl | omega | decide)) | (refine ⟨?_, ?_, ?_, ?_⟩ <;> (first | rfl | omega | decide))) ?_)
          | fail)

        all_goals first
          | (refine ret_eq ?_; have hp : arI l fs i = false := by (simp only [arI, hgi]; simp_all); 
             simp [arB, rall_not hlt hp]; done)
          | (exact ⟨⟨(i + 1, ()), by first | omega | simp | exact ⟨by omega, by omega⟩, rall_succ hg (by (simp only [arI, hgi]; simp_all))⟩, by simp [Vs.LeL, Vs.look, Vs.hlook, Vs.sput, Vs.sputs, Vs.hset, Vs.hputs], by simp only; omega⟩)
      · have hd0 : decide ((i : Int) > 0) = true := by simp; omega
        have hwp : IntKind.i64.wrap ((i : Int) - 1) = ((i - 1 : Nat) : Int) := by rw [wrap_in (by omega) (by omega)]; omega
        have hlt' : i - 1 < fs.length := by omega
        have hgj := getD_lt hlt' (default : Flt)
        simp -dsimp only [go_sem, reduceIte, reduceCtorEq, Nat.reduceEqDiff, Nat.reduceLT, Nat.reduceLeDiff, Nat.reduceAdd, Nat.reduceMul, Nat.reduceSub, Int.reduceToNat, Int.reduceNeg, E_get hlt, cF, hd0]
        repeat' (first
          | (refine RgK.mk rfl ?_; simp -dsimp only [go_sem, reduceIte, reduceCtorEq, Nat.reduceEqDiff, Nat.reduceLT, Nat.reduceLeDiff, Nat.reduceAdd, Nat.reduceMul, Nat.reduceSub, Int.reduceToNat, Int.reduceNeg, E_get hlt, E_get hlt', cF, hd0, hwp, hw])
          | (refine Br.mk (fun h => ?_) (fun h => ?_) <;> simp -dsimp only [go_sem, reduceIte, reduceCtorEq, Nat.reduceEqDiff, Nat.reduceLT, Nat.reduceLeDiff, Nat.reduceAdd, Nat.reduceMul, Nat.reduceSub, Int.reduceToNat, Int.reduceNeg, h, E_get hlt, E_get hlt', cF, hd0, hwp, hw])
          | (refine CallK.flat (by first | exact l19Fault l fs[i] hl) rfl ?_; simp -dsimp only [go_sem, reduceIte, reduceCtorEq, Nat.reduceEqDiff, Nat.reduceLT, Nat.reduceLeDiff, Nat.reduceAdd, Nat.reduceMul, Nat.reduceSub, Int.reduceToNat, Int.reduceNeg, E_get hlt, E_get hlt', cF, hd0, hwp, hw])
          | (refine CallK.pure (by first | exact l19Fault l fs[i] hl) ?_; simp -dsimp only [go_sem, reduceIte, reduceCtorEq, Nat.reduceEqDiff, Nat.reduceLT, Nat.reduceLeDiff, Nat.reduceAdd, Nat.reduceMul, Nat.reduceSub, Int.reduceToNat, Int.reduceNeg, E_get hlt, E_get hlt', cF, hd0, hwp, hw])
          | (refine And.intro (by first | rfl | omega | decide | (refine ⟨?_, ?_⟩ <;> (first | rfl | omega | decide)) | (refine ⟨?_, ?_, ?_⟩ <;> (first | rfl | omega | decide)) | (refine ⟨?_, ?_, ?_, ?_⟩ <;> (first | rfl | omega | decide))) ?_)
          | fail)

        all_goals first
          | (refine ret_eq ?_; have hp : arI l fs i = false := by (simp only [arI, hgi, hgj]; simp_all); 
             simp [arB, rall_not hlt hp]; done)
          | (exact ⟨⟨(i + 1, ()), by first | omega | simp | exact ⟨by omega, by omega⟩, rall_succ hg (by (simp only [arI, hgi, hgj]; simp_all))⟩, by simp [Vs.LeL, Vs.look, Vs.hlook, Vs.sput, Vs.sputs, Vs.hset, Vs.hputs], by simp only; omega⟩)
    · have hge : i = fs.length := by
        have : ¬ i < fs.length := by first | (simpa using hc) | (simp at hc; omega)
        omega
      subst hge
      simp -dsimp only [go_sem, reduceIte, reduceCtorEq, Nat.reduceEqDiff, Nat.reduceLT, Nat.reduceLeDiff, Nat.reduceAdd, Nat.reduceMul, Nat.reduceSub, Int.reduceToNat, Int.reduceNeg]
      simp [arB, hg]
theorem areFaults (l : List Int) (fs : List Flt) (hl : amB l = true) (hfs : fs.length ≤ 1048576) : Vs.Fn Tryd.prog F.impl_areFaults [] [.sl 1 (E cI l), .sl 4 (E cF fs)] (.v (.bool (arB l fs))) [] := by
  obtain ⟨h12, hr⟩ := amB_spec hl
  refine Cd.impl_areFaults_ok.fn0 Tryd.mixed Cd.impl_areFaults_nt Cd.impl_areFaults_rs rfl fun X => ?_
  unfold Cd.impl_areFaults
  simp -dsimp only [go_sem, reduceIte, reduceCtorEq, Nat.reduceEqDiff, Nat.reduceLT, Nat.reduceLeDiff, Nat.reduceAdd, Nat.reduceMul, Nat.reduceSub, Int.reduceToNat, Int.reduceNeg]
  refine LoopK.at (drawn_ok Tryd.mixed) (X := { zz : Nat × (Unit) // zz.1 ≤ fs.length ∧ rall zz.1 (arI l fs) = true }) (fun zz => [(9, .v (.int .i64 zz.1.1))]) (fun zz => []) (fun zz => fs.length - zz.1.1) ⟨(0, ()), by omega, rall_zero _⟩ ?_ ?_
  · simp [Vs.LeL, Vs.look, Vs.hlook, Vs.sput, Vs.sputs, Vs.hset, Vs.hputs]
  · rintro ⟨⟨i, _⟩, hi, hg⟩
    dsimp only at hi hg
    simp -dsimp only [go_sem, reduceIte, reduceCtorEq, Nat.reduceEqDiff, Nat.reduceLT, Nat.reduceLeDiff, Nat.reduceAdd, Nat.reduceMul, Nat.reduceSub, Int.reduceToNat, Int.reduceNeg]
    refine Br.mk (fun hc => ?_) fun hc => ?_
    · have hlt : i < fs.length := by first | (simpa using hc) | (simp at hc; omega)
      have hw := wrap_succ hlt hfs
      have hgi := getD_lt hlt (default : Flt)
      cases hf : isF fs[i] with
      | false =>
        by_cases h0 : i = 0
        · have hd0 : decide ((i : Int) > 0) = false := by simp; omega
          simp -dsimp only [go_sem, reduceIte, reduceCtorEq, Nat.reduceEqDiff, Nat.reduceLT, Nat.reduceLeDiff, Nat.reduceAdd, Nat.reduceMul, Nat.reduceSub, Int.reduceToNat, Int.reduceNeg, E_get hlt, cF, hw, hd0, hf]
          repeat' (first
            | (refine RgK.mk rfl ?_; simp -dsimp only [go_sem, reduceIte, reduceCtorEq, Nat.reduceEqDiff, Nat.reduceLT, Nat.reduceLeDiff, Nat.reduceAdd, Nat.reduceMul, Nat.reduceSub, Int.reduceToNat, Int.reduceNeg, E_get hlt, cF, hw, hd0, hf])
            | (refine Br.mk (fun h => ?_) (fun h => ?_) <;> simp -dsimp only [go_sem, reduceIte, reduceCtorEq, Nat.reduceEqDiff, Nat.reduceLT, Nat.reduceLeDiff, Nat.reduceAdd, Nat.reduceMul, Nat.reduceSub, Int.reduceToNat, Int.reduceNeg, h, E_get hlt, cF, hw, hd0, hf])
            | (refine CallK.flat (by first | exact isFault fs[i] | exact sizeI l | exact inside _ _ _) rfl ?_; simp -dsimp only [go_sem, reduceIte, reduceCtorEq, Nat.reduceEqDiff, Nat.reduceLT, Nat.reduceLeDiff, Nat.reduceAdd, Nat.reduceMul, Nat.reduceSub, Int.reduceToNat, Int.reduceNeg, E_get hlt, cF, hw, hd0, hf])
            | (refine CallK.pure (by first | exact isFault fs[i] | exact sizeI l | exact inside _ _ _) ?_; simp -dsimp only [go_sem, reduceIte, reduceCtorEq, Nat.reduceEqDiff, Nat.reduceLT, Nat.reduceLeDiff, Nat.reduceAdd, Nat.reduceMul, Nat.reduceSub, Int.reduceToNat, Int.reduceNeg, E_get hlt, cF, hw, hd0, hf])
            | (refine And.intro (by first | rfl | omega | decide | (refine ⟨?_, ?_⟩ <;> (first | rfl | omega | decide)) | (refine ⟨?_, ?_, ?_⟩ <;> (first | rfl | omega | decide)) | (refine ⟨?_, ?_, ?_, ?_⟩ <;> (first | rfl | omega | decide))) ?_)
            | fail)
          all_goals first
            | (refine ret_eq ?_; have hp : arI l fs i = false := by (simp only [arI, hgi, fltB, digI]; simp_all)
               simp [arB, rall_not hlt hp]; done)
            | (exact ⟨⟨(i + 1, ()), by omega, rall_succ hg (by (simp only [arI, hgi, fltB, digI]; simp_all))⟩, by simp [Vs.LeL, Vs.look, Vs.hlook, Vs.sput, Vs.sputs, Vs.hset, Vs.hputs], by simp only; omega⟩)
        · have hd0 : decide ((i : Int) > 0) = true := by simp; omega
          have hwp : IntKind.i64.wrap ((i : Int) - 1) = ((i - 1 : Nat) : Int) := by rw [wrap_in (by omega) (by omega)]; omega
          have hlt' : i - 1 < fs.length := by omega
          have hgj := getD_lt hlt' (default : Flt)
          simp -dsimp only [go_sem, reduceIte, reduceCtorEq, Nat.reduceEqDiff, Nat.reduceLT, Nat.reduceLeDiff, Nat.reduceAdd, Nat.reduceMul, Nat.reduceSub, Int.reduceToNat, Int.reduceNeg, E_get hlt, cF, hw, hd0, hwp, E_get hlt', hf]
          repeat' (first
            | (refine RgK.mk rfl ?_; simp -dsimp only [go_sem, reduceIte, reduceCtorEq, Nat.reduceEqDiff, Nat.reduceLT, Nat.reduceLeDiff, Nat.reduceAdd, Nat.reduceMul, Nat.reduceSub, Int.reduceToNat, Int.reduceNeg, E_get hlt, cF, hw, hd0, hwp, E_get hlt', hf])
            | (refine Br.mk (fun h => ?_) (fun h => ?_) <;> simp -dsimp only [go_sem, reduceIte, reduceCtorEq, Nat.reduceEqDiff, Nat.reduceLT, Nat.reduceLeDiff, Nat.reduceAdd, Nat.reduceMul, Nat.reduceSub, Int.reduceToNat, Int.reduceNeg, h, E_get hlt, cF, hw, hd0, hwp, E_get hlt', hf])
            | (refine CallK.flat (by first | exact isFault fs[i] | exact sizeI l | exact inside _ _ _) rfl ?_; simp -dsimp only [go_sem, reduceIte, reduceCtorEq, Nat.reduceEqDiff, Nat.reduceLT, Nat.reduceLeDiff, Nat.reduceAdd, Nat.reduceMul, Nat.reduceSub, Int.reduceToNat, Int.reduceNeg, E_get hlt, cF, hw, hd0, hwp, E_get hlt', hf])
            | (refine CallK.pure (by first | exact isFault fs[i] | exact sizeI l | exact inside _ _ _) ?_; simp -dsimp only [go_sem, reduceIte, reduceCtorEq, Nat.reduceEqDiff, Nat.reduceLT, Nat.reduceLeDiff, Nat.reduceAdd, Nat.reduceMul, Nat.reduceSub, Int.reduceToNat, Int.reduceNeg, E_get hlt, cF, hw, hd0, hwp, E_get hlt', hf])
            | (refine And.intro (by first | rfl | omega | decide | (refine ⟨?_, ?_⟩ <;> (first | rfl | omega | decide)) | (refine ⟨?_, ?_, ?_⟩ <;> (first | rfl | omega | decide)) | (refine ⟨?_, ?_, ?_, ?_⟩ <;> (first | rfl | omega | decide))) ?_)
            | fail)
          all_goals first
            | (refine ret_eq ?_; have hp : arI l fs i = false := by (simp only [arI, hgi, hgj, fltB, digI]; simp_all)
               simp [arB, rall_not hlt hp]; done)
            | (exact ⟨⟨(i + 1, ()), by omega, rall_succ hg (by (simp only [arI, hgi, hgj, fltB, digI]; simp_all))⟩, by simp [Vs.LeL, Vs.look, Vs.hlook, Vs.sput, Vs.sputs, Vs.hset, Vs.hputs], by simp only; omega⟩)
      | true =>
        cases hc : inB fs[i].card 0 (W (l.length - 1)) with
        | false =>
          by_cases h0 : i = 0
          · have hd0 : decide ((i : Int) > 0) = false := by simp; omega
            simp -dsimp only [go_sem, reduceIte, reduceCtorEq, Nat.reduceEqDiff, Nat.reduceLT, Nat.reduceLeDiff, Nat.reduceAdd, Nat.reduceMul, Nat.reduceSub, Int.reduceToNat, Int.reduceNeg, E_get hlt, cF, hw, hd0, hf, hc]
            repeat' (first
              | (refine RgK.mk rfl ?_; simp -dsimp only [go_sem, reduceIte, reduceCtorEq, Nat.reduceEqDiff, Nat.reduceLT, Nat.reduceLeDiff, Nat.reduceAdd, Nat.reduceMul, Nat.reduceSub, Int.reduceToNat, Int.reduceNeg, E_get hlt, cF, hw, hd0, hf, hc])
              | (refine Br.mk (fun h => ?_) (fun h => ?_) <;> simp -dsimp only [go_sem, reduceIte, reduceCtorEq, Nat.reduceEqDiff, Nat.reduceLT, Nat.reduceLeDiff, Nat.reduceAdd, Nat.reduceMul, Nat.reduceSub, Int.reduceToNat, Int.reduceNeg, h, E_get hlt, cF, hw, hd0, hf, hc])
              | (refine CallK.flat (by first | exact isFault fs[i] | exact sizeI l | exact inside _ _ _) rfl ?_; simp -dsimp only [go_sem, reduceIte, reduceCtorEq, Nat.reduceEqDiff, Nat.reduceLT, Nat.reduceLeDiff, Nat.reduceAdd, Nat.reduceMul, Nat.reduceSub, Int.reduceToNat, Int.reduceNeg, E_get hlt, cF, hw, hd0, hf, hc])
              | (refine CallK.pure (by first | exact isFault fs[i] | exact sizeI l | exact inside _ _ _) ?_; simp -dsimp only [go_sem, reduceIte, reduceCtorEq, Nat.reduceEqDiff, Nat.reduceLT, Nat.reduceLeDiff, Nat.reduceAdd, Nat.reduceMul, Nat.reduceSub, Int.reduceToNat, Int.reduceNeg, E_get hlt, cF, hw, hd0, hf, hc])
              | (refine And.intro (by first | rfl | omega | decide | (refine ⟨?_, ?_⟩ <;> (first | rfl | omega | decide)) | (refine ⟨?_, ?_, ?_⟩ <;> (first | rfl | omega | decide)) | (refine ⟨?_, ?_, ?_, ?_⟩ <;> (first | rfl | omega | decide))) ?_)
              | fail)
            all_goals first
              | (refine ret_eq ?_; have hp : arI l fs i = false := by (simp only [arI, hgi, fltB, digI]; simp_all)
                 simp [arB, rall_not hlt hp]; done)
              | (exact ⟨⟨(i + 1, ()), by omega, rall_succ hg (by (simp only [arI, hgi, fltB, digI]; simp_all))⟩, by simp [Vs.LeL, Vs.look, Vs.hlook, Vs.sput, Vs.sputs, Vs.hset, Vs.hputs], by simp only; omega⟩)
          · have hd0 : decide ((i : Int) > 0) = true := by simp; omega
            have hwp : IntKind.i64.wrap ((i : Int) - 1) = ((i - 1 : Nat) : Int) := by rw [wrap_in (by omega) (by omega)]; omega
            have hlt' : i - 1 < fs.length := by omega
            have hgj := getD_lt hlt' (default : Flt)
            simp -dsimp only [go_sem, reduceIte, reduceCtorEq, Nat.reduceEqDiff, Nat.reduceLT, Nat.reduceLeDiff, Nat.reduceAdd, Nat.reduceMul, Nat.reduceSub, Int.reduceToNat, Int.reduceNeg, E_get hlt, cF, hw, hd0, hwp, E_get hlt', hf, hc]
            repeat' (first
              | (refine RgK.mk rfl ?_; simp -dsimp only [go_sem, reduceIte, reduceCtorEq, Nat.reduceEqDiff, Nat.reduceLT, Nat.reduceLeDiff, Nat.reduceAdd, Nat.reduceMul, Nat.reduceSub, Int.reduceToNat, Int.reduceNeg, E_get hlt, cF, hw, hd0, hwp, E_get hlt', hf, hc])
              | (refine Br.mk (fun h => ?_) (fun h => ?_) <;> simp -dsimp only [go_sem, reduceIte, reduceCtorEq, Nat.reduceEqDiff, Nat.reduceLT, Nat.reduceLeDiff, Nat.reduceAdd, Nat.reduceMul, Nat.reduceSub, Int.reduceToNat, Int.reduceNeg, h, E_get hlt, cF, hw, hd0, hwp, E_get hlt', hf, hc])
              | (refine CallK.flat (by first | exact isFault fs[i] | exact sizeI l | exact inside _ _ _) rfl ?_; simp -dsimp only [go_sem, reduceIte, reduceCtorEq, Nat.reduceEqDiff, Nat.reduceLT, Nat.reduceLeDiff, Nat.reduceAdd, Nat.reduceMul, Nat.reduceSub, Int.reduceToNat, Int.reduceNeg, E_get hlt, cF, hw, hd0, hwp, E_get hlt', hf, hc])
              | (refine CallK.pure (by first | exact isFault fs[i] | exact sizeI l | exact inside _ _ _) ?_; simp -dsimp only [go_sem, reduceIte, reduceCtorEq, Nat.reduceEqDiff, Nat.reduceLT, Nat.reduceLeDiff, Nat.reduceAdd, Nat.reduceMul, Nat.reduceSub, Int.reduceToNat, Int.reduceNeg, E_get hlt, cF, hw, hd0, hwp, E_get hlt', hf, hc])
              | (refine And.intro (by first | rfl | omega | decide | (refine ⟨?_, ?_⟩ <;> (first | rfl | omega | decide)) | (refine ⟨?_, ?_, ?_⟩ <;> (first | rfl | omega | decide)) | (refine ⟨?_, ?_, ?_, ?_⟩ <;> (first | rfl | omega | decide))) ?_)
              | fail)
            all_goals first
              | (refine ret_eq ?_; have hp : arI l fs i = false := by (simp only [arI, hgi, hgj, fltB, digI]; simp_all)
                 simp [arB, rall_not hlt hp]; done)
              | (exact ⟨⟨(i + 1, ()), by omega, rall_succ hg (by (simp only [arI, hgi, hgj, fltB, digI]; simp_all))⟩, by simp [Vs.LeL, Vs.look, Vs.hlook, Vs.sput, Vs.sputs, Vs.hset, Vs.hputs], by simp only; omega⟩)
        | true =>
          obtain ⟨k, hk, hk2⟩ := card_nat h12 hc
          have hgk : l[k]? = some l[k] := List.getElem?_eq_getElem hk2
          by_cases hk3 : fs[i].kind = 3
          · obtain ⟨q, hq, hq4⟩ := isF_digit hf hk3
            have hc' := hc
            rw [hk] at hc'
            have hb3 : (fs[i].kind == 3) = true := by simp [hk3]
            have hf2 : isF ⟨fs[i].kind, k, q, fs[i].digit⟩ = true := by rw [← hk, ← hq]; exact hf
            by_cases h0 : i = 0
            · have hd0 : decide ((i : Int) > 0) = false := by simp; omega
              simp -dsimp only [go_sem, reduceIte, reduceCtorEq, Nat.reduceEqDiff, Nat.reduceLT, Nat.reduceLeDiff, Nat.reduceAdd, Nat.reduceMul, Nat.reduceSub, Int.reduceToNat, Int.reduceNeg, E_get hlt, cF, hw, hd0, hf, hf2, hc, hc', hk, hq, hb3, cI_get hk2]
              repeat' (first
                | (refine RgK.mk rfl ?_; simp -dsimp only [go_sem, reduceIte, reduceCtorEq, Nat.reduceEqDiff, Nat.reduceLT, Nat.reduceLeDiff, Nat.reduceAdd, Nat.reduceMul, Nat.reduceSub, Int.reduceToNat, Int.reduceNeg, E_get hlt, cF, hw, hd0, hf, hf2, hc, hc', hk, hq, hb3, cI_get hk2])
                | (refine Br.mk (fun h => ?_) (fun h => ?_) <;> simp -dsimp only [go_sem, reduceIte, reduceCtorEq, Nat.reduceEqDiff, Nat.reduceLT, Nat.reduceLeDiff, Nat.reduceAdd, Nat.reduceMul, Nat.reduceSub, Int.reduceToNat, Int.reduceNeg, h, E_get hlt, cF, hw, hd0, hf, hf2, hc, hc', hk, hq, hb3, cI_get hk2])
                | (refine CallK.flat (by first | exact isFault fs[i] | exact sizeI l | exact inside _ _ _ | exact digitAt _ q hq4 | exact isFault ⟨fs[i].kind, (k : Int), (q : Int), fs[i].digit⟩) rfl ?_; simp -dsimp only [go_sem, reduceIte, reduceCtorEq, Nat.reduceEqDiff, Nat.reduceLT, Nat.reduceLeDiff, Nat.reduceAdd, Nat.reduceMul, Nat.reduceSub, Int.reduceToNat, Int.reduceNeg, E_get hlt, cF, hw, hd0, hf, hf2, hc, hc', hk, hq, hb3, cI_get hk2])
                | (refine CallK.pure (by first | exact isFault fs[i] | exact sizeI l | exact inside _ _ _ | exact digitAt _ q hq4 | exact isFault ⟨fs[i].kind, (k : Int), (q : Int), fs[i].digit⟩) ?_; simp -dsimp only [go_sem, reduceIte, reduceCtorEq, Nat.reduceEqDiff, Nat.reduceLT, Nat.reduceLeDiff, Nat.reduceAdd, Nat.reduceMul, Nat.reduceSub, Int.reduceToNat, Int.reduceNeg, E_get hlt, cF, hw, hd0, hf, hf2, hc, hc', hk, hq, hb3, cI_get hk2])
                | (refine And.intro (by first | rfl | omega | decide | (refine ⟨?_, ?_⟩ <;> (first | rfl | omega | decide)) | (refine ⟨?_, ?_, ?_⟩ <;> (first | rfl | omega | decide)) | (refine ⟨?_, ?_, ?_, ?_⟩ <;> (first | rfl | omega | decide))) ?_)
                | fail)
              all_goals first
                | (refine ret_eq ?_; have hp : arI l fs i = false := by (simp only [arI, hgi, fltB, digI]; simp_all)
                   simp [arB, rall_not hlt hp]; done)
                | (exact ⟨⟨(i + 1, ()), by omega, rall_succ hg (by (simp only [arI, hgi, fltB, digI]; simp_all))⟩, by simp [Vs.LeL, Vs.look, Vs.hlook, Vs.sput, Vs.sputs, Vs.hset, Vs.hputs], by simp only; omega⟩)
            · have hd0 : decide ((i : Int) > 0) = true := by simp; omega
              have hwp : IntKind.i64.wrap ((i : Int) - 1) = ((i - 1 : Nat) : Int) := by rw [wrap_in (by omega) (by omega)]; omega
              have hlt' : i - 1 < fs.length := by omega
              have hgj := getD_lt hlt' (default : Flt)
              simp -dsimp only [go_sem, reduceIte, reduceCtorEq, Nat.reduceEqDiff, Nat.reduceLT, Nat.reduceLeDiff, Nat.reduceAdd, Nat.reduceMul, Nat.reduceSub, Int.reduceToNat, Int.reduceNeg, E_get hlt, cF, hw, hd0, hwp, E_get hlt', hf, hf2, hc, hc', hk, hq, hb3, cI_get hk2]
              repeat' (first
                | (refine RgK.mk rfl ?_; simp -dsimp only [go_sem, reduceIte, reduceCtorEq, Nat.reduceEqDiff, Nat.reduceLT, Nat.reduceLeDiff, Nat.reduceAdd, Nat.reduceMul, Nat.reduceSub, Int.reduceToNat, Int.reduceNeg, E_get hlt, cF, hw, hd0, hwp, E_get hlt', hf, hf2, hc, hc', hk, hq, hb3, cI_get hk2])
                | (refine Br.mk (fun h => ?_) (fun h => ?_) <;> simp -dsimp only [go_sem, reduceIte, reduceCtorEq, Nat.reduceEqDiff, Nat.reduceLT, Nat.reduceLeDiff, Nat.reduceAdd, Nat.reduceMul, Nat.reduceSub, Int.reduceToNat, Int.reduceNeg, h, E_get hlt, cF, hw, hd0, hwp, E_get hlt', hf, hf2, hc, hc', hk, hq, hb3, cI_get hk2])
                | (refine CallK.flat (by first | exact isFault fs[i] | exact sizeI l | exact inside _ _ _ | exact digitAt _ q hq4 | exact isFault ⟨fs[i].kind, (k : Int), (q : Int), fs[i].digit⟩) rfl ?_; simp -dsimp only [go_sem, reduceIte, reduceCtorEq, Nat.reduceEqDiff, Nat.reduceLT, Nat.reduceLeDiff, Nat.reduceAdd, Nat.reduceMul, Nat.reduceSub, Int.reduceToNat, Int.reduceNeg, E_get hlt, cF, hw, hd0, hwp, E_get hlt', hf, hf2, hc, hc', hk, hq, hb3, cI_get hk2])
                | (refine CallK.pure (by first | exact isFault fs[i] | exact sizeI l | exact inside _ _ _ | exact digitAt _ q hq4 | exact isFault ⟨fs[i].kind, (k : Int), (q : Int), fs[i].digit⟩) ?_; simp -dsimp only [go_sem, reduceIte, reduceCtorEq, Nat.reduceEqDiff, Nat.reduceLT, Nat.reduceLeDiff, Nat.reduceAdd, Nat.reduceMul, Nat.reduceSub, Int.reduceToNat, Int.reduceNeg, E_get hlt, cF, hw, hd0, hwp, E_get hlt', hf, hf2, hc, hc', hk, hq, hb3, cI_get hk2])
                | (refine And.intro (by first | rfl | omega | decide | (refine ⟨?_, ?_⟩ <;> (first | rfl | omega | decide)) | (refine ⟨?_, ?_, ?_⟩ <;> (first | rfl | omega | decide)) | (refine ⟨?_, ?_, ?_, ?_⟩ <;> (first | rfl | omega | decide))) ?_)
                | fail)
              all_goals first
                | (refine ret_eq ?_; have hp : arI l fs i = false := by (simp only [arI, hgi, hgj, fltB, digI]; simp_all)
                   simp [arB, rall_not hlt hp]; done)
                | (exact ⟨⟨(i + 1, ()), by omega, rall_succ hg (by (simp only [arI, hgi, hgj, fltB, digI]; simp_all))⟩, by simp [Vs.LeL, Vs.look, Vs.hlook, Vs.sput, Vs.sputs, Vs.hset, Vs.hputs], by simp only; omega⟩)
          · have hb3 : (fs[i].kind == 3) = false := by simp [hk3]
            by_cases h0 : i = 0
            · have hd0 : decide ((i : Int) > 0) = false := by simp; omega
              simp -dsimp only [go_sem, reduceIte, reduceCtorEq, Nat.reduceEqDiff, Nat.reduceLT, Nat.reduceLeDiff, Nat.reduceAdd, Nat.reduceMul, Nat.reduceSub, Int.reduceToNat, Int.reduceNeg, E_get hlt, cF, hw, hd0, hf, hc, hb3]
              repeat' (first
                | (refine RgK.mk rfl ?_; simp -dsimp only [go_sem, reduceIte, reduceCtorEq, Nat.reduceEqDiff, Nat.reduceLT, Nat.reduceLeDiff, Nat.reduceAdd, Nat.reduceMul, Nat.reduceSub, Int.reduceToNat, Int.reduceNeg, E_get hlt, cF, hw, hd0, hf, hc, hb3])
                | (refine Br.mk (fun h => ?_) (fun h => ?_) <;> simp -dsimp only [go_sem, reduceIte, reduceCtorEq, Nat.reduceEqDiff, Nat.reduceLT, Nat.reduceLeDiff, Nat.reduceAdd, Nat.reduceMul, Nat.reduceSub, Int.reduceToNat, Int.reduceNeg, h, E_get hlt, cF, hw, hd0, hf, hc, hb3])
                | (refine CallK.flat (by first | exact isFault fs[i] | exact sizeI l | exact inside _ _ _) rfl ?_; simp -dsimp only [go_sem, reduceIte, reduceCtorEq, Nat.reduceEqDiff, Nat.reduceLT, Nat.reduceLeDiff, Nat.reduceAdd, Nat.reduceMul, Nat.reduceSub, Int.reduceToNat, Int.reduceNeg, E_get hlt, cF, hw, hd0, hf, hc, hb3])
                | (refine CallK.pure (by first | exact isFault fs[i] | exact sizeI l | exact inside _ _ _) ?_; simp -dsimp only [go_sem, reduceIte, reduceCtorEq, Nat.reduceEqDiff, Nat.reduceLT, Nat.reduceLeDiff, Nat.reduceAdd, Nat.reduceMul, Nat.reduceSub, Int.reduceToNat, Int.reduceNeg, E_get hlt, cF, hw, hd0, hf, hc, hb3])
                | (refine And.intro (by first | rfl | omega | decide | (refine ⟨?_, ?_⟩ <;> (first | rfl | omega | decide)) | (refine ⟨?_, ?_, ?_⟩ <;> (first | rfl | omega | decide)) | (refine ⟨?_, ?_, ?_, ?_⟩ <;> (first | rfl | omega | decide))) ?_)
                | fail)
              all_goals first
                | (refine ret_eq ?_; have hp : arI l fs i = false := by (simp only [arI, hgi, fltB, digI]; simp_all)
                   simp [arB, rall_not hlt hp]; done)
                | (exact ⟨⟨(i + 1, ()), by omega, rall_succ hg (by (simp only [arI, hgi, fltB, digI]; simp_all))⟩, by simp [Vs.LeL, Vs.look, Vs.hlook, Vs.sput, Vs.sputs, Vs.hset, Vs.hputs], by simp only; omega⟩)
            · have hd0 : decide ((i : Int) > 0) = true := by simp; omega
              have hwp : IntKind.i64.wrap ((i : Int) - 1) = ((i - 1 : Nat) : Int) := by rw [wrap_in (by omega) (by omega)]; omega
              have hlt' : i - 1 < fs.length := by omega
              have hgj := getD_lt hlt' (default : Flt)
              simp -dsimp only [go_sem, reduceIte, reduceCtorEq, Nat.reduceEqDiff, Nat.reduceLT, Nat.reduceLeDiff, Nat.reduceAdd, Nat.reduceMul, Nat.reduceSub, Int.reduceToNat, Int.reduceNeg, E_get hlt, cF, hw, hd0, hwp, E_get hlt', hf, hc, hb3]
              repeat' (first
                | (refine RgK.mk rfl ?_; simp -dsimp only [go_sem, reduceIte, reduceCtorEq, Nat.reduceEqDiff, Nat.reduceLT, Nat.reduceLeDiff, Nat.reduceAdd, Nat.reduceMul, Nat.reduceSub, Int.reduceToNat, Int.reduceNeg, E_get hlt, cF, hw, hd0, hwp, E_get hlt', hf, hc, hb3])
                | (refine Br.mk (fun h => ?_) (fun h => ?_) <;> simp -dsimp only [go_sem, reduceIte, reduceCtorEq, Nat.reduceEqDiff, Nat.reduceLT, Nat.reduceLeDiff, Nat.reduceAdd, Nat.reduceMul, Nat.reduceSub, Int.reduceToNat, Int.reduceNeg, h, E_get hlt, cF, hw, hd0, hwp, E_get hlt', hf, hc, hb3])
                | (refine CallK.flat (by first | exact isFault fs[i] | exact sizeI l | exact inside _ _ _) rfl ?_; simp -dsimp only [go_sem, reduceIte, reduceCtorEq, Nat.reduceEqDiff, Nat.reduceLT, Nat.reduceLeDiff, Nat.reduceAdd, Nat.reduceMul, Nat.reduceSub, Int.reduceToNat, Int.reduceNeg, E_get hlt, cF, hw, hd0, hwp, E_get hlt', hf, hc, hb3])
                | (refine CallK.pure (by first | exact isFault fs[i] | exact sizeI l | exact inside _ _ _) ?_; simp -dsimp only [go_sem, reduceIte, reduceCtorEq, Nat.reduceEqDiff, Nat.reduceLT, Nat.reduceLeDiff, Nat.reduceAdd, Nat.reduceMul, Nat.reduceSub, Int.reduceToNat, Int.reduceNeg, E_get hlt, cF, hw, hd0, hwp, E_get hlt', hf, hc, hb3])
                | (refine And.intro (by first | rfl | omega | decide | (refine ⟨?_, ?_⟩ <;> (first | rfl | omega | decide)) | (refine ⟨?_, ?_, ?_⟩ <;> (first | rfl | omega | decide)) | (refine ⟨?_, ?_, ?_, ?_⟩ <;> (first | rfl | omega | decide))) ?_)
                | fail)
              all_goals first
                | (refine ret_eq ?_; have hp : arI l fs i = false := by (simp only [arI, hgi, hgj, fltB, digI]; simp_all)
                   simp [arB, rall_not hlt hp]; done)
                | (exact ⟨⟨(i + 1, ()), by omega, rall_succ hg (by (simp only [arI, hgi, hgj, fltB, digI]; simp_all))⟩, by simp [Vs.LeL, Vs.look, Vs.hlook, Vs.sput, Vs.sputs, Vs.hset, Vs.hputs], by simp only; omega⟩)
    · have hge : i = fs.length := by
        have : ¬ i < fs.length := by first | (simpa using hc) | (simp at hc; omega)
        omega
      subst hge
      simp -dsimp only [go_sem, reduceIte, reduceCtorEq, Nat.reduceEqDiff, Nat.reduceLT, Nat.reduceLeDiff, Nat.reduceAdd, Nat.reduceMul, Nat.reduceSub, Int.reduceToNat, Int.reduceNeg]
      simp [arB, hg]
end Go.Proofs.YtgeeipfdkamhmaaDoor
