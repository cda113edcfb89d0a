/- amountsAfter and l19After. -/
import Derived.Test.YtgeeipfdkamhmaaDoorTwN
namespace Go.Proofs.YtgeeipfdkamhmaaDoor
open Go.Vs
set_option linter.unusedSimpArgs false
set_option linter.unusedVariables false
attribute [local irreducible] Vs.Fn
/-- the number that is read with a changed digit -/
def rdD (n : Int) (f : Flt) : Int := hW ((wl 4 n).set f.place.toNat f.digit)
theorem wl4 {n : Int} (h0 : 0 ≤ n) (h1 : n ≤ 9999) : ∃ a b c d : Int, wl 4 n = [a, b, c, d] ∧ (0 ≤ a ∧ a ≤ 9) ∧ (0 ≤ b ∧ b ≤ 9) ∧ (0 ≤ c ∧ c ≤ 9) ∧ (0 ≤ d ∧ d ≤ 9) ∧ n = a + 10 * b + 100 * c + 1000 * d := by
  have td : ∀ (m k : Int), 0 ≤ m → m.tdiv k = m / k := fun m k hm => Int.tdiv_eq_ediv_of_nonneg hm
  have tm : ∀ (m k : Int), 0 ≤ m → m.tmod k = m % k := fun m k hm => Int.tmod_eq_emod_of_nonneg hm
  have e1 : W (n.tdiv 10) = n / 10 := by rw [td _ _ h0, W_small (by omega) (by omega)]
  have e2 : W ((n / 10).tdiv 10) = n / 10 / 10 := by rw [td _ _ (by omega), W_small (by omega) (by omega)]
  have e3 : W ((n / 10 / 10).tdiv 10) = n / 10 / 10 / 10 := by rw [td _ _ (by omega), W_small (by omega) (by omega)]
  refine ⟨n % 10, n / 10 % 10, n / 10 / 10 % 10, n / 10 / 10 / 10 % 10, ?_, by omega, by omega, by omega, by omega, by omega⟩
  simp only [wl, e1, e2, e3]
  rw [tm _ _ h0, tm _ _ (by omega), tm _ _ (by omega), tm _ _ (by omega)]
theorem hW4 {a b c d : Int} (ha : 0 ≤ a ∧ a ≤ 9) (hb : 0 ≤ b ∧ b ≤ 9) (hc : 0 ≤ c ∧ c ≤ 9) (hd : 0 ≤ d ∧ d ≤ 9) : hW [a, b, c, d] = a + 10 * b + 100 * c + 1000 * d := by
  have e0 : W (10 * 0) = 0 := by decide
  have e1 : W (0 + d) = d := by rw [W_small (by omega) (by omega)]; omega
  have e2 : W (10 * d) = 10 * d := W_small (by omega) (by omega)
  have e3 : W (10 * d + c) = 10 * d + c := W_small (by omega) (by omega)
  have e4 : W (10 * (10 * d + c)) = 10 * (10 * d + c) := W_small (by omega) (by omega)
  have e5 : W (10 * (10 * d + c) + b) = 10 * (10 * d + c) + b := W_small (by omega) (by omega)
  have e6 : W (10 * (10 * (10 * d + c) + b)) = 10 * (10 * (10 * d + c) + b) := W_small (by omega) (by omega)
  have e7 : W (10 * (10 * (10 * d + c) + b) + a) = 10 * (10 * (10 * d + c) + b) + a := W_small (by omega) (by omega)
  simp only [hW, e0, e1, e2, e3, e4, e5, e6, e7]
  omega
theorem isF_dig {f : Flt} (h : isF f = true) (hk : f.kind = 3) : 0 ≤ f.digit ∧ f.digit ≤ 9 := by
  simp only [isF, hk, if_true, inB, Bool.and_eq_true, decide_eq_true_eq] at h
  omega
/-- the reference's way to the same number -/
theorem rd_eq {n : Int} (h0 : 0 ≤ n) (h1 : n ≤ 9999) {f : Flt} {p : Nat} (hf : f.place = p) (hp : p < 4) (hd : 0 ≤ f.digit ∧ f.digit ≤ 9) :
    (0 ≤ rdD n f ∧ rdD n f ≤ 9999) ∧ W (n + W (W (f.digit - (W (n.tdiv ((10 ^ p : Nat) : Int))).tmod 10) * ((10 ^ p : Nat) : Int))) = rdD n f := by
  rw [wl_dig h0 h1 p hp]
  obtain ⟨a, b, c, d, hw, ha, hb, hc, hd', hn⟩ := wl4 h0 h1
  unfold rdD
  rw [hw, hf]
  have h : p = 0 ∨ p = 1 ∨ p = 2 ∨ p = 3 := by omega
  rcases h with rfl | rfl | rfl | rfl
  all_goals
    simp only [Int.toNat_natCast, List.set_cons_zero, List.set_cons_succ, List.getD_cons_zero, List.getD_cons_succ]
    rw [hW4 (by omega) (by omega) (by omega) (by omega)]
    refine ⟨by omega, ?_⟩
    rw [show W (f.digit - _) = f.digit - _ from wrap_in (by omega) (by omega)]
    have q0 : ((10 ^ 0 : Nat) : Int) = 1 := rfl
    have q1 : ((10 ^ 1 : Nat) : Int) = 10 := rfl
    have q2 : ((10 ^ 2 : Nat) : Int) = 100 := rfl
    have q3 : ((10 ^ 3 : Nat) : Int) = 1000 := rfl
    simp only [q0, q1, q2, q3]
    rw [show W (_ * _) = _ * _ from wrap_in (by omega) (by omega)]
    rw [show W (n + _) = n + _ from wrap_in (by omega) (by omega)]
    omega
def aftE (n : Int) (f : Flt) : List Int := if f.kind = 2 then [n, n] else if f.kind = 3 then [rdD n f] else []
/-- what a number becomes -/
def aftN (fs : List Flt) (i : Nat) (n : Int) : List Int :=
  match fs.findIdx? (fun f => f.card == (i : Int)) with
  | none => [n]
  | some j => aftE n (fs.getD j default)
def aft (l : List Int) (fs : List Flt) (k : Nat) : List Int := (List.range k).flatMap fun j => aftN fs j (l.getD j 0)
theorem aft_succ (l : List Int) (fs : List Flt) {i : Nat} (h : i < l.length) : aft l fs (i + 1) = aft l fs i ++ aftN fs i l[i] := by
  simp [aft, List.range_succ, List.getD, h]
theorem aftE_len (n : Int) (f : Flt) : (aftE n f).length ≤ 2 := by
  unfold aftE; split
  · simp
  · split <;> simp
theorem aftN_len (fs : List Flt) (i : Nat) (n : Int) : (aftN fs i n).length ≤ 2 := by
  unfold aftN; split
  · simp
  · exact aftE_len _ _
theorem aft_len (l : List Int) (fs : List Flt) : ∀ i, i ≤ l.length → (aft l fs i).length ≤ 2 * i
  | 0, _ => by simp [aft]
  | i + 1, h => by
    rw [aft_succ l fs (by omega), List.length_append]
    have := aft_len l fs i (by omega)
    have := aftN_len fs i l[i]
    omega
theorem arSpec {l : List Int} {fs : List Flt} (h : arB l fs = true) : fs.length ≤ 2 ∧ ∀ j, j < fs.length → fltB l (fs.getD j default) = true ∧ (0 < j → (fs.getD (j - 1) default).card < (fs.getD j default).card) := by
  simp only [arB, Bool.and_eq_true, decide_eq_true_eq] at h
  refine ⟨by omega, fun j hj => ?_⟩
  have := rall_true.1 h.1 j hj
  simp only [arI, Bool.and_eq_true, Bool.or_eq_true, beq_iff_eq, decide_eq_true_eq] at this
  exact ⟨this.1, fun h0 => by rcases this.2 with h | h <;> omega⟩

set_option maxHeartbeats 2000000 in
theorem amountsAfter (l : List Int) (fs : List Flt) (hl : amB l = true) (hA : arB l fs = true) : Vs.Fn Tryd.prog F.impl_amountsAfter [] [.sl 1 (E cI l), .sl 4 (E cF fs)] (.sl 1 (E cI (aft l fs l.length))) [] := by
  obtain ⟨h12, hr⟩ := amB_spec hl
  obtain ⟨hf2, hF⟩ := arSpec hA
  refine Cd.impl_amountsAfter_ok.fn0 Tryd.mixed Cd.impl_amountsAfter_nt Cd.impl_amountsAfter_rs rfl fun X => ?_
  unfold Cd.impl_amountsAfter
  simp -dsimp only [go_sem, reduceIte, reduceCtorEq, Nat.reduceEqDiff, Nat.reduceLT, Nat.reduceLeDiff, Nat.reduceAdd, Nat.reduceMul, Nat.reduceSub, Int.reduceToNat, Int.reduceNeg]
  refine ⟨⟨by omega, by omega⟩, rfl, ?_⟩
  refine LoopK.intro (drawn_ok Tryd.mixed) (X := { zz : Nat × Nat × Name // zz.1 ≤ l.length ∧ (zz.2.2 = .t 5 0) ∧ (True) }) (fun zz => ⟨[(1, .sl 4 (E cF fs)), (5, .loc zz.1.2.2 0 (aft l fs zz.1.1).length), (12, .sl 1 (E cI l)), (13, .v (.int .i64 l.length)), (14, .v (.int .i64 zz.1.1))], [(zz.1.2.2, .arr 1 (E cI (aft l fs zz.1.1)) false)]⟩) (fun zz => l.length - zz.1.1) ⟨(0, 0, .t 5 0), by omega, rfl, trivial⟩ ?_ ?_
  · simp [Vs.LeL, Vs.look, Vs.hlook, aft, Vs.E]
  · rintro ⟨⟨i, k0, nm⟩, hi, hnm, _⟩
    dsimp only at hi hnm
    have hal := aft_len l fs i hi
    simp -dsimp only [go_sem, reduceIte, reduceCtorEq, Nat.reduceEqDiff, Nat.reduceLT, Nat.reduceLeDiff, Nat.reduceAdd, Nat.reduceMul, Nat.reduceSub, Int.reduceToNat, Int.reduceNeg]
    refine Br.mk (fun hc => ?_) fun hc => ?_
    · have hlt : i < l.length := by simpa using hc
      have hw := wrap_succ hlt (by omega)
      have hgi : (E cI l).getD i [] = [.v (.int .i64 l[i])] := cI_get hlt
      have hneg : decide ((-1 : Int) < 0) = true := rfl
      obtain ⟨n0, n1⟩ := hr l[i] (List.getElem_mem hlt)
      cases hx : fs.findIdx? (fun f => f.card == (i : Int)) with
      | none =>
        have hN : aftN fs i l[i] = [l[i]] := by simp [aftN, hx]
        have hp : idxP (fun f => f.card == (i : Int)) fs = -1 := by simp [idxP, hx]
        subst hnm
        all_goals
          simp -dsimp only [go_sem, reduceIte, reduceCtorEq, Nat.reduceEqDiff, Nat.reduceLT, Nat.reduceLeDiff, Nat.reduceAdd, Nat.reduceMul, Nat.reduceSub, Int.reduceToNat, Int.reduceNeg, hp, E_len, hw, hgi, hneg, List.replicate_succ, List.replicate_zero, List.flatten_cons, List.flatten_nil]
          repeat' (first
            | (refine RgK.mk rfl ?_; simp -dsimp only [go_sem, reduceIte, reduceCtorEq, Nat.reduceEqDiff, Nat.reduceLT, Nat.reduceLeDiff, Nat.reduceAdd, Nat.reduceMul, Nat.reduceSub, Int.reduceToNat, Int.reduceNeg, hp, E_len, hw, hgi, hneg, List.replicate_succ, List.replicate_zero, List.flatten_cons, List.flatten_nil])
            | (refine Br.mk (fun h => ?_) (fun h => ?_) <;> simp -dsimp only [go_sem, reduceIte, reduceCtorEq, Nat.reduceEqDiff, Nat.reduceLT, Nat.reduceLeDiff, Nat.reduceAdd, Nat.reduceMul, Nat.reduceSub, Int.reduceToNat, Int.reduceNeg, h, hp, E_len, hw, hgi, hneg, List.replicate_succ, List.replicate_zero, List.flatten_cons, List.flatten_nil])
            | (refine CallK.flat (by first | exact idxAft fs i (by omega)) rfl ?_; simp -dsimp only [go_sem, reduceIte, reduceCtorEq, Nat.reduceEqDiff, Nat.reduceLT, Nat.reduceLeDiff, Nat.reduceAdd, Nat.reduceMul, Nat.reduceSub, Int.reduceToNat, Int.reduceNeg, hp, E_len, hw, hgi, hneg, List.replicate_succ, List.replicate_zero, List.flatten_cons, List.flatten_nil])
            | (refine CallK.pure (by first | exact idxAft fs i (by omega)) ?_; simp -dsimp only [go_sem, reduceIte, reduceCtorEq, Nat.reduceEqDiff, Nat.reduceLT, Nat.reduceLeDiff, Nat.reduceAdd, Nat.reduceMul, Nat.reduceSub, Int.reduceToNat, Int.reduceNeg, hp, E_len, hw, hgi, hneg, List.replicate_succ, List.replicate_zero, List.flatten_cons, List.flatten_nil])
            | (refine And.intro (by first | rfl | omega | decide | (refine ⟨?_, ?_⟩ <;> (first | rfl | omega | decide)) | (refine ⟨?_, ?_, ?_⟩ <;> (first | rfl | omega | decide)) | (refine ⟨?_, ?_, ?_, ?_⟩ <;> (first | rfl | omega | decide))) ?_)
            | fail)

          all_goals (refine ⟨?_, fun h => absurd rfl h⟩; exact ⟨⟨(i + 1, 0, .t 5 0), by first | omega | simp | exact ⟨by omega, by omega⟩, by simp, trivial⟩, by simp [Vs.LeL, Vs.look, Vs.hlook, aft_succ l fs hlt, hN, E_append, Vs.E, cI], by simp only; omega⟩)
      | some j =>
        obtain ⟨hj, hpj, _⟩ := List.findIdx?_eq_some_iff_getElem.1 hx
        have hp : idxP (fun f => f.card == (i : Int)) fs = (j : Int) := by simp [idxP, hx]
        have hneg2 : decide ((j : Int) < 0) = false := by simp
        have gdj := getD_lt hj (default : Flt)
        have hgj : (E cF fs).getD j [] = cF fs[j] := E_get hj
        have hflt := (hF j hj).1
        rw [gdj] at hflt
        have hisF : isF fs[j] = true := by simp only [fltB, Bool.and_eq_true] at hflt; exact hflt.1
        by_cases h2 : fs[j].kind = 2
        · have e2 : (fs[j].kind == 2) = true := beq_iff_eq.2 h2
          have hN : aftN fs i l[i] = [l[i], l[i]] := by simp only [aftN, hx]; rw [gdj]; simp [aftE, h2]
          subst hnm
          all_goals
            simp -dsimp only [go_sem, reduceIte, reduceCtorEq, Nat.reduceEqDiff, Nat.reduceLT, Nat.reduceLeDiff, Nat.reduceAdd, Nat.reduceMul, Nat.reduceSub, Int.reduceToNat, Int.reduceNeg, hp, E_len, hw, hgi, hgj, hneg2, cF, e2, List.replicate_succ, List.replicate_zero, List.flatten_cons, List.flatten_nil]
            repeat' (first
              | (refine RgK.mk rfl ?_; simp -dsimp only [go_sem, reduceIte, reduceCtorEq, Nat.reduceEqDiff, Nat.reduceLT, Nat.reduceLeDiff, Nat.reduceAdd, Nat.reduceMul, Nat.reduceSub, Int.reduceToNat, Int.reduceNeg, hp, E_len, hw, hgi, hgj, hneg2, cF, e2, List.replicate_succ, List.replicate_zero, List.flatten_cons, List.flatten_nil])
              | (refine Br.mk (fun h => ?_) (fun h => ?_) <;> simp -dsimp only [go_sem, reduceIte, reduceCtorEq, Nat.reduceEqDiff, Nat.reduceLT, Nat.reduceLeDiff, Nat.reduceAdd, Nat.reduceMul, Nat.reduceSub, Int.reduceToNat, Int.reduceNeg, h, hp, E_len, hw, hgi, hgj, hneg2, cF, e2, List.replicate_succ, List.replicate_zero, List.flatten_cons, List.flatten_nil])
              | (refine CallK.flat (by first | exact idxAft fs i (by omega)) rfl ?_; simp -dsimp only [go_sem, reduceIte, reduceCtorEq, Nat.reduceEqDiff, Nat.reduceLT, Nat.reduceLeDiff, Nat.reduceAdd, Nat.reduceMul, Nat.reduceSub, Int.reduceToNat, Int.reduceNeg, hp, E_len, hw, hgi, hgj, hneg2, cF, e2, List.replicate_succ, List.replicate_zero, List.flatten_cons, List.flatten_nil])
              | (refine CallK.pure (by first | exact idxAft fs i (by omega)) ?_; simp -dsimp only [go_sem, reduceIte, reduceCtorEq, Nat.reduceEqDiff, Nat.reduceLT, Nat.reduceLeDiff, Nat.reduceAdd, Nat.reduceMul, Nat.reduceSub, Int.reduceToNat, Int.reduceNeg, hp, E_len, hw, hgi, hgj, hneg2, cF, e2, List.replicate_succ, List.replicate_zero, List.flatten_cons, List.flatten_nil])
              | (refine And.intro (by first | rfl | omega | decide | (refine ⟨?_, ?_⟩ <;> (first | rfl | omega | decide)) | (refine ⟨?_, ?_, ?_⟩ <;> (first | rfl | omega | decide)) | (refine ⟨?_, ?_, ?_, ?_⟩ <;> (first | rfl | omega | decide))) ?_)
              | fail)

            all_goals (exact ⟨⟨(i + 1, 0, .t 5 0), by first | omega | simp | exact ⟨by omega, by omega⟩, by simp, trivial⟩, by simp [Vs.LeL, Vs.look, Vs.hlook, aft_succ l fs hlt, hN, E_append, Vs.E, cI], by simp only; omega⟩)
        · have e2 : (fs[j].kind == 2) = false := beq_eq_false_iff_ne.2 h2
          by_cases h3 : fs[j].kind = 3
          · have e3 : (fs[j].kind == 3) = true := beq_iff_eq.2 h3
            have hN : aftN fs i l[i] = [rdD l[i] fs[j]] := by simp only [aftN, hx]; rw [gdj]; simp [aftE, h3]
            obtain ⟨q, hq, hq4⟩ := isF_digit hisF h3
            have hst : (E cI (wl 4 l[i])).set q [.v (.int .i64 fs[j].digit)] = E cI ((wl 4 l[i]).set q fs[j].digit) := by simp [E, cI, List.map_set]
            have hgw : (E cI (wl 4 l[i])).getD q [] = [.v (.int .i64 ((wl 4 l[i])[q]'(by rw [wl_length]; exact hq4)))] := cI_get (by rw [wl_length]; exact hq4)
            have htk : List.take 4 (E cI ((wl 4 l[i]).set q fs[j].digit)) = E cI ((wl 4 l[i]).set q fs[j].digit) := List.take_of_length_le (by simp [E, wl_length])
            have hrd : hW ((wl 4 l[i]).set q fs[j].digit) = rdD l[i] fs[j] := by simp [rdD, hq]
            have hl4 : ((wl 4 l[i]).set q fs[j].digit).length ≤ 1000 := by simp [wl_length]
            subst hnm
            all_goals
              simp -dsimp only [go_sem, reduceIte, reduceCtorEq, Nat.reduceEqDiff, Nat.reduceLT, Nat.reduceLeDiff, Nat.reduceAdd, Nat.reduceMul, Nat.reduceSub, Int.reduceToNat, Int.reduceNeg, hp, E_len, hw, hgi, hgj, hneg2, cF, e2, e3, hq, List.replicate_succ, List.replicate_zero, List.flatten_cons, List.flatten_nil]
              repeat' (first
                | (refine RgK.mk rfl ?_; simp -dsimp only [go_sem, reduceIte, reduceCtorEq, Nat.reduceEqDiff, Nat.reduceLT, Nat.reduceLeDiff, Nat.reduceAdd, Nat.reduceMul, Nat.reduceSub, Int.reduceToNat, Int.reduceNeg, hp, E_len, hw, hgi, hgj, hneg2, cF, e2, e3, hq, List.replicate_succ, List.replicate_zero, List.flatten_cons, List.flatten_nil])
                | (refine Br.mk (fun h => ?_) (fun h => ?_) <;> simp -dsimp only [go_sem, reduceIte, reduceCtorEq, Nat.reduceEqDiff, Nat.reduceLT, Nat.reduceLeDiff, Nat.reduceAdd, Nat.reduceMul, Nat.reduceSub, Int.reduceToNat, Int.reduceNeg, h, hp, E_len, hw, hgi, hgj, hneg2, cF, e2, e3, hq, List.replicate_succ, List.replicate_zero, List.flatten_cons, List.flatten_nil])
                | (refine CallK.flat (by first | exact idxAft fs i (by omega)) rfl ?_; simp -dsimp only [go_sem, reduceIte, reduceCtorEq, Nat.reduceEqDiff, Nat.reduceLT, Nat.reduceLeDiff, Nat.reduceAdd, Nat.reduceMul, Nat.reduceSub, Int.reduceToNat, Int.reduceNeg, hp, E_len, hw, hgi, hgj, hneg2, cF, e2, e3, hq, List.replicate_succ, List.replicate_zero, List.flatten_cons, List.flatten_nil])
                | (refine CallK.pure (by first | exact idxAft fs i (by omega)) ?_; simp -dsimp only [go_sem, reduceIte, reduceCtorEq, Nat.reduceEqDiff, Nat.reduceLT, Nat.reduceLeDiff, Nat.reduceAdd, Nat.reduceMul, Nat.reduceSub, Int.reduceToNat, Int.reduceNeg, hp, E_len, hw, hgi, hgj, hneg2, cF, e2, e3, hq, List.replicate_succ, List.replicate_zero, List.flatten_cons, List.flatten_nil])
                | (refine And.intro (by first | rfl | omega | decide | (refine ⟨?_, ?_⟩ <;> (first | rfl | omega | decide)) | (refine ⟨?_, ?_, ?_⟩ <;> (first | rfl | omega | decide)) | (refine ⟨?_, ?_, ?_, ?_⟩ <;> (first | rfl | omega | decide))) ?_)
                | fail)

              all_goals (refine Aft.CallK.own (wheelsShowO l[i]) rfl ?_)
              all_goals
                simp -dsimp only [go_sem, reduceIte, reduceCtorEq, Nat.reduceEqDiff, Nat.reduceLT, Nat.reduceLeDiff, Nat.reduceAdd, Nat.reduceMul, Nat.reduceSub, Int.reduceToNat, Int.reduceNeg, hp, E_len, hw, hgi, hgj, hneg2, cF, e2, e3, hq, hst, htk, hrd, hgw, List.replicate_succ, List.replicate_zero, List.flatten_cons, List.flatten_nil]
                repeat' (first
                  | (refine RgK.mk rfl ?_; simp -dsimp only [go_sem, reduceIte, reduceCtorEq, Nat.reduceEqDiff, Nat.reduceLT, Nat.reduceLeDiff, Nat.reduceAdd, Nat.reduceMul, Nat.reduceSub, Int.reduceToNat, Int.reduceNeg, hp, E_len, hw, hgi, hgj, hneg2, cF, e2, e3, hq, hst, htk, hrd, hgw, List.replicate_succ, List.replicate_zero, List.flatten_cons, List.flatten_nil])
                  | (refine Br.mk (fun h => ?_) (fun h => ?_) <;> simp -dsimp only [go_sem, reduceIte, reduceCtorEq, Nat.reduceEqDiff, Nat.reduceLT, Nat.reduceLeDiff, Nat.reduceAdd, Nat.reduceMul, Nat.reduceSub, Int.reduceToNat, Int.reduceNeg, h, hp, E_len, hw, hgi, hgj, hneg2, cF, e2, e3, hq, hst, htk, hrd, hgw, List.replicate_succ, List.replicate_zero, List.flatten_cons, List.flatten_nil])
                  | (refine CallK.flat (by first | exact shown _ hl4) rfl ?_; simp -dsimp only [go_sem, reduceIte, reduceCtorEq, Nat.reduceEqDiff, Nat.reduceLT, Nat.reduceLeDiff, Nat.reduceAdd, Nat.reduceMul, Nat.reduceSub, Int.reduceToNat, Int.reduceNeg, hp, E_len, hw, hgi, hgj, hneg2, cF, e2, e3, hq, hst, htk, hrd, hgw, List.replicate_succ, List.replicate_zero, List.flatten_cons, List.flatten_nil])
                  | (refine CallK.pure (by first | exact shown _ hl4) ?_; simp -dsimp only [go_sem, reduceIte, reduceCtorEq, Nat.reduceEqDiff, Nat.reduceLT, Nat.reduceLeDiff, Nat.reduceAdd, Nat.reduceMul, Nat.reduceSub, Int.reduceToNat, Int.reduceNeg, hp, E_len, hw, hgi, hgj, hneg2, cF, e2, e3, hq, hst, htk, hrd, hgw, List.replicate_succ, List.replicate_zero, List.flatten_cons, List.flatten_nil])
                  | (refine And.intro (by first | rfl | omega | decide | (refine ⟨?_, ?_⟩ <;> (first | rfl | omega | decide)) | (refine ⟨?_, ?_, ?_⟩ <;> (first | rfl | omega | decide)) | (refine ⟨?_, ?_, ?_, ?_⟩ <;> (first | rfl | omega | decide))) ?_)
                  | fail)

              all_goals (exact ⟨⟨(i + 1, 0, .t 5 0), by first | omega | simp | exact ⟨by omega, by omega⟩, by simp, trivial⟩, by simp [Vs.LeL, Vs.look, Vs.hlook, aft_succ l fs hlt, hN, E_append, Vs.E, cI], by simp only; omega⟩)
          · have e3 : (fs[j].kind == 3) = false := beq_eq_false_iff_ne.2 h3
            have hN : aftN fs i l[i] = [] := by simp only [aftN, hx]; rw [gdj]; simp [aftE, h2, h3]
            subst hnm
            · simp -dsimp only [go_sem, reduceIte, reduceCtorEq, Nat.reduceEqDiff, Nat.reduceLT, Nat.reduceLeDiff, Nat.reduceAdd, Nat.reduceMul, Nat.reduceSub, Int.reduceToNat, Int.reduceNeg, hp, E_len, hw, hgi, hgj, hneg2, cF, e2, e3, List.replicate_succ, List.replicate_zero, List.flatten_cons, List.flatten_nil]
              repeat' (first
                | (refine RgK.mk rfl ?_; simp -dsimp only [go_sem, reduceIte, reduceCtorEq, Nat.reduceEqDiff, Nat.reduceLT, Nat.reduceLeDiff, Nat.reduceAdd, Nat.reduceMul, Nat.reduceSub, Int.reduceToNat, Int.reduceNeg, hp, E_len, hw, hgi, hgj, hneg2, cF, e2, e3, List.replicate_succ, List.replicate_zero, List.flatten_cons, List.flatten_nil])
                | (refine Br.mk (fun h => ?_) (fun h => ?_) <;> simp -dsimp only [go_sem, reduceIte, reduceCtorEq, Nat.reduceEqDiff, Nat.reduceLT, Nat.reduceLeDiff, Nat.reduceAdd, Nat.reduceMul, Nat.reduceSub, Int.reduceToNat, Int.reduceNeg, h, hp, E_len, hw, hgi, hgj, hneg2, cF, e2, e3, List.replicate_succ, List.replicate_zero, List.flatten_cons, List.flatten_nil])
                | (refine CallK.flat (by first | exact idxAft fs i (by omega)) rfl ?_; simp -dsimp only [go_sem, reduceIte, reduceCtorEq, Nat.reduceEqDiff, Nat.reduceLT, Nat.reduceLeDiff, Nat.reduceAdd, Nat.reduceMul, Nat.reduceSub, Int.reduceToNat, Int.reduceNeg, hp, E_len, hw, hgi, hgj, hneg2, cF, e2, e3, List.replicate_succ, List.replicate_zero, List.flatten_cons, List.flatten_nil])
                | (refine CallK.pure (by first | exact idxAft fs i (by omega)) ?_; simp -dsimp only [go_sem, reduceIte, reduceCtorEq, Nat.reduceEqDiff, Nat.reduceLT, Nat.reduceLeDiff, Nat.reduceAdd, Nat.reduceMul, Nat.reduceSub, Int.reduceToNat, Int.reduceNeg, hp, E_len, hw, hgi, hgj, hneg2, cF, e2, e3, List.replicate_succ, List.replicate_zero, List.flatten_cons, List.flatten_nil])
                | (refine And.intro (by first | rfl | omega | decide | (refine ⟨?_, ?_⟩ <;> (first | rfl | omega | decide)) | (refine ⟨?_, ?_, ?_⟩ <;> (first | rfl | omega | decide)) | (refine ⟨?_, ?_, ?_, ?_⟩ <;> (first | rfl | omega | decide))) ?_)
                | fail)
              all_goals (exact ⟨⟨(i + 1, 0, .t 5 0), by first | omega | simp | exact ⟨by omega, by omega⟩, by simp, trivial⟩, by simp [Vs.LeL, Vs.look, Vs.hlook, aft_succ l fs hlt, hN, E_append, Vs.E, cI], by simp only; omega⟩)
    · have hge : i = l.length := by
        have : ¬ i < l.length := by simpa using hc
        omega
      subst hge
      subst hnm
      all_goals
        simp -dsimp only [go_sem, reduceIte, reduceCtorEq, Nat.reduceEqDiff, Nat.reduceLT, Nat.reduceLeDiff, Nat.reduceAdd, Nat.reduceMul, Nat.reduceSub, Int.reduceToNat, Int.reduceNeg, E_take]
        simp
end Go.Proofs.YtgeeipfdkamhmaaDoor
