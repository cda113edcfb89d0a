/- The program's Calculate, walked. -/
import Derived.Test.YtimcedhcefcbbaaDoorVsD
import Derived.Test.YtimcedhcefcbbaaDoorTwS
set_option linter.all false
set_option maxHeartbeats 8000000
namespace Go.Proofs.YtimcedhcefcbbaaDoor
open Go.Vs
section
variable [Vs.Tab 0 Vs.powP]
attribute [local irreducible] Vs.Fn
theorem dsN_app (q d : Nat) (h : d ≤ 9) : dsN (10 * q + d) = d + dsN q := by
 rw [dsN_any]
 have e1 : (10 * q + d) % 10 = d := by omega
 have e2 : (10 * q + d) / 10 = q := by omega
 rw [e1, e2]
def pwN : Nat → Nat
 | 0 => 0
 | i + 1 => 10 ^ i
theorem nDig {n k : Nat} (h1 : k = 0 ∨ 10 ^ k ≤ n) (h2 : n < 10 ^ (k + 1)) : Lib.nDigits n = k + 1 := by
 rcases h1 with rfl | h1
 ·exact Lib.nDigits_small (by simpa using h2)
 ·exact Lib.nDigits_unique k n h1 h2
theorem pow_succ10 (i : Nat) : 10 ^ (i + 1) = 10 ^ i * 10 := Nat.pow_succ ..
theorem l14Divide (a b : Nat) (ha : a ≤ 999999999999) (hb0 : 0 < b) (hb : b ≤ 999999) : Vs.Fn Tryd.prog F.s_l14Divide [] [.v (.int .i64 a), .v (.int .i64 b)] (.tup [.v (.int .i64 (a / b : Nat)), .v (.int .i64 (a % b : Nat)), .v (.int .i64 (dsN (a / b) + Lib.nDigits (a / b) : Nat))]) [] := by
 have hQ : a / b ≤ a := Nat.div_le_self a b
 have e0 : (a : Int).tdiv b = ((a / b : Nat) : Int) := by rw [Int.tdiv_eq_ediv_of_nonneg (by omega)]; simp
 have hdl : ∀ c, a / b < c → a < c * b := fun c h => (Nat.div_lt_iff_lt_mul hb0).1 h
 have hfin : ∀ r q, r + q * b = a → r < b → q = a / b ∧ r = a % b := fun r q h h2 => by
  subst h
  rw [Nat.add_mul_div_right _ _ hb0, Nat.add_mul_mod_self_right, Nat.div_eq_of_lt h2, Nat.mod_eq_of_lt h2]
  omega
 have hbQ : b * (a / b) ≤ a := Nat.mul_div_le a b
 generalize a / b = Q at *
 generalize a % b = R at *
 have e1 : IntKind.i64.wrap ((a : Int).tdiv b) = (Q : Int) := by
  rw [e0, wrap_in (by omega) (by omega)]
 have hbz : (b : Int) ≠ 0 := by omega
 refine fn0 Cd.s_l14Divide_k fun X => ?_
 simp -dsimp only [go_sem]
 refine LoopK.at dM (X := { k : Nat // (k = 0 ∨ 10 ^ k ≤ Q) ∧ k ≤ 12 }) (fun k => [(7, .v (.int .i64 ((10 ^ k.1 : Nat) : Int)))]) (fun _ => []) (fun k => 13 - k.1) ⟨0, .inl rfl, by omega⟩ ?_ ?_
 ·exact le0
 ·rintro ⟨k, hk, hk12⟩
  have hk : k = 0 ∨ 10 ^ k ≤ Q := hk
  have hk12 : k ≤ 12 := hk12
  have hp12 : 10 ^ k ≤ 10 ^ 12 := Nat.pow_le_pow_right (by omega) hk12
  have hps := pow_succ10 k
  have e2 : IntKind.i64.wrap (10 * ((10 ^ k : Nat) : Int)) = ((10 ^ (k + 1) : Nat) : Int) := by rw [wrap_in (by omega) (by omega)]; omega
  have e3 : IntKind.i64.wrap (((10 ^ k : Nat) : Int) * 10) = ((10 ^ (k + 1) : Nat) : Int) := by rw [wrap_in (by omega) (by omega)]; omega
  by_cases hc : 10 ^ (k + 1) ≤ Q
  ·have hd : decide ((Q : Int) ≥ ((10 ^ (k + 1) : Nat) : Int)) = true := decide_eq_true (by omega)
   have hk13 : k + 1 ≤ 12 := by
    rcases Nat.lt_or_ge k 12 with h | h
    ·omega
    ·have : 10 ^ 13 ≤ 10 ^ (k + 1) := Nat.pow_le_pow_right (by omega) (by omega)
     omega
   repeat' first|simp -dsimp only [go_sem, e1, e2, e3, hd]|apply Br.mk<;>intro h<;>try simp -dsimp only[h]|refine RgK.mk rfl ?_|refine And.intro (by first|rfl | omega | decide|exact hbz | (refine ⟨?_, ?_⟩ <;> (first | rfl | omega | decide|exact hbz)) | (refine ⟨?_, ?_, ?_⟩ <;> (first | rfl | omega | decide|exact hbz)) | (refine ⟨?_, ?_, ?_, ?_⟩ <;> (first | rfl | omega | decide|exact hbz))) ?_|fail
   all_goals exact ⟨⟨k + 1, .inr hc, hk13⟩, by simp [Vs.LeL, Vs.look, Vs.hlook, Vs.sput, Vs.sputs, Vs.hset, Vs.hputs], by simp only; omega⟩
  ·have hd : decide ((Q : Int) ≥ ((10 ^ (k + 1) : Nat) : Int)) = false := decide_eq_false (by omega)
   have hnd := nDig hk (by omega)
   have hA : a < 10 ^ (k + 1) * b := hdl _ (by omega)
   repeat' first|simp -dsimp only [go_sem, e1, e2, e3, hd]|apply Br.mk<;>intro h<;>try simp -dsimp only[h]|refine RgK.mk rfl ?_|refine And.intro (by first|rfl | omega | decide|exact hbz | (refine ⟨?_, ?_⟩ <;> (first | rfl | omega | decide|exact hbz)) | (refine ⟨?_, ?_, ?_⟩ <;> (first | rfl | omega | decide|exact hbz)) | (refine ⟨?_, ?_, ?_, ?_⟩ <;> (first | rfl | omega | decide|exact hbz))) ?_|fail
   refine And.intro ?_ (by simp)
   refine LoopK.at dM (X := { zz : Nat × Nat × Nat // zz.1 ≤ k + 1 ∧ zz.2.1 + zz.2.2 * (10 ^ zz.1 * b) = a ∧ zz.2.1 < 10 ^ zz.1 * b }) (fun zz => [(0, .v (.int .i64 zz.1.2.1)), (7, .v (.int .i64 (pwN zz.1.1 : Nat))), (8, .v (.int .i64 zz.1.2.2)), (9, .v (.int .i64 (dsN zz.1.2.2 + (k + 1 - zz.1.1) : Nat)))]) (fun _ => []) (fun zz => zz.1.1) ⟨(k + 1, a, 0), by omega, by simp, hA⟩ ?_ ?_
   ·simp [Vs.LeL, Vs.look, Vs.hlook, Vs.sput, Vs.sputs, Vs.hset, Vs.hputs, pwN, dsN_zero]
   ·rintro ⟨⟨j, r, q⟩, hj, hr, hrl⟩
    dsimp only at hj hr hrl
    simp -dsimp only [go_sem]
    refine Br.mk (fun hcj => ?_) fun hcj => ?_
    ·obtain ⟨i, rfl⟩ : ∃ i, j = i + 1 := by
      cases j with
      | zero => simp [pwN] at hcj
      | succ i => exact ⟨i, rfl⟩
     have hPk : 10 ^ i ≤ 10 ^ k := Nat.pow_le_pow_right (by omega) (by omega)
     have hP0 : 0 < 10 ^ i := Nat.pow_pos (by omega)
     rw [pow_succ10 i] at hr hrl
     generalize hP : 10 ^ i = p at *
     have hbp : 0 < b * p := Nat.mul_pos hb0 hP0
     have hds := Nat.div_add_mod r (b * p)
     have hml := Nat.mod_lt r hbp
     generalize hd : r / (b * p) = d at *
     have hd9 : d ≤ 9 := by
      have : d < 10 := by rw [← hd]; exact (Nat.div_lt_iff_lt_mul hbp).2 (by rw [Nat.mul_comm b p, ← Nat.mul_assoc, Nat.mul_comm 10 p]; exact hrl)
      omega
     have hz : b * p ≤ 999999999999 := by
      rcases hk with h0 | h0
      ·subst h0
       have : i = 0 := by omega
       subst this
       rw [← hP]; omega
      ·exact Nat.le_trans (Nat.mul_le_mul_left b (Nat.le_trans hPk h0)) (by omega)
     have hqa : q ≤ a := by
      have h3 : 0 < p * 10 * b := Nat.mul_pos (by omega) hb0
      have := Nat.le_mul_of_pos_right q h3
      omega
     have hdb : d * b ≤ 9 * 999999 := Nat.mul_le_mul hd9 hb
     have hdbp : d * b * p = b * p * d := by rw [Nat.mul_assoc, Nat.mul_comm]
     have hr2 : p * 10 * b = 10 * (b * p) := by rw [Nat.mul_comm b p, Nat.mul_comm p 10, Nat.mul_assoc]
     rw [hr2] at hr hrl
     have hcyc := dsN_app q d hd9
     have hdq := dsN_le q
     have f2 : (r : Int).tdiv ((b * p : Nat) : Int) = (d : Int) := by rw [Int.tdiv_eq_ediv_of_nonneg (by omega), ← hd]; simp
     generalize hzz : b * p = z at *
     have f1 : IntKind.i64.wrap ((b : Int) * (p : Int)) = (z : Int) := by rw [← Int.natCast_mul, hzz, wrap_in (by omega) (by omega)]
     have f3 : IntKind.i64.wrap (d : Int) = (d : Int) := wrap_in (by omega) (by omega)
     have f4 : IntKind.i64.wrap ((d : Int) * (b : Int)) = ((d * b : Nat) : Int) := by rw [← Int.natCast_mul, wrap_in (by omega) (by omega)]
     have f5 : IntKind.i64.wrap (((d * b : Nat) : Int) * (p : Int)) = ((z * d : Nat) : Int) := by rw [← Int.natCast_mul, hdbp, wrap_in (by omega) (by omega)]
     have f6 : IntKind.i64.wrap ((r : Int) - ((z * d : Nat) : Int)) = ((r % z : Nat) : Int) := by rw [wrap_in (by omega) (by omega)]; omega
     have f7 : IntKind.i64.wrap (10 * (q : Int)) = ((10 * q : Nat) : Int) := by rw [wrap_in (by omega) (by omega)]; omega
     have f8 : IntKind.i64.wrap (((10 * q : Nat) : Int) + (d : Int)) = ((10 * q + d : Nat) : Int) := by rw [wrap_in (by omega) (by omega)]; omega
     have f9 : IntKind.i64.wrap ((d : Int) + 1) = ((d + 1 : Nat) : Int) := by rw [wrap_in (by omega) (by omega)]; omega
     have f10 : IntKind.i64.wrap (((dsN q + (k + 1 - (i + 1)) : Nat) : Int) + ((d + 1 : Nat) : Int)) = ((dsN (10 * q + d) + (k + 1 - i) : Nat) : Int) := by rw [wrap_in (by omega) (by omega)]; omega
     have f11 : IntKind.i64.wrap (((p : Nat) : Int).tdiv 10) = ((pwN i : Nat) : Int) := by
      rw [Int.tdiv_eq_ediv_of_nonneg (by omega), wrap_in (by omega) (by omega)]
      cases i with
      | zero => simp at hP; subst hP; rfl
      | succ i => rw [pow_succ10] at hP; simp only [pwN]; omega
     have hpw : pwN (i + 1) = p := hP
     have hzz2 : (z : Int) ≠ 0 := by omega
     have hinv : r % z + (10 * q + d) * (10 ^ i * b) = a := by
      rw [hP, Nat.mul_comm p b, hzz, Nat.add_mul, Nat.mul_comm d z, Nat.mul_comm 10 q, Nat.mul_assoc q 10 z]; omega
     have hinv2 : r % z < 10 ^ i * b := by rw [hP, Nat.mul_comm p b, hzz]; exact hml
     repeat' first|simp -dsimp only [go_sem, hpw, f1, f2, f3, f4, f5, f6, f7, f8, f9, f10, f11]|apply Br.mk<;>intro h<;>try simp -dsimp only[h]|refine RgK.mk rfl ?_|refine And.intro (by first|rfl | omega | decide|exact hzz2 | (refine ⟨?_, ?_⟩ <;> (first | rfl | omega | decide|exact hzz2)) | (refine ⟨?_, ?_, ?_⟩ <;> (first | rfl | omega | decide|exact hzz2)) | (refine ⟨?_, ?_, ?_, ?_⟩ <;> (first | rfl | omega | decide|exact hzz2))) ?_|fail
     all_goals exact ⟨⟨(i, r % z, 10 * q + d), by dsimp only; omega, hinv, hinv2⟩, by simp [Vs.LeL, Vs.look, Vs.hlook, Vs.sput, Vs.sputs, Vs.hset, Vs.hputs], by simp only; omega⟩
    ·have hj0 : j = 0 := by
      cases j with
      | zero => rfl
      | succ i =>
       have hP0 : 0 < 10 ^ i := Nat.pow_pos (by omega)
       have h4 : ((10 ^ i : Nat) : Int) > 0 := Int.natCast_pos.2 hP0
       exact absurd h4 (of_decide_eq_false hcj)
     subst hj0
     rw [Nat.pow_zero, Nat.one_mul] at hr hrl
     obtain ⟨h1, h2⟩ := hfin r q hr hrl
     simp -dsimp only [go_sem]
     simp [h1, h2, hnd]
def nrB (a b : Int) : Bool := inB a (-999999999999) 999999999999 && inB b (-999999) 999999
def quoT (a b : Int) : Int × Int × Int × Int :=
 if nrB a b then (if b = 0 then (0, 0, 0, 6) else (a.tdiv b, a.tmod b, ((dsN (a.tdiv b).natAbs + Lib.nDigits (a.tdiv b).natAbs : Nat) : Int), 0)) else (0, 0, 0, 2)
def cT4 (x : Int × Int × Int × Int) : List AV := [.v (.int .i64 x.1), .v (.int .i64 x.2.1), .v (.int .i64 x.2.2.1), .v (.int .i64 x.2.2.2)]
theorem nr_in {a : Int} (h : inB a (-999999999999) 999999999999 = true) : -999999999999 ≤ a ∧ a ≤ 999999999999 := by
 simp only [inB, Bool.and_eq_true, decide_eq_true_eq] at h; omega
theorem div_sgn (a b : Int) : (a.tdiv b).natAbs = a.natAbs / b.natAbs ∧ a.tdiv b = (if (decide (a < 0) != decide (b < 0)) = true then -((a.natAbs / b.natAbs : Nat) : Int) else ((a.natAbs / b.natAbs : Nat) : Int)) ∧ a.tmod b = (if a < 0 then -((a.natAbs % b.natAbs : Nat) : Int) else ((a.natAbs % b.natAbs : Nat) : Int)) := by
 refine ⟨Int.natAbs_tdiv a b, ?_, ?_⟩
 ·by_cases ha : a < 0 <;> by_cases hb : b < 0
  ·obtain ⟨m, rfl⟩ : ∃ m : Nat, a = -(m : Int) := ⟨a.natAbs, by omega⟩
   obtain ⟨n, rfl⟩ : ∃ n : Nat, b = -(n : Int) := ⟨b.natAbs, by omega⟩
   have hm : 0 < m := by omega
   have hn : 0 < n := by omega
   simp [hm, hn, Int.tdiv_neg, Int.neg_tdiv]
  ·obtain ⟨m, rfl⟩ : ∃ m : Nat, a = -(m : Int) := ⟨a.natAbs, by omega⟩
   obtain ⟨n, rfl⟩ : ∃ n : Nat, b = (n : Int) := ⟨b.natAbs, by omega⟩
   have hm : m ≠ 0 := by omega
   simp [hb, hm, Int.neg_tdiv]
  ·obtain ⟨m, rfl⟩ : ∃ m : Nat, a = (m : Int) := ⟨a.natAbs, by omega⟩
   obtain ⟨n, rfl⟩ : ∃ n : Nat, b = -(n : Int) := ⟨b.natAbs, by omega⟩
   have hn : n ≠ 0 := by omega
   simp [ha, hn, Int.tdiv_neg]
  ·obtain ⟨m, rfl⟩ : ∃ m : Nat, a = (m : Int) := ⟨a.natAbs, by omega⟩
   obtain ⟨n, rfl⟩ : ∃ n : Nat, b = (n : Int) := ⟨b.natAbs, by omega⟩
   simp [ha, hb]
 ·by_cases ha : a < 0
  ·obtain ⟨m, rfl⟩ : ∃ m : Nat, a = -(m : Int) := ⟨a.natAbs, by omega⟩
   have hm : 0 < m := by omega
   rcases Int.natAbs_eq b with h | h <;> rw [h] <;> simp [hm, Int.neg_tmod, Int.tmod_neg, Int.tmod_eq_emod_of_nonneg (Int.natCast_nonneg m)]
  ·obtain ⟨m, rfl⟩ : ∃ m : Nat, a = (m : Int) := ⟨a.natAbs, by omega⟩
   rcases Int.natAbs_eq b with h | h <;> rw [h] <;> simp [ha, Int.tmod_neg, Int.tmod_eq_emod_of_nonneg (Int.natCast_nonneg m)]
end
section
variable [Vs.Tab 0 Vs.powP]
attribute [local irreducible] Vs.Fn
theorem spec_QuotientBy (a b : Int) : Vs.Fn Tryd.prog F.s_QuotientBy [] [.v (.int .i64 a), .v (.int .i64 b)] (.tup (cT4 (quoT a b))) [] := by
 refine fn0 Cd.s_QuotientBy_k fun X => ?_
 simp -dsimp only [go_sem]
 cases ha : inB a (-999999999999) 999999999999 with
 | false =>
  repeat' first|simp -dsimp only [go_sem, ha]|apply Br.mk<;>intro h<;>try simp -dsimp only[h]|refine CallK.c (by first|exact l14Number _) ?_|refine aC ?_|fail
  all_goals simp [quoT, nrB, ha, cT4]
 | true =>
  cases hb : inB b (-999999) 999999 with
  | false =>
   repeat' first|simp -dsimp only [go_sem, ha, hb]|apply Br.mk<;>intro h<;>try simp -dsimp only[h]|refine CallK.c (by first|exact l14Number _|exact l14Factor _) ?_|refine aC ?_|fail
   all_goals simp [quoT, nrB, ha, hb, cT4]
  | true =>
   have ga := nr_in ha
   have gb := fct_in hb
   by_cases hz : b = 0
   ·have ez : (b == 0) = true := beq_iff_eq.2 hz
    have hT : quoT a b = (0, 0, 0, 6) := by unfold quoT nrB; rw [ha, hb]; simp [hz]
    repeat' first|simp -dsimp only [go_sem, ha, hb, ez]|apply Br.mk<;>intro h<;>try simp -dsimp only[h]|refine CallK.c (by first|exact l14Number _|exact l14Factor _) ?_|refine aC ?_|fail
    all_goals simp [hT, cT4]
   ·have ez : (b == 0) = false := beq_eq_false_iff_ne.2 hz
    obtain ⟨d1, d2, d3⟩ := div_sgn a b
    have hle := Nat.div_le_self a.natAbs b.natAbs
    have hml : a.natAbs % b.natAbs ≤ a.natAbs := Nat.mod_le _ _
    have hw1 : IntKind.i64.wrap (0 - ((a.natAbs / b.natAbs : Nat) : Int)) = -((a.natAbs / b.natAbs : Nat) : Int) := by
     generalize a.natAbs / b.natAbs = q at *
     rw [wrap_in (by omega) (by omega)]; omega
    have hw2 : IntKind.i64.wrap (0 - ((a.natAbs % b.natAbs : Nat) : Int)) = -((a.natAbs % b.natAbs : Nat) : Int) := by
     generalize a.natAbs % b.natAbs = q at *
     rw [wrap_in (by omega) (by omega)]; omega
    have hD := l14Divide a.natAbs b.natAbs (by omega) (by omega) (by omega)
    have hT : quoT a b = (a.tdiv b, a.tmod b, ((dsN (a.tdiv b).natAbs + Lib.nDigits (a.tdiv b).natAbs : Nat) : Int), 0) := by unfold quoT nrB; rw [ha, hb]; simp [hz]
    by_cases hA : a < 0 <;> by_cases hB : b < 0
    all_goals
     simp only [hA, hB, decide_true, decide_false, bne_self_eq_false, Bool.false_eq_true, if_false, if_true, Bool.true_bne, Bool.false_bne, Bool.not_true, Bool.not_false] at d2 d3
     have hn : decide (a < 0) = decide (a < 0) := rfl
     have hT2 := hT
     rw [d1, d2, d3] at hT2
     repeat' first|simp -dsimp only [go_sem, ha, hb, ez, hA, hB, hw1, hw2, Bool.true_beq, Bool.false_beq, decide_true, decide_false, Bool.not_true, Bool.not_false]|apply Br.mk<;>intro h<;>try simp -dsimp only[h]|refine CallK.c (by first|exact l14Number _|exact l14Factor _|exact l14Size _ (by omega) (by omega)|exact hD) ?_|refine aC ?_|fail
     all_goals simp [hT2, cT4]
theorem impl_QuotientBy (a b : Int) : Vs.Fn Tryd.prog F.i_QuotientBy [] [.v (.int .i64 a), .v (.int .i64 b)] (.tup (cT4 (quoT a b))) [] := by
 refine fn0 Cd.i_QuotientBy_k fun X => ?_
 simp -dsimp only [go_sem]
 cases ha : inB a (-999999999999) 999999999999 with
 | false =>
  repeat' first|simp -dsimp only [go_sem, ha]|apply Br.mk<;>intro h<;>try simp -dsimp only[h]|refine CallK.c (by first|exact isNumber _) ?_|refine aC ?_|fail
  all_goals simp [quoT, nrB, ha, cT4]
 | true =>
  cases hb : inB b (-999999) 999999 with
  | false =>
   repeat' first|simp -dsimp only [go_sem, ha, hb]|apply Br.mk<;>intro h<;>try simp -dsimp only[h]|refine CallK.c (by first|exact isNumber _|exact isFactor _) ?_|refine aC ?_|fail
   all_goals simp [quoT, nrB, ha, hb, cT4]
  | true =>
   have ga := nr_in ha
   have gb := fct_in hb
   by_cases hz : b = 0
   ·have ez : (b == 0) = true := beq_iff_eq.2 hz
    have hT : quoT a b = (0, 0, 0, 6) := by unfold quoT nrB; rw [ha, hb]; simp [hz]
    repeat' first|simp -dsimp only [go_sem, ha, hb, ez]|apply Br.mk<;>intro h<;>try simp -dsimp only[h]|refine CallK.c (by first|exact isNumber _|exact isFactor _) ?_|refine aC ?_|fail
    all_goals simp [hT, cT4]
   ·have ez : (b == 0) = false := beq_eq_false_iff_ne.2 hz
    obtain ⟨d1, d2, d3⟩ := div_sgn a b
    have hle := Nat.div_le_self a.natAbs b.natAbs
    have hml : a.natAbs % b.natAbs ≤ a.natAbs := Nat.mod_le _ _
    have hT : quoT a b = (a.tdiv b, a.tmod b, ((dsN (a.tdiv b).natAbs + Lib.nDigits (a.tdiv b).natAbs : Nat) : Int), 0) := by unfold quoT nrB; rw [ha, hb]; simp [hz]
    have hqa : (a.tdiv b).natAbs ≤ a.natAbs := by rw [d1]; exact hle
    have hbz : b ≠ 0 := hz
    clear d2 d3 d1
    obtain ⟨q, hq⟩ : ∃ q, a.tdiv b = q := ⟨_, rfl⟩
    rw [hq] at hT hqa
    have hw1 : IntKind.i64.wrap q = q := wrap_in (by omega) (by omega)
    have hds := dsN_le q.natAbs
    have hnd := nDigits_le (n := q.natAbs) (by omega)
    have hlen := wl_length (Lib.nDigits q.natAbs) q.natAbs
    have hw2 : IntKind.i64.wrap ((dsN q.natAbs : Int) + ((Lib.nDigits q.natAbs : Nat) : Int)) = ((dsN q.natAbs + Lib.nDigits q.natAbs : Nat) : Int) := by rw [wrap_in (by omega) (by omega)]; omega
    skip
    repeat' first|simp -dsimp only [go_sem, ha, hb, ez, hq, hw1, hw2, hlen]|apply Br.mk<;>intro h<;>try simp -dsimp only[h]|refine RgK.mk rfl ?_|refine CallK.c (by first|exact isNumber _|exact isFactor _|exact digitSum q (by omega) (by omega)|exact digitList q (by omega) (by omega)|exact sizeI _) ?_|refine And.intro (by first|rfl | omega | decide|exact hbz|exact ⟨rfl, hbz⟩ | (refine ⟨?_, ?_⟩ <;> (first | rfl | omega | decide|exact hbz|exact ⟨rfl, hbz⟩)) | (refine ⟨?_, ?_, ?_⟩ <;> (first | rfl | omega | decide|exact hbz|exact ⟨rfl, hbz⟩)) | (refine ⟨?_, ?_, ?_, ?_⟩ <;> (first | rfl | omega | decide|exact hbz|exact ⟨rfl, hbz⟩))) ?_|fail
    all_goals simp [hT, cT4]
end
section
variable [Vs.Tab 0 Vs.powP]
attribute [local irreducible] Vs.Fn
def nnB (a : Int) : Bool := inB a (-999999999999) 999999999999
def calT (k a b : Int) : Int × Int × Int :=
 if k = 3 then proT a b
 else if k = 4 then ((quoT a b).1, (quoT a b).2.2.1, (quoT a b).2.2.2)
 else if nnB a && nnB b then (if nnB (if k = 2 then W (a - b) else W (a + b)) then ((if k = 2 then W (a - b) else W (a + b)), 2, 0) else (0, 0, 5))
 else (0, 0, 2)
theorem l14Do (k a b : Int) : Vs.Fn Tryd.prog F.s_l14Do [] [.v (.int .i64 k), .v (.int .i64 a), .v (.int .i64 b)] (.tup (cT3 (calT k a b))) [] := by
 refine fn0 Cd.s_l14Do_k fun X => ?_
 repeat' first|simp -dsimp only [go_sem, cT3, cT4]|apply Br.mk<;>intro h<;>try simp -dsimp only[h]|refine CallK.c (by first|exact spec_ProductBy a b|exact spec_QuotientBy a b|exact l14Number _) ?_|refine aC ?_|fail
 all_goals (first | (simp_all [calT, cT3, cT4, nnB]; done) | (refine ret_eq ?_; simp_all [calT, cT3, cT4, nnB]))
end
section
variable [Vs.Tab 0 Vs.powP]
attribute [local irreducible] Vs.Fn
theorem proT_cases (a b : Int) : ((proT a b).2.2 = 0 ∧ nnB (proT a b).1 = true) ∨ proT a b = (0, 0, 2) := by
 unfold proT
 cases h : fctB a b
 ·exact .inr rfl
 ·refine .inl ⟨rfl, ?_⟩
  simp only [fctB, Bool.and_eq_true] at h
  have ga := fct_in h.1
  have gb := fct_in h.2
  have hab : a.natAbs * b.natAbs ≤ 999999 * 999999 := Nat.mul_le_mul (by omega) (by omega)
  have := mul_sgn a b
  simp only [if_true, nnB, inB, Bool.and_eq_true, decide_eq_true_eq]
  split at this <;> omega
theorem quoT_cases (a b : Int) : ((quoT a b).2.2.2 = 0 ∧ nnB (quoT a b).1 = true) ∨ ((quoT a b).1 = 0 ∧ (quoT a b).2.2.1 = 0 ∧ (quoT a b).2.2.2 ≠ 0) := by
 unfold quoT
 cases h : nrB a b
 ·exact .inr ⟨rfl, rfl, fun h => absurd (show (2 : Int) = 0 from h) (by decide)⟩
 ·by_cases hz : b = 0
  ·simp [hz]
  ·simp only [nrB, Bool.and_eq_true] at h
   have ga := nr_in h.1
   have h1 := (div_sgn a b).1
   have h2 := Nat.div_le_self a.natAbs b.natAbs
   simp only [if_true, hz, if_false, nnB, inB, Bool.and_eq_true, decide_eq_true_eq]
   exact .inl ⟨trivial, by omega, by omega⟩
end
section
variable [Vs.Tab 0 Vs.powP]
attribute [local irreducible] Vs.Fn
theorem calculate (k a b : Int) (hk : inB k 1 4 = true) : Vs.Fn Tryd.prog F.i_Calculate [] [.v (.int .i64 k), .v (.int .i64 a), .v (.int .i64 b)] (.tup (cT3 (calT k a b))) [] := by
 have hk4 : k = 1 ∨ k = 2 ∨ k = 3 ∨ k = 4 := by
  simp only [inB, Bool.and_eq_true, decide_eq_true_eq] at hk; omega
 have z11 : ((1 : Int) == 1) = true := rfl
 have z12 : ((1 : Int) == 2) = false := rfl
 have z21 : ((2 : Int) == 1) = false := rfl
 have z22 : ((2 : Int) == 2) = true := rfl
 have z31 : ((3 : Int) == 1) = false := rfl
 have z32 : ((3 : Int) == 2) = false := rfl
 have z33 : ((3 : Int) == 3) = true := rfl
 have z41 : ((4 : Int) == 1) = false := rfl
 have z42 : ((4 : Int) == 2) = false := rfl
 have z43 : ((4 : Int) == 3) = false := rfl
 have z44 : ((4 : Int) == 4) = true := rfl
 rcases hk4 with rfl | rfl | rfl | rfl
 ·refine fn0 Cd.i_Calculate_k fun X => ?_
  repeat' first|simp -dsimp only [go_sem, z11, z21, z22, z31, z32, z33, z41, z42, z43, z44, z12, cT3, cT4]|apply Br.mk<;>intro h<;>try simp -dsimp only[h]|refine CallK.c (by first|exact impl_ProductBy a b|exact impl_QuotientBy a b|exact isNumber _) ?_|refine aC ?_|fail
  all_goals (first | (simp_all [calT, cT3, cT4, nnB]; done) | (refine ret_eq ?_; simp_all [calT, cT3, cT4, nnB]))
 ·refine fn0 Cd.i_Calculate_k fun X => ?_
  repeat' first|simp -dsimp only [go_sem, z11, z21, z22, z31, z32, z33, z41, z42, z43, z44, z12, cT3, cT4]|apply Br.mk<;>intro h<;>try simp -dsimp only[h]|refine CallK.c (by first|exact impl_ProductBy a b|exact impl_QuotientBy a b|exact isNumber _) ?_|refine aC ?_|fail
  all_goals (first | (simp_all [calT, cT3, cT4, nnB]; done) | (refine ret_eq ?_; simp_all [calT, cT3, cT4, nnB]))
 ·refine fn0 Cd.i_Calculate_k fun X => ?_
  rcases proT_cases a b with ⟨hc, hn⟩ | hc
  all_goals
   repeat' first|simp -dsimp only [go_sem, z11, z21, z22, z31, z32, z33, z41, z42, z43, z44, z12, cT3, cT4]|apply Br.mk<;>intro h<;>try simp -dsimp only[h]|refine CallK.c (by first|exact impl_ProductBy a b|exact impl_QuotientBy a b|exact isNumber _) ?_|refine aC ?_|fail
   all_goals (first | (simp_all [calT, cT3, cT4, nnB]; done) | (refine ret_eq ?_; simp_all [calT, cT3, cT4, nnB]))
 ·refine fn0 Cd.i_Calculate_k fun X => ?_
  rcases quoT_cases a b with ⟨hc, hn⟩ | hc
  all_goals
   repeat' first|simp -dsimp only [go_sem, z11, z21, z22, z31, z32, z33, z41, z42, z43, z44, z12, cT3, cT4]|apply Br.mk<;>intro h<;>try simp -dsimp only[h]|refine CallK.c (by first|exact impl_ProductBy a b|exact impl_QuotientBy a b|exact isNumber _) ?_|refine aC ?_|fail
   all_goals (first | (simp_all [calT, cT3, cT4, nnB]; done) | (refine ret_eq ?_; simp_all [calT, cT3, cT4, nnB]))
end
end Go.Proofs.YtimcedhcefcbbaaDoor
