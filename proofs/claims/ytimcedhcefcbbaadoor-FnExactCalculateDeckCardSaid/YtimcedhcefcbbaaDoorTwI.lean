/- The number in columns, as the program reads it and as the reference does. -/
import Derived.Test.YtimcedhcefcbbaaDoorVsD
import Derived.Test.YtimcedhcefcbbaaDoorTwF
import Derived.Test.YtimcedhcefcbbaaDoorVtP
import Derived.Test.YtimcedhcefcbbaaDoorTuR
set_option linter.all false
set_option maxHeartbeats 8000000
namespace Go.Proofs.YtimcedhcefcbbaaDoor
open Go.Vs
section
variable [Vs.Tab 0 Vs.powP]
attribute [local irreducible] Vs.Fn
theorem W_nat {n : Nat} (h : n < 2 ^ 63) : W n = n := wrap_in (by omega) (by omega)
theorem wl_nat {n : Nat} (h : n < 2 ^ 63) (k : Nat) : wl (k + 1) n = ((n % 10 : Nat) : Int) :: wl k ((n / 10 : Nat) : Int) := by
 have h1 : ((n : Int)).tmod 10 = ((n % 10 : Nat) : Int) := by rw [Int.tmod_eq_emod_of_nonneg (by omega)]; omega
 have h2 : ((n : Int)).tdiv 10 = ((n / 10 : Nat) : Int) := by rw [Int.tdiv_eq_ediv_of_nonneg (by omega)]; omega
 rw [wl, h1, h2, W_nat (by omega)]
theorem wl_sum : ∀ (k n : Nat), n < 10 ^ k → n < 2 ^ 63 → sumL (wl k n) = dsN n ∧ ∀ x, x ∈ wl k (n : Int) → 0 ≤ x ∧ x ≤ 9
 | 0, n, h, _ => by
  have : n = 0 := by simpa using h
  subst this
  simp [wl, sumL, dsN_zero]
 | k + 1, n, h, h63 => by
  rw [Nat.pow_succ] at h
  obtain ⟨h1, h2⟩ := wl_sum k (n / 10) (by omega) (by omega)
  rw [wl_nat h63, sumL, h1, dsN_any n]
  refine ⟨by omega, fun x hx => ?_⟩
  rcases List.mem_cons.1 hx with rfl | hx
  ·omega
  ·exact h2 x hx
theorem absOf (n : Int) (h0 : -9223372036854775807 ≤ n) (h1 : n ≤ 9223372036854775807) : Vs.Fn Tryd.prog F.i_absOf [] [.v (.int .i64 n)] (.v (.int .i64 n.natAbs)) [] := by
 have hw : IntKind.i64.wrap (0 - n) = -n := by rw [wrap_in (by omega) (by omega)]; omega
 refine fn0 Cd.i_absOf_k fun X => ?_
 simp -dsimp only [go_sem]
 refine ret_eq ?_
 simp only [hw, AV.v.injEq, Value.int.injEq, true_and]
 split <;> omega
theorem formatInt1 (n : Int) (h0 : -9223372036854775807 ≤ n) (h1 : n ≤ 9223372036854775807) : Vs.Fn Tryd.prog F.strconv_FormatInt [] [.v (.int .i64 n), .v (.int .i64 10)] (.v (.string ⟨(Lib.itoa n).toArray⟩)) [] := by
 refine fn0 Cd.strconv_FormatInt_k fun X => ?_
 repeat' first|simp -dsimp only [go_sem]|apply Br.mk<;>intro h<;>try simp -dsimp only[h]|refine CallK.c (by first|exact formatInt n (by omega) h1) ?_|refine aC ?_|fail
 all_goals (simp_all)
theorem decimal (n : Int) (h0 : -9223372036854775807 ≤ n) (h1 : n ≤ 9223372036854775807) : Vs.Fn Tryd.prog F.i_Decimal [] [.v (.int .i64 n)] (.v (.string ⟨(Lib.itoa n).toArray⟩)) [] := by
 refine fn0 Cd.i_Decimal_k fun X => ?_
 repeat' first|simp -dsimp only [go_sem]|apply Br.mk<;>intro h<;>try simp -dsimp only[h]|refine CallK.c (by first|exact formatInt1 n h0 h1) ?_|refine aC ?_|fail
 all_goals (simp_all)
theorem digitsOf (n : Nat) (hn : n < 2 ^ 63) : Vs.Fn Tryd.prog F.i_digitsOf [] [.v (.int .i64 (n : Int))] (.v (.int .i64 (Lib.nDigits n : Nat))) [] := by
 refine fn0 Cd.i_digitsOf_k fun X => ?_
 repeat' first|simp -dsimp only [go_sem]|apply Br.mk<;>intro h<;>try simp -dsimp only[h]|refine CallK.c (by first|exact decimal _ (by omega) (by omega)) ?_|refine aC ?_|fail
 all_goals ((refine ret_eq ?_; simp [ByteArray.size, Lib.itoa_nonneg, Lib.decDigits_length]))
theorem nDigits_le {n : Nat} (hn : n < 2 ^ 63) : Lib.nDigits n ≤ 19 := by
 have h : ∀ (k m : Nat), m < 10 ^ (k + 1) → Lib.nDigits m ≤ k + 1 := by
  intro k
  induction k with
  | zero => intro m hm; rw [Lib.nDigits_small (by simpa using hm)]; omega
  | succ k ih =>
   intro m hm
   by_cases h : m < 10
   ·rw [Lib.nDigits_small h]; omega
   ·rw [Lib.nDigits_big h]
    have := ih (m / 10) (by rw [Nat.pow_succ] at hm; omega)
    omega
 exact h 18 n (by omega)
theorem digitList (n : Int) (h0 : -9223372036854775807 ≤ n) (h1 : n ≤ 9223372036854775807) : Vs.Fn Tryd.prog F.i_digitList [] [.v (.int .i64 n)] (.sl 1 (E cI (wl (Lib.nDigits n.natAbs) n.natAbs))) [] := by
 refine fn0 Cd.i_digitList_k fun X => ?_
 repeat' first|simp -dsimp only [go_sem]|apply Br.mk<;>intro h<;>try simp -dsimp only[h]|refine CallK.c (by first|exact absOf n h0 h1|exact digitsOf n.natAbs (by omega)|exact wheelsShow (Lib.nDigits n.natAbs) _ (by have := nDigits_le (n := n.natAbs) (by omega); omega)) ?_|refine aC ?_|fail
 all_goals (exact ⟨_, _, rfl, rfl⟩)
theorem digitSum (n : Int) (h0 : -9223372036854775807 ≤ n) (h1 : n ≤ 9223372036854775807) : Vs.Fn Tryd.prog F.i_digitSum [] [.v (.int .i64 n)] (.v (.int .i64 (dsN n.natAbs))) [] := by
 have hk := nDigits_le (n := n.natAbs) (by omega)
 obtain ⟨hsum, hdig⟩ := wl_sum (Lib.nDigits n.natAbs) n.natAbs (Lib.lt_pow_nDigits _) (by omega)
 have hlen := wl_length (Lib.nDigits n.natAbs) n.natAbs
 have hds := dsN_le n.natAbs
 refine fn0 Cd.i_digitSum_k fun X => ?_
 simp -dsimp only [go_sem]
 refine CallK.pure (digitList n h0 h1) ?_
 generalize wl (Lib.nDigits n.natAbs) n.natAbs = l at *
 simp -dsimp only [go_sem]
 refine LoopK.at dM (X := { zz : Nat × (Int) // zz.1 ≤ l.length ∧ 0 ≤ zz.2 ∧ zz.2 + sumL (l.drop zz.1) = sumL l }) (fun zz => [(3, .v (.int .i64 zz.1.2)), (9, .v (.int .i64 zz.1.1))]) (fun zz => []) (fun zz => l.length - zz.1.1) ⟨(0, 0), by omega, by simp⟩ ?_ ?_
 ·exact le0
 ·rintro ⟨⟨i, a⟩, hi, hg⟩
  dsimp only at hi hg
  simp -dsimp only [go_sem]
  refine Br.mk (fun hc => ?_) fun hc => ?_
  ·have hlt : i < l.length := Dq
   have hw := wrap_succ hlt (by omega)
   have hx := hdig _ (List.getElem_mem hlt)
   have hnn := sumL_dropN (fun x hx => (hdig x hx).1) (i + 1) (l := l)
   rw [sumL_drop hlt] at hg
   have hwa : IntKind.i64.wrap (a + l[i]) = a + l[i] := wrap_in (by omega) (by omega)
   simp -dsimp only [go_sem, cI_get hlt]
   refine ⟨⟨by omega, by omega⟩, ?_⟩
   simp -dsimp only [go_sem, hw, hwa]
   exact nx (i + 1, a + l[i]) (⟨by dsimp only; omega, by dsimp only; omega⟩)
  ·have hge : i = l.length := by
    have : ¬ i < l.length := Dq
    omega
   subst hge
   simp -dsimp only [go_sem]
   have : a = dsN n.natAbs := by
    have := hg.2
    rw [List.drop_length, sumL, hsum] at this
    omega
   simp [this]
end
section
variable [Vs.Tab 0 Vs.powP]
attribute [local irreducible] Vs.Fn
def bitN (i : Nat) : Int := ((4 * 2 ^ i : Nat) : Int)
theorem shl4 {i : Nat} (hi : i < 10) : IntKind.i64.wrap (4 * 2 ^ (min i IntKind.i64.bits)) = bitN i := by
 have : i = 0 ∨ i = 1 ∨ i = 2 ∨ i = 3 ∨ i = 4 ∨ i = 5 ∨ i = 6 ∨ i = 7 ∨ i = 8 ∨ i = 9 := by omega
 rcases this with rfl | rfl | rfl | rfl | rfl | rfl | rfl | rfl | rfl | rfl <;> decide
theorem u64I {i : Nat} (hi : i < 10) : IntKind.u64.wrap (i : Int) = (i : Int) := by
 have : i = 0 ∨ i = 1 ∨ i = 2 ∨ i = 3 ∨ i = 4 ∨ i = 5 ∨ i = 6 ∨ i = 7 ∨ i = 8 ∨ i = 9 := by omega
 rcases this with rfl | rfl | rfl | rfl | rfl | rfl | rfl | rfl | rfl | rfl <;> decide
theorem bitOf (i : Nat) (hi : i < 10) : Vs.Fn Tryd.prog F.i_bitOf [] [.v (.int .i64 (i : Int))] (.v (.int .i64 (bitN i))) [] := by
 have e1 : ((i : Int) == 12) = false := beq_eq_false_iff_ne.2 (by omega)
 have e2 : ((i : Int) == 11) = false := beq_eq_false_iff_ne.2 (by omega)
 have e3 : inB i 0 9 = true := by simp [inB]; omega
 have e4 := shl4 hi
 have e5 := u64I hi
 have e6 : (0 : Int) ≤ (i : Int) := by omega
 refine fn0 Cd.i_bitOf_k fun X => ?_
 repeat' first|simp -dsimp only [go_sem, e1, e2, e3, e4, e5, e6]|apply Br.mk<;>intro h<;>try simp -dsimp only[h]|refine CallK.c (by first|exact inside _ _ _) ?_|refine aC ?_|fail
 all_goals first | (simp_all; done) | (simp_all; exact shl4 hi)
theorem l02Bit (i : Nat) (hi : i < 10) : Vs.Fn Tryd.prog F.s_l02Bit [] [.v (.int .i64 (i : Int))] (.v (.int .i64 (bitN i))) [] := by
 have e1 : ((i : Int) == 12) = false := beq_eq_false_iff_ne.2 (by omega)
 have e2 : ((i : Int) == 11) = false := beq_eq_false_iff_ne.2 (by omega)
 have e3 : inB i 0 9 = true := by simp [inB]; omega
 have e4 := shl4 hi
 have e5 := u64I hi
 have e6 : (0 : Int) ≤ (i : Int) := by omega
 refine fn0 Cd.s_l02Bit_k fun X => ?_
 repeat' first|simp -dsimp only [go_sem, e1, e2, e3, e4, e5, e6]|apply Br.mk<;>intro h<;>try simp -dsimp only[h]|refine CallK.c (by first|exact l00In _ _ _) ?_|refine aC ?_|fail
 all_goals first | (simp_all; done) | (simp_all; exact shl4 hi)
theorem bitOf11  : Vs.Fn Tryd.prog F.i_bitOf [] [.v (.int .i64 11)] (.v (.int .i64 2)) [] := by
 refine fn0 Cd.i_bitOf_k fun X => ?_
 repeat' first|simp -dsimp only [go_sem]|apply Br.mk<;>intro h<;>try simp -dsimp only[h]|refine CallK.c (by first|exact inside _ _ _) ?_|refine aC ?_|fail
 all_goals (simp_all)
def dgF (m : Int) : Nat → Nat → Int
 | 0, _ => -1
 | k + 1, i => if bitN i = m then i else dgF m k (i + 1)
def dg (m : Int) : Int := dgF m 10 0
theorem dgF_step (m : Int) {i : Nat} (hi : i < 10) : dgF m (10 - i) i = if bitN i = m then (i : Int) else dgF m (10 - (i + 1)) (i + 1) := by
 rw [show 10 - i = (10 - (i + 1)) + 1 by omega, dgF]
theorem digitOf (m : Int) : Vs.Fn Tryd.prog F.i_digitOf [] [.v (.int .i64 m)] (.v (.int .i64 (dg m))) [] := by
 refine fn0 Cd.i_digitOf_k fun X => ?_
 simp -dsimp only [go_sem]
 refine LoopK.at dM (X := { zz : Nat × (Unit) // zz.1 ≤ 10 ∧ dgF m (10 - zz.1) zz.1 = dg m }) (fun zz => [(4, .v (.int .i64 zz.1.1))]) (fun zz => []) (fun zz => 10 - zz.1.1) ⟨(0, ()), by omega, rfl⟩ ?_ ?_
 ·exact le0
 ·rintro ⟨⟨i, a⟩, hi, hg⟩
  dsimp only at hi hg
  simp -dsimp only [go_sem]
  refine Br.mk (fun hc => ?_) fun hc => ?_
  ·have hlt : i < 10 := Dq
   have hw := wrap_succ hlt (by omega)
   rw [dgF_step m hlt] at hg
   by_cases he : bitN i = m
   ·have hb : (bitN i == m) = true := beq_iff_eq.2 (by simp [he])
    rw [if_pos he] at hg
    repeat' first|simp -dsimp only [go_sem, hw, hb]|apply Br.mk<;>intro h<;>try simp -dsimp only[h]|refine CallK.c (by first|exact bitOf i hlt) ?_|refine aC ?_|fail
    all_goals simp [hg]
   ·have hb : (bitN i == m) = false := beq_eq_false_iff_ne.2 (fun e => he (by simp [e]))
    rw [if_neg he] at hg
    repeat' first|simp -dsimp only [go_sem, hw, hb]|apply Br.mk<;>intro h<;>try simp -dsimp only[h]|refine CallK.c (by first|exact bitOf i hlt) ?_|refine aC ?_|fail
    all_goals (exact nx (i + 1, ()) hg)
  ·have hge : i = 10 := by
    have : ¬ i < 10 := Dq
    omega
   subst hge
   simp -dsimp only [go_sem]
   have : dg m = -1 := by rw [← hg]; rfl
   simp [this]
theorem l03Digit (m : Int) : Vs.Fn Tryd.prog F.s_l03Digit [] [.v (.int .i64 m)] (.v (.int .i64 (dg m))) [] := by
 refine fn0 Cd.s_l03Digit_k fun X => ?_
 simp -dsimp only [go_sem]
 refine LoopK.at dM (X := { zz : Nat × (Unit) // zz.1 ≤ 10 ∧ dgF m (10 - zz.1) zz.1 = dg m }) (fun zz => [(3, .v (.int .i64 zz.1.1))]) (fun zz => []) (fun zz => 10 - zz.1.1) ⟨(0, ()), by omega, rfl⟩ ?_ ?_
 ·exact le0
 ·rintro ⟨⟨i, a⟩, hi, hg⟩
  dsimp only at hi hg
  simp -dsimp only [go_sem]
  refine Br.mk (fun hc => ?_) fun hc => ?_
  ·have hlt : i < 10 := Dq
   have hw := wrap_succ hlt (by omega)
   rw [dgF_step m hlt] at hg
   by_cases he : bitN i = m
   ·have hb : (m == bitN i) = true := beq_iff_eq.2 (by simp [he])
    rw [if_pos he] at hg
    repeat' first|simp -dsimp only [go_sem, hw, hb]|apply Br.mk<;>intro h<;>try simp -dsimp only[h]|refine CallK.c (by first|exact l02Bit i hlt) ?_|refine aC ?_|fail
    all_goals simp [hg]
   ·have hb : (m == bitN i) = false := beq_eq_false_iff_ne.2 (fun e => he (by simp [e]))
    rw [if_neg he] at hg
    repeat' first|simp -dsimp only [go_sem, hw, hb]|apply Br.mk<;>intro h<;>try simp -dsimp only[h]|refine CallK.c (by first|exact l02Bit i hlt) ?_|refine aC ?_|fail
    all_goals (exact nx (i + 1, ()) hg)
  ·have hge : i = 10 := by
    have : ¬ i < 10 := Dq
    omega
   subst hge
   simp -dsimp only [go_sem]
   have : dg m = -1 := by rw [← hg]; rfl
   simp [this]
theorem copyIntsO (l : List Int) (hl : l.length ≤ 1048576) : Vs.Fn Tryd.prog F.i_copyInts [] [.sl 1 (E cI l)] (.loc (.b 0) 0 l.length) [some (.arr 1 (E cI l) false)] := by
 refine Cd.i_copyInts_k.o.fn Tryd.mixed (hin := []) 6 _ [.t 5 0] [.arr 1 (E cI l) false] Cd.i_copyInts_k.n Cd.i_copyInts_k.r rfl (by simp) rfl (by simp) fun X => ?_
 unfold Cd.i_copyInts
 simp -dsimp only [go_sem, List.replicate_succ, List.replicate_zero, List.flatten_cons, List.flatten_nil]
 exact ⟨by omega, ⟨by omega, by omega⟩, ⟨_, _, rfl, rfl⟩⟩
theorem E_slc {α : Type} {c : α → List AV} (l : List α) (a b : Nat) : E c ((l.take a).drop b) = ((E c l).take a).drop b := by simp [E, List.map_take, List.map_drop]
theorem part (c : List Int) (fr to : Int) (h0 : 0 ≤ fr) (h1 : fr ≤ to) (h2 : to ≤ c.length) : Vs.Fn Tryd.prog F.s_l02Part [] [.ro (cC c), .agg [.v (.int .i64 fr), .v (.int .i64 to)]] (.sl 1 (E cI ((c.take to.toNat).drop fr.toNat))) [] := by
 refine fn0 Cd.s_l02Part_k fun X => ?_
 repeat' first|simp -dsimp only [go_sem, cC]|apply Br.mk<;>intro h<;>try simp -dsimp only[h]|refine aC ?_|fail
 all_goals exact ret_eq (by rw [E_slc])
end
end Go.Proofs.YtimcedhcefcbbaaDoor
