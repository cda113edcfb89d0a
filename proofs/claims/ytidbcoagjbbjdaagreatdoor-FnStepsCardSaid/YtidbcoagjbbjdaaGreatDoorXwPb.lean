/- Cards that are drawn: a letter and two numbers. -/
import Derived.Test.YtidbcoagjbbjdaaGreatDoorVsI
import Derived.Test.YtidbcoagjbbjdaaGreatDoorXwA
import Derived.Test.YtidbcoagjbbjdaaGreatDoorVtR
import Derived.Test.YtidbcoagjbbjdaaGreatDoorTryzShelf
import Derived.Test.YtidbcoagjbbjdaaGreatDoorXuR
import Derived.Test.YtidbcoagjbbjdaaGreatDoorXuF
import Derived.Test.YtidbcoagjbbjdaaGreatDoorXwQb
set_option linter.all false
set_option maxHeartbeats 8000000
namespace Go.Proofs.YtidbcoagjbbjdaaGreatDoor
open Go.Vs
section
variable [Vs.Tab 0 Vs.powP]
attribute [local irreducible] Vs.Fn
theorem formatInt (n : Int) (h0 : -9223372036854775808 ≤ n) (h1 : n ≤ 9223372036854775807) : Fz F.internal_strconv_FormatInt [.v (.int .i64 n), .v (.int .i64 10)] (.v (.string ⟨(Lib.itoa n).toArray⟩)) := by
 refine Fn.of_ext ⟨Tryz.f113, _, Tryz.func113, rfl, by decide⟩ fun S w vs henv hsz hv => ?_
 have e0 : vs.getD 0 undef = .int .i64 n := inv_v (hv 0 (by simp))
 have e1 : vs.getD 1 undef = .int .i64 10 := inv_v (hv 1 (by simp))
 have hvs : vs = #[.int .i64 n, .int .i64 10] := by
  apply Array.ext (by simpa using hsz)
  intro i hi hi2
  simp at hi2 hsz
  have hi3 : i = 0 ∨ i = 1 := by omega
  rcases hi3 with rfl | rfl
  ·simpa [Array.getD, hsz] using e0
  ·simpa [Array.getD, hsz] using e1
 subst hvs
 refine (Any.internal_strconv_FormatInt_10 Tryz.laysM246 n h0 h1 w (by
   obtain ⟨_, T, fr, hcells⟩ := Vs.Tab.at (g := 0) (p := Vs.powP) henv
   unfold Lib.TabIs World.var?
   refine (congrArg (fun o => Option.bind o _) (by kernel_rfl : Tryz.prog.globalNamed _ = some 0)).trans ?_
   simp only [Option.bind_some]
   try dsimp only at hcells
   rw [hcells])).mono ?_
 rintro e w' ⟨rfl, k, os, rfl⟩
 exact ⟨_, rfl, .v _, ext_grow w k os⟩
end
section
variable [Vs.Tab 0 Vs.powP]
attribute [local irreducible] Vs.Fn
theorem formatInt1 (n : Int) (h0 : -9223372036854775807 ≤ n) (h1 : n ≤ 9223372036854775807) : Fz F.strconv_FormatInt [.v (.int .i64 n), .v (.int .i64 10)] (.v (.string ⟨(Lib.itoa n).toArray⟩)) := by
 refine fn0 Cd.strconv_FormatInt_k fun X => ?_
 repeat' first|simp -dsimp only [go_sem]|apply Br.mk<;>intro h<;>try simp -dsimp only[h]|refine CallK.c (by first|exact formatInt n (by omega) h1) ?_|refine aC ?_|fail
 all_goals (simp_all)
theorem decimal (n : Int) (h0 : -9223372036854775807 ≤ n) (h1 : n ≤ 9223372036854775807) : Fz F.i_Decimal [.v (.int .i64 n)] (.v (.string ⟨(Lib.itoa n).toArray⟩)) := by
 refine fn0 Cd.i_Decimal_k fun X => ?_
 repeat' first|simp -dsimp only [go_sem]|apply Br.mk<;>intro h<;>try simp -dsimp only[h]|refine CallK.c (by first|exact formatInt1 n h0 h1) ?_|refine aC ?_|fail
 all_goals (simp_all)
end
section
variable [Vs.Tab 0 Vs.powP]
attribute [local irreducible] Vs.Fn
def bitN (i : Nat) : Int := ((4 * 2 ^ i : Nat) : Int)
theorem shl4 {i : Nat} (hi : i < 10) : IntKind.i64.wrap (4 * 2 ^ (min i IntKind.i64.bits)) = bitN i := by
 have : i = 0 ∨ i = 1 ∨ i = 2 ∨ i = 3 ∨ i = 4 ∨ i = 5 ∨ i = 6 ∨ i = 7 ∨ i = 8 ∨ i = 9 := by omega
 rcases this with rfl | rfl | rfl | rfl | rfl | rfl | rfl | rfl | rfl | rfl <;> decide
theorem u64I {i : Nat} (hi : i < 10) : IntKind.u64.wrap (i : Int) = (i : Int) := by
 have : i = 0 ∨ i = 1 ∨ i = 2 ∨ i = 3 ∨ i = 4 ∨ i = 5 ∨ i = 6 ∨ i = 7 ∨ i = 8 ∨ i = 9 := by omega
 rcases this with rfl | rfl | rfl | rfl | rfl | rfl | rfl | rfl | rfl | rfl <;> decide
theorem bitOf (i : Nat) (hi : i < 10) : Fz F.i_bitOf [.v (.int .i64 (i : Int))] (.v (.int .i64 (bitN i))) := by
 have e1 : ((i : Int) == 12) = false := beq_eq_false_iff_ne.2 (by omega)
 have e2 : ((i : Int) == 11) = false := beq_eq_false_iff_ne.2 (by omega)
 have e3 : inB i 0 9 = true := by simp [inB]; omega
 have e4 := shl4 hi
 have e5 := u64I hi
 have e6 : (0 : Int) ≤ (i : Int) := by omega
 refine fn0 Cd.i_bitOf_k fun X => ?_
 repeat' first|simp -dsimp only [go_sem, e1, e2, e3, e4, e5, e6]|apply Br.mk<;>intro h<;>try simp -dsimp only[h]|refine CallK.c (by first|exact inside _ _ _) ?_|refine aC ?_|fail
 all_goals first | (simp_all; done) | (simp_all; exact shl4 hi)
theorem l02Bit (i : Nat) (hi : i < 10) : Fz F.s_l02Bit [.v (.int .i64 (i : Int))] (.v (.int .i64 (bitN i))) := by
 have e1 : ((i : Int) == 12) = false := beq_eq_false_iff_ne.2 (by omega)
 have e2 : ((i : Int) == 11) = false := beq_eq_false_iff_ne.2 (by omega)
 have e3 : inB i 0 9 = true := by simp [inB]; omega
 have e4 := shl4 hi
 have e5 := u64I hi
 have e6 : (0 : Int) ≤ (i : Int) := by omega
 refine fn0 Cd.s_l02Bit_k fun X => ?_
 repeat' first|simp -dsimp only [go_sem, e1, e2, e3, e4, e5, e6]|apply Br.mk<;>intro h<;>try simp -dsimp only[h]|refine CallK.c (by first|exact l00In _ _ _) ?_|refine aC ?_|fail
 all_goals first | (simp_all; done) | (simp_all; exact shl4 hi)
theorem bitOf11  : Fz F.i_bitOf [.v (.int .i64 11)] (.v (.int .i64 2)) := by
 refine fn0 Cd.i_bitOf_k fun X => ?_
 repeat' first|simp -dsimp only [go_sem]|apply Br.mk<;>intro h<;>try simp -dsimp only[h]|refine CallK.c (by first|exact inside _ _ _) ?_|refine aC ?_|fail
 all_goals (simp_all)
def dgF (m : Int) : Nat → Nat → Int
 | 0, _ => -1
 | k + 1, i => if bitN i = m then i else dgF m k (i + 1)
def dg (m : Int) : Int := dgF m 10 0
theorem dgF_step (m : Int) {i : Nat} (hi : i < 10) : dgF m (10 - i) i = if bitN i = m then (i : Int) else dgF m (10 - (i + 1)) (i + 1) := by
 rw [show 10 - i = (10 - (i + 1)) + 1 by omega, dgF]
theorem digitOf (m : Int) : Fz F.i_digitOf [.v (.int .i64 m)] (.v (.int .i64 (dg m))) := by
 refine fn0 Cd.i_digitOf_k fun X => ?_
 simp -dsimp only [go_sem]
 refine LoopK.at dM (X := { zz : Nat × (Unit) // zz.1 ≤ 10 ∧ dgF m (10 - zz.1) zz.1 = dg m }) (fun zz => [(4, .v (.int .i64 zz.1.1))]) (fun zz => []) (fun zz => 10 - zz.1.1) ⟨(0, ()), by omega, rfl⟩ ?_ ?_
 ·exact le0
 ·rintro ⟨⟨i, a⟩, hi, hg⟩
  dsimp only at hi hg
  simp -dsimp only [go_sem]
  refine Br.mk (fun hc => ?_) fun hc => ?_
  ·have hlt : i < 10 := Dq
   have hw := wrap_succ hlt (by omega)
   rw [dgF_step m hlt] at hg
   by_cases he : bitN i = m
   ·have hb : (bitN i == m) = true := beq_iff_eq.2 (by simp [he])
    rw [if_pos he] at hg
    repeat' first|simp -dsimp only [go_sem, hw, hb]|apply Br.mk<;>intro h<;>try simp -dsimp only[h]|refine CallK.c (by first|exact bitOf i hlt) ?_|refine aC ?_|fail
    all_goals simp [hg]
   ·have hb : (bitN i == m) = false := beq_eq_false_iff_ne.2 (fun e => he (by simp [e]))
    rw [if_neg he] at hg
    repeat' first|simp -dsimp only [go_sem, hw, hb]|apply Br.mk<;>intro h<;>try simp -dsimp only[h]|refine CallK.c (by first|exact bitOf i hlt) ?_|refine aC ?_|fail
    all_goals (exact nx (i + 1, ()) hg)
  ·have hge : i = 10 := by
    have : ¬ i < 10 := Dq
    omega
   subst hge
   simp -dsimp only [go_sem]
   have : dg m = -1 := by rw [← hg]; rfl
   simp [this]
theorem l03Digit (m : Int) : Fz F.s_l03Digit [.v (.int .i64 m)] (.v (.int .i64 (dg m))) := by
 refine fn0 Cd.s_l03Digit_k fun X => ?_
 simp -dsimp only [go_sem]
 refine LoopK.at dM (X := { zz : Nat × (Unit) // zz.1 ≤ 10 ∧ dgF m (10 - zz.1) zz.1 = dg m }) (fun zz => [(3, .v (.int .i64 zz.1.1))]) (fun zz => []) (fun zz => 10 - zz.1.1) ⟨(0, ()), by omega, rfl⟩ ?_ ?_
 ·exact le0
 ·rintro ⟨⟨i, a⟩, hi, hg⟩
  dsimp only at hi hg
  simp -dsimp only [go_sem]
  refine Br.mk (fun hc => ?_) fun hc => ?_
  ·have hlt : i < 10 := Dq
   have hw := wrap_succ hlt (by omega)
   rw [dgF_step m hlt] at hg
   by_cases he : bitN i = m
   ·have hb : (m == bitN i) = true := beq_iff_eq.2 (by simp [he])
    rw [if_pos he] at hg
    repeat' first|simp -dsimp only [go_sem, hw, hb]|apply Br.mk<;>intro h<;>try simp -dsimp only[h]|refine CallK.c (by first|exact l02Bit i hlt) ?_|refine aC ?_|fail
    all_goals simp [hg]
   ·have hb : (m == bitN i) = false := beq_eq_false_iff_ne.2 (fun e => he (by simp [e]))
    rw [if_neg he] at hg
    repeat' first|simp -dsimp only [go_sem, hw, hb]|apply Br.mk<;>intro h<;>try simp -dsimp only[h]|refine CallK.c (by first|exact l02Bit i hlt) ?_|refine aC ?_|fail
    all_goals (exact nx (i + 1, ()) hg)
  ·have hge : i = 10 := by
    have : ¬ i < 10 := Dq
    omega
   subst hge
   simp -dsimp only [go_sem]
   have : dg m = -1 := by rw [← hg]; rfl
   simp [this]
theorem copyIntsO (l : List Int) (hl : l.length ≤ 1048576) : Vs.Fn Tryz.prog F.i_copyInts [] [.sl 1 (E cI l)] (.loc (.b 0) 0 l.length) [some (.arr 1 (E cI l) false)] := by
 refine fn1 Cd.i_copyInts_k [.t 5 0] [.arr 1 (E cI l) false] fun X => ?_
 unfold Cd.i_copyInts
 simp -dsimp only [go_sem, List.replicate_succ, List.replicate_zero, List.flatten_cons, List.flatten_nil]
 exact ⟨by omega, ⟨by omega, by omega⟩, ⟨_, _, rfl, rfl⟩⟩
theorem E_slc {α : Type} {c : α → List AV} (l : List α) (a b : Nat) : E c ((l.take a).drop b) = ((E c l).take a).drop b := by simp [E, List.map_take, List.map_drop]
theorem part (c : List Int) (fr to : Int) (h0 : 0 ≤ fr) (h1 : fr ≤ to) (h2 : to ≤ c.length) : Fz F.s_l02Part [.ro (cC c), .agg [.v (.int .i64 fr), .v (.int .i64 to)]] (.sl 1 (E cI ((c.take to.toNat).drop fr.toNat))) := by
 refine fn0 Cd.s_l02Part_k fun X => ?_
 repeat' first|simp -dsimp only [go_sem, cC]|apply Br.mk<;>intro h<;>try simp -dsimp only[h]|refine aC ?_|fail
 all_goals exact ret_eq (by rw [E_slc])
end
section
variable [Vs.Tab 0 Vs.powP]
attribute [local irreducible] Vs.Fn
def pd : Nat → Nat → List Int
 | 0, _ => []
 | w + 1, k => pd w (k / 10) ++ [bitN (k % 10)]
theorem pd_len : ∀ w k, (pd w k).length = w
 | 0, _ => rfl
 | w + 1, k => by simp [pd, pd_len w]
def neg2 (l : List Int) : List Int := l.set (l.length - 1) (bitsOp .or .i64 (l.getD (l.length - 1) 0) 2)
def ptN (w : Nat) (n : Int) : List Int := if n < 0 then neg2 (pd w n.natAbs) else pd w n.natAbs
theorem pt_len (w : Nat) (n : Int) : (ptN w n).length = w := by unfold ptN neg2; split <;> simp [pd_len]
theorem repl_set (j : Nat) (done : List Int) (x : Int) : (E cI (List.replicate (j + 1) 0 ++ done)).set j [.v (.int .i64 x)] = E cI (List.replicate j 0 ++ x :: done) := by
 have e : (List.replicate (j + 1) (0 : Int) ++ done).set j x = List.replicate j 0 ++ x :: done := by
  rw [List.replicate_succ', List.append_assoc, List.set_append_right _ _ (by simp)]
  simp
 rw [← e]
 simp [E, cI, List.map_set]
theorem repl_row (w : Nat) : List.replicate w [AV.v (.int .i64 0)] = E cI (List.replicate w 0 ++ []) := by simp [E, cI]
theorem repl_get (j : Nat) (done : List Int) : (E cI (List.replicate (j + 1) 0 ++ done)).getD j [] = [.v (.int .i64 0)] := by
 rw [E_get (by simp; omega)]
 simp [List.getElem_append, cI]
theorem div_pow (n a : Nat) : n / 10 ^ a / 10 = n / 10 ^ (a + 1) := by rw [Nat.div_div_eq_div_mul, Nat.pow_succ]
theorem neg2_row {l : List Int} (h : l.length ≠ 0) : (E cI l).set (l.length - 1) [.v (.int .i64 (bitsOp .or .i64 (l.getD (l.length - 1) 0) 2))] = E cI (neg2 l) := by
 unfold neg2
 simp [E, cI, List.map_set]
theorem last_get {l : List Int} (h : l.length ≠ 0) : (E cI l).getD (l.length - 1) [] = [.v (.int .i64 (l.getD (l.length - 1) 0))] := by
 have hl : l.length - 1 < l.length := by omega
 rw [cI_get hl]
 simp [List.getD, hl]
theorem l03Put (n : Int) (w : Nat) (h0 : -1000000000000 ≤ n) (h1 : n ≤ 1000000000000) (hw0 : 0 < w) (hw20 : w ≤ 20) : Fz F.s_l03Put [.v (.int .i64 n), .v (.int .i64 w)] (.tup [.sl 1 (E cI (ptN w n)), .v (.bool (((n.natAbs / 10 ^ w : Nat) : Int) == 0))]) := by
 rcases Int.lt_or_le n 0 with hneg | hneg
 ·have hd0 : decide (n < 0) = true := decide_eq_true (by omega)
  have hpt : ptN w n = neg2 (pd w n.natAbs) := by unfold ptN; rw [if_pos (by omega)]
  have hn1 : IntKind.i64.wrap (0 - n) = (n.natAbs : Int) := by rw [wrap_in (by omega) (by omega)]; omega
  have hn2 : IntKind.i64.wrap (-n) = (n.natAbs : Int) := by rw [wrap_in (by omega) (by omega)]; omega
  have hwm : IntKind.i64.wrap ((w : Int) - 1) = (w : Int) - 1 := wrap_in (by omega) (by omega)
  refine fn0 Cd.s_l03Put_k fun X => ?_
  simp -dsimp only [go_sem, hd0, repl_row]
  repeat' first|simp -dsimp only [go_sem, hd0, repl_row, hwm, Int.toNat_natCast, hn1, hn2]|apply Br.mk<;>intro h<;>try simp -dsimp only[h]|refine aC ?_|fail
  refine LoopK.at dM (X := { zz : Nat × Nat × List Int // zz.1 ≤ w ∧ zz.2.2.length = w - zz.1 ∧ zz.2.1 = n.natAbs / 10 ^ (w - zz.1) ∧ pd zz.1 zz.2.1 ++ zz.2.2 = pd w n.natAbs }) (fun zz => [(7, .v (.int .i64 (zz.1.2.1 : Nat))), (8, .v (.int .i64 ((zz.1.1 : Int) - 1)))]) (fun zz => [(.t 10 0, .arr 1 (E cI (List.replicate zz.1.1 0 ++ zz.1.2.2)) false)]) (fun zz => zz.1.1) ⟨(w, n.natAbs, []), Nat.le_refl _, by simp, by simp, by simp⟩ ?_ ?_
  ·simp [Vs.LeL, Vs.look, Vs.hlook, Vs.sput, Vs.sputs, Vs.hset, Vs.hputs, E]
   first | done | omega
  ·rintro ⟨⟨j1, k, done⟩, hj, hd, hk, hg⟩
   dsimp only at hj hd hk hg
   simp -dsimp only [go_sem, hd0]
   refine Br.mk (fun hc => ?_) fun hc => ?_
   ·obtain ⟨j, rfl⟩ : ∃ j, j1 = j + 1 := ⟨j1 - 1, by simp at hc; omega⟩
    have e1 : (((j + 1 : Nat) : Int) - 1) = (j : Int) := by omega
    have hwj : IntKind.i64.wrap ((j : Int) - 1) = (j : Int) - 1 := wrap_in (by omega) (by omega)
    have hkb : k ≤ 1000000000000 := by rw [hk]; exact Nat.le_trans (Nat.div_le_self _ _) (by omega)
    have hkd : k / 10 = n.natAbs / 10 ^ (w - j) := by rw [hk, div_pow, show w - (j + 1) + 1 = w - j by omega]
    have q1 : ((k : Int)).tmod 10 = ((k % 10 : Nat) : Int) := by rw [Int.tmod_eq_emod_of_nonneg (by omega)]; omega
    have q2 : IntKind.i64.wrap (((k : Int)).tdiv 10) = ((k / 10 : Nat) : Int) := by rw [Int.tdiv_eq_ediv_of_nonneg (by omega), wrap_in (by omega) (by omega)]; omega
    have hgr := repl_get j done
    have hgs := repl_set j done (bitN (k % 10))
    rw [pd, List.append_assoc] at hg
    repeat' first|simp -dsimp only [go_sem, e1, hgr, hgs, hwj, q1, q2, E_len, List.length_append, List.length_replicate, Int.toNat_natCast]|apply Br.mk<;>intro h<;>try simp -dsimp only[h]|refine CallK.c (by first|exact l02Bit (k % 10) (by omega)) ?_|refine aC ?_|fail
    all_goals (exact ⟨⟨(j, k / 10, bitN (k % 10) :: done), by omega, by simp only [List.length_cons]; omega, hkd, hg⟩, by simp [Vs.LeL, Vs.look, Vs.hlook, Vs.sput, Vs.sputs, Vs.hset, Vs.hputs], by simp only; omega⟩)
   ·have hz : j1 = 0 := by simp at hc; omega
    subst hz
    rw [Nat.sub_zero] at hk
    have hdone : done = pd w n.natAbs := by simpa [pd] using hg
    subst hdone
    have hlen := pd_len w n.natAbs
    have hne : (pd w n.natAbs).length ≠ 0 := by omega
    have hnr := neg2_row hne
    have hlg := last_get hne
    rw [hlen] at hnr hlg
    have hw1 : IntKind.i64.wrap ((w : Int) - 1) = ((w - 1 : Nat) : Int) := by rw [wrap_in (by omega) (by omega)]; omega
    have htk : List.take w (E cI (neg2 (pd w n.natAbs))) = E cI (neg2 (pd w n.natAbs)) := List.take_of_length_le (by simp [E, neg2, pd_len])
    simp -dsimp only [go_sem, hd0, hnr, hlg, hw1, hlen, E_len, Int.toNat_natCast, List.replicate_zero, List.nil_append, List.length_set]
    exact ⟨⟨⟨by omega, by omega⟩, ⟨by omega, by omega⟩, [.t 10 0], [], by rw [htk, hpt, hk], rfl⟩, fun h => h rfl⟩
 ·have hd0 : decide (n < 0) = false := decide_eq_false (by omega)
  have hpt : ptN w n = pd w n.natAbs := by unfold ptN; rw [if_neg (by omega)]
  have hn1 : n = (n.natAbs : Int) := by omega
  have hwm : IntKind.i64.wrap ((w : Int) - 1) = (w : Int) - 1 := wrap_in (by omega) (by omega)
  refine fn0 Cd.s_l03Put_k fun X => ?_
  simp -dsimp only [go_sem, hd0, repl_row]
  repeat' first|simp -dsimp only [go_sem, hd0, repl_row, hwm, Int.toNat_natCast]|apply Br.mk<;>intro h<;>try simp -dsimp only[h]|refine aC ?_|fail
  refine LoopK.at dM (X := { zz : Nat × Nat × List Int // zz.1 ≤ w ∧ zz.2.2.length = w - zz.1 ∧ zz.2.1 = n.natAbs / 10 ^ (w - zz.1) ∧ pd zz.1 zz.2.1 ++ zz.2.2 = pd w n.natAbs }) (fun zz => [(7, .v (.int .i64 (zz.1.2.1 : Nat))), (8, .v (.int .i64 ((zz.1.1 : Int) - 1)))]) (fun zz => [(.t 10 0, .arr 1 (E cI (List.replicate zz.1.1 0 ++ zz.1.2.2)) false)]) (fun zz => zz.1.1) ⟨(w, n.natAbs, []), Nat.le_refl _, by simp, by simp, by simp⟩ ?_ ?_
  ·simp [Vs.LeL, Vs.look, Vs.hlook, Vs.sput, Vs.sputs, Vs.hset, Vs.hputs, E]
   first | done | omega
  ·rintro ⟨⟨j1, k, done⟩, hj, hd, hk, hg⟩
   dsimp only at hj hd hk hg
   simp -dsimp only [go_sem, hd0]
   refine Br.mk (fun hc => ?_) fun hc => ?_
   ·obtain ⟨j, rfl⟩ : ∃ j, j1 = j + 1 := ⟨j1 - 1, by simp at hc; omega⟩
    have e1 : (((j + 1 : Nat) : Int) - 1) = (j : Int) := by omega
    have hwj : IntKind.i64.wrap ((j : Int) - 1) = (j : Int) - 1 := wrap_in (by omega) (by omega)
    have hkb : k ≤ 1000000000000 := by rw [hk]; exact Nat.le_trans (Nat.div_le_self _ _) (by omega)
    have hkd : k / 10 = n.natAbs / 10 ^ (w - j) := by rw [hk, div_pow, show w - (j + 1) + 1 = w - j by omega]
    have q1 : ((k : Int)).tmod 10 = ((k % 10 : Nat) : Int) := by rw [Int.tmod_eq_emod_of_nonneg (by omega)]; omega
    have q2 : IntKind.i64.wrap (((k : Int)).tdiv 10) = ((k / 10 : Nat) : Int) := by rw [Int.tdiv_eq_ediv_of_nonneg (by omega), wrap_in (by omega) (by omega)]; omega
    have hgr := repl_get j done
    have hgs := repl_set j done (bitN (k % 10))
    rw [pd, List.append_assoc] at hg
    repeat' first|simp -dsimp only [go_sem, e1, hgr, hgs, hwj, q1, q2, E_len, List.length_append, List.length_replicate, Int.toNat_natCast]|apply Br.mk<;>intro h<;>try simp -dsimp only[h]|refine CallK.c (by first|exact l02Bit (k % 10) (by omega)) ?_|refine aC ?_|fail
    all_goals (exact ⟨⟨(j, k / 10, bitN (k % 10) :: done), by omega, by simp only [List.length_cons]; omega, hkd, hg⟩, by simp [Vs.LeL, Vs.look, Vs.hlook, Vs.sput, Vs.sputs, Vs.hset, Vs.hputs], by simp only; omega⟩)
   ·have hz : j1 = 0 := by simp at hc; omega
    subst hz
    rw [Nat.sub_zero] at hk
    have hdone : done = pd w n.natAbs := by simpa [pd] using hg
    subst hdone
    have hlen := pd_len w n.natAbs
    have hne : (pd w n.natAbs).length ≠ 0 := by omega
    have hnr := neg2_row hne
    have hlg := last_get hne
    rw [hlen] at hnr hlg
    have hw1 : IntKind.i64.wrap ((w : Int) - 1) = ((w - 1 : Nat) : Int) := by rw [wrap_in (by omega) (by omega)]; omega
    have htk : List.take w (E cI (pd w n.natAbs)) = E cI (pd w n.natAbs) := List.take_of_length_le (by simp [E, neg2, pd_len])
    simp -dsimp only [go_sem, hd0, hnr, hlg, hw1, hlen, E_len, Int.toNat_natCast, List.replicate_zero, List.nil_append, List.length_set]
    exact ⟨⟨[.t 10 0], [], by rw [htk, hpt, hk], rfl⟩, fun h => h rfl⟩
end
section
variable [Vs.Tab 0 Vs.powP]
attribute [local irreducible] Vs.Fn nxV nxS pkV pkS ptN
def colB (b : ByteArray) : List Int := b.data.toList.map fun x => l03 x.toNat
theorem colB_len (b : ByteArray) : (colB b).length = b.size := by
 show (b.data.toList.map _).length = b.data.size
 rw [List.length_map, Array.length_toList]
theorem colB_at {b : ByteArray} {i : Nat} (h : i < b.size) : l03 ((b.data.toList.getD i 0).toNat : Nat) = (colB b)[i]'(by rw [colB_len]; exact h) := by
 have h' : i < b.data.toList.length := by rw [Array.length_toList]; exact h
 unfold colB
 rw [List.getElem_map, List.getD_eq_getElem?_getD, List.getElem?_eq_getElem h']
 rfl
def gvC (i : Nat) : AV := if i = 0 then .v (.slice none 0 0) else .loc (.t 19 0) 0 i
def ghC (b : ByteArray) (i : Nat) : List (Vs.Name × Blk) := if i = 0 then [] else [(.t 19 0, .arr 1 (E cI ((colB b).take i)) false)]
attribute [local go_sem] Int.reduceBEq Int.reduceBNe cC E_len List.replicate_succ List.replicate_zero List.flatten_cons List.flatten_nil List.cons_append List.nil_append List.set_cons_zero List.set_cons_succ List.length_cons List.length_nil List.length_set List.mem_singleton List.mem_cons List.not_mem_nil or_false false_or Vs.Name.t.injEq List.getD_cons_zero List.getD_cons_succ in
theorem l03CardO (t : ByteArray) (h0 : 0 < t.size) (h1 : t.size ≤ 20) : Vs.Fn Tryz.prog F.s_l03Card [] [.v (.string t)] (.agg [.loc (.b 0) 0 t.size]) [some (.arr 1 (E cI (colB t)) false)] := by
 have hcl := colB_len t
 refine fn1 Cd.s_l03Card_k [.t 19 0] [.arr 1 (E cI (colB t)) false] fun X => ?_
 unfold Cd.s_l03Card
 repeat' first|simp -dsimp only [go_sem]|apply Br.mk<;>intro h<;>try simp -dsimp only[h]|refine aC ?_|fail
 refine LoopK.intro dM (X := { i : Nat // i ≤ t.size }) (fun i => ⟨[(0, .v (.string t)), (2, .ptr (.t 2 0) 0 0), (3, .ptr (.t 3 0) 0 0), (4, .v (.int .i64 (i.1 : Nat)))], (.t 3 0, .var [gvC i.1] false) :: (.t 2 0, .var [.v (.slice none 0 0)] false) :: ghC t i.1⟩) (fun i => t.size - i.1) ⟨0, by omega⟩ ?_ ?_
 ·simp [Vs.LeL, Vs.look, Vs.hlook, Vs.sput, Vs.sputs, Vs.hset, Vs.hputs, gvC, ghC]
 ·rintro ⟨i, hi⟩
  try dsimp only at hi
  rcases i with _ | j
  ·simp only [gvC, ghC, if_true]
   try simp -dsimp only [go_sem]
   refine Br.mk (fun hc => ?_) fun hc => ?_
   ·have hlt : 0 < t.size := h0
    have hw : IntKind.i64.wrap (((0 : Nat) : Int) + 1) = ((1 : Nat) : Int) := rfl
    have LC := l03Code ((t.data.toList.getD 0 0).toNat : Nat)
    rw [colB_at hlt] at LC
    have hap : [[AV.v (.int .i64 ((colB t)[0]'(by omega)))]] = E cI ((colB t).take 1) := by rw [take_succ (show 0 < (colB t).length by omega)]; rfl
    generalize (colB t)[0]'(by omega) = cc at *
    repeat' first|simp -dsimp only [go_sem, hw, hap]|apply Br.mk<;>intro h<;>try simp -dsimp only[h]|refine CallK.c (by first|exact LC) ?_|refine aC ?_|fail
    all_goals first | omega | (refine ⟨⟨1, by omega⟩, ?_, by simp only; omega⟩; simp [Vs.LeL, Vs.look, Vs.hlook, Vs.sput, Vs.sputs, Vs.hset, Vs.hputs, gvC, ghC, hap]; done)
   ·have : ¬ 0 < t.size := Dq
    omega
  ·have e0 : ¬ j + 1 = 0 := by omega
   simp only [gvC, ghC, if_neg e0]
   have hal : (E cI ((colB t).take (j + 1))).length = j + 1 := by rw [E_len]; simp; omega
   have htk : (E cI ((colB t).take (j + 1))).take (j + 1) = E cI ((colB t).take (j + 1)) := List.take_of_length_le (by omega)
   try simp -dsimp only [go_sem, hal, htk]
   refine Br.mk (fun hc => ?_) fun hc => ?_
   ·have hlt : j + 1 < t.size := Dq
    have hw := wrap_succ hlt (by omega)
    have LC := l03Code ((t.data.toList.getD (j + 1) 0).toNat : Nat)
    rw [colB_at hlt] at LC
    have hap : E cI ((colB t).take (j + 1)) ++ [[AV.v (.int .i64 ((colB t)[j + 1]'(by omega)))]] = E cI ((colB t).take (j + 1 + 1)) := by rw [take_succ (show j + 1 < (colB t).length by omega), E_append]; rfl
    generalize (colB t)[j + 1]'(by omega) = cc at *
    repeat' first|simp -dsimp only [go_sem, hw, hap, hal, htk]|apply Br.mk<;>intro h<;>try simp -dsimp only[h]|refine CallK.c (by first|exact LC) ?_|refine aC ?_|fail
    all_goals first | omega | (refine ⟨⟨j + 1 + 1, by omega⟩, ?_, by simp only; omega⟩; simp [Vs.LeL, Vs.look, Vs.hlook, Vs.sput, Vs.sputs, Vs.hset, Vs.hputs, gvC, ghC, hap]; done)
   ·have hge : j + 1 = t.size := by
     have : ¬ j + 1 < t.size := Dq
     omega
    have hall : (colB t).take (j + 1) = colB t := List.take_of_length_le (by omega)
    rw [hall]
    rw [hall] at htk
    try simp -dsimp only [go_sem, hal, htk]
    all_goals first | omega | exact ⟨_, _, rfl, rfl⟩ | (refine ⟨?_, fun h => h rfl⟩; rw [← hge]; exact ⟨_, _, rfl, rfl⟩)
def crd (c : List Int) : Prop := ∃ a n m : Int, (a = l03 65 ∨ a = l03 66 ∨ a = l03 49) ∧ (0 ≤ n ∧ n < 100) ∧ (-30 ≤ m ∧ m < 100) ∧ c = a :: (ptN 2 n ++ ptN 2 m)
def rowK (a z p0 p1 q0 q1 : Int) : Nat → List Int
 | 0 => [a, z, z, z, z]
 | 1 => [a, p0, z, q0, z]
 | _ => [a, p0, p1, q0, q1]
theorem two_of {u : List Int} (h : u.length = 2) : ∃ a b, u = [a, b] := by
 match u, h with
 | [a, b], _ => exact ⟨a, b, rfl⟩
theorem l03CardK (a : UInt8) : Vs.Fn Tryz.prog F.s_l03Card [] [.v (.string ⟨#[a, 48, 48, 48, 48]⟩)] (.agg [.loc (.b 0) 0 5]) [some (.arr 1 (E cI [l03 a.toNat, l03 48, l03 48, l03 48, l03 48]) false)] :=
 l03CardO ⟨#[a, 48, 48, 48, 48]⟩ (Nat.le_of_ble_eq_true rfl) (Nat.le_of_ble_eq_true rfl)
attribute [local go_sem] Int.reduceBEq Int.reduceBNe E_len List.replicate_succ List.replicate_zero List.flatten_cons List.flatten_nil List.cons_append List.nil_append List.set_cons_zero List.set_cons_succ List.length_cons List.length_nil List.length_set List.mem_singleton List.mem_cons List.not_mem_nil or_false false_or Vs.Name.t.injEq List.getD_cons_zero List.getD_cons_succ nestN cellN topN List.append_nil List.flatMap_cons List.flatMap_nil in
theorem l13Card (l : List Int) (x : Sr) (hl : byt l) (hp : x.p ≤ 3900) : ∃ c z, crd c ∧ z.p ≤ x.p + 6 ∧ Vs.Fn Tryz.prog F.s_l13Card [sB l x] [.ptr (.b 0) 0 0] (.agg (cC c)) [some (sB l z)] := by
 have P1 := pick l x hl 3 (by omega)
 have q1 := pkS_p l x 3
 have h1 := pkV_in hl x (n := 3) (by omega)
 have P2 := pick l (pkS l x 3) hl 100 (by omega)
 have q2 := pkS_p l (pkS l x 3) 100
 have h2 := pkV_in hl (pkS l x 3) (n := 100) (by omega)
 have P3 := pick l (pkS l (pkS l x 3) 100) hl 130 (by omega)
 have q3 := pkS_p l (pkS l (pkS l x 3) 100) 130
 have h3 := pkV_in hl (pkS l (pkS l x 3) 100) (n := 130) (by omega)
 generalize pkV l (pkS l (pkS l x 3) 100) 130 = v3 at *
 generalize pkS l (pkS l (pkS l x 3) 100) 130 = z at *
 generalize pkV l (pkS l x 3) 100 = v2 at *
 generalize pkS l (pkS l x 3) 100 = y2 at *
 generalize pkV l x 3 = v1 at *
 generalize pkS l x 3 = y1 at *
 have wm : IntKind.i64.wrap (v3 - 30) = v3 - 30 := wrap_in (by omega) (by omega)
 have h3' : -30 ≤ v3 - 30 ∧ v3 - 30 < 100 := by omega
 have PA := l03Put v2 2 (by omega) (by omega) (by omega) (by omega)
 have PB := l03Put (v3 - 30) 2 (by omega) (by omega) (by omega) (by omega)
 obtain ⟨p0, p1, hp01⟩ := two_of (pt_len 2 v2)
 obtain ⟨q0, q9, hq01⟩ := two_of (pt_len 2 (v3 - 30))
 rw [hp01] at PA
 rw [hq01] at PB
 have w0 : IntKind.i64.wrap (1 + ((0 : Nat) : Int)) = 1 := rfl
 have w1 : IntKind.i64.wrap (1 + ((1 : Nat) : Int)) = 2 := rfl
 have w2 : IntKind.i64.wrap (3 + ((0 : Nat) : Int)) = 3 := rfl
 have w3 : IntKind.i64.wrap (3 + ((1 : Nat) : Int)) = 4 := rfl
 have hv : v1 = 0 ∨ v1 = 1 ∨ v1 = 2 := by omega
 rcases hv with rfl | rfl | rfl
 ·have e1 : (⟨#[65, 66, 49]⟩ : ByteArray).extract 0 3 = ⟨#[65, 66, 49]⟩ := by decide
  have e2 : (⟨#[65, 66, 49]⟩ : ByteArray).extract 0 1 = ⟨#[65]⟩ := by decide
  have e3 : (⟨#[65]⟩ ++ ⟨#[48, 48, 48, 48]⟩ : ByteArray) = ⟨#[65, 48, 48, 48, 48]⟩ := by decide
  have es : (⟨#[65, 66, 49]⟩ : ByteArray).size = 3 := rfl
  have LC := l03CardK 65
  rw [show ((65 : UInt8).toNat : Int) = 65 from rfl] at LC
  refine ⟨l03 65 :: ([p0, p1] ++ [q0, q9]), z, ⟨l03 65, v2, v3 - 30, .inl rfl, h2, h3', by rw [hp01, hq01]⟩, by omega, ?_⟩
  generalize hz : l03 48 = z0 at *
  generalize ha : l03 65 = a0 at *
  refine fn1 Cd.s_l13Card_k [.b 0] [sB l z] fun X => ?_
  unfold Cd.s_l13Card
  repeat' first|simp -dsimp only [go_sem, cC, sB, es, e1, e2, e3, w0, w1, w2, w3, wm]|apply Br.mk<;>intro h<;>try simp -dsimp only[h]|refine CallK.bor (by first|exact P1|exact P2|exact P3) rfl ?_|refine CallK.own (by first|exact LC) rfl ?_|refine CallK.c (by first|exact PA|exact PB) ?_|refine aC ?_|fail
  refine LoopK.at dM (X := { k : Nat // k ≤ 2 }) (fun k => [(8, .v (.int .i64 (k.1 : Nat)))]) (fun k => [(.t 14 0, .arr 1 (E cI (rowK a0 z0 p0 p1 q0 q9 k.1)) false)]) (fun k => 2 - k.1) ⟨0, by omega⟩ ?_ ?_
  ·simp [Vs.LeL, Vs.look, Vs.hlook, Vs.sput, Vs.sputs, Vs.hset, Vs.hputs, rowK, Vs.E, cI, sB]
  ·rintro ⟨k, hk⟩
   try dsimp only at hk
   have hk3 : k = 0 ∨ k = 1 ∨ k = 2 := by omega
   rcases hk3 with rfl | rfl | rfl
   ·have hw : IntKind.i64.wrap (((0 : Nat) : Int) + 1) = ((1 : Nat) : Int) := rfl
    simp -dsimp only [go_sem, cC, sB, es, e1, e2, e3, w0, w1, w2, w3, wm, rowK, Vs.E, cI, List.map_cons, List.map_nil, hw]
    refine Br.mk (fun hc => ?_) fun hc => ?_
    ·try simp -dsimp only [go_sem, cC, sB, es, e1, e2, e3, w0, w1, w2, w3, wm, rowK, Vs.E, cI, List.map_cons, List.map_nil, hw]
     repeat' first|simp -dsimp only [go_sem, cC, sB, es, e1, e2, e3, w0, w1, w2, w3, wm, rowK, Vs.E, cI, List.map_cons, List.map_nil, hw]|apply Br.mk<;>intro h<;>try simp -dsimp only[h]|refine aC ?_|fail
     all_goals first | omega | (refine ⟨⟨1, by omega⟩, ?_, by simp only; omega⟩; simp [Vs.LeL, Vs.look, Vs.hlook, Vs.sput, Vs.sputs, Vs.hset, Vs.hputs, rowK, Vs.E, cI, sB]; done)
    ·exact absurd hc (by decide)
   ·have hw : IntKind.i64.wrap (((1 : Nat) : Int) + 1) = ((2 : Nat) : Int) := rfl
    simp -dsimp only [go_sem, cC, sB, es, e1, e2, e3, w0, w1, w2, w3, wm, rowK, Vs.E, cI, List.map_cons, List.map_nil, hw]
    refine Br.mk (fun hc => ?_) fun hc => ?_
    ·try simp -dsimp only [go_sem, cC, sB, es, e1, e2, e3, w0, w1, w2, w3, wm, rowK, Vs.E, cI, List.map_cons, List.map_nil, hw]
     repeat' first|simp -dsimp only [go_sem, cC, sB, es, e1, e2, e3, w0, w1, w2, w3, wm, rowK, Vs.E, cI, List.map_cons, List.map_nil, hw]|apply Br.mk<;>intro h<;>try simp -dsimp only[h]|refine aC ?_|fail
     all_goals first | omega | (refine ⟨⟨2, by omega⟩, ?_, by simp only; omega⟩; simp [Vs.LeL, Vs.look, Vs.hlook, Vs.sput, Vs.sputs, Vs.hset, Vs.hputs, rowK, Vs.E, cI, sB]; done)
    ·exact absurd hc (by decide)
   ·simp -dsimp only [go_sem, cC, sB, es, e1, e2, e3, w0, w1, w2, w3, wm, rowK]
    refine Br.mk (fun hc => absurd hc (by decide)) fun hc => ?_
    try simp -dsimp only [go_sem, cC, sB, es, e1, e2, e3, w0, w1, w2, w3, wm, rowK]
    all_goals first | exact ⟨⟨_, _, rfl, rfl⟩, fun h => h rfl⟩ | exact ⟨_, _, rfl, rfl⟩ | (refine ⟨?_, fun h => h rfl⟩; exact ⟨_, _, rfl, rfl⟩)
 ·have e1 : (⟨#[65, 66, 49]⟩ : ByteArray).extract 1 3 = ⟨#[66, 49]⟩ := by decide
  have e2 : (⟨#[66, 49]⟩ : ByteArray).extract 0 1 = ⟨#[66]⟩ := by decide
  have e3 : (⟨#[66]⟩ ++ ⟨#[48, 48, 48, 48]⟩ : ByteArray) = ⟨#[66, 48, 48, 48, 48]⟩ := by decide
  have es : (⟨#[66, 49]⟩ : ByteArray).size = 2 := rfl
  have LC := l03CardK 66
  rw [show ((66 : UInt8).toNat : Int) = 66 from rfl] at LC
  refine ⟨l03 66 :: ([p0, p1] ++ [q0, q9]), z, ⟨l03 66, v2, v3 - 30, .inr (.inl rfl), h2, h3', by rw [hp01, hq01]⟩, by omega, ?_⟩
  generalize hz : l03 48 = z0 at *
  generalize ha : l03 66 = a0 at *
  refine fn1 Cd.s_l13Card_k [.b 0] [sB l z] fun X => ?_
  unfold Cd.s_l13Card
  repeat' first|simp -dsimp only [go_sem, cC, sB, es, e1, e2, e3, w0, w1, w2, w3, wm]|apply Br.mk<;>intro h<;>try simp -dsimp only[h]|refine CallK.bor (by first|exact P1|exact P2|exact P3) rfl ?_|refine CallK.own (by first|exact LC) rfl ?_|refine CallK.c (by first|exact PA|exact PB) ?_|refine aC ?_|fail
  refine LoopK.at dM (X := { k : Nat // k ≤ 2 }) (fun k => [(8, .v (.int .i64 (k.1 : Nat)))]) (fun k => [(.t 14 0, .arr 1 (E cI (rowK a0 z0 p0 p1 q0 q9 k.1)) false)]) (fun k => 2 - k.1) ⟨0, by omega⟩ ?_ ?_
  ·simp [Vs.LeL, Vs.look, Vs.hlook, Vs.sput, Vs.sputs, Vs.hset, Vs.hputs, rowK, Vs.E, cI, sB]
  ·rintro ⟨k, hk⟩
   try dsimp only at hk
   have hk3 : k = 0 ∨ k = 1 ∨ k = 2 := by omega
   rcases hk3 with rfl | rfl | rfl
   ·have hw : IntKind.i64.wrap (((0 : Nat) : Int) + 1) = ((1 : Nat) : Int) := rfl
    simp -dsimp only [go_sem, cC, sB, es, e1, e2, e3, w0, w1, w2, w3, wm, rowK, Vs.E, cI, List.map_cons, List.map_nil, hw]
    refine Br.mk (fun hc => ?_) fun hc => ?_
    ·try simp -dsimp only [go_sem, cC, sB, es, e1, e2, e3, w0, w1, w2, w3, wm, rowK, Vs.E, cI, List.map_cons, List.map_nil, hw]
     repeat' first|simp -dsimp only [go_sem, cC, sB, es, e1, e2, e3, w0, w1, w2, w3, wm, rowK, Vs.E, cI, List.map_cons, List.map_nil, hw]|apply Br.mk<;>intro h<;>try simp -dsimp only[h]|refine aC ?_|fail
     all_goals first | omega | (refine ⟨⟨1, by omega⟩, ?_, by simp only; omega⟩; simp [Vs.LeL, Vs.look, Vs.hlook, Vs.sput, Vs.sputs, Vs.hset, Vs.hputs, rowK, Vs.E, cI, sB]; done)
    ·exact absurd hc (by decide)
   ·have hw : IntKind.i64.wrap (((1 : Nat) : Int) + 1) = ((2 : Nat) : Int) := rfl
    simp -dsimp only [go_sem, cC, sB, es, e1, e2, e3, w0, w1, w2, w3, wm, rowK, Vs.E, cI, List.map_cons, List.map_nil, hw]
    refine Br.mk (fun hc => ?_) fun hc => ?_
    ·try simp -dsimp only [go_sem, cC, sB, es, e1, e2, e3, w0, w1, w2, w3, wm, rowK, Vs.E, cI, List.map_cons, List.map_nil, hw]
     repeat' first|simp -dsimp only [go_sem, cC, sB, es, e1, e2, e3, w0, w1, w2, w3, wm, rowK, Vs.E, cI, List.map_cons, List.map_nil, hw]|apply Br.mk<;>intro h<;>try simp -dsimp only[h]|refine aC ?_|fail
     all_goals first | omega | (refine ⟨⟨2, by omega⟩, ?_, by simp only; omega⟩; simp [Vs.LeL, Vs.look, Vs.hlook, Vs.sput, Vs.sputs, Vs.hset, Vs.hputs, rowK, Vs.E, cI, sB]; done)
    ·exact absurd hc (by decide)
   ·simp -dsimp only [go_sem, cC, sB, es, e1, e2, e3, w0, w1, w2, w3, wm, rowK]
    refine Br.mk (fun hc => absurd hc (by decide)) fun hc => ?_
    try simp -dsimp only [go_sem, cC, sB, es, e1, e2, e3, w0, w1, w2, w3, wm, rowK]
    all_goals first | exact ⟨⟨_, _, rfl, rfl⟩, fun h => h rfl⟩ | exact ⟨_, _, rfl, rfl⟩ | (refine ⟨?_, fun h => h rfl⟩; exact ⟨_, _, rfl, rfl⟩)
 ·have e1 : (⟨#[65, 66, 49]⟩ : ByteArray).extract 2 3 = ⟨#[49]⟩ := by decide
  have e2 : (⟨#[49]⟩ : ByteArray).extract 0 1 = ⟨#[49]⟩ := by decide
  have e3 : (⟨#[49]⟩ ++ ⟨#[48, 48, 48, 48]⟩ : ByteArray) = ⟨#[49, 48, 48, 48, 48]⟩ := by decide
  have es : (⟨#[49]⟩ : ByteArray).size = 1 := rfl
  have LC := l03CardK 49
  rw [show ((49 : UInt8).toNat : Int) = 49 from rfl] at LC
  refine ⟨l03 49 :: ([p0, p1] ++ [q0, q9]), z, ⟨l03 49, v2, v3 - 30, .inr (.inr rfl), h2, h3', by rw [hp01, hq01]⟩, by omega, ?_⟩
  generalize hz : l03 48 = z0 at *
  generalize ha : l03 49 = a0 at *
  refine fn1 Cd.s_l13Card_k [.b 0] [sB l z] fun X => ?_
  unfold Cd.s_l13Card
  repeat' first|simp -dsimp only [go_sem, cC, sB, es, e1, e2, e3, w0, w1, w2, w3, wm]|apply Br.mk<;>intro h<;>try simp -dsimp only[h]|refine CallK.bor (by first|exact P1|exact P2|exact P3) rfl ?_|refine CallK.own (by first|exact LC) rfl ?_|refine CallK.c (by first|exact PA|exact PB) ?_|refine aC ?_|fail
  refine LoopK.at dM (X := { k : Nat // k ≤ 2 }) (fun k => [(8, .v (.int .i64 (k.1 : Nat)))]) (fun k => [(.t 14 0, .arr 1 (E cI (rowK a0 z0 p0 p1 q0 q9 k.1)) false)]) (fun k => 2 - k.1) ⟨0, by omega⟩ ?_ ?_
  ·simp [Vs.LeL, Vs.look, Vs.hlook, Vs.sput, Vs.sputs, Vs.hset, Vs.hputs, rowK, Vs.E, cI, sB]
  ·rintro ⟨k, hk⟩
   try dsimp only at hk
   have hk3 : k = 0 ∨ k = 1 ∨ k = 2 := by omega
   rcases hk3 with rfl | rfl | rfl
   ·have hw : IntKind.i64.wrap (((0 : Nat) : Int) + 1) = ((1 : Nat) : Int) := rfl
    simp -dsimp only [go_sem, cC, sB, es, e1, e2, e3, w0, w1, w2, w3, wm, rowK, Vs.E, cI, List.map_cons, List.map_nil, hw]
    refine Br.mk (fun hc => ?_) fun hc => ?_
    ·try simp -dsimp only [go_sem, cC, sB, es, e1, e2, e3, w0, w1, w2, w3, wm, rowK, Vs.E, cI, List.map_cons, List.map_nil, hw]
     repeat' first|simp -dsimp only [go_sem, cC, sB, es, e1, e2, e3, w0, w1, w2, w3, wm, rowK, Vs.E, cI, List.map_cons, List.map_nil, hw]|apply Br.mk<;>intro h<;>try simp -dsimp only[h]|refine aC ?_|fail
     all_goals first | omega | (refine ⟨⟨1, by omega⟩, ?_, by simp only; omega⟩; simp [Vs.LeL, Vs.look, Vs.hlook, Vs.sput, Vs.sputs, Vs.hset, Vs.hputs, rowK, Vs.E, cI, sB]; done)
    ·exact absurd hc (by decide)
   ·have hw : IntKind.i64.wrap (((1 : Nat) : Int) + 1) = ((2 : Nat) : Int) := rfl
    simp -dsimp only [go_sem, cC, sB, es, e1, e2, e3, w0, w1, w2, w3, wm, rowK, Vs.E, cI, List.map_cons, List.map_nil, hw]
    refine Br.mk (fun hc => ?_) fun hc => ?_
    ·try simp -dsimp only [go_sem, cC, sB, es, e1, e2, e3, w0, w1, w2, w3, wm, rowK, Vs.E, cI, List.map_cons, List.map_nil, hw]
     repeat' first|simp -dsimp only [go_sem, cC, sB, es, e1, e2, e3, w0, w1, w2, w3, wm, rowK, Vs.E, cI, List.map_cons, List.map_nil, hw]|apply Br.mk<;>intro h<;>try simp -dsimp only[h]|refine aC ?_|fail
     all_goals first | omega | (refine ⟨⟨2, by omega⟩, ?_, by simp only; omega⟩; simp [Vs.LeL, Vs.look, Vs.hlook, Vs.sput, Vs.sputs, Vs.hset, Vs.hputs, rowK, Vs.E, cI, sB]; done)
    ·exact absurd hc (by decide)
   ·simp -dsimp only [go_sem, cC, sB, es, e1, e2, e3, w0, w1, w2, w3, wm, rowK]
    refine Br.mk (fun hc => absurd hc (by decide)) fun hc => ?_
    try simp -dsimp only [go_sem, cC, sB, es, e1, e2, e3, w0, w1, w2, w3, wm, rowK]
    all_goals first | exact ⟨⟨_, _, rfl, rfl⟩, fun h => h rfl⟩ | exact ⟨_, _, rfl, rfl⟩ | (refine ⟨?_, fun h => h rfl⟩; exact ⟨_, _, rfl, rfl⟩)
end
end Go.Proofs.YtidbcoagjbbjdaaGreatDoor
