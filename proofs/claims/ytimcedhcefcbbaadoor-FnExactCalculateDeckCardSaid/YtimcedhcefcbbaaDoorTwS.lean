/- Calculations: factors, numbers, components, products. -/
import Derived.Test.YtimcedhcefcbbaaDoorVsD
import Derived.Test.YtimcedhcefcbbaaDoorTwK
import Derived.Test.YtimcedhcefcbbaaDoorTuF
import Derived.Test.YtimcedhcefcbbaaDoorVtO
set_option linter.all false
set_option maxHeartbeats 8000000
namespace Go.Proofs.YtimcedhcefcbbaaDoor
open Go.Vs
section
variable [Vs.Tab 0 Vs.powP]
attribute [local irreducible] Vs.Fn
def cFd (fr to : Int) : List AV := [.v (.int .i64 fr), .v (.int .i64 to)]
def widB (l : List (List Int)) : Int := if l.length = 0 then 20 else ((l.getD 0 []).length : Int)
theorem l07Width (l : List (List Int)) : Vs.Fn Tryd.prog F.s_l07Width [] [.sl 1 (E cC l)] (.v (.int .i64 (widB l))) [] := by
 refine fn0 Cd.s_l07Width_k fun X => ?_
 simp -dsimp only [go_sem, cC]
 by_cases h0 : l.length = 0
 ·have e1 : ((l.length : Int) == 0) = true := beq_iff_eq.2 (by omega)
  repeat' first|simp -dsimp only [go_sem, e1, cC]|apply Br.mk<;>intro h<;>try simp -dsimp only[h]|refine aC ?_|fail
  all_goals simp [widB, h0]
 ·have e1 : ((l.length : Int) == 0) = false := beq_eq_false_iff_ne.2 (by omega)
  have h1 : 0 < l.length := by omega
  have g0 : (E cC l).getD 0 [] = [.sl 1 (E cI l[0])] := E_get h1
  have g1 : l.getD 0 [] = l[0] := by simp [List.getD, h1]
  repeat' first|simp -dsimp only [go_sem, e1, g0, cC]|apply Br.mk<;>intro h<;>try simp -dsimp only[h]|refine aC ?_|fail
  all_goals simp_all [widB]
theorem deckColumns (l : List (List Int)) : Vs.Fn Tryd.prog F.i_deckColumns [] [.sl 1 (E cC l)] (.v (.int .i64 (widB l))) [] := by
 refine fn0 Cd.i_deckColumns_k fun X => ?_
 simp -dsimp only [go_sem, cC]
 by_cases h0 : l.length = 0
 ·have e1 : ((l.length : Int) == 0) = true := beq_iff_eq.2 (by omega)
  repeat' first|simp -dsimp only [go_sem, e1, cC]|apply Br.mk<;>intro h<;>try simp -dsimp only[h]|refine CallK.c (by first|exact columns l[0]) ?_|refine aC ?_|fail
  all_goals simp [widB, h0]
 ·have e1 : ((l.length : Int) == 0) = false := beq_eq_false_iff_ne.2 (by omega)
  have h1 : 0 < l.length := by omega
  have g0 : (E cC l).getD 0 [] = [.sl 1 (E cI l[0])] := E_get h1
  have g1 : l.getD 0 [] = l[0] := by simp [List.getD, h1]
  repeat' first|simp -dsimp only [go_sem, e1, g0, cC]|apply Br.mk<;>intro h<;>try simp -dsimp only[h]|refine CallK.c (by first|exact columns l[0]) ?_|refine aC ?_|fail
  all_goals simp_all [widB]
def numC (fr to : Int) (c : List Int) : Int × Bool := numF ((c.take to.toNat).drop fr.toNat).dropLast (((c.take to.toNat).drop fr.toNat).getLastD 0)
def okP (fr to : Int) (c : List Int) : Prop := 0 ≤ fr ∧ fr < to ∧ to ≤ c.length ∧ to - fr ≤ 12 ∧ c.length ≤ 20 ∧ ∀ x, x ∈ c → 0 ≤ x ∧ x ≤ 4095
theorem okP_part {fr to : Int} {c : List Int} (h : okP fr to c) : ∃ u x, (c.take to.toNat).drop fr.toNat = u ++ [x] ∧ u.length + 1 ≤ 12 ∧ 0 ≤ x ∧ x ≤ 4095 ∧ numC fr to c = numF u x := by
 obtain ⟨h0, h1, h2, h3, h4, h5⟩ := h
 have hlen : ((c.take to.toNat).drop fr.toNat).length = to.toNat - fr.toNat := by simp; omega
 have hne : (c.take to.toNat).drop fr.toNat ≠ [] := by intro e; rw [e] at hlen; simp at hlen; omega
 have hd := List.dropLast_concat_getLast hne
 have hx := h5 (((c.take to.toNat).drop fr.toNat).getLast hne) (List.mem_of_mem_take (List.mem_of_mem_drop (List.getLast_mem hne)))
 refine ⟨_, _, hd.symm, ?_, hx.1, hx.2, ?_⟩
 ·rw [List.length_dropLast, hlen]; omega
 ·unfold numC
  rw [List.getLastD_eq_getLast?, List.getLast?_eq_some_getLast hne]
  rfl
theorem numberInC {fr to : Int} {c : List Int} (h : okP fr to c) : Vs.Fn Tryd.prog F.i_numberIn [] [.agg (cC c), .agg (cFd fr to)] (.tup [.v (.int .i64 (numC fr to c).1), .v (.bool (numC fr to c).2)]) [] := by
 obtain ⟨u, x, hp, hu, _, _, hn⟩ := okP_part h
 obtain ⟨h0, h1, h2, h3, h4, h5⟩ := h
 rw [hn]
 exact numberIn c fr to u x h0 (by omega) h2 hp hu
theorem l03NumberC {fr to : Int} {c : List Int} (h : okP fr to c) : Vs.Fn Tryd.prog F.s_l03Number [] [.sl 1 (E cI ((c.take to.toNat).drop fr.toNat))] (.tup [.v (.int .i64 (numC fr to c).1), .v (.bool (numC fr to c).2)]) [] := by
 obtain ⟨u, x, hp, hu, hx0, hx1, hn⟩ := okP_part h
 rw [hn, hp]
 exact l03Number u x hx0 hx1 hu
theorem partC {fr to : Int} {c : List Int} (h : okP fr to c) : Vs.Fn Tryd.prog F.s_l02Part [] [.ro (cC c), .agg (cFd fr to)] (.sl 1 (E cI ((c.take to.toNat).drop fr.toNat))) [] := by
 obtain ⟨h0, h1, h2, h3, h4, h5⟩ := h
 exact part c fr to h0 (by omega) h2
end
section
variable [Vs.Tab 0 Vs.powP]
attribute [local irreducible] Vs.Fn
theorem l14Kind (n : Int) : Vs.Fn Tryd.prog F.s_l14Kind [] [.v (.int .i64 n)] (.v (.bool (inB n (1) 4))) [] := by
 refine fn0 Cd.s_l14Kind_k fun X => ?_
 repeat' first|simp -dsimp only [go_sem]|apply Br.mk<;>intro h<;>try simp -dsimp only[h]|refine CallK.c (by first|exact l00In _ _ _) ?_|refine aC ?_|fail
 all_goals (simp_all)
theorem isCalc (n : Int) : Vs.Fn Tryd.prog F.i_isCalc [] [.v (.int .i64 n)] (.v (.bool (inB n (1) 4))) [] := by
 refine fn0 Cd.i_isCalc_k fun X => ?_
 repeat' first|simp -dsimp only [go_sem]|apply Br.mk<;>intro h<;>try simp -dsimp only[h]|refine CallK.c (by first|exact inside _ _ _) ?_|refine aC ?_|fail
 all_goals (simp_all)
theorem l14Factor (n : Int) : Vs.Fn Tryd.prog F.s_l14Factor [] [.v (.int .i64 n)] (.v (.bool (inB n (-999999) 999999))) [] := by
 refine fn0 Cd.s_l14Factor_k fun X => ?_
 repeat' first|simp -dsimp only [go_sem]|apply Br.mk<;>intro h<;>try simp -dsimp only[h]|refine CallK.c (by first|exact l00In _ _ _) ?_|refine aC ?_|fail
 all_goals (simp_all)
theorem isFactor (n : Int) : Vs.Fn Tryd.prog F.i_isFactor [] [.v (.int .i64 n)] (.v (.bool (inB n (-999999) 999999))) [] := by
 refine fn0 Cd.i_isFactor_k fun X => ?_
 repeat' first|simp -dsimp only [go_sem]|apply Br.mk<;>intro h<;>try simp -dsimp only[h]|refine CallK.c (by first|exact inside _ _ _) ?_|refine aC ?_|fail
 all_goals (simp_all)
theorem l14Number (n : Int) : Vs.Fn Tryd.prog F.s_l14Number [] [.v (.int .i64 n)] (.v (.bool (inB n (-999999999999) 999999999999))) [] := by
 refine fn0 Cd.s_l14Number_k fun X => ?_
 repeat' first|simp -dsimp only [go_sem]|apply Br.mk<;>intro h<;>try simp -dsimp only[h]|refine CallK.c (by first|exact l00In _ _ _) ?_|refine aC ?_|fail
 all_goals (simp_all)
theorem isNumber (n : Int) : Vs.Fn Tryd.prog F.i_isNumber [] [.v (.int .i64 n)] (.v (.bool (inB n (-999999999999) 999999999999))) [] := by
 refine fn0 Cd.i_isNumber_k fun X => ?_
 repeat' first|simp -dsimp only [go_sem]|apply Br.mk<;>intro h<;>try simp -dsimp only[h]|refine CallK.c (by first|exact inside _ _ _) ?_|refine aC ?_|fail
 all_goals (simp_all)
theorem l00Max (a b : Int) : Vs.Fn Tryd.prog F.s_l00Max [] [.v (.int .i64 a), .v (.int .i64 b)] (.v (.int .i64 (if a > b then a else b))) [] := by
 refine fn0 Cd.s_l00Max_k fun X => ?_
 repeat' first|simp -dsimp only [go_sem]|apply Br.mk<;>intro h<;>try simp -dsimp only[h]|refine aC ?_|fail
 all_goals (first | (simp_all; done) | (simp_all; omega))
theorem l14Size (n : Int) (h0 : -9223372036854775807 ≤ n) (h1 : n ≤ 9223372036854775807) : Vs.Fn Tryd.prog F.s_l14Size [] [.v (.int .i64 n)] (.v (.int .i64 (n.natAbs : Int))) [] := by
 have hw : IntKind.i64.wrap (0 - n) = -n := by rw [wrap_in (by omega) (by omega)]; omega
 have hm : (if n > -n then n else -n) = (n.natAbs : Int) := by split <;> omega
 refine fn0 Cd.s_l14Size_k fun X => ?_
 simp -dsimp only [go_sem, hw]
 repeat' first|simp -dsimp only [go_sem, hw, hm]|apply Br.mk<;>intro h<;>try simp -dsimp only[h]|refine CallK.c (by first|exact l00Max _ _) ?_|refine aC ?_|fail
 all_goals simp_all
def pR (d : Nat) (n : Nat) : Nat := if h : n = 0 then 0 else n % 10 * d % 10 + 10 * pR d (n / 10)
termination_by n
decreasing_by omega
def pL (d : Nat) (n : Nat) : Nat := if h : n = 0 then 0 else n % 10 * d / 10 + 10 * pL d (n / 10)
termination_by n
decreasing_by omega
theorem pR_zero (d : Nat) : pR d 0 = 0 := by rw [pR, dif_pos rfl]
theorem pL_zero (d : Nat) : pL d 0 = 0 := by rw [pL, dif_pos rfl]
theorem pR_pos {d n : Nat} (h : n ≠ 0) : pR d n = n % 10 * d % 10 + 10 * pR d (n / 10) := by rw [pR, dif_neg h]
theorem pL_pos {d n : Nat} (h : n ≠ 0) : pL d n = n % 10 * d / 10 + 10 * pL d (n / 10) := by rw [pL, dif_neg h]
theorem parts_eq (d n : Nat) : pR d n + 10 * pL d n = n * d := by
 induction n using Nat.strongRecOn with
 | _ n ih =>
  by_cases h : n = 0
  ·subst h; simp [pR_zero, pL_zero]
  ·rw [pR_pos h, pL_pos h]
   have e := ih (n / 10) (by omega)
   have e2 : n * d = (n % 10) * d + 10 * (n / 10 * d) := by
    conv => lhs; rw [show n = n % 10 + 10 * (n / 10) by omega, Nat.add_mul, Nat.mul_assoc]
   omega
theorem l14Parts (n d : Nat) (hn : n ≤ 1000000) (hd : d ≤ 9) : Vs.Fn Tryd.prog F.s_l14Parts [] [.v (.int .i64 n), .v (.int .i64 d)] (.tup [.v (.int .i64 (pR d n : Nat)), .v (.int .i64 (pL d n : Nat))]) [] := by
 refine fn0 Cd.s_l14Parts_k fun X => ?_
 simp -dsimp only [go_sem]
 refine LoopK.at dM (X := { zz : Nat × Nat × Nat × Nat // zz.2.1 + zz.2.2.2 * pR d zz.1 = pR d n ∧ zz.2.2.1 + zz.2.2.2 * pL d zz.1 = pL d n ∧ (zz.1 ≠ 0 → zz.2.2.2 * zz.1 ≤ n) ∧ zz.1 ≤ n }) (fun zz => [(0, .v (.int .i64 zz.1.1)), (6, .v (.int .i64 zz.1.2.1)), (7, .v (.int .i64 zz.1.2.2.1)), (8, .v (.int .i64 zz.1.2.2.2))]) (fun _ => []) (fun zz => zz.1.1) ⟨(n, 0, 0, 1), by simp⟩ ?_ ?_
 ·exact le0
 ·rintro ⟨⟨m, r, q, p⟩, hr, hq, hp, hmn⟩
  dsimp only at hr hq hp hmn
  simp -dsimp only [go_sem]
  refine Br.mk (fun hc => ?_) fun hc => ?_
  ·have hm : m ≠ 0 := by simp at hc; omega
   have hpm := hp hm
   have hpp : p ≤ n := Nat.le_trans (Nat.le_mul_of_pos_right p (by omega)) hpm
   rw [pR_pos hm] at hr
   rw [pL_pos hm] at hq
   have hdn : n * d ≤ 9000000 := Nat.le_trans (Nat.mul_le_mul hn hd) (by omega)
   have hRn : pR d n ≤ 9000000 := by have := parts_eq d n; omega
   have hLn : pL d n ≤ 9000000 := by have := parts_eq d n; omega
   have hx : m % 10 * d ≤ 81 := Nat.le_trans (Nat.mul_le_mul (by omega : m % 10 ≤ 9) hd) (by omega)
   generalize hxx : m % 10 * d = x at *
   have hr2 : r + x % 10 * p + p * 10 * pR d (m / 10) = pR d n := by
    rw [← hr, Nat.mul_add, Nat.mul_comm p (x % 10), Nat.mul_assoc p 10]; omega
   have hq2 : q + x / 10 * p + p * 10 * pL d (m / 10) = pL d n := by
    rw [← hq, Nat.mul_add, Nat.mul_comm p (x / 10), Nat.mul_assoc p 10]; omega
   have hp2 : m / 10 ≠ 0 → p * 10 * (m / 10) ≤ n := fun _ => Nat.le_trans (by rw [Nat.mul_assoc]; exact Nat.mul_le_mul_left p (by omega)) hpm
   have e1 : ((m : Int)).tmod 10 = ((m % 10 : Nat) : Int) := by rw [Int.tmod_eq_emod_of_nonneg (by omega)]; omega
   have e2 : IntKind.i64.wrap (((m % 10 : Nat) : Int) * (d : Int)) = (x : Int) := by rw [← Int.natCast_mul, hxx, wrap_in (by omega) (by omega)]
   have e3 : ((x : Int)).tmod 10 = ((x % 10 : Nat) : Int) := by rw [Int.tmod_eq_emod_of_nonneg (by omega)]; omega
   have e4 : IntKind.i64.wrap (((x % 10 : Nat) : Int) * (p : Int)) = ((x % 10 * p : Nat) : Int) := by rw [← Int.natCast_mul, wrap_in (by omega) (by omega)]
   have e5 : IntKind.i64.wrap ((r : Int) + ((x % 10 * p : Nat) : Int)) = ((r + x % 10 * p : Nat) : Int) := by rw [← Int.natCast_add, wrap_in (by omega) (by omega)]
   have e6 : IntKind.i64.wrap (((x : Int)).tdiv 10) = ((x / 10 : Nat) : Int) := by rw [Int.tdiv_eq_ediv_of_nonneg (by omega), wrap_in (by omega) (by omega)]; omega
   have e7 : IntKind.i64.wrap (((x / 10 : Nat) : Int) * (p : Int)) = ((x / 10 * p : Nat) : Int) := by rw [← Int.natCast_mul, wrap_in (by omega) (by omega)]
   have e8 : IntKind.i64.wrap ((q : Int) + ((x / 10 * p : Nat) : Int)) = ((q + x / 10 * p : Nat) : Int) := by rw [← Int.natCast_add, wrap_in (by omega) (by omega)]
   have e9 : IntKind.i64.wrap ((p : Int) * 10) = ((p * 10 : Nat) : Int) := by rw [wrap_in (by omega) (by omega)]; omega
   have e10 : IntKind.i64.wrap (((m : Int)).tdiv 10) = ((m / 10 : Nat) : Int) := by rw [Int.tdiv_eq_ediv_of_nonneg (by omega), wrap_in (by omega) (by omega)]; omega
   repeat' first|simp -dsimp only [go_sem, e1, e2, e3, e4, e5, e6, e7, e8, e9, e10]|apply Br.mk<;>intro h<;>try simp -dsimp only[h]|refine aC ?_|fail
   all_goals exact ⟨⟨(m / 10, r + x % 10 * p, q + x / 10 * p, p * 10), hr2, hq2, hp2, by dsimp only; omega⟩, by simp [Vs.LeL, Vs.look, Vs.hlook, Vs.sput, Vs.sputs, Vs.hset, Vs.hputs], by simp only; omega⟩
  ·have hm : m = 0 := by simp at hc; omega
   subst hm
   rw [pR_zero] at hr
   rw [pL_zero] at hq
   simp -dsimp only [go_sem]
   have h1 : r = pR d n := by omega
   have h2 : q = pL d n := by omega
   simp [h1, h2]
def nzN (n : Nat) : Nat := if h : n = 0 then 0 else (if n % 10 = 0 then 0 else 1) + nzN (n / 10)
termination_by n
decreasing_by omega
theorem nzN_zero : nzN 0 = 0 := by rw [nzN, dif_pos rfl]
theorem nzN_pos {n : Nat} (h : n ≠ 0) : nzN n = (if n % 10 = 0 then 0 else 1) + nzN (n / 10) := by rw [nzN, dif_neg h]
theorem nzN_le (n : Nat) : nzN n ≤ n := by
 induction n using Nat.strongRecOn with
 | _ n ih =>
  by_cases h : n = 0
  ·subst h; rw [nzN_zero]; omega
  ·rw [nzN_pos h]
   have := ih (n / 10) (by omega)
   split <;> omega
theorem l14Times (a b : Nat) (ha : a ≤ 999999) (hb : b ≤ 999999) : Vs.Fn Tryd.prog F.s_l14Times [] [.v (.int .i64 a), .v (.int .i64 b)] (.tup [.v (.int .i64 (a * b : Nat)), .v (.int .i64 (1 + nzN b : Nat))]) [] := by
 refine fn0 Cd.s_l14Times_k fun X => ?_
 simp -dsimp only [go_sem]
 refine LoopK.at dM (X := { zz : Nat × Nat × Nat × Nat // zz.2.1 + zz.2.2.1 * (a * zz.1) = a * b ∧ zz.2.2.2 + nzN zz.1 = 1 + nzN b ∧ zz.1 ≤ b ∧ (zz.1 ≠ 0 → zz.2.2.1 * zz.1 ≤ b) }) (fun zz => [(1, .v (.int .i64 zz.1.1)), (6, .v (.int .i64 zz.1.2.1)), (7, .v (.int .i64 zz.1.2.2.1)), (8, .v (.int .i64 zz.1.2.2.2))]) (fun _ => []) (fun zz => zz.1.1) ⟨(b, 0, 1, 1), by simp⟩ ?_ ?_
 ·exact le0
 ·rintro ⟨⟨m, s, p, c⟩, hs, hc2, hmb, hp⟩
  dsimp only at hs hc2 hmb hp
  simp -dsimp only [go_sem]
  refine Br.mk (fun hc => ?_) fun hc => ?_
  ·have hm : m ≠ 0 := by simp at hc; omega
   have hpm := hp hm
   have hpb : p ≤ b := Nat.le_trans (Nat.le_mul_of_pos_right p (by omega)) hpm
   have hab : a * b ≤ 999998000001 := Nat.le_trans (Nat.mul_le_mul ha hb) (by omega)
   have hnb := nzN_le b
   rw [nzN_pos hm] at hc2
   have hd : m % 10 ≤ 9 := by omega
   have hpe := parts_eq (m % 10) a
   have had : a * (m % 10) ≤ 8999991 := Nat.le_trans (Nat.mul_le_mul ha hd) (by omega)
   generalize hR : pR (m % 10) a = R at *
   generalize hL : pL (m % 10) a = L at *
   have hRp : R * p ≤ 8999991 * 999999 := Nat.mul_le_mul (by omega) (by omega)
   have hLp : L * p ≤ 8999991 * 999999 := Nat.mul_le_mul (by omega) (by omega)
   have hstep : a * m = 10 * (a * (m / 10)) + a * (m % 10) := by
    conv => lhs; rw [show m = 10 * (m / 10) + m % 10 by omega, Nat.mul_add, Nat.mul_left_comm]
   have hs2 : s + (R * p + L * p * 10) + p * 10 * (a * (m / 10)) = a * b := by
    rw [← hs, hstep, ← hpe, Nat.mul_add, Nat.mul_add, Nat.mul_comm p R, Nat.mul_left_comm p 10 L, Nat.mul_comm p L, Nat.mul_assoc p 10]; omega
   have hp2 : m / 10 ≠ 0 → p * 10 * (m / 10) ≤ b := fun _ => Nat.le_trans (by rw [Nat.mul_assoc]; exact Nat.mul_le_mul_left p (by omega)) hpm
   have e1 : ((m : Int)).tmod 10 = ((m % 10 : Nat) : Int) := by rw [Int.tmod_eq_emod_of_nonneg (by omega)]; omega
   have e4 : IntKind.i64.wrap ((R : Int) * (p : Int)) = ((R * p : Nat) : Int) := by rw [← Int.natCast_mul, wrap_in (by omega) (by omega)]
   have e5 : IntKind.i64.wrap ((L : Int) * (p : Int)) = ((L * p : Nat) : Int) := by rw [← Int.natCast_mul, wrap_in (by omega) (by omega)]
   have e6 : IntKind.i64.wrap (((L * p : Nat) : Int) * 10) = ((L * p * 10 : Nat) : Int) := by rw [wrap_in (by omega) (by omega)]; omega
   have e7 : IntKind.i64.wrap (((R * p : Nat) : Int) + ((L * p * 10 : Nat) : Int)) = ((R * p + L * p * 10 : Nat) : Int) := by rw [← Int.natCast_add, wrap_in (by omega) (by omega)]
   have e8 : IntKind.i64.wrap ((s : Int) + ((R * p + L * p * 10 : Nat) : Int)) = ((s + (R * p + L * p * 10) : Nat) : Int) := by rw [← Int.natCast_add, wrap_in (by omega) (by omega)]
   have e9 : IntKind.i64.wrap ((p : Int) * 10) = ((p * 10 : Nat) : Int) := by rw [wrap_in (by omega) (by omega)]; omega
   have e10 : IntKind.i64.wrap (((m : Int)).tdiv 10) = ((m / 10 : Nat) : Int) := by rw [Int.tdiv_eq_ediv_of_nonneg (by omega), wrap_in (by omega) (by omega)]; omega
   have e11 : IntKind.i64.wrap ((c : Int) + 1) = ((c + 1 : Nat) : Int) := by rw [wrap_in (by omega) (by omega)]; omega
   by_cases hz : m % 10 = 0
   ·have hg : decide (((m % 10 : Nat) : Int) > 0) = false := by simp; omega
    rw [if_pos hz] at hc2
    repeat' first|simp -dsimp only [go_sem, e1, e4, e5, e6, e7, e8, e9, e10, e11, hg]|apply Br.mk<;>intro h<;>try simp -dsimp only[h]|refine CallK.c (by first|exact by have h := l14Parts a (m % 10) (by omega) (by omega); rw [hR, hL] at h; exact h) ?_|refine aC ?_|fail
    all_goals exact ⟨⟨(m / 10, s + (R * p + L * p * 10), p * 10, c), hs2, by dsimp only; omega, by dsimp only; omega, hp2⟩, by simp [Vs.LeL, Vs.look, Vs.hlook, Vs.sput, Vs.sputs, Vs.hset, Vs.hputs], by simp only; omega⟩
   ·have hg : decide (((m % 10 : Nat) : Int) > 0) = true := by simp; omega
    rw [if_neg hz] at hc2
    repeat' first|simp -dsimp only [go_sem, e1, e4, e5, e6, e7, e8, e9, e10, e11, hg]|apply Br.mk<;>intro h<;>try simp -dsimp only[h]|refine CallK.c (by first|exact by have h := l14Parts a (m % 10) (by omega) (by omega); rw [hR, hL] at h; exact h) ?_|refine aC ?_|fail
    all_goals exact ⟨⟨(m / 10, s + (R * p + L * p * 10), p * 10, c + 1), hs2, by dsimp only; omega, by dsimp only; omega, hp2⟩, by simp [Vs.LeL, Vs.look, Vs.hlook, Vs.sput, Vs.sputs, Vs.hset, Vs.hputs], by simp only; omega⟩
  ·have hm : m = 0 := by simp at hc; omega
   subst hm
   rw [nzN_zero] at hc2
   simp -dsimp only [go_sem]
   have h1 : s = a * b := by simpa using hs
   have h2 : c = 1 + nzN b := by omega
   simp [h1, h2]
theorem nz_wl : ∀ (k n : Nat), n < 10 ^ k → n < 2 ^ 63 → ((wl k (n : Int)).countP fun x => x != 0) = nzN n
 | 0, n, h, _ => by
  have : n = 0 := by simpa using h
  subst this; simp [wl, nzN_zero]
 | k + 1, n, h, h2 => by
  rw [wl_nat h2, List.countP_cons]
  have ih := nz_wl k (n / 10) (by rw [Nat.pow_succ] at h; omega) (by omega)
  rw [ih]
  by_cases h0 : n = 0
  ·subst h0; simp [nzN_zero]
  ·rw [nzN_pos h0]
   by_cases hz : n % 10 = 0
   ·simp [hz]
   ·have h3 : (((n % 10 : Nat) : Int) != 0) = true := bne_iff_ne.2 (by omega)
    rw [if_neg hz]
    simp only [h3, reduceIte]; omega
def fctB (a b : Int) : Bool := inB a (-999999) 999999 && inB b (-999999) 999999
def proT (a b : Int) : Int × Int × Int := if fctB a b then (a * b, ((1 + nzN b.natAbs : Nat) : Int), 0) else (0, 0, 2)
def cT3 (x : Int × Int × Int) : List AV := [.v (.int .i64 x.1), .v (.int .i64 x.2.1), .v (.int .i64 x.2.2)]
theorem fct_in {a : Int} (h : inB a (-999999) 999999 = true) : -999999 ≤ a ∧ a ≤ 999999 := by
 simp only [inB, Bool.and_eq_true, decide_eq_true_eq] at h; omega
theorem mul_sgn (a b : Int) : a * b = if (decide (a < 0) != decide (b < 0)) = true then -((a.natAbs * b.natAbs : Nat) : Int) else ((a.natAbs * b.natAbs : Nat) : Int) := by
 rw [Int.natCast_mul]
 by_cases ha : a < 0 <;> by_cases hb : b < 0
 ·have e1 : (a.natAbs : Int) = -a := by omega
  have e2 : (b.natAbs : Int) = -b := by omega
  simp [ha, hb, e1, e2, Int.neg_mul, Int.mul_neg]
 ·have e1 : (a.natAbs : Int) = -a := by omega
  have e2 : (b.natAbs : Int) = b := by omega
  simp [ha, hb, e1, e2, Int.neg_mul, Int.mul_neg]
 ·have e1 : (a.natAbs : Int) = a := by omega
  have e2 : (b.natAbs : Int) = -b := by omega
  simp [ha, hb, e1, e2, Int.neg_mul, Int.mul_neg]
 ·have e1 : (a.natAbs : Int) = a := by omega
  have e2 : (b.natAbs : Int) = b := by omega
  simp [ha, hb, e1, e2, Int.neg_mul, Int.mul_neg]
theorem spec_ProductBy (a b : Int) : Vs.Fn Tryd.prog F.s_ProductBy [] [.v (.int .i64 a), .v (.int .i64 b)] (.tup (cT3 (proT a b))) [] := by
 refine fn0 Cd.s_ProductBy_k fun X => ?_
 simp -dsimp only [go_sem]
 cases ha : inB a (-999999) 999999 with
 | false =>
  repeat' first|simp -dsimp only [go_sem, ha]|apply Br.mk<;>intro h<;>try simp -dsimp only[h]|refine CallK.c (by first|exact l14Factor _) ?_|refine aC ?_|fail
  all_goals simp [proT, fctB, ha, cT3]
 | true =>
  cases hb : inB b (-999999) 999999 with
  | false =>
   repeat' first|simp -dsimp only [go_sem, ha, hb]|apply Br.mk<;>intro h<;>try simp -dsimp only[h]|refine CallK.c (by first|exact l14Factor _) ?_|refine aC ?_|fail
   all_goals simp [proT, fctB, ha, hb, cT3]
  | true =>
   have ga := fct_in ha
   have gb := fct_in hb
   have hab : a.natAbs * b.natAbs ≤ 999999 * 999999 := Nat.mul_le_mul (by omega) (by omega)
   have hw : IntKind.i64.wrap (0 - ((a.natAbs * b.natAbs : Nat) : Int)) = -((a.natAbs * b.natAbs : Nat) : Int) := by rw [wrap_in (by omega) (by omega)]; omega
   have hm := mul_sgn a b
   cases hs : (decide (a < 0) != decide (b < 0))
   all_goals
    rw [hs] at hm
    have hs2 := hs
    simp only [bne] at hs2
    repeat' first|simp -dsimp only [go_sem, ha, hb, hs2, hw]|apply Br.mk<;>intro h<;>try simp -dsimp only[h]|refine CallK.c (by first|exact l14Factor _|exact l14Size _ (by omega) (by omega)|exact l14Times a.natAbs b.natAbs (by omega) (by omega)) ?_|refine aC ?_|fail
    all_goals simp [proT, fctB, ha, hb, cT3, hm]
theorem impl_ProductBy (a b : Int) : Vs.Fn Tryd.prog F.i_ProductBy [] [.v (.int .i64 a), .v (.int .i64 b)] (.tup (cT3 (proT a b))) [] := by
 refine fn0 Cd.i_ProductBy_k fun X => ?_
 simp -dsimp only [go_sem]
 cases ha : inB a (-999999) 999999 with
 | false =>
  repeat' first|simp -dsimp only [go_sem, ha]|apply Br.mk<;>intro h<;>try simp -dsimp only[h]|refine CallK.c (by first|exact isFactor _) ?_|refine aC ?_|fail
  all_goals simp [proT, fctB, ha, cT3]
 | true =>
  cases hb : inB b (-999999) 999999 with
  | false =>
   repeat' first|simp -dsimp only [go_sem, ha, hb]|apply Br.mk<;>intro h<;>try simp -dsimp only[h]|refine CallK.c (by first|exact isFactor _) ?_|refine aC ?_|fail
   all_goals simp [proT, fctB, ha, hb, cT3]
  | true =>
   have ga := fct_in ha
   have gb := fct_in hb
   have hk := nDigits_le (n := b.natAbs) (by omega)
   have hnz := nz_wl (Lib.nDigits b.natAbs) b.natAbs (Lib.lt_pow_nDigits _) (by omega)
   have hlen := wl_length (Lib.nDigits b.natAbs) b.natAbs
   have hnl := nzN_le b.natAbs
   have hw : IntKind.i64.wrap (a * b) = a * b := by
    have hab : a.natAbs * b.natAbs ≤ 999999 * 999999 := Nat.mul_le_mul (by omega) (by omega)
    have := mul_sgn a b
    split at this <;> exact wrap_in (by omega) (by omega)
   have hd := digitList b (by omega) (by omega)
   generalize wl (Lib.nDigits b.natAbs) b.natAbs = l at *
   repeat' first|simp -dsimp only [go_sem, ha, hb]|apply Br.mk<;>intro h<;>try simp -dsimp only[h]|refine CallK.c (by first|exact isFactor _|exact hd) ?_|refine aC ?_|fail
   refine LoopK.at dM (X := { zz : Nat × (Nat) // zz.1 ≤ l.length ∧ zz.2 + (l.drop zz.1).countP (fun x => x != 0) = 1 + nzN b.natAbs }) (fun zz => [(21, .v (.int .i64 zz.1.1)), (7, .v (.int .i64 (zz.1.2 : Nat)))]) (fun zz => []) (fun zz => l.length - zz.1.1) ⟨(0, 1), by omega, by simp [hnz]⟩ ?_ ?_
   ·exact le0
   ·rintro ⟨⟨i, c⟩, hi, hg⟩
    dsimp only at hi hg
    simp -dsimp only [go_sem, hw]
    refine Br.mk (fun hc => ?_) fun hc => ?_
    ·have hlt : i < l.length := Dq
     have hwi := wrap_succ hlt (by omega)
     have hcs := List.countP_le_length (p := fun x : Int => x != 0) (l := l.drop (i + 1))
     rw [List.drop_eq_getElem_cons hlt, List.countP_cons] at hg
     have hwc : IntKind.i64.wrap ((c : Int) + 1) = ((c + 1 : Nat) : Int) := by rw [wrap_in (by omega) (by omega)]; omega
     cases hz : (l[i] != 0)
     ·rw [hz] at hg
      simp only [Bool.false_eq_true, if_false] at hg
      repeat' first|simp -dsimp only [go_sem, cI_get hlt, hwi, hz, hwc, hwi]|apply Br.mk<;>intro h<;>try simp -dsimp only[h]|refine aC ?_|fail
      all_goals (exact nx (i + 1, c) (by dsimp only; omega))
     ·rw [hz] at hg
      simp only [if_true] at hg
      repeat' first|simp -dsimp only [go_sem, cI_get hlt, hwi, hz, hwc, hwi]|apply Br.mk<;>intro h<;>try simp -dsimp only[h]|refine aC ?_|fail
      all_goals (exact nx (i + 1, c + 1) (by dsimp only; omega))
    ·have hge : i = l.length := by
      have : ¬ i < l.length := Dq
      omega
     subst hge
     simp -dsimp only [go_sem, hw]
     rw [List.drop_length, List.countP_nil] at hg
     have hc1 : c = 1 + nzN b.natAbs := by omega
     simp [proT, fctB, ha, hb, cT3, hc1]
end
end Go.Proofs.YtimcedhcefcbbaaDoor
