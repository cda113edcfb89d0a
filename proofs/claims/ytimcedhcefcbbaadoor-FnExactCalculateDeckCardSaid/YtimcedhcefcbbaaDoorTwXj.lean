/- A number punched into a card: the program's punchNumber. -/
import Derived.Test.YtimcedhcefcbbaaDoorVsD
import Derived.Test.YtimcedhcefcbbaaDoorTwZa
import Derived.Test.YtimcedhcefcbbaaDoorVtR
set_option linter.all false
set_option maxHeartbeats 8000000
namespace Go.Proofs.YtimcedhcefcbbaaDoor
open Go.Vs
section
variable [Vs.Tab 0 Vs.powP]
attribute [local irreducible] Vs.Fn
def pd : Nat → Nat → List Int
 | 0, _ => []
 | w + 1, k => pd w (k / 10) ++ [bitN (k % 10)]
theorem pd_len : ∀ w k, (pd w k).length = w
 | 0, _ => rfl
 | w + 1, k => by simp [pd, pd_len w]
def neg2 (l : List Int) : List Int := l.set (l.length - 1) (bitsOp .or .i64 (l.getD (l.length - 1) 0) 2)
def pt (w : Nat) (n : Int) : List Int := if n < 0 then neg2 (pd w n.natAbs) else pd w n.natAbs
theorem pt_len (w : Nat) (n : Int) : (pt w n).length = w := by unfold pt neg2; split <;> simp [pd_len]
theorem repl_set (j : Nat) (done : List Int) (x : Int) : (E cI (List.replicate (j + 1) 0 ++ done)).set j [.v (.int .i64 x)] = E cI (List.replicate j 0 ++ x :: done) := by
 have e : (List.replicate (j + 1) (0 : Int) ++ done).set j x = List.replicate j 0 ++ x :: done := by
  rw [List.replicate_succ', List.append_assoc, List.set_append_right _ _ (by simp)]
  simp
 rw [← e]
 simp [E, cI, List.map_set]
theorem repl_row (w : Nat) : List.replicate w [AV.v (.int .i64 0)] = E cI (List.replicate w 0 ++ []) := by simp [E, cI]
theorem repl_get (j : Nat) (done : List Int) : (E cI (List.replicate (j + 1) 0 ++ done)).getD j [] = [.v (.int .i64 0)] := by
 rw [E_get (by simp; omega)]
 simp [List.getElem_append, cI]
theorem div_pow (n a : Nat) : n / 10 ^ a / 10 = n / 10 ^ (a + 1) := by rw [Nat.div_div_eq_div_mul, Nat.pow_succ]
theorem neg2_row {l : List Int} (h : l.length ≠ 0) : (E cI l).set (l.length - 1) [.v (.int .i64 (bitsOp .or .i64 (l.getD (l.length - 1) 0) 2))] = E cI (neg2 l) := by
 unfold neg2
 simp [E, cI, List.map_set]
theorem last_get {l : List Int} (h : l.length ≠ 0) : (E cI l).getD (l.length - 1) [] = [.v (.int .i64 (l.getD (l.length - 1) 0))] := by
 have hl : l.length - 1 < l.length := by omega
 rw [cI_get hl]
 simp [List.getD, hl]
theorem l03Put (n : Int) (w : Nat) (h0 : -1000000000000 ≤ n) (h1 : n ≤ 1000000000000) (hw0 : 0 < w) (hw20 : w ≤ 20) : Vs.Fn Tryd.prog F.s_l03Put [] [.v (.int .i64 n), .v (.int .i64 w)] (.tup [.sl 1 (E cI (pt w n)), .v (.bool (((n.natAbs / 10 ^ w : Nat) : Int) == 0))]) [] := by
 rcases Int.lt_or_le n 0 with hneg | hneg
 ·have hd0 : decide (n < 0) = true := decide_eq_true (by omega)
  have hpt : pt w n = neg2 (pd w n.natAbs) := by unfold pt; rw [if_pos (by omega)]
  have hn1 : IntKind.i64.wrap (0 - n) = (n.natAbs : Int) := by rw [wrap_in (by omega) (by omega)]; omega
  have hn2 : IntKind.i64.wrap (-n) = (n.natAbs : Int) := by rw [wrap_in (by omega) (by omega)]; omega
  have hwm : IntKind.i64.wrap ((w : Int) - 1) = (w : Int) - 1 := wrap_in (by omega) (by omega)
  refine fn0 Cd.s_l03Put_k fun X => ?_
  simp -dsimp only [go_sem, hd0, repl_row]
  repeat' first|simp -dsimp only [go_sem, hd0, repl_row, hwm, Int.toNat_natCast, hn1, hn2]|apply Br.mk<;>intro h<;>try simp -dsimp only[h]|refine aC ?_|fail
  refine LoopK.at dM (X := { zz : Nat × Nat × List Int // zz.1 ≤ w ∧ zz.2.2.length = w - zz.1 ∧ zz.2.1 = n.natAbs / 10 ^ (w - zz.1) ∧ pd zz.1 zz.2.1 ++ zz.2.2 = pd w n.natAbs }) (fun zz => [(7, .v (.int .i64 (zz.1.2.1 : Nat))), (8, .v (.int .i64 ((zz.1.1 : Int) - 1)))]) (fun zz => [(.t 10 0, .arr 1 (E cI (List.replicate zz.1.1 0 ++ zz.1.2.2)) false)]) (fun zz => zz.1.1) ⟨(w, n.natAbs, []), Nat.le_refl _, by simp, by simp, by simp⟩ ?_ ?_
  ·simp [Vs.LeL, Vs.look, Vs.hlook, Vs.sput, Vs.sputs, Vs.hset, Vs.hputs, E]
   first | done | omega
  ·rintro ⟨⟨j1, k, done⟩, hj, hd, hk, hg⟩
   dsimp only at hj hd hk hg
   simp -dsimp only [go_sem, hd0]
   refine Br.mk (fun hc => ?_) fun hc => ?_
   ·obtain ⟨j, rfl⟩ : ∃ j, j1 = j + 1 := ⟨j1 - 1, by simp at hc; omega⟩
    have e1 : (((j + 1 : Nat) : Int) - 1) = (j : Int) := by omega
    have hwj : IntKind.i64.wrap ((j : Int) - 1) = (j : Int) - 1 := wrap_in (by omega) (by omega)
    have hkb : k ≤ 1000000000000 := by rw [hk]; exact Nat.le_trans (Nat.div_le_self _ _) (by omega)
    have hkd : k / 10 = n.natAbs / 10 ^ (w - j) := by rw [hk, div_pow, show w - (j + 1) + 1 = w - j by omega]
    have q1 : ((k : Int)).tmod 10 = ((k % 10 : Nat) : Int) := by rw [Int.tmod_eq_emod_of_nonneg (by omega)]; omega
    have q2 : IntKind.i64.wrap (((k : Int)).tdiv 10) = ((k / 10 : Nat) : Int) := by rw [Int.tdiv_eq_ediv_of_nonneg (by omega), wrap_in (by omega) (by omega)]; omega
    have hgr := repl_get j done
    have hgs := repl_set j done (bitN (k % 10))
    rw [pd, List.append_assoc] at hg
    repeat' first|simp -dsimp only [go_sem, e1, hgr, hgs, hwj, q1, q2, E_len, List.length_append, List.length_replicate, Int.toNat_natCast]|apply Br.mk<;>intro h<;>try simp -dsimp only[h]|refine CallK.c (by first|exact l02Bit (k % 10) (by omega)) ?_|refine aC ?_|fail
    all_goals (exact ⟨⟨(j, k / 10, bitN (k % 10) :: done), by omega, by simp only [List.length_cons]; omega, hkd, hg⟩, by simp [Vs.LeL, Vs.look, Vs.hlook, Vs.sput, Vs.sputs, Vs.hset, Vs.hputs], by simp only; omega⟩)
   ·have hz : j1 = 0 := by simp at hc; omega
    subst hz
    rw [Nat.sub_zero] at hk
    have hdone : done = pd w n.natAbs := by simpa [pd] using hg
    subst hdone
    have hlen := pd_len w n.natAbs
    have hne : (pd w n.natAbs).length ≠ 0 := by omega
    have hnr := neg2_row hne
    have hlg := last_get hne
    rw [hlen] at hnr hlg
    have hw1 : IntKind.i64.wrap ((w : Int) - 1) = ((w - 1 : Nat) : Int) := by rw [wrap_in (by omega) (by omega)]; omega
    have htk : List.take w (E cI (neg2 (pd w n.natAbs))) = E cI (neg2 (pd w n.natAbs)) := List.take_of_length_le (by simp [E, neg2, pd_len])
    simp -dsimp only [go_sem, hd0, hnr, hlg, hw1, hlen, E_len, Int.toNat_natCast, List.replicate_zero, List.nil_append, List.length_set]
    exact ⟨⟨⟨by omega, by omega⟩, ⟨by omega, by omega⟩, [.t 10 0], [], by rw [htk, hpt, hk], rfl⟩, fun h => h rfl⟩
 ·have hd0 : decide (n < 0) = false := decide_eq_false (by omega)
  have hpt : pt w n = pd w n.natAbs := by unfold pt; rw [if_neg (by omega)]
  have hn1 : n = (n.natAbs : Int) := by omega
  have hwm : IntKind.i64.wrap ((w : Int) - 1) = (w : Int) - 1 := wrap_in (by omega) (by omega)
  refine fn0 Cd.s_l03Put_k fun X => ?_
  simp -dsimp only [go_sem, hd0, repl_row]
  repeat' first|simp -dsimp only [go_sem, hd0, repl_row, hwm, Int.toNat_natCast]|apply Br.mk<;>intro h<;>try simp -dsimp only[h]|refine aC ?_|fail
  refine LoopK.at dM (X := { zz : Nat × Nat × List Int // zz.1 ≤ w ∧ zz.2.2.length = w - zz.1 ∧ zz.2.1 = n.natAbs / 10 ^ (w - zz.1) ∧ pd zz.1 zz.2.1 ++ zz.2.2 = pd w n.natAbs }) (fun zz => [(7, .v (.int .i64 (zz.1.2.1 : Nat))), (8, .v (.int .i64 ((zz.1.1 : Int) - 1)))]) (fun zz => [(.t 10 0, .arr 1 (E cI (List.replicate zz.1.1 0 ++ zz.1.2.2)) false)]) (fun zz => zz.1.1) ⟨(w, n.natAbs, []), Nat.le_refl _, by simp, by simp, by simp⟩ ?_ ?_
  ·simp [Vs.LeL, Vs.look, Vs.hlook, Vs.sput, Vs.sputs, Vs.hset, Vs.hputs, E]
   first | done | omega
  ·rintro ⟨⟨j1, k, done⟩, hj, hd, hk, hg⟩
   dsimp only at hj hd hk hg
   simp -dsimp only [go_sem, hd0]
   refine Br.mk (fun hc => ?_) fun hc => ?_
   ·obtain ⟨j, rfl⟩ : ∃ j, j1 = j + 1 := ⟨j1 - 1, by simp at hc; omega⟩
    have e1 : (((j + 1 : Nat) : Int) - 1) = (j : Int) := by omega
    have hwj : IntKind.i64.wrap ((j : Int) - 1) = (j : Int) - 1 := wrap_in (by omega) (by omega)
    have hkb : k ≤ 1000000000000 := by rw [hk]; exact Nat.le_trans (Nat.div_le_self _ _) (by omega)
    have hkd : k / 10 = n.natAbs / 10 ^ (w - j) := by rw [hk, div_pow, show w - (j + 1) + 1 = w - j by omega]
    have q1 : ((k : Int)).tmod 10 = ((k % 10 : Nat) : Int) := by rw [Int.tmod_eq_emod_of_nonneg (by omega)]; omega
    have q2 : IntKind.i64.wrap (((k : Int)).tdiv 10) = ((k / 10 : Nat) : Int) := by rw [Int.tdiv_eq_ediv_of_nonneg (by omega), wrap_in (by omega) (by omega)]; omega
    have hgr := repl_get j done
    have hgs := repl_set j done (bitN (k % 10))
    rw [pd, List.append_assoc] at hg
    repeat' first|simp -dsimp only [go_sem, e1, hgr, hgs, hwj, q1, q2, E_len, List.length_append, List.length_replicate, Int.toNat_natCast]|apply Br.mk<;>intro h<;>try simp -dsimp only[h]|refine CallK.c (by first|exact l02Bit (k % 10) (by omega)) ?_|refine aC ?_|fail
    all_goals (exact ⟨⟨(j, k / 10, bitN (k % 10) :: done), by omega, by simp only [List.length_cons]; omega, hkd, hg⟩, by simp [Vs.LeL, Vs.look, Vs.hlook, Vs.sput, Vs.sputs, Vs.hset, Vs.hputs], by simp only; omega⟩)
   ·have hz : j1 = 0 := by simp at hc; omega
    subst hz
    rw [Nat.sub_zero] at hk
    have hdone : done = pd w n.natAbs := by simpa [pd] using hg
    subst hdone
    have hlen := pd_len w n.natAbs
    have hne : (pd w n.natAbs).length ≠ 0 := by omega
    have hnr := neg2_row hne
    have hlg := last_get hne
    rw [hlen] at hnr hlg
    have hw1 : IntKind.i64.wrap ((w : Int) - 1) = ((w - 1 : Nat) : Int) := by rw [wrap_in (by omega) (by omega)]; omega
    have htk : List.take w (E cI (pd w n.natAbs)) = E cI (pd w n.natAbs) := List.take_of_length_le (by simp [E, neg2, pd_len])
    simp -dsimp only [go_sem, hd0, hnr, hlg, hw1, hlen, E_len, Int.toNat_natCast, List.replicate_zero, List.nil_append, List.length_set]
    exact ⟨⟨[.t 10 0], [], by rw [htk, hpt, hk], rfl⟩, fun h => h rfl⟩
end
section
variable [Vs.Tab 0 Vs.powP]
attribute [local irreducible] Vs.Fn
theorem ownO (l : List Int) (hl : l.length ≤ 1048576) : Vs.Fn Tryd.prog F.s_l00Own [] [.sl 1 (E cI l)] (.loc (.b 0) 0 l.length) [some (.arr 1 (E cI l) false)] := by
 refine Cd.s_l00Own_k.o.fn Tryd.mixed (hin := []) 6 _ [.t 5 0] [.arr 1 (E cI l) false] Cd.s_l00Own_k.n Cd.s_l00Own_k.r rfl (by simp) rfl (by simp) fun X => ?_
 unfold Cd.s_l00Own
 simp -dsimp only [go_sem, List.replicate_succ, List.replicate_zero, List.flatten_cons, List.flatten_nil, E_len, List.nil_append]
 exact ⟨⟨by omega, by omega⟩, ⟨by omega, by omega⟩, _, _, rfl, rfl⟩
theorem l02OwnO (l : List Int) (hl : l.length ≤ 1048576) : Vs.Fn Tryd.prog F.s_l02Own [] [.ro (cC l)] (.agg [.loc (.b 0) 0 l.length]) [some (.arr 1 (E cI l) false)] := by
 refine Cd.s_l02Own_k.o.fn Tryd.mixed (hin := []) 9 _ [.t 7 0] [.arr 1 (E cI l) false] Cd.s_l02Own_k.n Cd.s_l02Own_k.r rfl (by simp) rfl (by simp) fun X => ?_
 unfold Cd.s_l02Own
 simp -dsimp only [go_sem, cC]
 refine CallK.own (ownO l hl) rfl ?_
 simp -dsimp only [go_sem, cC]
 exact ⟨_, _, rfl, rfl⟩
theorem newCardO (l : List Int) (hl : l.length ≤ 1048576) : Vs.Fn Tryd.prog F.i_newCard [] [.agg (cC l)] (.agg [.loc (.b 0) 0 l.length]) [some (.arr 1 (E cI l) false)] := by
 refine Cd.i_newCard_k.o.fn Tryd.mixed (hin := []) 7 _ [.t 5 0] [.arr 1 (E cI l) false] Cd.i_newCard_k.n Cd.i_newCard_k.r rfl (by simp) rfl (by simp) fun X => ?_
 unfold Cd.i_newCard
 simp -dsimp only [go_sem, cC]
 refine CallK.own (copyIntsO l hl) rfl ?_
 simp -dsimp only [go_sem, cC]
 exact ⟨_, _, rfl, rfl⟩
def inF (c : List Int) (fr w : Nat) (x : List Int) : List Int := c.take fr ++ x ++ c.drop (fr + w)
theorem inF_len {c : List Int} {fr w : Nat} {x : List Int} (h : fr + w ≤ c.length) (hx : x.length = w) : (inF c fr w x).length = c.length := by
 simp [inF, hx]; omega
def rowP (c : List Int) (fr w j : Nat) (done : List Int) : List Int := c.take (fr + j) ++ done ++ c.drop (fr + w)
theorem rowP_len {c : List Int} {fr w j : Nat} {done : List Int} (h : fr + w ≤ c.length) (hj : j ≤ w) (hd : done.length = w - j) : (rowP c fr w j done).length = c.length := by
 simp [rowP, hd]; omega
theorem rowP_top {c : List Int} {fr w : Nat} : rowP c fr w w [] = c := by simp [rowP]
theorem rowP_zero {c : List Int} {fr w : Nat} {done : List Int} : rowP c fr w 0 done = inF c fr w done := by simp [rowP, inF]
theorem rowP_set {c : List Int} {fr w j : Nat} {done : List Int} (h : fr + w ≤ c.length) (hj : j < w) (x : Int) : (E cI (rowP c fr w (j + 1) done)).set (fr + j) [.v (.int .i64 x)] = E cI (rowP c fr w j (x :: done)) := by
 have e : (rowP c fr w (j + 1) done).set (fr + j) x = rowP c fr w j (x :: done) := by
  unfold rowP
  have h1 : c.take (fr + (j + 1)) = c.take (fr + j) ++ [c[fr + j]'(by omega)] := by
   rw [show fr + (j + 1) = (fr + j) + 1 by omega, take_succ (by omega)]
  have h2 : (c.take (fr + j)).length = fr + j := by simp; omega
  rw [h1, List.append_assoc, List.append_assoc, List.set_append_right _ _ (by omega), h2, Nat.sub_self]
  simp
 rw [← e]
 simp [E, cI, List.map_set]
theorem inF_neg {c : List Int} {fr w : Nat} {x : List Int} (h : fr + w ≤ c.length) (hx : x.length = w) (hw : 0 < w) :
  (E cI (inF c fr w x)).getD (fr + w - 1) [] = [.v (.int .i64 (x.getD (w - 1) 0))] ∧
  (E cI (inF c fr w x)).set (fr + w - 1) [.v (.int .i64 (bitsOp .or .i64 (x.getD (w - 1) 0) 2))] = E cI (inF c fr w (neg2 x)) := by
 have hl : (c.take fr).length = fr := by simp; omega
 constructor
 ·rw [E_get (by rw [inF_len h hx]; omega)]
  have e : (inF c fr w x)[fr + w - 1]'(by rw [inF_len h hx]; omega) = x.getD (w - 1) 0 := by
   unfold inF
   rw [List.getElem_append_left (by simp [hx]; omega), List.getElem_append_right (by simp; omega)]
   simp only [hl, show fr + w - 1 - fr = w - 1 by omega]
   simp [List.getD, List.getElem?_eq_getElem (show w - 1 < x.length by omega)]
  rw [e]; rfl
 ·have e : (inF c fr w x).set (fr + w - 1) (bitsOp .or .i64 (x.getD (w - 1) 0) 2) = inF c fr w (neg2 x) := by
   unfold inF neg2
   rw [List.set_append_left _ _ (by simp [hx]; omega), List.set_append_right _ _ (by simp; omega), hl, show fr + w - 1 - fr = w - 1 by omega, hx]
  rw [← e]
  simp [E, cI, List.map_set]
end
section
variable [Vs.Tab 0 Vs.powP]
attribute [local irreducible] Vs.Fn
theorem punchO (c : List Int) (fr w : Nat) (n : Int) (hc : c.length ≤ 1048576) (hf : fr + w ≤ c.length) (hw0 : 0 < w) (h0 : -1000000000000 ≤ n) (h1 : n ≤ 1000000000000) : Vs.Fn Tryd.prog F.i_punchNumber [] [.agg (cC c), .agg [.v (.int .i64 (fr : Nat)), .v (.int .i64 (fr + w : Nat))], .v (.int .i64 n)] (.agg [.loc (.b 0) 0 c.length]) [some (.arr 1 (E cI (inF c fr w (pt w n))) false)] := by
 rcases Int.lt_or_le n 0 with hneg | hneg
 ·have hd0 : decide (n < 0) = true := decide_eq_true (by omega)
  have hpt : pt w n = neg2 (pd w n.natAbs) := by unfold pt; rw [if_pos (by omega)]
  have hwm : IntKind.i64.wrap (((fr + w : Nat) : Int) - 1) = ((fr + w : Nat) : Int) - 1 := wrap_in (by omega) (by omega)
  rw [hpt]
  refine Cd.i_punchNumber_k.o.fn Tryd.mixed (hin := []) 45 _ [.t 11 0] [.arr 1 (E cI (inF c fr w (neg2 (pd w n.natAbs)))) false] Cd.i_punchNumber_k.n Cd.i_punchNumber_k.r rfl (by simp) rfl (by simp) fun X => ?_
  unfold Cd.i_punchNumber
  simp -dsimp only [go_sem, cC]
  refine CallK.own (newCardO c hc) rfl ?_
  simp -dsimp only [go_sem, cC]
  refine CallK.flat (absOf n (by omega) (by omega)) rfl ?_
  simp -dsimp only [go_sem, cC, hwm]
  refine LoopK.at dM (X := { zz : Nat × Nat × List Int // zz.1 ≤ w ∧ zz.2.2.length = w - zz.1 ∧ zz.2.1 = n.natAbs / 10 ^ (w - zz.1) ∧ pd zz.1 zz.2.1 ++ zz.2.2 = pd w n.natAbs }) (fun zz => [(8, .v (.int .i64 (zz.1.2.1 : Nat))), (9, .v (.int .i64 (((fr + zz.1.1 : Nat) : Int) - 1)))]) (fun zz => [(.t 11 0, .arr 1 (E cI (rowP c fr w zz.1.1 zz.1.2.2)) false)]) (fun zz => zz.1.1) ⟨(w, n.natAbs, []), Nat.le_refl _, by simp, by simp, by simp⟩ ?_ ?_
  ·simp [Vs.LeL, Vs.look, Vs.hlook, Vs.sput, Vs.sputs, Vs.hset, Vs.hputs, rowP_top]
  ·rintro ⟨⟨j1, k, done⟩, hj, hd, hk, hg⟩
   dsimp only at hj hd hk hg
   simp -dsimp only [go_sem, hd0]
   refine Br.mk (fun hc2 => ?_) fun hc2 => ?_
   ·obtain ⟨j, rfl⟩ : ∃ j, j1 = j + 1 := ⟨j1 - 1, by simp at hc2; omega⟩
    have e1 : (((fr + (j + 1) : Nat) : Int) - 1) = ((fr + j : Nat) : Int) := by omega
    have hwj : IntKind.i64.wrap (((fr + j : Nat) : Int) - 1) = ((fr + j : Nat) : Int) - 1 := wrap_in (by omega) (by omega)
    have hkb : k ≤ 1000000000000 := by rw [hk]; exact Nat.le_trans (Nat.div_le_self _ _) (by omega)
    have hkd : k / 10 = n.natAbs / 10 ^ (w - j) := by rw [hk, div_pow, show w - (j + 1) + 1 = w - j by omega]
    have q1 : ((k : Int)).tmod 10 = ((k % 10 : Nat) : Int) := by rw [Int.tmod_eq_emod_of_nonneg (by omega)]; omega
    have q2 : IntKind.i64.wrap (((k : Int)).tdiv 10) = ((k / 10 : Nat) : Int) := by rw [Int.tdiv_eq_ediv_of_nonneg (by omega), wrap_in (by omega) (by omega)]; omega
    have hlr : (rowP c fr w (j + 1) done).length = c.length := rowP_len hf hj (by omega)
    have hgs := rowP_set hf (show j < w by omega) (bitN (k % 10)) (done := done)
    obtain ⟨y, hgr⟩ : ∃ y, (E cI (rowP c fr w (j + 1) done)).getD (fr + j) [] = [.v (.int .i64 y)] := ⟨_, cI_get (by omega)⟩
    rw [pd, List.append_assoc] at hg
    repeat' first|simp -dsimp only [go_sem, e1, hgr, hgs, hwj, q1, q2, hlr, E_len, Int.toNat_natCast]|apply Br.mk<;>intro h<;>try simp -dsimp only[h]|refine CallK.c (by first|exact bitOf (k % 10) (by omega)) ?_|refine aC ?_|fail
    all_goals (exact ⟨⟨(j, k / 10, bitN (k % 10) :: done), by omega, by simp only [List.length_cons]; omega, hkd, hg⟩, by simp [Vs.LeL, Vs.look, Vs.hlook, Vs.sput, Vs.sputs, Vs.hset, Vs.hputs], by simp only; omega⟩)
   ·have hz : j1 = 0 := by simp at hc2; omega
    subst hz
    have hdone : done = pd w n.natAbs := by simpa [pd] using hg
    subst hdone
    have hlen := pd_len w n.natAbs
    obtain ⟨ing, ins⟩ := inF_neg hf hlen hw0
    have inl := inF_len hf hlen
    have hl1 : IntKind.i64.wrap (((fr + w : Nat) : Int) - 1) = ((fr + w - 1 : Nat) : Int) := by rw [wrap_in (by omega) (by omega)]; omega
    simp -dsimp only [go_sem, hd0, rowP_zero]
    refine ⟨RgK.mk rfl ?_, fun h => h rfl⟩
    repeat' first|simp -dsimp only [go_sem, hl1, E_len, inl, Int.toNat_natCast, rowP_zero, ing, ins]|apply Br.mk<;>intro h<;>try simp -dsimp only[h]|refine CallK.c (by first|exact bitOf11) ?_|refine aC ?_|fail
    all_goals exact ⟨_, _, rfl, rfl⟩
 ·have hd0 : decide (n < 0) = false := decide_eq_false (by omega)
  have hpt : pt w n = pd w n.natAbs := by unfold pt; rw [if_neg (by omega)]
  have hwm : IntKind.i64.wrap (((fr + w : Nat) : Int) - 1) = ((fr + w : Nat) : Int) - 1 := wrap_in (by omega) (by omega)
  rw [hpt]
  refine Cd.i_punchNumber_k.o.fn Tryd.mixed (hin := []) 45 _ [.t 11 0] [.arr 1 (E cI (inF c fr w (pd w n.natAbs))) false] Cd.i_punchNumber_k.n Cd.i_punchNumber_k.r rfl (by simp) rfl (by simp) fun X => ?_
  unfold Cd.i_punchNumber
  simp -dsimp only [go_sem, cC]
  refine CallK.own (newCardO c hc) rfl ?_
  simp -dsimp only [go_sem, cC]
  refine CallK.flat (absOf n (by omega) (by omega)) rfl ?_
  simp -dsimp only [go_sem, cC, hwm]
  refine LoopK.at dM (X := { zz : Nat × Nat × List Int // zz.1 ≤ w ∧ zz.2.2.length = w - zz.1 ∧ zz.2.1 = n.natAbs / 10 ^ (w - zz.1) ∧ pd zz.1 zz.2.1 ++ zz.2.2 = pd w n.natAbs }) (fun zz => [(8, .v (.int .i64 (zz.1.2.1 : Nat))), (9, .v (.int .i64 (((fr + zz.1.1 : Nat) : Int) - 1)))]) (fun zz => [(.t 11 0, .arr 1 (E cI (rowP c fr w zz.1.1 zz.1.2.2)) false)]) (fun zz => zz.1.1) ⟨(w, n.natAbs, []), Nat.le_refl _, by simp, by simp, by simp⟩ ?_ ?_
  ·simp [Vs.LeL, Vs.look, Vs.hlook, Vs.sput, Vs.sputs, Vs.hset, Vs.hputs, rowP_top]
  ·rintro ⟨⟨j1, k, done⟩, hj, hd, hk, hg⟩
   dsimp only at hj hd hk hg
   simp -dsimp only [go_sem, hd0]
   refine Br.mk (fun hc2 => ?_) fun hc2 => ?_
   ·obtain ⟨j, rfl⟩ : ∃ j, j1 = j + 1 := ⟨j1 - 1, by simp at hc2; omega⟩
    have e1 : (((fr + (j + 1) : Nat) : Int) - 1) = ((fr + j : Nat) : Int) := by omega
    have hwj : IntKind.i64.wrap (((fr + j : Nat) : Int) - 1) = ((fr + j : Nat) : Int) - 1 := wrap_in (by omega) (by omega)
    have hkb : k ≤ 1000000000000 := by rw [hk]; exact Nat.le_trans (Nat.div_le_self _ _) (by omega)
    have hkd : k / 10 = n.natAbs / 10 ^ (w - j) := by rw [hk, div_pow, show w - (j + 1) + 1 = w - j by omega]
    have q1 : ((k : Int)).tmod 10 = ((k % 10 : Nat) : Int) := by rw [Int.tmod_eq_emod_of_nonneg (by omega)]; omega
    have q2 : IntKind.i64.wrap (((k : Int)).tdiv 10) = ((k / 10 : Nat) : Int) := by rw [Int.tdiv_eq_ediv_of_nonneg (by omega), wrap_in (by omega) (by omega)]; omega
    have hlr : (rowP c fr w (j + 1) done).length = c.length := rowP_len hf hj (by omega)
    have hgs := rowP_set hf (show j < w by omega) (bitN (k % 10)) (done := done)
    obtain ⟨y, hgr⟩ : ∃ y, (E cI (rowP c fr w (j + 1) done)).getD (fr + j) [] = [.v (.int .i64 y)] := ⟨_, cI_get (by omega)⟩
    rw [pd, List.append_assoc] at hg
    repeat' first|simp -dsimp only [go_sem, e1, hgr, hgs, hwj, q1, q2, hlr, E_len, Int.toNat_natCast]|apply Br.mk<;>intro h<;>try simp -dsimp only[h]|refine CallK.c (by first|exact bitOf (k % 10) (by omega)) ?_|refine aC ?_|fail
    all_goals (exact ⟨⟨(j, k / 10, bitN (k % 10) :: done), by omega, by simp only [List.length_cons]; omega, hkd, hg⟩, by simp [Vs.LeL, Vs.look, Vs.hlook, Vs.sput, Vs.sputs, Vs.hset, Vs.hputs], by simp only; omega⟩)
   ·have hz : j1 = 0 := by simp at hc2; omega
    subst hz
    have hdone : done = pd w n.natAbs := by simpa [pd] using hg
    subst hdone
    have hlen := pd_len w n.natAbs
    obtain ⟨ing, ins⟩ := inF_neg hf hlen hw0
    have inl := inF_len hf hlen
    have hl1 : IntKind.i64.wrap (((fr + w : Nat) : Int) - 1) = ((fr + w - 1 : Nat) : Int) := by rw [wrap_in (by omega) (by omega)]; omega
    simp -dsimp only [go_sem, hd0, rowP_zero]
    exact ⟨⟨_, _, rfl, rfl⟩, fun h => h rfl⟩
end
end Go.Proofs.YtimcedhcefcbbaaDoor
