/- CalculateDeck: what it gives. -/
import Derived.Test.YtimcedhcefcbbaaDoorVsD
import Derived.Test.YtimcedhcefcbbaaDoorTwXj
import Derived.Test.YtimcedhcefcbbaaDoorTwZa
import Derived.Test.YtimcedhcefcbbaaDoorTwS
import Derived.Test.YtimcedhcefcbbaaDoorTwK
import Derived.Test.YtimcedhcefcbbaaDoorTuB
set_option linter.all false
set_option maxHeartbeats 8000000
namespace Go.Proofs.YtimcedhcefcbbaaDoor
open Go.Vs
section
variable [Vs.Tab 0 Vs.powP]
attribute [local irreducible] Vs.Fn
theorem nnB_rng {n : Int} (h : nnB n = true) : -1000000000000 ≤ n ∧ n ≤ 1000000000000 := by
 simp only [nnB, inB, Bool.and_eq_true, decide_eq_true_eq] at h
 omega
theorem calT_rng {k a b : Int} (h : (calT k a b).2.2 = 0) : -1000000000000 ≤ (calT k a b).1 ∧ (calT k a b).1 ≤ 1000000000000 := by
 unfold calT at h ⊢
 by_cases h3 : k = 3
 ·rw [if_pos h3] at h ⊢
  rcases proT_cases a b with ⟨_, hn⟩ | hn
  ·exact nnB_rng hn
  ·rw [hn]; exact ⟨by decide, by decide⟩
 ·rw [if_neg h3] at h ⊢
  by_cases h4 : k = 4
  ·rw [if_pos h4] at h ⊢
   rcases quoT_cases a b with ⟨_, hn⟩ | ⟨hn, _⟩
   ·exact nnB_rng hn
   ·rw [hn]; exact ⟨by decide, by decide⟩
  ·rw [if_neg h4] at h ⊢
   generalize (if k = 2 then W (a - b) else W (a + b)) = z
   split
   ·split
    ·exact nnB_rng (by assumption)
    ·exact ⟨by decide, by decide⟩
   ·exact ⟨by decide, by decide⟩
theorem calR_rng {k : Int} {p q : Int × Int} {c : List Int} (h : (calR k p q c).2.2 = 0) : -1000000000000 ≤ (calR k p q c).1 ∧ (calR k p q c).1 ≤ 1000000000000 := by
 unfold calR at h ⊢
 split at h
 ·rw [if_pos (by assumption)]; exact calT_rng h
 ·rw [if_neg (by assumption)]; exact ⟨by decide, by decide⟩
def clash (fr w : Nat) (c : List Int) : Bool := ((c.take (fr + w)).drop fr).any fun x => x != 0
def cdC (k : Int) (p q : Int × Int) (fr w : Nat) (c : List Int) : Int :=
 if (calR k p q c).2.2 = 0 then (if (calR k p q c).1.natAbs / 10 ^ w = 0 then (if clash fr w c then 9 else 0) else 5) else (calR k p q c).2.2
def cdH (k : Int) (p q : Int × Int) (fr w : Nat) (c : List Int) : List Int := inF c fr w (pt w (calR k p q c).1)
theorem nDig_gt {n w : Nat} (hw : 0 < w) : decide ((Lib.nDigits n : Int) > (w : Int)) = !decide (n / 10 ^ w = 0) := by
 have h1 : n / 10 ^ w = 0 ↔ n < 10 ^ w := by
  rw [Nat.div_eq_zero_iff]
  have : 0 < 10 ^ w := Nat.pow_pos (by omega)
  omega
 have h2 : n < 10 ^ w ↔ Lib.nDigits n ≤ w := by
  constructor
  ·intro h
   have key : ∀ (k m : Nat), m < 10 ^ (k + 1) → Lib.nDigits m ≤ k + 1 := by
    intro k
    induction k with
    | zero => intro m hm; rw [Lib.nDigits_small (by simpa using hm)]; omega
    | succ k ih =>
     intro m hm
     by_cases h : m < 10
     ·rw [Lib.nDigits_small h]; omega
     ·rw [Lib.nDigits_big h]
      have := ih (m / 10) (by rw [Nat.pow_succ] at hm; omega)
      omega
   obtain ⟨k, rfl⟩ : ∃ k, w = k + 1 := ⟨w - 1, by omega⟩
   exact key k n h
  ·intro h
   exact Nat.lt_of_lt_of_le (Lib.lt_pow_nDigits n) (Nat.pow_le_pow_right (by omega) h)
 by_cases h : n / 10 ^ w = 0
 ·have := h2.1 (h1.1 h)
  simp [h]; omega
 ·have : ¬ Lib.nDigits n ≤ w := fun h' => h (h1.2 (h2.2 h'))
  simp [h]; omega
theorem calcd1 (x : Int) : Vs.Fn Tryd.prog F.i_calculatedCard_1 [] [.v (.int .i64 x)] (.v (.bool (x != 0))) [] := by
 refine fn0 Cd.i_calculatedCard_1_k fun X => ?_
 repeat' first|simp -dsimp only [go_sem]|apply Br.mk<;>intro h<;>try simp -dsimp only[h]|refine aC ?_|fail
 all_goals (simp_all)
theorem idxCl (l : List Int) (hl : l.length ≤ 1048576) : Vs.Fn Tryd.prog F.ixf_int64 [] [.sl 1 (E cI l), .fn F.i_calculatedCard_1 []] (.v (.int .i64 (idxP (fun x => x != 0) l))) [] :=
 ixI_fn Tryd.mixed Cd.ixf_int64_k.o Cd.ixf_int64_k.n Cd.ixf_int64_k.r rfl (fun x => x != 0) F.i_calculatedCard_1 [] rfl (fun x hx => calcd1 x) hl
theorem conCl (l : List Int) (hl : l.length ≤ 1048576) : Vs.Fn Tryd.prog F.ctf_int64 [] [.sl 1 (E cI l), .fn F.i_calculatedCard_1 []] (.v (.bool (l.any (fun x => x != 0)))) [] :=
 ct_fn Tryd.mixed (g := F.ixf_int64) Cd.ctf_int64_k.o Cd.ctf_int64_k.n Cd.ctf_int64_k.r rfl (fun x => x != 0) F.i_calculatedCard_1 [] rfl (idxCl l hl)
theorem calcCard0 (k : Int) (p q : Int × Int) (fr w : Nat) (c : List Int) (hk : inB k 1 4 = true) (hp : okP p.1 p.2 c) (hq : okP q.1 q.2 c) (hf : fr + w ≤ c.length) (hw0 : 0 < w) (hw12 : w ≤ 12) (hc20 : c.length ≤ 20) (h0 : cdC k p q fr w c ≠ 0) : Vs.Fn Tryd.prog F.i_calculatedCard [] [.v (.int .i64 k), .agg (cC c), .agg (cPf p), .agg (cPf q), .agg [.v (.int .i64 (fr : Nat)), .v (.int .i64 (fr + w : Nat))]] (.tup [.agg [.v (.slice none 0 0)], .v (.int .i64 (cdC k p q fr w c))]) [] := by
 have hww : IntKind.i64.wrap (((fr + w : Nat) : Int) - (fr : Int)) = (w : Int) := by rw [wrap_in (by omega) (by omega)]; omega
 have hE : List.drop fr (List.take (fr + w) (E cI c)) = E cI ((c.take (fr + w)).drop fr) := by simp [E, List.map_take, List.map_drop]
 have hcl : ((c.take (fr + w)).drop fr).length ≤ 1048576 := by simp; omega
 by_cases hr : (calR k p q c).2.2 = 0
 ·have hrg := calR_rng hr
  have hr0 : -9223372036854775807 ≤ (calR k p q c).1 := by omega
  have hr1 : (calR k p q c).1 ≤ 9223372036854775807 := by omega
  have hnn : (calR k p q c).1.natAbs < 2 ^ 63 := by omega
  have hz0 : ((calR k p q c).2.2 != 0) = false := by simp [hr]
  have hgt := nDig_gt (n := (calR k p q c).1.natAbs) hw0
  by_cases hd : (calR k p q c).1.natAbs / 10 ^ w = 0
  ·have hcl9 : clash fr w c = true := by
    cases h : clash fr w c
    ·exact absurd (by simp [cdC, hr, hd, h]) h0
    ·rfl
   have hC : cdC k p q fr w c = 9 := by simp [cdC, hr, hd, hcl9]
   rw [hC]
   have hd2 : (!decide ((calR k p q c).1.natAbs / 10 ^ w = 0)) = false := by simp [hd]
   rw [hd2] at hgt
   unfold clash at hcl9
   refine fn0 Cd.i_calculatedCard_k fun X => ?_
   simp -dsimp only [go_sem, cC, cPf, cFd]
   repeat' first|simp -dsimp only [go_sem, cC, cPf, cFd, cT3, hww, hE, Int.toNat_natCast, List.length_take, List.length_drop, E_len, hz0, hgt, hcl9]|apply Br.mk<;>intro h<;>try simp -dsimp only[h]|refine CallK.c (by first|exact calculated k hk p q c hp hq|exact absOf _ hr0 hr1|exact digitsOf _ hnn|exact conCl _ hcl) ?_|refine aC ?_|fail
   all_goals exact ⟨_, _, rfl, rfl⟩
  ·have hC : cdC k p q fr w c = 5 := by simp [cdC, hr, hd]
   rw [hC]
   have hd2 : (!decide ((calR k p q c).1.natAbs / 10 ^ w = 0)) = true := by simp [hd]
   rw [hd2] at hgt
   refine fn0 Cd.i_calculatedCard_k fun X => ?_
   simp -dsimp only [go_sem, cC, cPf, cFd]
   repeat' first|simp -dsimp only [go_sem, cC, cPf, cFd, cT3, hww, hE, Int.toNat_natCast, List.length_take, List.length_drop, E_len, hz0, hgt]|apply Br.mk<;>intro h<;>try simp -dsimp only[h]|refine CallK.c (by first|exact calculated k hk p q c hp hq|exact absOf _ hr0 hr1|exact digitsOf _ hnn|exact conCl _ hcl) ?_|refine aC ?_|fail
   all_goals exact ⟨_, _, rfl, rfl⟩
 ·have hC : cdC k p q fr w c = (calR k p q c).2.2 := by simp [cdC, hr]
  rw [hC]
  have hz0 : ((calR k p q c).2.2 != 0) = true := by simp [hr]
  refine fn0 Cd.i_calculatedCard_k fun X => ?_
  simp -dsimp only [go_sem, cC, cPf, cFd]
  repeat' first|simp -dsimp only [go_sem, cC, cPf, cFd, cT3, hww, hE, Int.toNat_natCast, List.length_take, List.length_drop, E_len, hz0]|apply Br.mk<;>intro h<;>try simp -dsimp only[h]|refine CallK.c (by first|exact calculated k hk p q c hp hq) ?_|refine aC ?_|fail
  all_goals exact ⟨_, _, rfl, rfl⟩
theorem cdC_zero {k : Int} {p q : Int × Int} {fr w : Nat} {c : List Int} (h : cdC k p q fr w c = 0) : (calR k p q c).2.2 = 0 ∧ (calR k p q c).1.natAbs / 10 ^ w = 0 ∧ clash fr w c = false := by
 unfold cdC at h
 split at h
 ·split at h
  ·split at h
   ·cases h
   ·exact ⟨by assumption, by assumption, by simpa using (by assumption : ¬ clash fr w c = true)⟩
  ·cases h
 ·exact absurd h (by assumption)
theorem calcCard1 (k : Int) (p q : Int × Int) (fr w : Nat) (c : List Int) (hk : inB k 1 4 = true) (hp : okP p.1 p.2 c) (hq : okP q.1 q.2 c) (hf : fr + w ≤ c.length) (hw0 : 0 < w) (hw12 : w ≤ 12) (hc20 : c.length ≤ 20) (h0 : cdC k p q fr w c = 0) : Vs.Fn Tryd.prog F.i_calculatedCard [] [.v (.int .i64 k), .agg (cC c), .agg (cPf p), .agg (cPf q), .agg [.v (.int .i64 (fr : Nat)), .v (.int .i64 (fr + w : Nat))]] (.tup [.agg [.loc (.b 0) 0 c.length], .v (.int .i64 0)]) [some (.arr 1 (E cI (cdH k p q fr w c)) false)] := by
 have hww : IntKind.i64.wrap (((fr + w : Nat) : Int) - (fr : Int)) = (w : Int) := by rw [wrap_in (by omega) (by omega)]; omega
 have hE : List.drop fr (List.take (fr + w) (E cI c)) = E cI ((c.take (fr + w)).drop fr) := by simp [E, List.map_take, List.map_drop]
 have hcl : ((c.take (fr + w)).drop fr).length ≤ 1048576 := by simp; omega
 obtain ⟨hr, hd, hcl9⟩ := cdC_zero h0
 unfold clash at hcl9
 have hrg := calR_rng hr
 have hr0 : -9223372036854775807 ≤ (calR k p q c).1 := by omega
 have hr1 : (calR k p q c).1 ≤ 9223372036854775807 := by omega
 have hnn : (calR k p q c).1.natAbs < 2 ^ 63 := by omega
 have hz0 : ((calR k p q c).2.2 != 0) = false := by simp [hr]
 have hgt := nDig_gt (n := (calR k p q c).1.natAbs) hw0
 have hd2 : (!decide ((calR k p q c).1.natAbs / 10 ^ w = 0)) = false := by simp [hd]
 rw [hd2] at hgt
 refine Cd.i_calculatedCard_k.o.fn Tryd.mixed (hin := []) 54 _ [.t 53 0] [.arr 1 (E cI (cdH k p q fr w c)) false] Cd.i_calculatedCard_k.n Cd.i_calculatedCard_k.r rfl (by simp) rfl (by simp) fun X => ?_
 unfold Cd.i_calculatedCard
 simp -dsimp only [go_sem, cC, cPf, cFd]
 repeat' first|simp -dsimp only [go_sem, cC, cPf, cFd, cT3, hww, hE, Int.toNat_natCast, List.length_take, List.length_drop, E_len, hz0, hgt, hcl9]|apply Br.mk<;>intro h<;>try simp -dsimp only[h]|refine CallK.c (by first|exact calculated k hk p q c hp hq|exact absOf _ hr0 hr1|exact digitsOf _ hnn|exact conCl _ hcl) ?_|refine aC ?_|fail
 refine CallK.own (punchO c fr w _ (by omega) hf hw0 hrg.1 hrg.2) rfl ?_
 simp -dsimp only [go_sem, cC, cPf, cFd, cT3, hww, hE, Int.toNat_natCast, List.length_take, List.length_drop, E_len]
 exact ⟨_, _, rfl, rfl⟩
end
section
variable [Vs.Tab 0 Vs.powP]
attribute [local irreducible] Vs.Fn
def rowQ (c : List Int) (fr : Nat) (x : List Int) (i : Nat) : List Int := c.take fr ++ x.take i ++ c.drop (fr + i)
theorem rowQ_len {c : List Int} {fr i : Nat} {x : List Int} (h : fr + x.length ≤ c.length) (hi : i ≤ x.length) : (rowQ c fr x i).length = c.length := by
 simp [rowQ]; omega
theorem rowQ_zero {c : List Int} {fr : Nat} {x : List Int} : rowQ c fr x 0 = c := by simp [rowQ]
theorem rowQ_all {c : List Int} {fr w : Nat} {x : List Int} (hx : x.length = w) : rowQ c fr x w = inF c fr w x := by
 unfold rowQ inF
 have e : x.take w = x := List.take_of_length_le (by omega)
 rw [e]
theorem rowQ_get {c : List Int} {fr i : Nat} {x : List Int} (h : fr + x.length ≤ c.length) (hi : i < x.length) : (E cI (rowQ c fr x i)).getD (fr + i) [] = [.v (.int .i64 (c[fr + i]'(by omega)))] := by
 rw [E_get (by rw [rowQ_len h (by omega)]; omega)]
 have e : (rowQ c fr x i)[fr + i]'(by rw [rowQ_len h (by omega)]; omega) = c[fr + i]'(by omega) := by
  unfold rowQ
  rw [List.getElem_append_right (by simp; omega)]
  have hl : (c.take fr ++ x.take i).length = fr + i := by simp; omega
  simp only [hl, Nat.sub_self]
  simp
 rw [e]; rfl
theorem rowQ_set {c : List Int} {fr i : Nat} {x : List Int} (h : fr + x.length ≤ c.length) (hi : i < x.length) : (E cI (rowQ c fr x i)).set (fr + i) [.v (.int .i64 x[i])] = E cI (rowQ c fr x (i + 1)) := by
 have e : (rowQ c fr x i).set (fr + i) x[i] = rowQ c fr x (i + 1) := by
  unfold rowQ
  have hl : (c.take fr ++ x.take i).length = fr + i := by simp; omega
  rw [List.set_append_right _ _ (by omega), hl, Nat.sub_self, List.drop_eq_getElem_cons (show fr + i < c.length by omega), List.set_cons_zero, take_succ hi, show fr + (i + 1) = fr + i + 1 by omega]
  simp only [List.append_assoc, List.cons_append, List.nil_append]
 rw [← e]
 simp [E, cI, List.map_set]
theorem clash_succ {c : List Int} {fr i : Nat} (h : fr + i < c.length) : ((c.take (fr + (i + 1))).drop fr).any (fun x => x != 0) = (((c.take (fr + i)).drop fr).any (fun x => x != 0) || c[fr + i] != 0) := by
 rw [show fr + (i + 1) = fr + i + 1 by omega, take_succ h, List.drop_append_of_le_length (by simp; omega), List.any_append]
 simp
theorem clash_mem {c : List Int} {fr w i : Nat} (hf : fr + w ≤ c.length) (hi : i < w) (h : (c[fr + i]'(by omega) != 0) = true) : clash fr w c = true := by
 unfold clash
 have hl : i < ((c.take (fr + w)).drop fr).length := by simp; omega
 refine List.any_eq_true.2 ⟨((c.take (fr + w)).drop fr)[i], List.getElem_mem hl, ?_⟩
 simpa using h
set_option maxRecDepth 20000 in
theorem l14Card0 (k : Int) (p q : Int × Int) (fr w : Nat) (c : List Int) (hp : okP p.1 p.2 c) (hq : okP q.1 q.2 c) (hf : fr + w ≤ c.length) (hw0 : 0 < w) (hw12 : w ≤ 12) (hc20 : c.length ≤ 20) (h0 : cdC k p q fr w c ≠ 0) : Vs.Fn Tryd.prog F.s_l14Card [] [.v (.int .i64 k), .ro (cC c), .agg (cPf p), .agg (cPf q), .agg [.v (.int .i64 (fr : Nat)), .v (.int .i64 (fr + w : Nat))]] (.tup [.agg [.v (.slice none 0 0)], .v (.int .i64 0), .v (.int .i64 (cdC k p q fr w c))]) [] := by
 have hww : IntKind.i64.wrap (((fr + w : Nat) : Int) - (fr : Int)) = (w : Int) := by rw [wrap_in (by omega) (by omega)]; omega
 have hc : c.length ≤ 1048576 := by omega
 cases hb : (numC p.1 p.2 c).2 && (numC q.1 q.2 c).2
 ·have er : rdT p q c = (0, 0, 8) := by simp [rdT, hb]
  have hC : cdC k p q fr w c = 8 := by simp [cdC, calR, hb]
  have e8 : ((8 : Int) != 0) = true := rfl
  rw [hC]
  refine fn0 Cd.s_l14Card_k fun X => ?_
  simp -dsimp only [go_sem, cC, cPf, cFd]
  repeat' first|simp -dsimp only [go_sem, cC, cPf, cFd, cT3, hww, Int.toNat_natCast, E_len, Bool.not_true, Bool.not_false, er, e8]|apply Br.mk<;>intro h<;>try simp -dsimp only[h]|refine CallK.c (by first|exact l14Read p q c hp hq|exact l14Do k _ _) ?_|refine aC ?_|fail
  all_goals exact ⟨_, _, rfl, rfl⟩
 ·have er : rdT p q c = ((numC p.1 p.2 c).1, (numC q.1 q.2 c).1, 0) := by simp [rdT, hb]
  have ec : calR k p q c = (calT k (numC p.1 p.2 c).1 (numC q.1 q.2 c).1) := by simp [calR, hb]
  by_cases hz : (calT k (numC p.1 p.2 c).1 (numC q.1 q.2 c).1).2.2 = 0
  ·have hz0 : ((calT k (numC p.1 p.2 c).1 (numC q.1 q.2 c).1).2.2 != 0) = false := by simp [hz]
   have hrg := calT_rng hz
   by_cases hd : (calT k (numC p.1 p.2 c).1 (numC q.1 q.2 c).1).1.natAbs / 10 ^ w = 0
   ·have hcl : clash fr w c = true := by
     cases h : clash fr w c
     ·exact absurd (by simp [cdC, ec, hz, hd, h]) h0
     ·rfl
    have hC : cdC k p q fr w c = 9 := by simp [cdC, ec, hz, hd, hcl]
    rw [hC]
    have hd2 : ((((calT k (numC p.1 p.2 c).1 (numC q.1 q.2 c).1).1.natAbs / 10 ^ w : Nat) : Int) == 0) = true := beq_iff_eq.2 (by omega)
    have hxl : (pt w (calT k (numC p.1 p.2 c).1 (numC q.1 q.2 c).1).1).length = w := pt_len _ _
    refine fn0 Cd.s_l14Card_k fun X => ?_
    simp -dsimp only [go_sem, cC, cPf, cFd]
    repeat' first|simp -dsimp only [go_sem, cC, cPf, cFd, cT3, hww, Int.toNat_natCast, E_len, Bool.not_true, Bool.not_false, er, hz0, hd2]|apply Br.mk<;>intro h<;>try simp -dsimp only[h]|refine CallK.c (by first|exact l14Read p q c hp hq|exact l14Do k _ _|exact l03Put (calT k (numC p.1 p.2 c).1 (numC q.1 q.2 c).1).1 w hrg.1 hrg.2 hw0 (by omega)) ?_|refine aC ?_|fail
    refine CallK.own (l02OwnO c hc) rfl ?_
    simp -dsimp only [go_sem, cC, cPf, cFd, cT3, hww, Int.toNat_natCast, E_len, Bool.not_true, Bool.not_false]
    refine LoopK.at dM (X := { zz : Nat × (Unit) // zz.1 ≤ w ∧ ((c.take (fr + zz.1)).drop fr).any (fun x => x != 0) = false }) (fun zz => [(22, .v (.int .i64 zz.1.1))]) (fun zz => [(.t 62 0, .arr 1 (E cI (rowQ c fr (pt w (calT k (numC p.1 p.2 c).1 (numC q.1 q.2 c).1).1) zz.1.1)) false)]) (fun zz => w - zz.1.1) ⟨(0, ()), by omega, by simp⟩ ?_ ?_
    ·simp [Vs.LeL, Vs.look, Vs.hlook, Vs.sput, Vs.sputs, Vs.hset, Vs.hputs, rowQ_zero]
    ·rintro ⟨⟨i, _⟩, hi, hg⟩
     dsimp only at hi hg
     simp -dsimp only [go_sem, E_len, hxl]
     refine Br.mk (fun hc => ?_) fun hc => ?_
     ·have hlt : i < w := Dq
      have hw := wrap_succ hlt (by omega)
      have hix : i < (pt w (calT k (numC p.1 p.2 c).1 (numC q.1 q.2 c).1).1).length := by rw [hxl]; exact hlt
      have hci : fr + i < c.length := by omega
      have hlr : (rowQ c fr (pt w (calT k (numC p.1 p.2 c).1 (numC q.1 q.2 c).1).1) i).length = c.length := rowQ_len (by omega) (by omega)
      have hgr := rowQ_get (c := c) (fr := fr) (x := (pt w (calT k (numC p.1 p.2 c).1 (numC q.1 q.2 c).1).1)) (i := i) (by omega) hix
      have hgs := rowQ_set (c := c) (fr := fr) (x := (pt w (calT k (numC p.1 p.2 c).1 (numC q.1 q.2 c).1).1)) (i := i) (by omega) hix
      have hgx : (E cI (pt w (calT k (numC p.1 p.2 c).1 (numC q.1 q.2 c).1).1)).getD i [] = [.v (.int .i64 (pt w (calT k (numC p.1 p.2 c).1 (numC q.1 q.2 c).1).1)[i])] := cI_get hix
      have hwi : IntKind.i64.wrap ((fr : Int) + (i : Int)) = ((fr + i : Nat) : Int) := by rw [wrap_in (by omega) (by omega)]; omega
      cases hnz : (c[fr + i] != 0)
      ·have hg2 : ((c.take (fr + (i + 1))).drop fr).any (fun x => x != 0) = false := by rw [clash_succ hci, hg, hnz]; rfl
       repeat' first|simp -dsimp only [go_sem, cC, cPf, cFd, cT3, hww, Int.toNat_natCast, E_len, Bool.not_true, Bool.not_false, hgr, hgs, hgx, hwi, hnz, hlr, hw]|apply Br.mk<;>intro h<;>try simp -dsimp only[h]|refine aC ?_|fail
       all_goals (exact ⟨⟨(i + 1, ()), hlt, hg2⟩, by simp [Vs.LeL, Vs.look, Vs.hlook, Vs.sput, Vs.sputs, Vs.hset, Vs.hputs], by simp only; omega⟩)
      ·simp -dsimp only [go_sem, cC, cPf, cFd, cT3, hww, Int.toNat_natCast, E_len, Bool.not_true, Bool.not_false, hgr, hgs, hgx, hwi, hnz, hlr, hw]
       repeat' first|simp -dsimp only [go_sem, cC, cPf, cFd, cT3, hww, Int.toNat_natCast, E_len, Bool.not_true, Bool.not_false, hgr, hgs, hgx, hwi, hnz, hlr, hw]|apply Br.mk<;>intro h<;>try simp -dsimp only[h]|refine aC ?_|fail
       all_goals exact ⟨_, _, rfl, rfl⟩
     ·have hge : i = w := by
       have : ¬ i < w := Dq
       omega
      subst hge
      simp -dsimp only [go_sem, E_len, hxl]
      exact absurd hcl (by unfold clash; rw [hg]; decide)
   ·have hC : cdC k p q fr w c = 5 := by simp [cdC, ec, hz, hd]
    rw [hC]
    have hd2 : ((((calT k (numC p.1 p.2 c).1 (numC q.1 q.2 c).1).1.natAbs / 10 ^ w : Nat) : Int) == 0) = false := beq_eq_false_iff_ne.2 (by omega)
    refine fn0 Cd.s_l14Card_k fun X => ?_
    simp -dsimp only [go_sem, cC, cPf, cFd]
    repeat' first|simp -dsimp only [go_sem, cC, cPf, cFd, cT3, hww, Int.toNat_natCast, E_len, Bool.not_true, Bool.not_false, er, hz0, hd2]|apply Br.mk<;>intro h<;>try simp -dsimp only[h]|refine CallK.c (by first|exact l14Read p q c hp hq|exact l14Do k _ _|exact l03Put (calT k (numC p.1 p.2 c).1 (numC q.1 q.2 c).1).1 w hrg.1 hrg.2 hw0 (by omega)) ?_|refine aC ?_|fail
    all_goals exact ⟨_, _, rfl, rfl⟩
  ·have hC : cdC k p q fr w c = (calT k (numC p.1 p.2 c).1 (numC q.1 q.2 c).1).2.2 := by simp [cdC, ec, hz]
   rw [hC]
   have hz0 : ((calT k (numC p.1 p.2 c).1 (numC q.1 q.2 c).1).2.2 != 0) = true := by simp [hz]
   refine fn0 Cd.s_l14Card_k fun X => ?_
   simp -dsimp only [go_sem, cC, cPf, cFd]
   repeat' first|simp -dsimp only [go_sem, cC, cPf, cFd, cT3, hww, Int.toNat_natCast, E_len, Bool.not_true, Bool.not_false, er, hz0]|apply Br.mk<;>intro h<;>try simp -dsimp only[h]|refine CallK.c (by first|exact l14Read p q c hp hq|exact l14Do k _ _) ?_|refine aC ?_|fail
   all_goals exact ⟨_, _, rfl, rfl⟩
end
section
variable [Vs.Tab 0 Vs.powP]
attribute [local irreducible] Vs.Fn
set_option maxRecDepth 20000 in
theorem l14Card1 (k : Int) (p q : Int × Int) (fr w : Nat) (c : List Int) (hp : okP p.1 p.2 c) (hq : okP q.1 q.2 c) (hf : fr + w ≤ c.length) (hw0 : 0 < w) (hw12 : w ≤ 12) (hc20 : c.length ≤ 20) (h0 : cdC k p q fr w c = 0) : Vs.Fn Tryd.prog F.s_l14Card [] [.v (.int .i64 k), .ro (cC c), .agg (cPf p), .agg (cPf q), .agg [.v (.int .i64 (fr : Nat)), .v (.int .i64 (fr + w : Nat))]] (.tup [.agg (cC (cdH k p q fr w c)), .v (.int .i64 (calR k p q c).2.1), .v (.int .i64 0)]) [] := by
 have hww : IntKind.i64.wrap (((fr + w : Nat) : Int) - (fr : Int)) = (w : Int) := by rw [wrap_in (by omega) (by omega)]; omega
 have hc : c.length ≤ 1048576 := by omega
 obtain ⟨hr, hd, hcl⟩ := cdC_zero h0
 have hb : ((numC p.1 p.2 c).2 && (numC q.1 q.2 c).2) = true := by
  cases h : (numC p.1 p.2 c).2 && (numC q.1 q.2 c).2
  ·exact absurd hr (by simp [calR, h])
  ·rfl
 have er : rdT p q c = ((numC p.1 p.2 c).1, (numC q.1 q.2 c).1, 0) := by simp [rdT, hb]
 have ec : calR k p q c = (calT k (numC p.1 p.2 c).1 (numC q.1 q.2 c).1) := by simp [calR, hb]
 unfold cdH
 rw [ec] at hr hd ⊢
 have hz0 : ((calT k (numC p.1 p.2 c).1 (numC q.1 q.2 c).1).2.2 != 0) = false := by simp [hr]
 have hrg := calT_rng hr
 have hd2 : ((((calT k (numC p.1 p.2 c).1 (numC q.1 q.2 c).1).1.natAbs / 10 ^ w : Nat) : Int) == 0) = true := beq_iff_eq.2 (by omega)
 have hxl : (pt w (calT k (numC p.1 p.2 c).1 (numC q.1 q.2 c).1).1).length = w := pt_len _ _
 refine fn0 Cd.s_l14Card_k fun X => ?_
 simp -dsimp only [go_sem, cC, cPf, cFd]
 repeat' first|simp -dsimp only [go_sem, cC, cPf, cFd, cT3, hww, Int.toNat_natCast, E_len, Bool.not_true, Bool.not_false, er, hz0, hd2]|apply Br.mk<;>intro h<;>try simp -dsimp only[h]|refine CallK.c (by first|exact l14Read p q c hp hq|exact l14Do k _ _|exact l03Put (calT k (numC p.1 p.2 c).1 (numC q.1 q.2 c).1).1 w hrg.1 hrg.2 hw0 (by omega)) ?_|refine aC ?_|fail
 refine CallK.own (l02OwnO c hc) rfl ?_
 simp -dsimp only [go_sem, cC, cPf, cFd, cT3, hww, Int.toNat_natCast, E_len, Bool.not_true, Bool.not_false]
 refine LoopK.at dM (X := { zz : Nat × (Unit) // zz.1 ≤ w ∧ ((c.take (fr + zz.1)).drop fr).any (fun x => x != 0) = false }) (fun zz => [(22, .v (.int .i64 zz.1.1))]) (fun zz => [(.t 62 0, .arr 1 (E cI (rowQ c fr (pt w (calT k (numC p.1 p.2 c).1 (numC q.1 q.2 c).1).1) zz.1.1)) false)]) (fun zz => w - zz.1.1) ⟨(0, ()), by omega, by simp⟩ ?_ ?_
 ·simp [Vs.LeL, Vs.look, Vs.hlook, Vs.sput, Vs.sputs, Vs.hset, Vs.hputs, rowQ_zero]
 ·rintro ⟨⟨i, _⟩, hi, hg⟩
  dsimp only at hi hg
  simp -dsimp only [go_sem, E_len, hxl]
  refine Br.mk (fun hc => ?_) fun hc => ?_
  ·have hlt : i < w := Dq
   have hw := wrap_succ hlt (by omega)
   have hix : i < (pt w (calT k (numC p.1 p.2 c).1 (numC q.1 q.2 c).1).1).length := by rw [hxl]; exact hlt
   have hci : fr + i < c.length := by omega
   have hlr : (rowQ c fr (pt w (calT k (numC p.1 p.2 c).1 (numC q.1 q.2 c).1).1) i).length = c.length := rowQ_len (by omega) (by omega)
   have hgr := rowQ_get (c := c) (fr := fr) (x := (pt w (calT k (numC p.1 p.2 c).1 (numC q.1 q.2 c).1).1)) (i := i) (by omega) hix
   have hgs := rowQ_set (c := c) (fr := fr) (x := (pt w (calT k (numC p.1 p.2 c).1 (numC q.1 q.2 c).1).1)) (i := i) (by omega) hix
   have hgx : (E cI (pt w (calT k (numC p.1 p.2 c).1 (numC q.1 q.2 c).1).1)).getD i [] = [.v (.int .i64 (pt w (calT k (numC p.1 p.2 c).1 (numC q.1 q.2 c).1).1)[i])] := cI_get hix
   have hwi : IntKind.i64.wrap ((fr : Int) + (i : Int)) = ((fr + i : Nat) : Int) := by rw [wrap_in (by omega) (by omega)]; omega
   cases hnz : (c[fr + i] != 0)
   ·have hg2 : ((c.take (fr + (i + 1))).drop fr).any (fun x => x != 0) = false := by rw [clash_succ hci, hg, hnz]; rfl
    repeat' first|simp -dsimp only [go_sem, cC, cPf, cFd, cT3, hww, Int.toNat_natCast, E_len, Bool.not_true, Bool.not_false, hgr, hgs, hgx, hwi, hnz, hlr, hw]|apply Br.mk<;>intro h<;>try simp -dsimp only[h]|refine aC ?_|fail
    all_goals (exact ⟨⟨(i + 1, ()), hlt, hg2⟩, by simp [Vs.LeL, Vs.look, Vs.hlook, Vs.sput, Vs.sputs, Vs.hset, Vs.hputs], by simp only; omega⟩)
   ·exact absurd (clash_mem hf hlt hnz) (by rw [hcl]; decide)
  ·have hge : i = w := by
    have : ¬ i < w := Dq
    omega
   subst hge
   simp -dsimp only [go_sem, E_len, hxl]
   rw [rowQ_all hxl]
   try simp -dsimp only [go_sem, cC, cPf, cFd, cT3, hww, Int.toNat_natCast, E_len, Bool.not_true, Bool.not_false]
   refine ⟨?_, fun h => h rfl⟩
   exact ⟨[.t 62 0], [], by rw [List.take_of_length_le (by rw [E_len, inF_len hf hxl]; exact Nat.le_refl _)], rfl⟩
end
section
variable [Vs.Tab 0 Vs.powP]
attribute [local irreducible] Vs.Fn
def ccW (t : Int × Int) : Nat := (t.2 - t.1).toNat
theorem okP_card {c : List Int} {fr to : Int} (hd : cardB c = true) (hn : numB fr to c.length = true) : okP fr to c := by
 simp only [cardB, inB, Bool.and_eq_true, List.all_eq_true, decide_eq_true_eq] at hd
 simp only [numB, fldB, Bool.and_eq_true, decide_eq_true_eq] at hn
 obtain ⟨⟨h1, h2, h3⟩, h4⟩ := hn
 obtain ⟨h5, h6, h7⟩ := hd
 have hw : W (to - fr) = to - fr := wrap_in (by omega) (by omega)
 rw [hw] at h4
 exact ⟨h1, h2, h3, h4, by omega, fun x hx => h5 x hx⟩
theorem card20 {c : List Int} (hd : cardB c = true) : c.length ≤ 20 := by
 simp only [cardB, inB, Bool.and_eq_true, decide_eq_true_eq] at hd
 omega
def cdF (k : Int) (p q : Int × Int) (fr w : Nat) : List (List Int) → Int
 | [] => 0
 | c :: r => if cdC k p q fr w c = 0 then cdF k p q fr w r else cdC k p q fr w c
def cdkB (k : Int) (p q t : Int × Int) (l : List (List Int)) : Bool := inB k 1 4 && allP [p, q, t] (widB l)
def cdk (k : Int) (p q t : Int × Int) (l : List (List Int)) : Int := if deckB l then (if cdkB k p q t l then cdF k p q t.1.toNat (ccW t) l else 2) else 1
def cdL (k : Int) (p q t : Int × Int) (l : List (List Int)) : List (List Int) := if cdk k p q t l = 0 then l.map (cdH k p q t.1.toNat (ccW t)) else []
theorem cdF_0 {k : Int} {p q : Int × Int} {fr w : Nat} {l : List (List Int)} (h : cdF k p q fr w l = 0) : ∀ c, c ∈ l → cdC k p q fr w c = 0 := by
 induction l with
 | nil => intro c hc; cases hc
 | cons a r ih =>
  intro c hc
  rw [cdF] at h
  by_cases ha : cdC k p q fr w a = 0
  ·rw [if_pos ha] at h
   rcases List.mem_cons.1 hc with rfl | hc
   ·exact ha
   ·exact ih h c hc
  ·rw [if_neg ha] at h; exact (ha h).elim
theorem deck_card {l : List (List Int)} (hd : deckB l = true) : ∀ c, c ∈ l → cardB c = true ∧ (c.length : Int) = widB l := by
 intro c hc
 have h0 : l.length ≠ 0 := by intro e; rw [List.eq_nil_of_length_eq_zero e] at hc; cases hc
 simp only [deckB, Bool.and_eq_true, List.all_eq_true, decide_eq_true_eq] at hd
 obtain ⟨hcb, hcl⟩ := hd.1 c hc
 refine ⟨hcb, ?_⟩
 rw [widB, if_neg h0, ← hcl]
theorem cdk_ok {k : Int} {p q t : Int × Int} {l : List (List Int)} (hd : deckB l = true) (hb : cdkB k p q t l = true) : inB k 1 4 = true ∧ allP [p, q, t] (widB l) = true ∧
  (∀ c, c ∈ l → okP p.1 p.2 c ∧ okP q.1 q.2 c ∧ okP t.1 t.2 c ∧ c.length ≤ 20) := by
 simp only [cdkB, Bool.and_eq_true] at hb
 have h := hb.2
 simp only [allP, List.all_cons, List.all_nil, Bool.and_true, Bool.and_eq_true] at h
 obtain ⟨h1, h2, h3⟩ := h
 refine ⟨hb.1, hb.2, fun c hc => ?_⟩
 obtain ⟨a1, a2⟩ := deck_card hd c hc
 rw [← a2] at h1 h2 h3
 exact ⟨okP_card a1 h1, okP_card a1 h2, okP_card a1 h3, card20 a1⟩
theorem okP_nat {t : Int × Int} {c : List Int} (ht : okP t.1 t.2 c) : ∃ fr w : Nat, t = ((fr : Int), ((fr + w : Nat) : Int)) ∧ t.1.toNat = fr ∧ ccW t = w ∧ fr + w ≤ c.length ∧ 0 < w ∧ w ≤ 12 := by
 obtain ⟨a1, a2, a3, a4, _, _⟩ := ht
 refine ⟨t.1.toNat, ccW t, ?_, rfl, rfl, ?_, ?_, ?_⟩
 ·obtain ⟨t1, t2⟩ := t
  simp only [ccW] at *
  rw [Prod.mk.injEq]
  exact ⟨by omega, by omega⟩
 ·unfold ccW; omega
 ·unfold ccW; omega
 ·unfold ccW; omega
theorem okP_fld {t : Int × Int} {w0 : Int} (hn : numB t.1 t.2 w0 = true) (hw : w0 ≤ 20) : ∃ fr w : Nat, t = ((fr : Int), ((fr + w : Nat) : Int)) ∧ t.1.toNat = fr ∧ ccW t = w ∧ ((fr + w : Nat) : Int) ≤ w0 ∧ 0 < w ∧ w ≤ 12 := by
 simp only [numB, fldB, Bool.and_eq_true, decide_eq_true_eq] at hn
 obtain ⟨⟨h1, h2, h3⟩, h4⟩ := hn
 have hw' : W (t.2 - t.1) = t.2 - t.1 := wrap_in (by omega) (by omega)
 rw [hw'] at h4
 refine ⟨t.1.toNat, ccW t, ?_, rfl, rfl, ?_, ?_, ?_⟩
 ·obtain ⟨t1, t2⟩ := t
  simp only [ccW] at *
  rw [Prod.mk.injEq]
  exact ⟨by omega, by omega⟩
 ·unfold ccW; omega
 ·unfold ccW; omega
 ·unfold ccW; omega
end
end Go.Proofs.YtimcedhcefcbbaaDoor
