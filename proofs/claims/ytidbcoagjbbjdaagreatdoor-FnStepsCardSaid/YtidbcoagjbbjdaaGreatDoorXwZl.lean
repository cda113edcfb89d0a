/- The texts of steps, as the program gives them. -/
import Derived.Test.YtidbcoagjbbjdaaGreatDoorVsI
import Derived.Test.YtidbcoagjbbjdaaGreatDoorXwPb
import Derived.Test.YtidbcoagjbbjdaaGreatDoorXuB
import Derived.Test.YtidbcoagjbbjdaaGreatDoorXwQb
import Derived.Test.YtidbcoagjbbjdaaGreatDoorXuH
import Derived.Test.YtidbcoagjbbjdaaGreatDoorXuO
set_option linter.all false
set_option maxHeartbeats 8000000
namespace Go.Proofs.YtidbcoagjbbjdaaGreatDoor
open Go.Vs
section
variable [Vs.Tab 0 Vs.powP]
attribute [local irreducible] Vs.Fn
def dcl (n : Int) : ByteArray := ⟨(Lib.itoa n).toArray⟩
theorem nDig_le {n : Nat} (hn : n < 10 ^ 19) : Lib.nDigits n ≤ 19 := by
 have h : ∀ (k m : Nat), m < 10 ^ (k + 1) → Lib.nDigits m ≤ k + 1 := by
  intro k
  induction k with
  | zero => intro m hm; rw [Lib.nDigits_small (by simpa using hm)]; omega
  | succ k ih =>
   intro m hm
   by_cases h : m < 10
   ·rw [Lib.nDigits_small h]; omega
   ·rw [Lib.nDigits_big h]
    have := ih (m / 10) (by rw [Nat.pow_succ] at hm; omega)
    omega
 exact h 18 n hn
theorem dcl_size {n : Int} (h0 : -9223372036854775808 ≤ n) (h1 : n ≤ 9223372036854775807) : (dcl n).size ≤ 20 := by
 have e : (dcl n).size = (Lib.itoa n).length := by simp [dcl, ByteArray.size]
 rw [e]
 unfold Lib.itoa
 split
 ·rw [List.length_cons, Lib.decDigits_length]
  have := nDig_le (n := n.natAbs) (by omega)
  omega
 ·rw [Lib.decDigits_length]
  have := nDig_le (n := n.toNat) (by omega)
  omega
theorem formatIntA (n : Int) (h0 : -9223372036854775808 ≤ n) (h1 : n ≤ 9223372036854775807) : Fz F.strconv_FormatInt [.v (.int .i64 n), .v (.int .i64 10)] (.v (.string (dcl n))) := by
 refine fn0 Cd.strconv_FormatInt_k fun X => ?_
 repeat' first|simp -dsimp only [go_sem]|apply Br.mk<;>intro h<;>try simp -dsimp only[h]|refine CallK.c (by first|exact formatInt n h0 h1) ?_|refine aC ?_|fail
 all_goals (simp_all [dcl])
theorem decimalA (n : Int) (h0 : -9223372036854775808 ≤ n) (h1 : n ≤ 9223372036854775807) : Fz F.i_Decimal [.v (.int .i64 n)] (.v (.string (dcl n))) := by
 refine fn0 Cd.i_Decimal_k fun X => ?_
 repeat' first|simp -dsimp only [go_sem]|apply Br.mk<;>intro h<;>try simp -dsimp only[h]|refine CallK.c (by first|exact formatIntA n h0 h1) ?_|refine aC ?_|fail
 all_goals (simp_all)
end
section
variable [Vs.Tab 0 Vs.powP]
attribute [local irreducible] Vs.Fn chOK areCh chTo chAt l03
theorem bsz (a : Array UInt8) : (ByteArray.mk a).size = a.size := rfl
def spnX (a b : Int) : ByteArray := dcl a ++ ⟨#[45]⟩ ++ dcl b
def inR (n : Int) : Prop := -9223372036854775808 ≤ n ∧ n ≤ 9223372036854775807
theorem spnX_size {a b : Int} (ha : inR a) (hb : inR b) : (spnX a b).size ≤ 41 := by
 have da := dcl_size ha.1 ha.2
 have db := dcl_size hb.1 hb.2
 unfold spnX
 simp only [ByteArray.size_append, bsz, List.size_toArray, List.length_cons, List.length_nil]
 omega
theorem span (a b : Int) (ha : inR a) (hb : inR b) : Fz F.i_span [.agg [.v (.int .i64 a), .v (.int .i64 b)]] (.v (.string (spnX a b))) := by
 have da := dcl_size ha.1 ha.2
 have db := dcl_size hb.1 hb.2
 refine fn0 Cd.i_span_k fun X => ?_
 repeat' first|simp -dsimp only [go_sem]|apply Br.mk<;>intro h<;>try simp -dsimp only[h]|refine RgK.mk rfl ?_|refine CallK.c (by first|exact decimalA a ha.1 ha.2|exact decimalA b hb.1 hb.2) ?_|refine And.intro (by first|rfl | omega | decide|exact (by simp only [ByteArray.size_append, bsz, List.size_toArray, List.length_cons, List.length_nil]; omega) | (refine ⟨?_, ?_⟩ <;> (first | rfl | omega | decide|exact (by simp only [ByteArray.size_append, bsz, List.size_toArray, List.length_cons, List.length_nil]; omega))) | (refine ⟨?_, ?_, ?_⟩ <;> (first | rfl | omega | decide|exact (by simp only [ByteArray.size_append, bsz, List.size_toArray, List.length_cons, List.length_nil]; omega))) | (refine ⟨?_, ?_, ?_, ?_⟩ <;> (first | rfl | omega | decide|exact (by simp only [ByteArray.size_append, bsz, List.size_toArray, List.length_cons, List.length_nil]; omega)))) ?_|fail
 all_goals (exact ret_eq rfl)
theorem fldB_inR {a b w : Int} (h : fldB a b w = true) (hw : 0 ≤ w ∧ w ≤ 1000) : inR a ∧ inR b := by
 simp only [fldB, Bool.and_eq_true, decide_eq_true_eq] at h
 unfold inR; omega
end
section
variable [Vs.Tab 0 Vs.powP]
attribute [local irreducible] Vs.Fn chOK areCh chTo chAt l03
def stH (w : ByteArray) (x : Stp) : ByteArray := w ++ ⟨#[32]⟩ ++ dcl x.a
def stG (w : ByteArray) (x : Stp) : ByteArray := if inB x.kind 2 4 then stH w x ++ (⟨#[32]⟩ ++ dcl x.b) else stH w x
def stFn (w : ByteArray) (x : Stp) : ByteArray := stG w x ++ (⟨#[32]⟩ ++ spnX x.f0 x.f1)
def stW (k : Int) : ByteArray := if k = 1 then ⟨#[115, 111, 114, 116]⟩ else if k = 2 then ⟨#[109, 101, 114, 103, 101]⟩ else if k = 3 then ⟨#[109, 97, 116, 99, 104]⟩ else if k = 4 then ⟨#[114, 101, 115, 116]⟩ else if k = 5 then ⟨#[115, 101, 108, 101, 99, 116]⟩ else if k = 6 then ⟨#[102, 105, 114, 115, 116]⟩ else if k = 7 then ⟨#[116, 111, 116, 97, 108]⟩ else ⟨#[]⟩
def stX (x : Stp) : ByteArray := if x.kind = 7 then stFn (stW x.kind) x ++ ⟨#[32, 115, 117, 109, 32]⟩ ++ spnX x.s0 x.s1 else if x.kind = 5 then stFn (stW x.kind) x ++ (⟨#[32, 61]⟩ ++ x.text) ++ ⟨#[32, 116, 111, 32]⟩ ++ dcl x.to else stFn (stW x.kind) x ++ ⟨#[32, 116, 111, 32]⟩ ++ dcl x.to
def stTn (x : Stp) : ByteArray := if stpB x 20 then stX x else ⟨#[]⟩
theorem inB_inR {a : Int} (h : inB a 0 5 = true) : inR a := by
 simp only [inB, Bool.and_eq_true, decide_eq_true_eq] at h
 unfold inR; omega
theorem stpB_rng {x : Stp} (h : stpB x 20 = true) : (inR x.a ∧ inR x.b ∧ inR x.to) ∧ (inR x.f0 ∧ inR x.f1) ∧ (inR x.s0 ∧ inR x.s1) ∧ (x.kind = 1 ∨ x.kind = 2 ∨ x.kind = 3 ∨ x.kind = 4 ∨ x.kind = 5 ∨ x.kind = 6 ∨ x.kind = 7) := by
 simp only [stpB, numB, Bool.and_eq_true] at h
 obtain ⟨h1, h2, h3, h4, h5, _, h6⟩ := h
 refine ⟨⟨inB_inR h2, inB_inR h3, inB_inR h4⟩, fldB_inR h5 (by omega), ?_, ?_⟩
 ·split at h6
  ·simp only [Bool.and_eq_true] at h6
   exact fldB_inR h6.2.1.1 (by omega)
  ·simp only [Bool.and_eq_true, beq_iff_eq] at h6
   unfold inR; omega
 ·simp only [inB, Bool.and_eq_true, decide_eq_true_eq] at h1
  omega
end
section
variable [Vs.Tab 0 Vs.powP]
attribute [local irreducible] Vs.Fn chOK areCh chTo chAt l03
theorem impl_StepText (x : Stp) (hs : x.text.size ≤ 1048576) : Fz F.i_StepText [.agg (cS x)] (.v (.string (stTn x))) := by
 have i20 : inB 20 1 20 = true := by decide
 cases hk : stpB x 20
 ·have hT : stTn x = ⟨#[]⟩ := by simp [stTn, hk]
  rw [hT]
  refine fn0 Cd.i_StepText_k fun X => ?_
  simp -dsimp only [go_sem, cS, hk]
  repeat' first|simp -dsimp only [go_sem, cS, hk, i20, Bool.and_false, Bool.and_true]|apply Br.mk<;>intro h<;>try simp -dsimp only[h]|refine CallK.c (by first|exact impl_ValidStep x _ hs) ?_|refine aC ?_|fail
  all_goals exact ret_eq rfl
 ·have hT : stTn x = stX x := by simp [stTn, hk]
  rw [hT]
  obtain ⟨⟨a1, a2, a3⟩, ⟨a4, a5⟩, ⟨a6, a7⟩, hkd⟩ := stpB_rng hk
  have d1 := dcl_size a1.1 a1.2
  have d2 := dcl_size a2.1 a2.2
  have d3 := dcl_size a3.1 a3.2
  have d4 := spnX_size a4 a5
  have d5 := spnX_size a6 a7
  rcases hkd with h | h | h | h | h | h | h
  ·obtain ⟨xk, xa, xb, xt, xf0, xf1, xs0, xs1, xtx⟩ := x
   dsimp only at h
   subst h
   dsimp only at a1 a2 a3 a4 a5 a6 a7 d1 d2 d3 d4 d5 hs
   have e5 : ((1 : Int) == 5) = false := rfl
   have e7 : ((1 : Int) == 7) = false := rfl
   have hB : inB 1 2 4 = false := by decide
   have wk : IntKind.i64.wrap ((1 : Int) - 1) = 0 := by decide
   refine fn0 Cd.i_StepText_k fun X => ?_
   simp -dsimp only [go_sem, cS, hk]
   repeat' first|simp -dsimp only [go_sem, e5, e7, hB, wk, List.getD_cons_zero, List.getD_cons_succ, cS, hk, i20, Bool.and_false, Bool.and_true, List.replicate_succ, List.replicate_zero, List.flatten_cons, List.flatten_nil, List.cons_append, List.nil_append, List.set_cons_zero, List.set_cons_succ, List.length_cons, List.length_nil, List.length_set]|apply Br.mk<;>intro h<;>try simp -dsimp only[h]|refine RgK.mk rfl ?_|refine CallK.c (by first|exact impl_ValidStep ⟨1, xa, xb, xt, xf0, xf1, xs0, xs1, xtx⟩ _ hs|exact decimalA xa a1.1 a1.2|exact decimalA xb a2.1 a2.2|exact decimalA xt a3.1 a3.2|exact span xf0 xf1 a4 a5|exact span xs0 xs1 a6 a7|exact takesTwo _) ?_|refine And.intro (by first|rfl | omega | decide|exact (by simp only [ByteArray.size_append, bsz, List.size_toArray, List.length_cons, List.length_nil]; omega) | (refine ⟨?_, ?_⟩ <;> (first | rfl | omega | decide|exact (by simp only [ByteArray.size_append, bsz, List.size_toArray, List.length_cons, List.length_nil]; omega))) | (refine ⟨?_, ?_, ?_⟩ <;> (first | rfl | omega | decide|exact (by simp only [ByteArray.size_append, bsz, List.size_toArray, List.length_cons, List.length_nil]; omega))) | (refine ⟨?_, ?_, ?_, ?_⟩ <;> (first | rfl | omega | decide|exact (by simp only [ByteArray.size_append, bsz, List.size_toArray, List.length_cons, List.length_nil]; omega)))) ?_|fail
   all_goals exact ret_eq (by simp only [stX, stFn, stG, stH, stW, hB]; rfl)
  ·obtain ⟨xk, xa, xb, xt, xf0, xf1, xs0, xs1, xtx⟩ := x
   dsimp only at h
   subst h
   dsimp only at a1 a2 a3 a4 a5 a6 a7 d1 d2 d3 d4 d5 hs
   have e5 : ((2 : Int) == 5) = false := rfl
   have e7 : ((2 : Int) == 7) = false := rfl
   have hB : inB 2 2 4 = true := by decide
   have wk : IntKind.i64.wrap ((2 : Int) - 1) = 1 := by decide
   refine fn0 Cd.i_StepText_k fun X => ?_
   simp -dsimp only [go_sem, cS, hk]
   repeat' first|simp -dsimp only [go_sem, e5, e7, hB, wk, List.getD_cons_zero, List.getD_cons_succ, cS, hk, i20, Bool.and_false, Bool.and_true, List.replicate_succ, List.replicate_zero, List.flatten_cons, List.flatten_nil, List.cons_append, List.nil_append, List.set_cons_zero, List.set_cons_succ, List.length_cons, List.length_nil, List.length_set]|apply Br.mk<;>intro h<;>try simp -dsimp only[h]|refine RgK.mk rfl ?_|refine CallK.c (by first|exact impl_ValidStep ⟨2, xa, xb, xt, xf0, xf1, xs0, xs1, xtx⟩ _ hs|exact decimalA xa a1.1 a1.2|exact decimalA xb a2.1 a2.2|exact decimalA xt a3.1 a3.2|exact span xf0 xf1 a4 a5|exact span xs0 xs1 a6 a7|exact takesTwo _) ?_|refine And.intro (by first|rfl | omega | decide|exact (by simp only [ByteArray.size_append, bsz, List.size_toArray, List.length_cons, List.length_nil]; omega) | (refine ⟨?_, ?_⟩ <;> (first | rfl | omega | decide|exact (by simp only [ByteArray.size_append, bsz, List.size_toArray, List.length_cons, List.length_nil]; omega))) | (refine ⟨?_, ?_, ?_⟩ <;> (first | rfl | omega | decide|exact (by simp only [ByteArray.size_append, bsz, List.size_toArray, List.length_cons, List.length_nil]; omega))) | (refine ⟨?_, ?_, ?_, ?_⟩ <;> (first | rfl | omega | decide|exact (by simp only [ByteArray.size_append, bsz, List.size_toArray, List.length_cons, List.length_nil]; omega)))) ?_|fail
   all_goals exact ret_eq (by simp only [stX, stFn, stG, stH, stW, hB]; rfl)
  ·obtain ⟨xk, xa, xb, xt, xf0, xf1, xs0, xs1, xtx⟩ := x
   dsimp only at h
   subst h
   dsimp only at a1 a2 a3 a4 a5 a6 a7 d1 d2 d3 d4 d5 hs
   have e5 : ((3 : Int) == 5) = false := rfl
   have e7 : ((3 : Int) == 7) = false := rfl
   have hB : inB 3 2 4 = true := by decide
   have wk : IntKind.i64.wrap ((3 : Int) - 1) = 2 := by decide
   refine fn0 Cd.i_StepText_k fun X => ?_
   simp -dsimp only [go_sem, cS, hk]
   repeat' first|simp -dsimp only [go_sem, e5, e7, hB, wk, List.getD_cons_zero, List.getD_cons_succ, cS, hk, i20, Bool.and_false, Bool.and_true, List.replicate_succ, List.replicate_zero, List.flatten_cons, List.flatten_nil, List.cons_append, List.nil_append, List.set_cons_zero, List.set_cons_succ, List.length_cons, List.length_nil, List.length_set]|apply Br.mk<;>intro h<;>try simp -dsimp only[h]|refine RgK.mk rfl ?_|refine CallK.c (by first|exact impl_ValidStep ⟨3, xa, xb, xt, xf0, xf1, xs0, xs1, xtx⟩ _ hs|exact decimalA xa a1.1 a1.2|exact decimalA xb a2.1 a2.2|exact decimalA xt a3.1 a3.2|exact span xf0 xf1 a4 a5|exact span xs0 xs1 a6 a7|exact takesTwo _) ?_|refine And.intro (by first|rfl | omega | decide|exact (by simp only [ByteArray.size_append, bsz, List.size_toArray, List.length_cons, List.length_nil]; omega) | (refine ⟨?_, ?_⟩ <;> (first | rfl | omega | decide|exact (by simp only [ByteArray.size_append, bsz, List.size_toArray, List.length_cons, List.length_nil]; omega))) | (refine ⟨?_, ?_, ?_⟩ <;> (first | rfl | omega | decide|exact (by simp only [ByteArray.size_append, bsz, List.size_toArray, List.length_cons, List.length_nil]; omega))) | (refine ⟨?_, ?_, ?_, ?_⟩ <;> (first | rfl | omega | decide|exact (by simp only [ByteArray.size_append, bsz, List.size_toArray, List.length_cons, List.length_nil]; omega)))) ?_|fail
   all_goals exact ret_eq (by simp only [stX, stFn, stG, stH, stW, hB]; rfl)
  ·obtain ⟨xk, xa, xb, xt, xf0, xf1, xs0, xs1, xtx⟩ := x
   dsimp only at h
   subst h
   dsimp only at a1 a2 a3 a4 a5 a6 a7 d1 d2 d3 d4 d5 hs
   have e5 : ((4 : Int) == 5) = false := rfl
   have e7 : ((4 : Int) == 7) = false := rfl
   have hB : inB 4 2 4 = true := by decide
   have wk : IntKind.i64.wrap ((4 : Int) - 1) = 3 := by decide
   refine fn0 Cd.i_StepText_k fun X => ?_
   simp -dsimp only [go_sem, cS, hk]
   repeat' first|simp -dsimp only [go_sem, e5, e7, hB, wk, List.getD_cons_zero, List.getD_cons_succ, cS, hk, i20, Bool.and_false, Bool.and_true, List.replicate_succ, List.replicate_zero, List.flatten_cons, List.flatten_nil, List.cons_append, List.nil_append, List.set_cons_zero, List.set_cons_succ, List.length_cons, List.length_nil, List.length_set]|apply Br.mk<;>intro h<;>try simp -dsimp only[h]|refine RgK.mk rfl ?_|refine CallK.c (by first|exact impl_ValidStep ⟨4, xa, xb, xt, xf0, xf1, xs0, xs1, xtx⟩ _ hs|exact decimalA xa a1.1 a1.2|exact decimalA xb a2.1 a2.2|exact decimalA xt a3.1 a3.2|exact span xf0 xf1 a4 a5|exact span xs0 xs1 a6 a7|exact takesTwo _) ?_|refine And.intro (by first|rfl | omega | decide|exact (by simp only [ByteArray.size_append, bsz, List.size_toArray, List.length_cons, List.length_nil]; omega) | (refine ⟨?_, ?_⟩ <;> (first | rfl | omega | decide|exact (by simp only [ByteArray.size_append, bsz, List.size_toArray, List.length_cons, List.length_nil]; omega))) | (refine ⟨?_, ?_, ?_⟩ <;> (first | rfl | omega | decide|exact (by simp only [ByteArray.size_append, bsz, List.size_toArray, List.length_cons, List.length_nil]; omega))) | (refine ⟨?_, ?_, ?_, ?_⟩ <;> (first | rfl | omega | decide|exact (by simp only [ByteArray.size_append, bsz, List.size_toArray, List.length_cons, List.length_nil]; omega)))) ?_|fail
   all_goals exact ret_eq (by simp only [stX, stFn, stG, stH, stW, hB]; rfl)
  ·obtain ⟨xk, xa, xb, xt, xf0, xf1, xs0, xs1, xtx⟩ := x
   dsimp only at h
   subst h
   dsimp only at a1 a2 a3 a4 a5 a6 a7 d1 d2 d3 d4 d5 hs
   have e5 : ((5 : Int) == 5) = true := rfl
   have e7 : ((5 : Int) == 7) = false := rfl
   have hB : inB 5 2 4 = false := by decide
   have wk : IntKind.i64.wrap ((5 : Int) - 1) = 4 := by decide
   refine fn0 Cd.i_StepText_k fun X => ?_
   simp -dsimp only [go_sem, cS, hk]
   repeat' first|simp -dsimp only [go_sem, e5, e7, hB, wk, List.getD_cons_zero, List.getD_cons_succ, cS, hk, i20, Bool.and_false, Bool.and_true, List.replicate_succ, List.replicate_zero, List.flatten_cons, List.flatten_nil, List.cons_append, List.nil_append, List.set_cons_zero, List.set_cons_succ, List.length_cons, List.length_nil, List.length_set]|apply Br.mk<;>intro h<;>try simp -dsimp only[h]|refine RgK.mk rfl ?_|refine CallK.c (by first|exact impl_ValidStep ⟨5, xa, xb, xt, xf0, xf1, xs0, xs1, xtx⟩ _ hs|exact decimalA xa a1.1 a1.2|exact decimalA xb a2.1 a2.2|exact decimalA xt a3.1 a3.2|exact span xf0 xf1 a4 a5|exact span xs0 xs1 a6 a7|exact takesTwo _) ?_|refine And.intro (by first|rfl | omega | decide|exact (by simp only [ByteArray.size_append, bsz, List.size_toArray, List.length_cons, List.length_nil]; omega) | (refine ⟨?_, ?_⟩ <;> (first | rfl | omega | decide|exact (by simp only [ByteArray.size_append, bsz, List.size_toArray, List.length_cons, List.length_nil]; omega))) | (refine ⟨?_, ?_, ?_⟩ <;> (first | rfl | omega | decide|exact (by simp only [ByteArray.size_append, bsz, List.size_toArray, List.length_cons, List.length_nil]; omega))) | (refine ⟨?_, ?_, ?_, ?_⟩ <;> (first | rfl | omega | decide|exact (by simp only [ByteArray.size_append, bsz, List.size_toArray, List.length_cons, List.length_nil]; omega)))) ?_|fail
   all_goals exact ret_eq (by simp only [stX, stFn, stG, stH, stW, hB]; rfl)
  ·obtain ⟨xk, xa, xb, xt, xf0, xf1, xs0, xs1, xtx⟩ := x
   dsimp only at h
   subst h
   dsimp only at a1 a2 a3 a4 a5 a6 a7 d1 d2 d3 d4 d5 hs
   have e5 : ((6 : Int) == 5) = false := rfl
   have e7 : ((6 : Int) == 7) = false := rfl
   have hB : inB 6 2 4 = false := by decide
   have wk : IntKind.i64.wrap ((6 : Int) - 1) = 5 := by decide
   refine fn0 Cd.i_StepText_k fun X => ?_
   simp -dsimp only [go_sem, cS, hk]
   repeat' first|simp -dsimp only [go_sem, e5, e7, hB, wk, List.getD_cons_zero, List.getD_cons_succ, cS, hk, i20, Bool.and_false, Bool.and_true, List.replicate_succ, List.replicate_zero, List.flatten_cons, List.flatten_nil, List.cons_append, List.nil_append, List.set_cons_zero, List.set_cons_succ, List.length_cons, List.length_nil, List.length_set]|apply Br.mk<;>intro h<;>try simp -dsimp only[h]|refine RgK.mk rfl ?_|refine CallK.c (by first|exact impl_ValidStep ⟨6, xa, xb, xt, xf0, xf1, xs0, xs1, xtx⟩ _ hs|exact decimalA xa a1.1 a1.2|exact decimalA xb a2.1 a2.2|exact decimalA xt a3.1 a3.2|exact span xf0 xf1 a4 a5|exact span xs0 xs1 a6 a7|exact takesTwo _) ?_|refine And.intro (by first|rfl | omega | decide|exact (by simp only [ByteArray.size_append, bsz, List.size_toArray, List.length_cons, List.length_nil]; omega) | (refine ⟨?_, ?_⟩ <;> (first | rfl | omega | decide|exact (by simp only [ByteArray.size_append, bsz, List.size_toArray, List.length_cons, List.length_nil]; omega))) | (refine ⟨?_, ?_, ?_⟩ <;> (first | rfl | omega | decide|exact (by simp only [ByteArray.size_append, bsz, List.size_toArray, List.length_cons, List.length_nil]; omega))) | (refine ⟨?_, ?_, ?_, ?_⟩ <;> (first | rfl | omega | decide|exact (by simp only [ByteArray.size_append, bsz, List.size_toArray, List.length_cons, List.length_nil]; omega)))) ?_|fail
   all_goals exact ret_eq (by simp only [stX, stFn, stG, stH, stW, hB]; rfl)
  ·obtain ⟨xk, xa, xb, xt, xf0, xf1, xs0, xs1, xtx⟩ := x
   dsimp only at h
   subst h
   dsimp only at a1 a2 a3 a4 a5 a6 a7 d1 d2 d3 d4 d5 hs
   have e5 : ((7 : Int) == 5) = false := rfl
   have e7 : ((7 : Int) == 7) = true := rfl
   have hB : inB 7 2 4 = false := by decide
   have wk : IntKind.i64.wrap ((7 : Int) - 1) = 6 := by decide
   refine fn0 Cd.i_StepText_k fun X => ?_
   simp -dsimp only [go_sem, cS, hk]
   repeat' first|simp -dsimp only [go_sem, e5, e7, hB, wk, List.getD_cons_zero, List.getD_cons_succ, cS, hk, i20, Bool.and_false, Bool.and_true, List.replicate_succ, List.replicate_zero, List.flatten_cons, List.flatten_nil, List.cons_append, List.nil_append, List.set_cons_zero, List.set_cons_succ, List.length_cons, List.length_nil, List.length_set]|apply Br.mk<;>intro h<;>try simp -dsimp only[h]|refine RgK.mk rfl ?_|refine CallK.c (by first|exact impl_ValidStep ⟨7, xa, xb, xt, xf0, xf1, xs0, xs1, xtx⟩ _ hs|exact decimalA xa a1.1 a1.2|exact decimalA xb a2.1 a2.2|exact decimalA xt a3.1 a3.2|exact span xf0 xf1 a4 a5|exact span xs0 xs1 a6 a7|exact takesTwo _) ?_|refine And.intro (by first|rfl | omega | decide|exact (by simp only [ByteArray.size_append, bsz, List.size_toArray, List.length_cons, List.length_nil]; omega) | (refine ⟨?_, ?_⟩ <;> (first | rfl | omega | decide|exact (by simp only [ByteArray.size_append, bsz, List.size_toArray, List.length_cons, List.length_nil]; omega))) | (refine ⟨?_, ?_, ?_⟩ <;> (first | rfl | omega | decide|exact (by simp only [ByteArray.size_append, bsz, List.size_toArray, List.length_cons, List.length_nil]; omega))) | (refine ⟨?_, ?_, ?_, ?_⟩ <;> (first | rfl | omega | decide|exact (by simp only [ByteArray.size_append, bsz, List.size_toArray, List.length_cons, List.length_nil]; omega)))) ?_|fail
   all_goals exact ret_eq (by simp only [stX, stFn, stG, stH, stW, hB]; rfl)
end
end Go.Proofs.YtidbcoagjbbjdaaGreatDoor
