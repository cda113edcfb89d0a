/- CountDifferences, IsRightFlow, FirstDifference: the program and the reference. -/
import Derived.Test.YtmfjbgjeljhcaaaGreatZwNh
set_option linter.unusedSimpArgs false
set_option linter.unusedVariables false
set_option maxHeartbeats 8000000
namespace Go.Proofs.YtmfjbgjeljhcaaaGreat
open Go.Vs
attribute [local irreducible] Vs.Fn stpB wO stC run rsB rsL evC evV spcB deckB agB atD allD geo geo0 dfB dfC dfL chOK areCh chTo chAt l03 chB rk cd3 chI stp stpTo
attribute [local go_sem] Int.reduceBEq Int.reduceBNe cO cFd E_len List.replicate_succ List.replicate_zero List.flatten_cons List.flatten_nil List.cons_append List.nil_append List.set_cons_zero List.set_cons_succ List.length_cons List.length_nil List.length_set List.mem_singleton List.mem_cons List.not_mem_nil or_false false_or Vs.Name.t.injEq List.getD_cons_zero List.getD_cons_succ Vs.Name.b.injEq List.getElem?_cons_zero List.getElem?_cons_succ
theorem sizeN  : Fz F.i_size_int64_ [.v (.slice none 0 0)] (.v (.int .i64 0)) := by
 refine fn0 Cd.i_size_int64__k fun X => ?_
 repeat' first
  |simp -dsimp only [go_sem]
  |refine Br.mk ?_ ?_<;>intro h<;>try simp -dsimp only[h]
  |refine and_c ?_
  |fail
 all_goals (simp_all)
theorem dfV_ok {fl : List Stp} {x : Spc} {l : List (List Int)} {n : Int} (h : dfC fl x l n = 0) : dfV fl x l n = .sl 1 (E cI (dfL fl x l n.toNat)) := by unfold dfV; rw [if_pos h]
theorem dfV_no {fl : List Stp} {x : Spc} {l : List (List Int)} {n : Int} (h : dfC fl x l n ≠ 0) : dfV fl x l n = .v (.slice none 0 0) := by unfold dfV; rw [if_neg h]
theorem dfC_0 {fl : List Stp} {x : Spc} {l : List (List Int)} {n : Int} (h : dfC fl x l n = 0) : codeI l n = 0 := by
 unfold dfC at h
 split at h
 ·rename_i h0; exact h0
 ·exact h
def nCD (fl : List Stp) (x : Spc) (l : List (List Int)) (n : Int) : Int := if dfC fl x l n = 0 then ((dfL fl x l n.toNat).length : Int) else 0
def bIR (fl : List Stp) (x : Spc) (l : List (List Int)) (n : Int) : Bool := if dfC fl x l n = 0 then ((dfL fl x l n.toNat).length : Int) == 0 else false
def cFD (fl : List Stp) (x : Spc) (l : List (List Int)) (n : Int) : Int := if dfC fl x l n = 0 then (match dfL fl x l n.toNat with | [] => 3 | _ :: _ => 0) else dfC fl x l n
def nFD (fl : List Stp) (x : Spc) (l : List (List Int)) (n : Int) : Int := if dfC fl x l n = 0 then (match dfL fl x l n.toNat with | [] => 0 | y :: _ => y) else 0
theorem impl_CountDifferences (fl : List Stp) (hz : ∀ x, x ∈ fl → x.text.size ≤ 1048576) (hl : fl.length ≤ 1048576) (x : Spc) (hx : x.text.size ≤ 1048576) (l : List (List Int)) (hk : smallC l) (n : Int) : Fz F.i_CountDifferences [.sl 9 (E cS fl), .agg (cP x), .sl 1 (E cC l), .v (.int .i64 n)] (.tup [.v (.int .i64 (nCD fl x l n)), .v (.int .i64 (dfC fl x l n))]) := by
 unfold nCD
 have DF := impl_differences fl hz hl x hx l hk n
 have SN := sizeN
 by_cases h0 : dfC fl x l n = 0
 ·obtain ⟨hd, h1, h5, k, rfl, h3⟩ := codeI_0 (dfC_0 h0)
  rw [dfV_ok h0, h0] at DF
  have SZ := sizeI (dfL fl x l ((k : Nat) : Int).toNat)
  simp only [h0, if_true, Int.toNat_natCast] at *
  refine fn0 Cd.i_CountDifferences_k fun X => ?_
  repeat' first
   |simp -dsimp only [go_sem, cC, cS, cP]
   |refine Br.mk ?_ ?_<;>intro h<;>try simp -dsimp only[h]
   |refine CallK.c (by first|exact DF|exact SZ|exact SN) ?_
   |refine and_c ?_
   |fail
  all_goals first | omega | exact ⟨_, _, rfl, rfl⟩ | (refine ret_eq ?_; simp; done) | (simp at h; done) | (simp at h; omega)
 ·have e1 : (dfC fl x l n != 0) = true := by simp [h0]
  have e2 : (dfC fl x l n == 0) = false := beq_eq_false_iff_ne.2 h0
  rw [dfV_no h0] at DF
  simp only [h0, if_false]
  refine fn0 Cd.i_CountDifferences_k fun X => ?_
  repeat' first
   |simp -dsimp only [go_sem, e1, e2, cC, cS, cP]
   |refine Br.mk ?_ ?_<;>intro h<;>try simp -dsimp only[h]
   |refine CallK.c (by first|exact DF|exact SN) ?_
   |refine and_c ?_
   |fail
  all_goals first | omega | exact ⟨_, _, rfl, rfl⟩ | (refine ret_eq ?_; simp; done) | (simp at h; done) | (simp at h; omega)
theorem spec_CountDifferences (fl : List Stp) (hz : ∀ x, x ∈ fl → x.text.size ≤ 1048576) (hl : fl.length ≤ 1048576) (x : Spc) (hx : x.text.size ≤ 1048576) (l : List (List Int)) (hk : smallC l) (n : Int) : Fz F.s_CountDifferences [.sl 9 (E cS fl), .agg (cP x), .sl 1 (E cC l), .v (.int .i64 n)] (.tup [.v (.int .i64 (nCD fl x l n)), .v (.int .i64 (dfC fl x l n))]) := by
 unfold nCD
 have DF := l17All fl hz hl x hx l hk n
 by_cases h0 : dfC fl x l n = 0
 ·obtain ⟨hd, h1, h5, k, rfl, h3⟩ := codeI_0 (dfC_0 h0)
  have LD := l17Differences fl hz hl x hx l hk hd h1 h5 k h3
  rw [h0] at DF
  simp only [h0, if_true, Int.toNat_natCast] at *
  refine fn0 Cd.s_CountDifferences_k fun X => ?_
  repeat' first
   |simp -dsimp only [go_sem, cC, cS, cP]
   |refine Br.mk ?_ ?_<;>intro h<;>try simp -dsimp only[h]
   |refine CallK.c (by first|exact DF|exact LD) ?_
   |refine and_c ?_
   |fail
  all_goals first | omega | exact ⟨_, _, rfl, rfl⟩ | (refine ret_eq ?_; simp; done) | (simp at h; done) | (simp at h; omega)
 ·have e1 : (dfC fl x l n != 0) = true := by simp [h0]
  have e2 : (dfC fl x l n == 0) = false := beq_eq_false_iff_ne.2 h0
  simp only [h0, if_false]
  refine fn0 Cd.s_CountDifferences_k fun X => ?_
  repeat' first
   |simp -dsimp only [go_sem, e1, e2, cC, cS, cP]
   |refine Br.mk ?_ ?_<;>intro h<;>try simp -dsimp only[h]
   |refine CallK.c (by first|exact DF) ?_
   |refine and_c ?_
   |fail
  all_goals first | omega | exact ⟨_, _, rfl, rfl⟩ | (refine ret_eq ?_; simp; done) | (simp at h; done) | (simp at h; omega)
theorem impl_IsRightFlow (fl : List Stp) (hz : ∀ x, x ∈ fl → x.text.size ≤ 1048576) (hl : fl.length ≤ 1048576) (x : Spc) (hx : x.text.size ≤ 1048576) (l : List (List Int)) (hk : smallC l) (n : Int) : Fz F.i_IsRightFlow [.sl 9 (E cS fl), .agg (cP x), .sl 1 (E cC l), .v (.int .i64 n)] (.tup [.v (.bool (bIR fl x l n)), .v (.int .i64 (dfC fl x l n))]) := by
 unfold bIR
 have DF := impl_differences fl hz hl x hx l hk n
 by_cases h0 : dfC fl x l n = 0
 ·obtain ⟨hd, h1, h5, k, rfl, h3⟩ := codeI_0 (dfC_0 h0)
  rw [dfV_ok h0, h0] at DF
  simp only [h0, if_true, Int.toNat_natCast] at *
  refine fn0 Cd.i_IsRightFlow_k fun X => ?_
  repeat' first
   |simp -dsimp only [go_sem, cC, cS, cP]
   |refine Br.mk ?_ ?_<;>intro h<;>try simp -dsimp only[h]
   |refine CallK.c (by first|exact DF) ?_
   |refine and_c ?_
   |fail
  all_goals first | omega | exact ⟨_, _, rfl, rfl⟩ | (refine ret_eq ?_; simp; done) | (simp at h; done) | (simp at h; omega)
 ·have e1 : (dfC fl x l n != 0) = true := by simp [h0]
  have e2 : (dfC fl x l n == 0) = false := beq_eq_false_iff_ne.2 h0
  rw [dfV_no h0] at DF
  simp only [h0, if_false]
  refine fn0 Cd.i_IsRightFlow_k fun X => ?_
  repeat' first
   |simp -dsimp only [go_sem, e1, e2, cC, cS, cP]
   |refine Br.mk ?_ ?_<;>intro h<;>try simp -dsimp only[h]
   |refine CallK.c (by first|exact DF) ?_
   |refine and_c ?_
   |fail
  all_goals first | omega | exact ⟨_, _, rfl, rfl⟩ | (refine ret_eq ?_; simp; done) | (simp at h; done) | (simp at h; omega)
theorem spec_IsRightFlow (fl : List Stp) (hz : ∀ x, x ∈ fl → x.text.size ≤ 1048576) (hl : fl.length ≤ 1048576) (x : Spc) (hx : x.text.size ≤ 1048576) (l : List (List Int)) (hk : smallC l) (n : Int) : Fz F.s_IsRightFlow [.sl 9 (E cS fl), .agg (cP x), .sl 1 (E cC l), .v (.int .i64 n)] (.tup [.v (.bool (bIR fl x l n)), .v (.int .i64 (dfC fl x l n))]) := by
 unfold bIR
 have DF := l17All fl hz hl x hx l hk n
 by_cases h0 : dfC fl x l n = 0
 ·obtain ⟨hd, h1, h5, k, rfl, h3⟩ := codeI_0 (dfC_0 h0)
  have LD := l17Differences fl hz hl x hx l hk hd h1 h5 k h3
  rw [h0] at DF
  simp only [h0, if_true, Int.toNat_natCast] at *
  refine fn0 Cd.s_IsRightFlow_k fun X => ?_
  repeat' first
   |simp -dsimp only [go_sem, cC, cS, cP]
   |refine Br.mk ?_ ?_<;>intro h<;>try simp -dsimp only[h]
   |refine CallK.c (by first|exact DF|exact LD) ?_
   |refine and_c ?_
   |fail
  all_goals first | omega | exact ⟨_, _, rfl, rfl⟩ | (refine ret_eq ?_; simp; done) | (simp at h; done) | (simp at h; omega)
 ·have e1 : (dfC fl x l n != 0) = true := by simp [h0]
  have e2 : (dfC fl x l n == 0) = false := beq_eq_false_iff_ne.2 h0
  simp only [h0, if_false]
  refine fn0 Cd.s_IsRightFlow_k fun X => ?_
  repeat' first
   |simp -dsimp only [go_sem, e1, e2, cC, cS, cP]
   |refine Br.mk ?_ ?_<;>intro h<;>try simp -dsimp only[h]
   |refine CallK.c (by first|exact DF) ?_
   |refine and_c ?_
   |fail
  all_goals first | omega | exact ⟨_, _, rfl, rfl⟩ | (refine ret_eq ?_; simp; done) | (simp at h; done) | (simp at h; omega)
theorem impl_FirstDifference (fl : List Stp) (hz : ∀ x, x ∈ fl → x.text.size ≤ 1048576) (hl : fl.length ≤ 1048576) (x : Spc) (hx : x.text.size ≤ 1048576) (l : List (List Int)) (hk : smallC l) (n : Int) : Fz F.i_FirstDifference [.sl 9 (E cS fl), .agg (cP x), .sl 1 (E cC l), .v (.int .i64 n)] (.tup [.v (.int .i64 (nFD fl x l n)), .v (.int .i64 (cFD fl x l n))]) := by
 unfold nFD cFD
 have DF := impl_differences fl hz hl x hx l hk n
 by_cases h0 : dfC fl x l n = 0
 ·obtain ⟨hd, h1, h5, k, rfl, h3⟩ := codeI_0 (dfC_0 h0)
  rw [dfV_ok h0, h0] at DF
  simp only [h0, if_true, Int.toNat_natCast] at *
  cases hq : dfL fl x l k with
  | nil =>
   rw [hq] at DF
   refine fn0 Cd.i_FirstDifference_k fun X => ?_
   repeat' first
    |simp -dsimp only [go_sem, cC, cS, cP]
    |refine Br.mk ?_ ?_<;>intro h<;>try simp -dsimp only[h]
    |refine CallK.c (by first|exact DF) ?_
    |refine and_c ?_
    |fail
   all_goals first | omega | exact ⟨_, _, rfl, rfl⟩ | (refine ret_eq ?_; simp; done) | (simp at h; done) | (simp at h; omega)
  | cons y r =>
   rw [hq] at DF
   have hl0 : (((y :: r).length : Int) == 0) = false := beq_eq_false_iff_ne.2 (by simp only [List.length_cons]; omega)
   have e1 : (E cI (y :: r)).getD 0 [] = [.v (.int .i64 y)] := rfl
   have e2 : 0 < (E cI (y :: r)).length := by simp [E_len]
   refine fn0 Cd.i_FirstDifference_k fun X => ?_
   repeat' first
    |simp -dsimp only [go_sem, e1, hl0, cC, cS, cP]
    |refine Br.mk ?_ ?_<;>intro h<;>try simp -dsimp only[h]
    |refine CallK.c (by first|exact DF) ?_
    |refine and_c ?_
    |fail
   all_goals first | omega | exact ⟨_, _, rfl, rfl⟩ | (refine ret_eq ?_; simp; done) | (simp at h; done) | (simp at h; omega)
 ·have e1 : (dfC fl x l n != 0) = true := by simp [h0]
  have e2 : (dfC fl x l n == 0) = false := beq_eq_false_iff_ne.2 h0
  rw [dfV_no h0] at DF
  simp only [h0, if_false]
  refine fn0 Cd.i_FirstDifference_k fun X => ?_
  repeat' first
   |simp -dsimp only [go_sem, e1, e2, cC, cS, cP]
   |refine Br.mk ?_ ?_<;>intro h<;>try simp -dsimp only[h]
   |refine CallK.c (by first|exact DF) ?_
   |refine and_c ?_
   |fail
  all_goals first | omega | exact ⟨_, _, rfl, rfl⟩ | (refine ret_eq ?_; simp; done) | (simp at h; done) | (simp at h; omega)
theorem spec_FirstDifference (fl : List Stp) (hz : ∀ x, x ∈ fl → x.text.size ≤ 1048576) (hl : fl.length ≤ 1048576) (x : Spc) (hx : x.text.size ≤ 1048576) (l : List (List Int)) (hk : smallC l) (n : Int) : Fz F.s_FirstDifference [.sl 9 (E cS fl), .agg (cP x), .sl 1 (E cC l), .v (.int .i64 n)] (.tup [.v (.int .i64 (nFD fl x l n)), .v (.int .i64 (cFD fl x l n))]) := by
 unfold nFD cFD
 have DF := l17All fl hz hl x hx l hk n
 by_cases h0 : dfC fl x l n = 0
 ·obtain ⟨hd, h1, h5, k, rfl, h3⟩ := codeI_0 (dfC_0 h0)
  have LD := l17Differences fl hz hl x hx l hk hd h1 h5 k h3
  rw [h0] at DF
  simp only [h0, if_true, Int.toNat_natCast] at *
  cases hq : dfL fl x l k with
  | nil =>
   rw [hq] at LD
   have e1 : decide (hdI ([] : List Int) < 0) = true := rfl
   have e2 : hdI ([] : List Int) = -1 := rfl
   refine fn0 Cd.s_FirstDifference_k fun X => ?_
   repeat' first
    |simp -dsimp only [go_sem, e1, cC, cS, cP]
    |refine Br.mk ?_ ?_<;>intro h<;>try simp -dsimp only[h]
    |refine CallK.c (by first|exact DF|exact LD) ?_
    |refine and_c ?_
    |fail
   all_goals first | omega | exact ⟨_, _, rfl, rfl⟩ | (refine ret_eq ?_; simp; done) | (simp at h; done) | (simp at h; omega)
  | cons y r =>
   have hy := dfL_pos hq
   rw [hq] at LD
   rw [show hdI (y :: r) = y from rfl] at LD
   have e1 : decide (y < 0) = false := decide_eq_false (by omega)
   refine fn0 Cd.s_FirstDifference_k fun X => ?_
   repeat' first
    |simp -dsimp only [go_sem, e1, cC, cS, cP]
    |refine Br.mk ?_ ?_<;>intro h<;>try simp -dsimp only[h]
    |refine CallK.c (by first|exact DF|exact LD) ?_
    |refine and_c ?_
    |fail
   all_goals first | omega | exact ⟨_, _, rfl, rfl⟩ | (refine ret_eq ?_; simp; done) | (simp at h; done) | (simp at h; omega)
 ·have e1 : (dfC fl x l n != 0) = true := by simp [h0]
  have e2 : (dfC fl x l n == 0) = false := beq_eq_false_iff_ne.2 h0
  simp only [h0, if_false]
  refine fn0 Cd.s_FirstDifference_k fun X => ?_
  repeat' first
   |simp -dsimp only [go_sem, e1, e2, cC, cS, cP]
   |refine Br.mk ?_ ?_<;>intro h<;>try simp -dsimp only[h]
   |refine CallK.c (by first|exact DF) ?_
   |refine and_c ?_
   |fail
  all_goals first | omega | exact ⟨_, _, rfl, rfl⟩ | (refine ret_eq ?_; simp; done) | (simp at h; done) | (simp at h; omega)
end Go.Proofs.YtmfjbgjeljhcaaaGreat
