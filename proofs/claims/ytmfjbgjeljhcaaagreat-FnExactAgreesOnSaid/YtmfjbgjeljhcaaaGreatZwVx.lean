/- The result of a flow for a deck: the program and the reference. -/
import Derived.Test.YtmfjbgjeljhcaaaGreatZwVw
namespace Go.Proofs.YtmfjbgjeljhcaaaGreat
set_option maxHeartbeats 8000000
open Go.Vs
set_option linter.unusedSimpArgs false
set_option linter.unusedVariables false
attribute [local irreducible] Vs.Fn stpB wO stC run chOK areCh chTo chAt l03 chB rk cd3 chI stp stpTo
attribute [local go_sem] cO
def rsB (fl : List Stp) (l : List (List Int)) : Bool := decide ((run (O0 l) fl).2 = fl.length) && decide ((run (O0 l) fl).1.totals.length = 1)
def rsL (fl : List Stp) (l : List (List Int)) : List Tot := (run (O0 l) fl).1.totals.getD 0 []
def rsV (fl : List Stp) (l : List (List Int)) : AV := if rsB fl l then .sl 2 (E cT (rsL fl l)) else .v (.slice none 0 0)
attribute [local go_sem] Int.reduceBEq Int.reduceBNe cFd E_len List.replicate_succ List.replicate_zero List.flatten_cons List.flatten_nil List.cons_append List.nil_append List.set_cons_zero List.set_cons_succ List.length_cons List.length_nil List.length_set List.mem_singleton List.mem_cons List.not_mem_nil or_false false_or Vs.Name.t.injEq List.getD_cons_zero List.getD_cons_succ Vs.Name.b.injEq List.getElem?_cons_zero List.getElem?_cons_succ in
theorem impl_resultOf (fl : List Stp) (hz : ∀ x, x ∈ fl → x.text.size ≤ 1048576) (hl : fl.length ≤ 1048576) (l : List (List Int)) (hk : smallC l) (hd : deckB l = true) : Vs.Fn Tryz.prog F.impl_resultOf [] [.sl 9 (E cS fl), .sl 1 (E cC l)] (.tup [rsV fl l, .v (.bool (rsB fl l))]) [] := by
 have NW := impl_NewOffice l hk hd
 have SZ := sizeSt fl
 have RF : Vs.Fn Tryz.prog F.impl_runFlow [] [.agg [.sl 1 (rowsN l), .sl 1 []], .sl 9 (E cS fl)] (.tup [.agg (cO (run (O0 l) fl).1), .v (.int .i64 ((run (O0 l) fl).2 : Nat))]) [] := by
  refine fn_args (args' := [.agg (cO (O0 l)), .sl 9 (E cS fl)]) rfl (fun S w j v hj ρ κ hh hv => ?_) (runFlow (O0 l) _ (O0_ok hd) fl hz hl)
  match j, hj with
  | 0, _ => exact off_nil hv
  | 1, _ => exact hv
 generalize hrn : rowsN l = RN at *
 have hok := run_ok fl (O0 l) (O0_ok hd)
 unfold rsV
 unfold rsB rsL
 generalize run (O0 l) fl = R at *
 obtain ⟨o', n⟩ := R
 obtain ⟨ho', hn⟩ := hok
 dsimp only at *
 have ht20 := ho'.2.2.2.1
 by_cases hlt : n < fl.length
 ·have e1 : decide ((n : Int) < (fl.length : Int)) = true := decide_eq_true (by omega)
  have e2 : (decide (n = fl.length) && decide (o'.totals.length = 1)) = false := by rw [decide_eq_false (by omega)]; rfl
  rw [e2]
  refine fn0 Cd.impl_resultOf_k fun X => ?_
  repeat' first
   |simp -dsimp only [go_sem, e1, cC, cS]
   |refine Br.mk (fun h => ?_) (fun h => ?_)<;>try simp -dsimp only[h]
   |refine RgK.mk rfl ?_
   |refine CallK.c (by first|exact NW|exact RF|exact SZ) ?_
   |refine and_c ?_
   |fail
  all_goals first | omega | exact ⟨_, _, rfl, rfl⟩ | (refine ret_eq ?_; simp; done) | trace_state
 have e1 : decide ((n : Int) < (fl.length : Int)) = false := decide_eq_false (by omega)
 by_cases h1 : o'.totals.length = 1
 ·have e2 : (decide (n = fl.length) && decide (o'.totals.length = 1)) = true := by rw [decide_eq_true (by omega), decide_eq_true h1]; rfl
  rw [e2, if_pos rfl]
  have e3 : ((o'.totals.length : Int) != 1) = false := by simp [h1]
  have h0 : 0 < o'.totals.length := by omega
  have g0 : (E cTs o'.totals).getD 0 [] = [.sl 2 (E cT (o'.totals.getD 0 []))] := by rw [cTs_at h0]; simp [List.getD, h0]
  refine fn0 Cd.impl_resultOf_k fun X => ?_
  repeat' first
   |simp -dsimp only [go_sem, e1, e3, g0, cC, cS]
   |refine Br.mk (fun h => ?_) (fun h => ?_)<;>try simp -dsimp only[h]
   |refine RgK.mk rfl ?_
   |refine CallK.c (by first|exact NW|exact RF|exact SZ) ?_
   |refine and_c ?_
   |fail
  all_goals first | omega | exact ⟨_, _, rfl, rfl⟩ | (refine ret_eq ?_; simp; done) | trace_state
 ·have e2 : (decide (n = fl.length) && decide (o'.totals.length = 1)) = false := by rw [decide_eq_false h1, Bool.and_false]
  rw [e2]
  have e3 : ((o'.totals.length : Int) != 1) = true := by simp; omega
  have e4 : (((0 : Nat) : Int) != 1) = true := by decide
  refine fn0 Cd.impl_resultOf_k fun X => ?_
  repeat' first
   |simp -dsimp only [go_sem, e1, e3, e4, cC, cS]
   |refine Br.mk (fun h => ?_) (fun h => ?_)<;>try simp -dsimp only[h]
   |refine RgK.mk rfl ?_
   |refine CallK.c (by first|exact NW|exact RF|exact SZ) ?_
   |refine and_c ?_
   |fail
  all_goals first | omega | exact ⟨_, _, rfl, rfl⟩ | (refine ret_eq ?_; simp; done) | trace_state
attribute [local go_sem] Int.reduceBEq Int.reduceBNe cFd E_len List.replicate_succ List.replicate_zero List.flatten_cons List.flatten_nil List.cons_append List.nil_append List.set_cons_zero List.set_cons_succ List.length_cons List.length_nil List.length_set List.mem_singleton List.mem_cons List.not_mem_nil or_false false_or Vs.Name.t.injEq List.getD_cons_zero List.getD_cons_succ Vs.Name.b.injEq List.getElem?_cons_zero List.getElem?_cons_succ in
theorem l17Result (fl : List Stp) (hz : ∀ x, x ∈ fl → x.text.size ≤ 1048576) (hl : fl.length ≤ 1048576) (l : List (List Int)) (hk : smallC l) (hd : deckB l = true) : Vs.Fn Tryz.prog F.spec_l17Result [] [.sl 9 (E cS fl), .sl 1 (E cC l)] (.tup [rsV fl l, .v (.bool (rsB fl l))]) [] := by
 have NW := l15New l hk
 have RF := l15Run (O0 l) _ (O0_ok hd) rfl fl hz hl
 rw [show (O0 l).trays = T0 l from rfl] at RF
 generalize hrn : T0 l = TL at *
 have hok := run_ok fl (O0 l) (O0_ok hd)
 unfold rsV
 unfold rsB rsL
 generalize run (O0 l) fl = R at *
 obtain ⟨o', n⟩ := R
 obtain ⟨ho', hn⟩ := hok
 dsimp only at *
 have ht20 := ho'.2.2.2.1
 by_cases hlt : n < fl.length
 ·have e1 : decide ((n : Int) < (fl.length : Int)) = true := decide_eq_true (by omega)
  have e2 : (decide (n = fl.length) && decide (o'.totals.length = 1)) = false := by rw [decide_eq_false (by omega)]; rfl
  rw [e2]
  by_cases hT : o'.totals.length = 0
  ·have hroT := roT_e hT
   rw [show roV o' = [.sl 1 (E cD o'.trays), .v (.slice none 0 0)] by unfold roV; rw [hroT]] at RF
   refine fn0 Cd.spec_l17Result_k fun X => ?_
   repeat' first
    |simp -dsimp only [go_sem, e1, roV, cC, cS]
    |refine Br.mk (fun h => ?_) (fun h => ?_)<;>try simp -dsimp only[h]
    |refine RgK.mk rfl ?_
    |refine CallK.c (by first|exact NW|exact RF) ?_
    |refine and_c ?_
    |fail
   all_goals first | omega | exact ⟨_, _, rfl, rfl⟩ | (refine ret_eq ?_; simp; done) | trace_state
  ·have hroT := roT_l hT
   rw [show roV o' = [.sl 1 (E cD o'.trays), .sl 1 (E cTs o'.totals)] by unfold roV; rw [hroT]] at RF
   refine fn0 Cd.spec_l17Result_k fun X => ?_
   repeat' first
    |simp -dsimp only [go_sem, e1, roV, cC, cS]
    |refine Br.mk (fun h => ?_) (fun h => ?_)<;>try simp -dsimp only[h]
    |refine RgK.mk rfl ?_
    |refine CallK.c (by first|exact NW|exact RF) ?_
    |refine and_c ?_
    |fail
   all_goals first | omega | exact ⟨_, _, rfl, rfl⟩ | (refine ret_eq ?_; simp; done) | trace_state
 have e1 : decide ((n : Int) < (fl.length : Int)) = false := decide_eq_false (by omega)
 by_cases h1 : o'.totals.length = 1
 ·have e2 : (decide (n = fl.length) && decide (o'.totals.length = 1)) = true := by rw [decide_eq_true (by omega), decide_eq_true h1]; rfl
  rw [e2, if_pos rfl]
  have e3 : ((o'.totals.length : Int) != 1) = false := by simp [h1]
  have h0 : 0 < o'.totals.length := by omega
  have g0 : (E cTs o'.totals).getD 0 [] = [.sl 2 (E cT (o'.totals.getD 0 []))] := by rw [cTs_at h0]; simp [List.getD, h0]
  have hroT := roT_l (by omega : o'.totals.length ≠ 0)
  rw [show roV o' = [.sl 1 (E cD o'.trays), .sl 1 (E cTs o'.totals)] by unfold roV; rw [hroT]] at RF
  refine fn0 Cd.spec_l17Result_k fun X => ?_
  repeat' first
   |simp -dsimp only [go_sem, e1, e3, g0, cC, cS]
   |refine Br.mk (fun h => ?_) (fun h => ?_)<;>try simp -dsimp only[h]
   |refine RgK.mk rfl ?_
   |refine CallK.c (by first|exact NW|exact RF) ?_
   |refine and_c ?_
   |fail
  all_goals first | omega | exact ⟨_, _, rfl, rfl⟩ | (refine ret_eq ?_; simp; done) | trace_state
 ·have e2 : (decide (n = fl.length) && decide (o'.totals.length = 1)) = false := by rw [decide_eq_false h1, Bool.and_false]
  rw [e2]
  have e3 : ((o'.totals.length : Int) != 1) = true := by simp; omega
  have e4 : (((0 : Nat) : Int) != 1) = true := by decide
  by_cases hT : o'.totals.length = 0
  ·have hroT := roT_e hT
   rw [show roV o' = [.sl 1 (E cD o'.trays), .v (.slice none 0 0)] by unfold roV; rw [hroT]] at RF
   refine fn0 Cd.spec_l17Result_k fun X => ?_
   repeat' first
    |simp -dsimp only [go_sem, e1, e3, e4, cC, cS]
    |refine Br.mk (fun h => ?_) (fun h => ?_)<;>try simp -dsimp only[h]
    |refine RgK.mk rfl ?_
    |refine CallK.c (by first|exact NW|exact RF) ?_
    |refine and_c ?_
    |fail
   all_goals first | omega | exact ⟨_, _, rfl, rfl⟩ | (refine ret_eq ?_; simp; done) | trace_state
  ·have hroT := roT_l hT
   rw [show roV o' = [.sl 1 (E cD o'.trays), .sl 1 (E cTs o'.totals)] by unfold roV; rw [hroT]] at RF
   refine fn0 Cd.spec_l17Result_k fun X => ?_
   repeat' first
    |simp -dsimp only [go_sem, e1, e3, e4, cC, cS]
    |refine Br.mk (fun h => ?_) (fun h => ?_)<;>try simp -dsimp only[h]
    |refine RgK.mk rfl ?_
    |refine CallK.c (by first|exact NW|exact RF) ?_
    |refine and_c ?_
    |fail
   all_goals first | omega | exact ⟨_, _, rfl, rfl⟩ | (refine ret_eq ?_; simp; done) | trace_state
end Go.Proofs.YtmfjbgjeljhcaaaGreat
