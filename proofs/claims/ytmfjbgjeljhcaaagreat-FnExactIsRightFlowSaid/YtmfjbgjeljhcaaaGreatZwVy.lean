/- A flow and a specification that agree: the program and the reference. -/
import Derived.Test.YtmfjbgjeljhcaaaGreatZwVx
import Derived.Test.YtmfjbgjeljhcaaaGreatZwD
import Derived.Test.YtmfjbgjeljhcaaaGreatZuM
import Derived.Test.YtmfjbgjeljhcaaaGreatZwC
set_option linter.unusedSimpArgs false
set_option linter.unusedVariables false
set_option maxHeartbeats 8000000
namespace Go.Proofs.YtmfjbgjeljhcaaaGreat
open Go.Vs
attribute [local irreducible] Vs.Fn stpB wO stC run rsB rsL evC evV spcB deckB chOK areCh chTo chAt l03 chB rk cd3 chI stp stpTo
attribute [local go_sem] Int.reduceBEq Int.reduceBNe cO cFd E_len List.replicate_succ List.replicate_zero List.flatten_cons List.flatten_nil List.cons_append List.nil_append List.set_cons_zero List.set_cons_succ List.length_cons List.length_nil List.length_set List.mem_singleton List.mem_cons List.not_mem_nil or_false false_or Vs.Name.t.injEq List.getD_cons_zero List.getD_cons_succ Vs.Name.b.injEq List.getElem?_cons_zero List.getElem?_cons_succ Bool.not_false Bool.not_true
def evL (x : Spc) (l : List (List Int)) : List Tot := totL x.g0 x.g1 x.s0 x.s1 (srtL x.g0 x.g1 (cfL x l))
theorem evV_ok {x : Spc} {l : List (List Int)} (h : evC x l = 0) : evV x l = .sl 2 (E cT (evL x l)) := by
 unfold evC at h
 unfold evV
 split at h
 ·rename_i h0
  rw [if_pos h0]
  split at h
  ·rename_i h1
   rw [if_pos h1]
   split at h
   ·rename_i h2; exact totV_ok h2
   ·cases h
  ·cases h
 ·rename_i h0; exact absurd h h0
theorem evV_no {x : Spc} {l : List (List Int)} (h : evC x l ≠ 0) : evV x l = .v (.slice none 0 0) := by
 unfold evC at h
 unfold evV
 split at h
 ·rename_i h0
  rw [if_pos h0]
  split at h
  ·rename_i h1
   rw [if_pos h1]
   split at h
   ·exact absurd rfl h
   ·rename_i h2; exact totV_no (by simpa using h2)
  ·rename_i h1; rw [if_neg h1]
 ·rename_i h0; rw [if_neg h0]
theorem evL_len (x : Spc) {l : List (List Int)} (hd : deckB l = true) : (evL x l).length ≤ 1048576 := by
 have h1 := deck_40 hd
 have h2 := cfL_len x l
 have h3 := grpL_len x.g0 x.g1 (srtL x.g0 x.g1 (cfL x l))
 have h4 := srtL_len x.g0 x.g1 (cfL x l)
 unfold evL totL
 rw [List.length_map]
 omega
def agB (fl : List Stp) (x : Spc) (l : List (List Int)) : Bool := (rsB fl l == (evC x l == 0)) && (if rsB fl l then eqLB qT (evL x l) (rsL fl l) else true)
theorem rsV_ok {fl : List Stp} {l : List (List Int)} (h : rsB fl l = true) : rsV fl l = .sl 2 (E cT (rsL fl l)) := by unfold rsV; rw [if_pos h]
theorem rsV_no {fl : List Stp} {l : List (List Int)} (h : rsB fl l = false) : rsV fl l = .v (.slice none 0 0) := by unfold rsV; rw [h]; rfl
theorem same_nil : Fz F.i_SameTotals [.v (.slice none 0 0), .v (.slice none 0 0)] (.v (.bool true)) := by
 refine fn_args (args' := [.sl 2 (E cT []), .sl 2 (E cT [])]) rfl (fun S w j v hj ρ κ hh hv => ?_) (impl_SameTotals [] [] (by simp))
 match j, hj with
 | 0, _ => cases hv with | clo h => exact .clo (rc_nil h)
 | 1, _ => cases hv with | clo h => exact .clo (rc_nil h)
attribute [local go_sem] Bool.true_beq Bool.false_beq bne_self_eq_false in
theorem agrees (fl : List Stp) (hz : ∀ x, x ∈ fl → x.text.size ≤ 1048576) (hl : fl.length ≤ 1048576) (x : Spc) (hx : x.text.size ≤ 1048576) (l : List (List Int)) (hk : smallC l) (hd : deckB l = true) : Fz F.i_agrees [.sl 9 (E cS fl), .agg (cP x), .sl 1 (E cC l)] (.v (.bool (agB fl x l))) := by
 have EV := impl_EvalSpec x l hk hx
 have RS := impl_resultOf fl hz hl l hk hd
 have ET := impl_SameTotals (evL x l) (rsL fl l) (evL_len x hd)
 have SN := same_nil
 unfold agB
 by_cases hc : evC x l = 0
 ·rw [evV_ok hc, hc] at EV
  rw [hc]
  cases hr : rsB fl l
  ·rw [rsV_no hr, hr] at RS
   rw [show ((false == ((0 : Int) == 0)) && (if (false : Bool) = true then eqLB qT (evL x l) (rsL fl l) else true)) = false from rfl]
   refine fn0 Cd.i_agrees_k fun X => ?_
   repeat' first
    |simp -dsimp only [go_sem, cC, cS, cP]
    |refine Br.mk ?_ ?_<;>intro h<;>try simp -dsimp only[h]
    |refine CallK.c (by first|exact EV|exact RS|exact ET|exact SN) ?_
    |refine and_c ?_
    |fail
   all_goals first | omega | exact ⟨_, _, rfl, rfl⟩ | (refine ret_eq ?_; simp; done)
  ·rw [rsV_ok hr, hr] at RS
   rw [show ((true == ((0 : Int) == 0)) && (if (true : Bool) = true then eqLB qT (evL x l) (rsL fl l) else true)) = eqLB qT (evL x l) (rsL fl l) from rfl]
   refine fn0 Cd.i_agrees_k fun X => ?_
   repeat' first
    |simp -dsimp only [go_sem, cC, cS, cP]
    |refine Br.mk ?_ ?_<;>intro h<;>try simp -dsimp only[h]
    |refine CallK.c (by first|exact EV|exact RS|exact ET|exact SN) ?_
    |refine and_c ?_
    |fail
   all_goals first | omega | exact ⟨_, _, rfl, rfl⟩ | (refine ret_eq ?_; simp; done)
 ·have e0 : (evC x l == 0) = false := beq_eq_false_iff_ne.2 hc
  have e1 : (evC x l != 0) = true := by simp [hc]
  rw [evV_no hc] at EV
  rw [e0]
  generalize evC x l = c at *
  cases hr : rsB fl l
  ·rw [rsV_no hr, hr] at RS
   rw [show ((false == false) && (if (false : Bool) = true then eqLB qT (evL x l) (rsL fl l) else true)) = true from rfl]
   refine fn0 Cd.i_agrees_k fun X => ?_
   repeat' first
    |simp -dsimp only [go_sem, e0, e1, cC, cS, cP]
    |refine Br.mk ?_ ?_<;>intro h<;>try simp -dsimp only[h]
    |refine CallK.c (by first|exact EV|exact RS|exact ET|exact SN) ?_
    |refine and_c ?_
    |fail
   all_goals first | omega | exact ⟨_, _, rfl, rfl⟩ | (refine ret_eq ?_; simp; done)
  ·rw [rsV_ok hr, hr] at RS
   rw [show ((true == false) && (if (true : Bool) = true then eqLB qT (evL x l) (rsL fl l) else true)) = false from rfl]
   refine fn0 Cd.i_agrees_k fun X => ?_
   repeat' first
    |simp -dsimp only [go_sem, e0, e1, cC, cS, cP]
    |refine Br.mk ?_ ?_<;>intro h<;>try simp -dsimp only[h]
    |refine CallK.c (by first|exact EV|exact RS|exact ET|exact SN) ?_
    |refine and_c ?_
    |fail
   all_goals first | omega | exact ⟨_, _, rfl, rfl⟩ | (refine ret_eq ?_; simp; done)
attribute [local go_sem] Bool.true_beq Bool.false_beq bne_self_eq_false in
theorem l17Agrees (fl : List Stp) (hz : ∀ x, x ∈ fl → x.text.size ≤ 1048576) (hl : fl.length ≤ 1048576) (x : Spc) (hx : x.text.size ≤ 1048576) (l : List (List Int)) (hk : smallC l) (hd : deckB l = true) : Fz F.s_l17Agrees [.sl 9 (E cS fl), .ro (cP x), .sl 1 (E cC l)] (.v (.bool (agB fl x l))) := by
 have EV := l16Eval x l hk hx
 have RS := l17Result fl hz hl l hk hd
 have ET := l15Totals (evL x l) (rsL fl l) (evL_len x hd)
 have SN := same_nil
 unfold agB
 by_cases hc : evC x l = 0
 ·rw [evV_ok hc, hc] at EV
  rw [hc]
  cases hr : rsB fl l
  ·rw [rsV_no hr, hr] at RS
   rw [show ((false == ((0 : Int) == 0)) && (if (false : Bool) = true then eqLB qT (evL x l) (rsL fl l) else true)) = false from rfl]
   refine fn0 Cd.s_l17Agrees_k fun X => ?_
   repeat' first
    |simp -dsimp only [go_sem, cC, cS, cP]
    |refine Br.mk ?_ ?_<;>intro h<;>try simp -dsimp only[h]
    |refine CallK.c (by first|exact EV|exact RS|exact ET) ?_
    |refine and_c ?_
    |fail
   all_goals first | omega | exact ⟨_, _, rfl, rfl⟩ | (refine ret_eq ?_; simp; done)
  ·rw [rsV_ok hr, hr] at RS
   rw [show ((true == ((0 : Int) == 0)) && (if (true : Bool) = true then eqLB qT (evL x l) (rsL fl l) else true)) = eqLB qT (evL x l) (rsL fl l) from rfl]
   refine fn0 Cd.s_l17Agrees_k fun X => ?_
   repeat' first
    |simp -dsimp only [go_sem, cC, cS, cP]
    |refine Br.mk ?_ ?_<;>intro h<;>try simp -dsimp only[h]
    |refine CallK.c (by first|exact EV|exact RS|exact ET) ?_
    |refine and_c ?_
    |fail
   all_goals first | omega | exact ⟨_, _, rfl, rfl⟩ | (refine ret_eq ?_; simp; done)
 ·have e0 : (evC x l == 0) = false := beq_eq_false_iff_ne.2 hc
  have e1 : (evC x l != 0) = true := by simp [hc]
  rw [evV_no hc] at EV
  rw [e0]
  generalize evC x l = c at *
  cases hr : rsB fl l
  ·rw [rsV_no hr, hr] at RS
   rw [show ((false == false) && (if (false : Bool) = true then eqLB qT (evL x l) (rsL fl l) else true)) = true from rfl]
   refine fn0 Cd.s_l17Agrees_k fun X => ?_
   repeat' first
    |simp -dsimp only [go_sem, e0, e1, cC, cS, cP]
    |refine Br.mk ?_ ?_<;>intro h<;>try simp -dsimp only[h]
    |refine CallK.c (by first|exact EV|exact RS|exact ET) ?_
    |refine and_c ?_
    |fail
   all_goals first | omega | exact ⟨_, _, rfl, rfl⟩ | (refine ret_eq ?_; simp; done)
  ·rw [rsV_ok hr, hr] at RS
   rw [show ((true == false) && (if (true : Bool) = true then eqLB qT (evL x l) (rsL fl l) else true)) = false from rfl]
   refine fn0 Cd.s_l17Agrees_k fun X => ?_
   repeat' first
    |simp -dsimp only [go_sem, e0, e1, cC, cS, cP]
    |refine Br.mk ?_ ?_<;>intro h<;>try simp -dsimp only[h]
    |refine CallK.c (by first|exact EV|exact RS|exact ET) ?_
    |refine and_c ?_
    |fail
   all_goals first | omega | exact ⟨_, _, rfl, rfl⟩ | (refine ret_eq ?_; simp; done)
def flwB (fl : List Stp) (w : Int) : Bool := fl.all (fun x => stpB x w) && decide ((fl.length : Int) ≤ 20)
def aoC (fl : List Stp) (x : Spc) (l : List (List Int)) : Int := if deckB l then (if flwB fl (widB l) && spcB x (widB l) then 0 else 2) else 1
def aoV (fl : List Stp) (x : Spc) (l : List (List Int)) : Bool := if deckB l then (if flwB fl (widB l) && spcB x (widB l) then agB fl x l else false) else false
theorem impl_AgreesOn (fl : List Stp) (hz : ∀ x, x ∈ fl → x.text.size ≤ 1048576) (hl : fl.length ≤ 1048576) (x : Spc) (hx : x.text.size ≤ 1048576) (l : List (List Int)) (hk : smallC l) : Fz F.i_AgreesOn [.sl 9 (E cS fl), .agg (cP x), .sl 1 (E cC l)] (.tup [.v (.bool (aoV fl x l)), .v (.int .i64 (aoC fl x l))]) := by
 have VD := validDeck l hk.2 hk.1
 have WD := deckColumns l
 unfold aoV aoC
 cases hd : deckB l
 ·rw [hd] at VD
  simp only [Bool.false_eq_true, if_false]
  refine fn0 Cd.i_AgreesOn_k fun X => ?_
  repeat' first
   |simp -dsimp only [go_sem, cC, cS, cP]
   |refine Br.mk ?_ ?_<;>intro h<;>try simp -dsimp only[h]
   |refine CallK.c (by first|exact VD|exact WD) ?_
   |refine and_c ?_
   |fail
  all_goals first | omega | exact ⟨_, _, rfl, rfl⟩ | (refine ret_eq ?_; simp; done)
 rw [hd] at VD
 have VF := impl_ValidFlow fl (widB l) hz hl
 have VS := impl_ValidSpec x (widB l) hx
 have AG := agrees fl hz hl x hx l hk hd
 rw [wid_in hd, Bool.true_and] at VF VS
 rw [show (fl.all (fun x => stpB x (widB l)) && decide ((fl.length : Int) ≤ 20)) = flwB fl (widB l) from rfl] at VF
 simp only [if_true]
 cases hf : flwB fl (widB l)
 ·rw [hf] at VF
  simp only [Bool.false_and, Bool.false_eq_true, if_false]
  refine fn0 Cd.i_AgreesOn_k fun X => ?_
  repeat' first
   |simp -dsimp only [go_sem, cC, cS, cP]
   |refine Br.mk ?_ ?_<;>intro h<;>try simp -dsimp only[h]
   |refine CallK.c (by first|exact VD|exact WD|exact VF|exact VS|exact AG) ?_
   |refine and_c ?_
   |fail
  all_goals first | omega | exact ⟨_, _, rfl, rfl⟩ | (refine ret_eq ?_; simp; done)
 rw [hf] at VF
 cases hs : spcB x (widB l)
 ·rw [hs] at VS
  simp only [Bool.true_and, Bool.false_eq_true, if_false]
  refine fn0 Cd.i_AgreesOn_k fun X => ?_
  repeat' first
   |simp -dsimp only [go_sem, cC, cS, cP]
   |refine Br.mk ?_ ?_<;>intro h<;>try simp -dsimp only[h]
   |refine CallK.c (by first|exact VD|exact WD|exact VF|exact VS|exact AG) ?_
   |refine and_c ?_
   |fail
  all_goals first | omega | exact ⟨_, _, rfl, rfl⟩ | (refine ret_eq ?_; simp; done)
 rw [hs] at VS
 simp only [Bool.true_and, if_true]
 refine fn0 Cd.i_AgreesOn_k fun X => ?_
 repeat' first
  |simp -dsimp only [go_sem, cC, cS, cP]
  |refine Br.mk ?_ ?_<;>intro h<;>try simp -dsimp only[h]
  |refine CallK.c (by first|exact VD|exact WD|exact VF|exact VS|exact AG) ?_
  |refine and_c ?_
  |fail
 all_goals first | omega | exact ⟨_, _, rfl, rfl⟩ | (refine ret_eq ?_; simp; done)
theorem spec_AgreesOn (fl : List Stp) (hz : ∀ x, x ∈ fl → x.text.size ≤ 1048576) (hl : fl.length ≤ 1048576) (x : Spc) (hx : x.text.size ≤ 1048576) (l : List (List Int)) (hk : smallC l) : Fz F.s_AgreesOn [.sl 9 (E cS fl), .agg (cP x), .sl 1 (E cC l)] (.tup [.v (.bool (aoV fl x l)), .v (.int .i64 (aoC fl x l))]) := by
 have VD := l02Deck l hk.2 hk.1
 have WD := l07Width l
 unfold aoV aoC
 cases hd : deckB l
 ·rw [hd] at VD
  simp only [Bool.false_eq_true, if_false]
  refine fn0 Cd.s_AgreesOn_k fun X => ?_
  repeat' first
   |simp -dsimp only [go_sem, cC, cS, cP]
   |refine Br.mk ?_ ?_<;>intro h<;>try simp -dsimp only[h]
   |refine CallK.c (by first|exact VD|exact WD) ?_
   |refine and_c ?_
   |fail
  all_goals first | omega | exact ⟨_, _, rfl, rfl⟩ | (refine ret_eq ?_; simp; done)
 rw [hd] at VD
 have VF := l15Flow fl (widB l) hz hl
 have VS := l16Ok x (widB l) hx
 have AG := l17Agrees fl hz hl x hx l hk hd
 rw [show (fl.all (fun x => stpB x (widB l)) && decide ((fl.length : Int) ≤ 20)) = flwB fl (widB l) from rfl] at VF
 simp only [if_true]
 cases hf : flwB fl (widB l)
 ·rw [hf] at VF
  simp only [Bool.false_and, Bool.false_eq_true, if_false]
  refine fn0 Cd.s_AgreesOn_k fun X => ?_
  repeat' first
   |simp -dsimp only [go_sem, cC, cS, cP]
   |refine Br.mk ?_ ?_<;>intro h<;>try simp -dsimp only[h]
   |refine CallK.c (by first|exact VD|exact WD|exact VF|exact VS|exact AG) ?_
   |refine and_c ?_
   |fail
  all_goals first | omega | exact ⟨_, _, rfl, rfl⟩ | (refine ret_eq ?_; simp; done)
 rw [hf] at VF
 cases hs : spcB x (widB l)
 ·rw [hs] at VS
  simp only [Bool.true_and, Bool.false_eq_true, if_false]
  refine fn0 Cd.s_AgreesOn_k fun X => ?_
  repeat' first
   |simp -dsimp only [go_sem, cC, cS, cP]
   |refine Br.mk ?_ ?_<;>intro h<;>try simp -dsimp only[h]
   |refine CallK.c (by first|exact VD|exact WD|exact VF|exact VS|exact AG) ?_
   |refine and_c ?_
   |fail
  all_goals first | omega | exact ⟨_, _, rfl, rfl⟩ | (refine ret_eq ?_; simp; done)
 rw [hs] at VS
 simp only [Bool.true_and, if_true]
 refine fn0 Cd.s_AgreesOn_k fun X => ?_
 repeat' first
  |simp -dsimp only [go_sem, cC, cS, cP]
  |refine Br.mk ?_ ?_<;>intro h<;>try simp -dsimp only[h]
  |refine CallK.c (by first|exact VD|exact WD|exact VF|exact VS|exact AG) ?_
  |refine and_c ?_
  |fail
 all_goals first | omega | exact ⟨_, _, rfl, rfl⟩ | (refine ret_eq ?_; simp; done)
end Go.Proofs.YtmfjbgjeljhcaaaGreat
