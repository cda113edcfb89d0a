/- The deck that arises by a step: the reference. -/
import Derived.Test.YtmfjbgjeljhcaaaGreatZwVm
set_option linter.unusedSimpArgs false
set_option linter.unusedVariables false
set_option maxHeartbeats 8000000
namespace Go.Proofs.YtmfjbgjeljhcaaaGreat
open Go.Vs
attribute [local irreducible] Vs.Fn keyC mgC selC mtC srtL flt offT fogL mat chOK areCh chTo chAt l03 chB rk cd3 chI stp stpTo
attribute [local go_sem] Int.reduceBEq Int.reduceBNe cO cFd E_len List.replicate_succ List.replicate_zero List.flatten_cons List.flatten_nil List.cons_append List.nil_append List.set_cons_zero List.set_cons_succ List.length_cons List.length_nil List.length_set List.mem_singleton List.mem_cons List.not_mem_nil or_false false_or Vs.Name.t.injEq Vs.Name.b.injEq List.getD_cons_zero List.getD_cons_succ in
theorem l15MakeN (x : Stp) (hz : x.text.size ≤ 1048576) (T : List (List (List Int))) (hs : ∀ d, d ∈ T → smallC d) (hl : T.length ≤ 1048576) (iA : 0 ≤ x.a ∧ x.a < (T.length : Int)) (iB : 0 ≤ x.b ∧ x.b < (T.length : Int)) : Vs.Fn Tryz.prog F.s_l15Make [.var [.loc (.b 1) 0 T.length, .v (.slice none 0 0)] false, .arr 1 (E cD T) false] [.ptr (.b 0) 0 0, .ro (cS x)] (.tup [dkV x (tr T x.a) (tr T x.b), .v (.int .i64 (dkC x (tr T x.a) (tr T x.b)))]) ([.var [.loc (.b 1) 0 T.length, .v (.slice none 0 0)] false, .arr 1 (E cD T) false].map some) := by
 have sa := hs _ (tr_mem iA)
 have sb := hs _ (tr_mem iB)
 have gA := tr_at iA
 have gB := tr_at iB
 have a0 := iA.1
 have a1 := iA.2
 have b0 := iB.1
 have b1 := iB.2
 by_cases h1 : x.kind = 1
 ·have CT := spec_SortedBy (tr T x.a) x.f0 x.f1 sa.2 sa.1
  have hC : dkC x (tr T x.a) (tr T x.b) = keyC x.f0 x.f1 (tr T x.a) := by simp [dkC, h1]
  have hL : dkL x (tr T x.a) (tr T x.b) = srtL x.f0 x.f1 (tr T x.a) := by simp [dkL, h1]
  have hV : dkV x (tr T x.a) (tr T x.b) = srtV x.f0 x.f1 (tr T x.a) := by unfold dkV srtV; rw [hC, hL]
  have hv2 : srtV x.f0 x.f1 (tr T x.a) = .sl 1 (E cC (srtL x.f0 x.f1 (tr T x.a))) ∨ srtV x.f0 x.f1 (tr T x.a) = .v (.slice none 0 0) := by unfold srtV; split <;> simp
  rw [hV, hC]
  generalize keyC x.f0 x.f1 (tr T x.a) = c at *
  rcases hv2 with hv2 | hv2 <;> rw [hv2] at CT ⊢
  all_goals
   refine Cd.s_l15Make_k.o.fn Tryz.mixed (hin := [.var [.loc (.b 1) 0 T.length, .v (.slice none 0 0)] false, .arr 1 (E cD T) false]) _ _ [.b 0, .b 1] [.var [.loc (.b 1) 0 T.length, .v (.slice none 0 0)] false, .arr 1 (E cD T) false] Cd.s_l15Make_k.n Cd.s_l15Make_k.r rfl (by simp) rfl (by intro j hj; rcases j with _ | _ | _ | j <;> first | rfl | (simp at hj; done) | (simp at hj; omega)) fun X => ?_
   unfold Cd.s_l15Make
   repeat' first
    |simp -dsimp only [go_sem, h1, gA, gB, cS]
    |refine Br.mk ?_ ?_<;>intro h<;>try simp -dsimp only[h]
    |refine CallK.c (by first|exact CT) ?_
    |refine and_c ?_
    |fail
   all_goals first | omega | exact ⟨_, _, rfl, rfl⟩
 by_cases h2 : x.kind = 2
 ·have CT := spec_MergeDecks (tr T x.a) (tr T x.b) x.f0 x.f1 sa sb
  have hC : dkC x (tr T x.a) (tr T x.b) = mgC x.f0 x.f1 (tr T x.a) (tr T x.b) := by simp [dkC, h2]
  have hL : dkL x (tr T x.a) (tr T x.b) = srtL x.f0 x.f1 (tr T x.a ++ tr T x.b) := by simp [dkL, h2]
  have hV : dkV x (tr T x.a) (tr T x.b) = mgV x.f0 x.f1 (tr T x.a) (tr T x.b) := by unfold dkV mgV; rw [hC, hL]
  have hv2 : mgV x.f0 x.f1 (tr T x.a) (tr T x.b) = .sl 1 (E cC (srtL x.f0 x.f1 (tr T x.a ++ tr T x.b))) ∨ mgV x.f0 x.f1 (tr T x.a) (tr T x.b) = .v (.slice none 0 0) := by unfold mgV; split <;> simp
  rw [hV, hC]
  generalize mgC x.f0 x.f1 (tr T x.a) (tr T x.b) = c at *
  rcases hv2 with hv2 | hv2 <;> rw [hv2] at CT ⊢
  all_goals
   refine Cd.s_l15Make_k.o.fn Tryz.mixed (hin := [.var [.loc (.b 1) 0 T.length, .v (.slice none 0 0)] false, .arr 1 (E cD T) false]) _ _ [.b 0, .b 1] [.var [.loc (.b 1) 0 T.length, .v (.slice none 0 0)] false, .arr 1 (E cD T) false] Cd.s_l15Make_k.n Cd.s_l15Make_k.r rfl (by simp) rfl (by intro j hj; rcases j with _ | _ | _ | j <;> first | rfl | (simp at hj; done) | (simp at hj; omega)) fun X => ?_
   unfold Cd.s_l15Make
   repeat' first
    |simp -dsimp only [go_sem, h2, gA, gB, cS]
    |refine Br.mk ?_ ?_<;>intro h<;>try simp -dsimp only[h]
    |refine CallK.c (by first|exact CT) ?_
    |refine and_c ?_
    |fail
   all_goals first | omega | exact ⟨_, _, rfl, rfl⟩
 by_cases h5 : x.kind = 5
 ·have CT := spec_SelectEqual (tr T x.a) x.f0 x.f1 x.text sa hz
  have hC : dkC x (tr T x.a) (tr T x.b) = selC x.f0 x.f1 x.text (tr T x.a) := by simp [dkC, h5]
  have hL : dkL x (tr T x.a) (tr T x.b) = flt (offT x.f0 x.f1 x.text) (tr T x.a) := by simp [dkL, h5]
  have hV : dkV x (tr T x.a) (tr T x.b) = selV x.f0 x.f1 x.text (tr T x.a) := by unfold dkV selV; rw [hC, hL]
  have hv2 : selV x.f0 x.f1 x.text (tr T x.a) = .sl 1 (E cC (flt (offT x.f0 x.f1 x.text) (tr T x.a))) ∨ selV x.f0 x.f1 x.text (tr T x.a) = .v (.slice none 0 0) := by unfold selV; split <;> simp
  rw [hV, hC]
  generalize selC x.f0 x.f1 x.text (tr T x.a) = c at *
  rcases hv2 with hv2 | hv2 <;> rw [hv2] at CT ⊢
  all_goals
   refine Cd.s_l15Make_k.o.fn Tryz.mixed (hin := [.var [.loc (.b 1) 0 T.length, .v (.slice none 0 0)] false, .arr 1 (E cD T) false]) _ _ [.b 0, .b 1] [.var [.loc (.b 1) 0 T.length, .v (.slice none 0 0)] false, .arr 1 (E cD T) false] Cd.s_l15Make_k.n Cd.s_l15Make_k.r rfl (by simp) rfl (by intro j hj; rcases j with _ | _ | _ | j <;> first | rfl | (simp at hj; done) | (simp at hj; omega)) fun X => ?_
   unfold Cd.s_l15Make
   repeat' first
    |simp -dsimp only [go_sem, h5, gA, gB, cS]
    |refine Br.mk ?_ ?_<;>intro h<;>try simp -dsimp only[h]
    |refine CallK.c (by first|exact CT) ?_
    |refine and_c ?_
    |fail
   all_goals first | omega | exact ⟨_, _, rfl, rfl⟩
 by_cases h6 : x.kind = 6
 ·have CT := spec_FirstOfGroups (tr T x.a) x.f0 x.f1 sa
  have hC : dkC x (tr T x.a) (tr T x.b) = keyC x.f0 x.f1 (tr T x.a) := by simp [dkC, h6]
  have hL : dkL x (tr T x.a) (tr T x.b) = fogL x.f0 x.f1 (tr T x.a) := by simp [dkL, h6]
  have hV : dkV x (tr T x.a) (tr T x.b) = fogV x.f0 x.f1 (tr T x.a) := by unfold dkV fogV; rw [hC, hL]
  have hv2 : fogV x.f0 x.f1 (tr T x.a) = .sl 1 (E cC (fogL x.f0 x.f1 (tr T x.a))) ∨ fogV x.f0 x.f1 (tr T x.a) = .v (.slice none 0 0) := by unfold fogV; split <;> simp
  rw [hV, hC]
  generalize keyC x.f0 x.f1 (tr T x.a) = c at *
  rcases hv2 with hv2 | hv2 <;> rw [hv2] at CT ⊢
  all_goals
   refine Cd.s_l15Make_k.o.fn Tryz.mixed (hin := [.var [.loc (.b 1) 0 T.length, .v (.slice none 0 0)] false, .arr 1 (E cD T) false]) _ _ [.b 0, .b 1] [.var [.loc (.b 1) 0 T.length, .v (.slice none 0 0)] false, .arr 1 (E cD T) false] Cd.s_l15Make_k.n Cd.s_l15Make_k.r rfl (by simp) rfl (by intro j hj; rcases j with _ | _ | _ | j <;> first | rfl | (simp at hj; done) | (simp at hj; omega)) fun X => ?_
   unfold Cd.s_l15Make
   repeat' first
    |simp -dsimp only [go_sem, h6, gA, gB, cS]
    |refine Br.mk ?_ ?_<;>intro h<;>try simp -dsimp only[h]
    |refine CallK.c (by first|exact CT) ?_
    |refine and_c ?_
    |fail
   all_goals first | omega | exact ⟨_, _, rfl, rfl⟩
 have hC : dkC x (tr T x.a) (tr T x.b) = mtC x.f0 x.f1 (tr T x.a) (tr T x.b) := by simp [dkC, h1, h2, h5, h6]
 have e1 : (x.kind == 1) = false := beq_eq_false_iff_ne.2 h1
 have e2 : (x.kind == 2) = false := beq_eq_false_iff_ne.2 h2
 have e5 : (x.kind == 5) = false := beq_eq_false_iff_ne.2 h5
 have e6 : (x.kind == 6) = false := beq_eq_false_iff_ne.2 h6
 have CT := spec_MatchDecks (tr T x.a) (tr T x.b) x.f0 x.f1 sa sb
 by_cases h0 : mtC x.f0 x.f1 (tr T x.a) (tr T x.b) = 0
 ·rw [show mtV x.f0 x.f1 (tr T x.a) (tr T x.b) = .sl 1 (E cD (mtL x.f0 x.f1 (tr T x.a) (tr T x.b))) by simp [mtV, h0], h0] at CT
  have hl4 : (mtL x.f0 x.f1 (tr T x.a) (tr T x.b)).length = 4 := rfl
  have m0 : (E cD (mtL x.f0 x.f1 (tr T x.a) (tr T x.b))).getD 0 [] = [.sl 1 (E cC (mat x.f0 x.f1 (tr T x.a) (tr T x.b) true))] := rfl
  have m2 : (E cD (mtL x.f0 x.f1 (tr T x.a) (tr T x.b))).getD 2 [] = [.sl 1 (E cC (mat x.f0 x.f1 (tr T x.a) (tr T x.b) false))] := rfl
  generalize mtL x.f0 x.f1 (tr T x.a) (tr T x.b) = ML at *
  by_cases h3 : x.kind = 3
  ·have e3 : (x.kind == 3) = true := beq_iff_eq.2 h3
   have hV : dkV x (tr T x.a) (tr T x.b) = .sl 1 (E cC (mat x.f0 x.f1 (tr T x.a) (tr T x.b) true)) := by unfold dkV; rw [hC, h0]; simp [dkL, h1, h2, h5, h6, h3]
   rw [hV, hC, h0]
   refine Cd.s_l15Make_k.o.fn Tryz.mixed (hin := [.var [.loc (.b 1) 0 T.length, .v (.slice none 0 0)] false, .arr 1 (E cD T) false]) _ _ [.b 0, .b 1] [.var [.loc (.b 1) 0 T.length, .v (.slice none 0 0)] false, .arr 1 (E cD T) false] Cd.s_l15Make_k.n Cd.s_l15Make_k.r rfl (by simp) rfl (by intro j hj; rcases j with _ | _ | _ | j <;> first | rfl | (simp at hj; done) | (simp at hj; omega)) fun X => ?_
   unfold Cd.s_l15Make
   repeat' first
    |simp -dsimp only [go_sem, e1, e2, e5, e6, e3, gA, gB, m0, m2, hl4, cS]
    |refine Br.mk ?_ ?_<;>intro h<;>try simp -dsimp only[h]
    |refine CallK.c (by first|exact CT) ?_
    |refine and_c ?_
    |fail
   all_goals first | omega | exact ⟨_, _, rfl, rfl⟩
  ·have e3 : (x.kind == 3) = false := beq_eq_false_iff_ne.2 h3
   have hV : dkV x (tr T x.a) (tr T x.b) = .sl 1 (E cC (mat x.f0 x.f1 (tr T x.a) (tr T x.b) false)) := by unfold dkV; rw [hC, h0]; simp [dkL, h1, h2, h5, h6, h3]
   rw [hV, hC, h0]
   refine Cd.s_l15Make_k.o.fn Tryz.mixed (hin := [.var [.loc (.b 1) 0 T.length, .v (.slice none 0 0)] false, .arr 1 (E cD T) false]) _ _ [.b 0, .b 1] [.var [.loc (.b 1) 0 T.length, .v (.slice none 0 0)] false, .arr 1 (E cD T) false] Cd.s_l15Make_k.n Cd.s_l15Make_k.r rfl (by simp) rfl (by intro j hj; rcases j with _ | _ | _ | j <;> first | rfl | (simp at hj; done) | (simp at hj; omega)) fun X => ?_
   unfold Cd.s_l15Make
   repeat' first
    |simp -dsimp only [go_sem, e1, e2, e5, e6, e3, gA, gB, m0, m2, hl4, cS]
    |refine Br.mk ?_ ?_<;>intro h<;>try simp -dsimp only[h]
    |refine CallK.c (by first|exact CT) ?_
    |refine and_c ?_
    |fail
   all_goals first | omega | exact ⟨_, _, rfl, rfl⟩
 ·have e0 : (mtC x.f0 x.f1 (tr T x.a) (tr T x.b) != 0) = true := by simp [h0]
  rw [show mtV x.f0 x.f1 (tr T x.a) (tr T x.b) = .v (.slice none 0 0) by simp [mtV, h0]] at CT
  have hV : dkV x (tr T x.a) (tr T x.b) = .v (.slice none 0 0) := by unfold dkV; rw [hC, if_neg h0]
  rw [hV, hC]
  generalize mtC x.f0 x.f1 (tr T x.a) (tr T x.b) = c at *
  refine Cd.s_l15Make_k.o.fn Tryz.mixed (hin := [.var [.loc (.b 1) 0 T.length, .v (.slice none 0 0)] false, .arr 1 (E cD T) false]) _ _ [.b 0, .b 1] [.var [.loc (.b 1) 0 T.length, .v (.slice none 0 0)] false, .arr 1 (E cD T) false] Cd.s_l15Make_k.n Cd.s_l15Make_k.r rfl (by simp) rfl (by intro j hj; rcases j with _ | _ | _ | j <;> first | rfl | (simp at hj; done) | (simp at hj; omega)) fun X => ?_
  unfold Cd.s_l15Make
  repeat' first
   |simp -dsimp only [go_sem, e1, e2, e5, e6, e0, gA, gB, cS]
   |refine Br.mk ?_ ?_<;>intro h<;>try simp -dsimp only[h]
   |refine CallK.c (by first|exact CT) ?_
   |refine and_c ?_
   |fail
  all_goals first | omega | exact ⟨_, _, rfl, rfl⟩
attribute [local go_sem] Int.reduceBEq Int.reduceBNe cO cFd E_len List.replicate_succ List.replicate_zero List.flatten_cons List.flatten_nil List.cons_append List.nil_append List.set_cons_zero List.set_cons_succ List.length_cons List.length_nil List.length_set List.mem_singleton List.mem_cons List.not_mem_nil or_false false_or Vs.Name.t.injEq Vs.Name.b.injEq List.getD_cons_zero List.getD_cons_succ in
theorem l15MakeL (x : Stp) (hz : x.text.size ≤ 1048576) (T : List (List (List Int))) (hs : ∀ d, d ∈ T → smallC d) (hl : T.length ≤ 1048576) (iA : 0 ≤ x.a ∧ x.a < (T.length : Int)) (iB : 0 ≤ x.b ∧ x.b < (T.length : Int)) (TS : List (List Tot)) : Vs.Fn Tryz.prog F.s_l15Make [.var [.loc (.b 1) 0 T.length, .loc (.b 2) 0 TS.length] false, .arr 1 (E cD T) false, .arr 1 (E cTs TS) false] [.ptr (.b 0) 0 0, .ro (cS x)] (.tup [dkV x (tr T x.a) (tr T x.b), .v (.int .i64 (dkC x (tr T x.a) (tr T x.b)))]) ([.var [.loc (.b 1) 0 T.length, .loc (.b 2) 0 TS.length] false, .arr 1 (E cD T) false, .arr 1 (E cTs TS) false].map some) := by
 have sa := hs _ (tr_mem iA)
 have sb := hs _ (tr_mem iB)
 have gA := tr_at iA
 have gB := tr_at iB
 have a0 := iA.1
 have a1 := iA.2
 have b0 := iB.1
 have b1 := iB.2
 by_cases h1 : x.kind = 1
 ·have CT := spec_SortedBy (tr T x.a) x.f0 x.f1 sa.2 sa.1
  have hC : dkC x (tr T x.a) (tr T x.b) = keyC x.f0 x.f1 (tr T x.a) := by simp [dkC, h1]
  have hL : dkL x (tr T x.a) (tr T x.b) = srtL x.f0 x.f1 (tr T x.a) := by simp [dkL, h1]
  have hV : dkV x (tr T x.a) (tr T x.b) = srtV x.f0 x.f1 (tr T x.a) := by unfold dkV srtV; rw [hC, hL]
  have hv2 : srtV x.f0 x.f1 (tr T x.a) = .sl 1 (E cC (srtL x.f0 x.f1 (tr T x.a))) ∨ srtV x.f0 x.f1 (tr T x.a) = .v (.slice none 0 0) := by unfold srtV; split <;> simp
  rw [hV, hC]
  generalize keyC x.f0 x.f1 (tr T x.a) = c at *
  rcases hv2 with hv2 | hv2 <;> rw [hv2] at CT ⊢
  all_goals
   refine Cd.s_l15Make_k.o.fn Tryz.mixed (hin := [.var [.loc (.b 1) 0 T.length, .loc (.b 2) 0 TS.length] false, .arr 1 (E cD T) false, .arr 1 (E cTs TS) false]) _ _ [.b 0, .b 1, .b 2] [.var [.loc (.b 1) 0 T.length, .loc (.b 2) 0 TS.length] false, .arr 1 (E cD T) false, .arr 1 (E cTs TS) false] Cd.s_l15Make_k.n Cd.s_l15Make_k.r rfl (by simp) rfl (by intro j hj; rcases j with _ | _ | _ | j <;> first | rfl | (simp at hj; done) | (simp at hj; omega)) fun X => ?_
   unfold Cd.s_l15Make
   repeat' first
    |simp -dsimp only [go_sem, h1, gA, gB, cS]
    |refine Br.mk ?_ ?_<;>intro h<;>try simp -dsimp only[h]
    |refine CallK.c (by first|exact CT) ?_
    |refine and_c ?_
    |fail
   all_goals first | omega | exact ⟨_, _, rfl, rfl⟩
 by_cases h2 : x.kind = 2
 ·have CT := spec_MergeDecks (tr T x.a) (tr T x.b) x.f0 x.f1 sa sb
  have hC : dkC x (tr T x.a) (tr T x.b) = mgC x.f0 x.f1 (tr T x.a) (tr T x.b) := by simp [dkC, h2]
  have hL : dkL x (tr T x.a) (tr T x.b) = srtL x.f0 x.f1 (tr T x.a ++ tr T x.b) := by simp [dkL, h2]
  have hV : dkV x (tr T x.a) (tr T x.b) = mgV x.f0 x.f1 (tr T x.a) (tr T x.b) := by unfold dkV mgV; rw [hC, hL]
  have hv2 : mgV x.f0 x.f1 (tr T x.a) (tr T x.b) = .sl 1 (E cC (srtL x.f0 x.f1 (tr T x.a ++ tr T x.b))) ∨ mgV x.f0 x.f1 (tr T x.a) (tr T x.b) = .v (.slice none 0 0) := by unfold mgV; split <;> simp
  rw [hV, hC]
  generalize mgC x.f0 x.f1 (tr T x.a) (tr T x.b) = c at *
  rcases hv2 with hv2 | hv2 <;> rw [hv2] at CT ⊢
  all_goals
   refine Cd.s_l15Make_k.o.fn Tryz.mixed (hin := [.var [.loc (.b 1) 0 T.length, .loc (.b 2) 0 TS.length] false, .arr 1 (E cD T) false, .arr 1 (E cTs TS) false]) _ _ [.b 0, .b 1, .b 2] [.var [.loc (.b 1) 0 T.length, .loc (.b 2) 0 TS.length] false, .arr 1 (E cD T) false, .arr 1 (E cTs TS) false] Cd.s_l15Make_k.n Cd.s_l15Make_k.r rfl (by simp) rfl (by intro j hj; rcases j with _ | _ | _ | j <;> first | rfl | (simp at hj; done) | (simp at hj; omega)) fun X => ?_
   unfold Cd.s_l15Make
   repeat' first
    |simp -dsimp only [go_sem, h2, gA, gB, cS]
    |refine Br.mk ?_ ?_<;>intro h<;>try simp -dsimp only[h]
    |refine CallK.c (by first|exact CT) ?_
    |refine and_c ?_
    |fail
   all_goals first | omega | exact ⟨_, _, rfl, rfl⟩
 by_cases h5 : x.kind = 5
 ·have CT := spec_SelectEqual (tr T x.a) x.f0 x.f1 x.text sa hz
  have hC : dkC x (tr T x.a) (tr T x.b) = selC x.f0 x.f1 x.text (tr T x.a) := by simp [dkC, h5]
  have hL : dkL x (tr T x.a) (tr T x.b) = flt (offT x.f0 x.f1 x.text) (tr T x.a) := by simp [dkL, h5]
  have hV : dkV x (tr T x.a) (tr T x.b) = selV x.f0 x.f1 x.text (tr T x.a) := by unfold dkV selV; rw [hC, hL]
  have hv2 : selV x.f0 x.f1 x.text (tr T x.a) = .sl 1 (E cC (flt (offT x.f0 x.f1 x.text) (tr T x.a))) ∨ selV x.f0 x.f1 x.text (tr T x.a) = .v (.slice none 0 0) := by unfold selV; split <;> simp
  rw [hV, hC]
  generalize selC x.f0 x.f1 x.text (tr T x.a) = c at *
  rcases hv2 with hv2 | hv2 <;> rw [hv2] at CT ⊢
  all_goals
   refine Cd.s_l15Make_k.o.fn Tryz.mixed (hin := [.var [.loc (.b 1) 0 T.length, .loc (.b 2) 0 TS.length] false, .arr 1 (E cD T) false, .arr 1 (E cTs TS) false]) _ _ [.b 0, .b 1, .b 2] [.var [.loc (.b 1) 0 T.length, .loc (.b 2) 0 TS.length] false, .arr 1 (E cD T) false, .arr 1 (E cTs TS) false] Cd.s_l15Make_k.n Cd.s_l15Make_k.r rfl (by simp) rfl (by intro j hj; rcases j with _ | _ | _ | j <;> first | rfl | (simp at hj; done) | (simp at hj; omega)) fun X => ?_
   unfold Cd.s_l15Make
   repeat' first
    |simp -dsimp only [go_sem, h5, gA, gB, cS]
    |refine Br.mk ?_ ?_<;>intro h<;>try simp -dsimp only[h]
    |refine CallK.c (by first|exact CT) ?_
    |refine and_c ?_
    |fail
   all_goals first | omega | exact ⟨_, _, rfl, rfl⟩
 by_cases h6 : x.kind = 6
 ·have CT := spec_FirstOfGroups (tr T x.a) x.f0 x.f1 sa
  have hC : dkC x (tr T x.a) (tr T x.b) = keyC x.f0 x.f1 (tr T x.a) := by simp [dkC, h6]
  have hL : dkL x (tr T x.a) (tr T x.b) = fogL x.f0 x.f1 (tr T x.a) := by simp [dkL, h6]
  have hV : dkV x (tr T x.a) (tr T x.b) = fogV x.f0 x.f1 (tr T x.a) := by unfold dkV fogV; rw [hC, hL]
  have hv2 : fogV x.f0 x.f1 (tr T x.a) = .sl 1 (E cC (fogL x.f0 x.f1 (tr T x.a))) ∨ fogV x.f0 x.f1 (tr T x.a) = .v (.slice none 0 0) := by unfold fogV; split <;> simp
  rw [hV, hC]
  generalize keyC x.f0 x.f1 (tr T x.a) = c at *
  rcases hv2 with hv2 | hv2 <;> rw [hv2] at CT ⊢
  all_goals
   refine Cd.s_l15Make_k.o.fn Tryz.mixed (hin := [.var [.loc (.b 1) 0 T.length, .loc (.b 2) 0 TS.length] false, .arr 1 (E cD T) false, .arr 1 (E cTs TS) false]) _ _ [.b 0, .b 1, .b 2] [.var [.loc (.b 1) 0 T.length, .loc (.b 2) 0 TS.length] false, .arr 1 (E cD T) false, .arr 1 (E cTs TS) false] Cd.s_l15Make_k.n Cd.s_l15Make_k.r rfl (by simp) rfl (by intro j hj; rcases j with _ | _ | _ | j <;> first | rfl | (simp at hj; done) | (simp at hj; omega)) fun X => ?_
   unfold Cd.s_l15Make
   repeat' first
    |simp -dsimp only [go_sem, h6, gA, gB, cS]
    |refine Br.mk ?_ ?_<;>intro h<;>try simp -dsimp only[h]
    |refine CallK.c (by first|exact CT) ?_
    |refine and_c ?_
    |fail
   all_goals first | omega | exact ⟨_, _, rfl, rfl⟩
 have hC : dkC x (tr T x.a) (tr T x.b) = mtC x.f0 x.f1 (tr T x.a) (tr T x.b) := by simp [dkC, h1, h2, h5, h6]
 have e1 : (x.kind == 1) = false := beq_eq_false_iff_ne.2 h1
 have e2 : (x.kind == 2) = false := beq_eq_false_iff_ne.2 h2
 have e5 : (x.kind == 5) = false := beq_eq_false_iff_ne.2 h5
 have e6 : (x.kind == 6) = false := beq_eq_false_iff_ne.2 h6
 have CT := spec_MatchDecks (tr T x.a) (tr T x.b) x.f0 x.f1 sa sb
 by_cases h0 : mtC x.f0 x.f1 (tr T x.a) (tr T x.b) = 0
 ·rw [show mtV x.f0 x.f1 (tr T x.a) (tr T x.b) = .sl 1 (E cD (mtL x.f0 x.f1 (tr T x.a) (tr T x.b))) by simp [mtV, h0], h0] at CT
  have hl4 : (mtL x.f0 x.f1 (tr T x.a) (tr T x.b)).length = 4 := rfl
  have m0 : (E cD (mtL x.f0 x.f1 (tr T x.a) (tr T x.b))).getD 0 [] = [.sl 1 (E cC (mat x.f0 x.f1 (tr T x.a) (tr T x.b) true))] := rfl
  have m2 : (E cD (mtL x.f0 x.f1 (tr T x.a) (tr T x.b))).getD 2 [] = [.sl 1 (E cC (mat x.f0 x.f1 (tr T x.a) (tr T x.b) false))] := rfl
  generalize mtL x.f0 x.f1 (tr T x.a) (tr T x.b) = ML at *
  by_cases h3 : x.kind = 3
  ·have e3 : (x.kind == 3) = true := beq_iff_eq.2 h3
   have hV : dkV x (tr T x.a) (tr T x.b) = .sl 1 (E cC (mat x.f0 x.f1 (tr T x.a) (tr T x.b) true)) := by unfold dkV; rw [hC, h0]; simp [dkL, h1, h2, h5, h6, h3]
   rw [hV, hC, h0]
   refine Cd.s_l15Make_k.o.fn Tryz.mixed (hin := [.var [.loc (.b 1) 0 T.length, .loc (.b 2) 0 TS.length] false, .arr 1 (E cD T) false, .arr 1 (E cTs TS) false]) _ _ [.b 0, .b 1, .b 2] [.var [.loc (.b 1) 0 T.length, .loc (.b 2) 0 TS.length] false, .arr 1 (E cD T) false, .arr 1 (E cTs TS) false] Cd.s_l15Make_k.n Cd.s_l15Make_k.r rfl (by simp) rfl (by intro j hj; rcases j with _ | _ | _ | j <;> first | rfl | (simp at hj; done) | (simp at hj; omega)) fun X => ?_
   unfold Cd.s_l15Make
   repeat' first
    |simp -dsimp only [go_sem, e1, e2, e5, e6, e3, gA, gB, m0, m2, hl4, cS]
    |refine Br.mk ?_ ?_<;>intro h<;>try simp -dsimp only[h]
    |refine CallK.c (by first|exact CT) ?_
    |refine and_c ?_
    |fail
   all_goals first | omega | exact ⟨_, _, rfl, rfl⟩
  ·have e3 : (x.kind == 3) = false := beq_eq_false_iff_ne.2 h3
   have hV : dkV x (tr T x.a) (tr T x.b) = .sl 1 (E cC (mat x.f0 x.f1 (tr T x.a) (tr T x.b) false)) := by unfold dkV; rw [hC, h0]; simp [dkL, h1, h2, h5, h6, h3]
   rw [hV, hC, h0]
   refine Cd.s_l15Make_k.o.fn Tryz.mixed (hin := [.var [.loc (.b 1) 0 T.length, .loc (.b 2) 0 TS.length] false, .arr 1 (E cD T) false, .arr 1 (E cTs TS) false]) _ _ [.b 0, .b 1, .b 2] [.var [.loc (.b 1) 0 T.length, .loc (.b 2) 0 TS.length] false, .arr 1 (E cD T) false, .arr 1 (E cTs TS) false] Cd.s_l15Make_k.n Cd.s_l15Make_k.r rfl (by simp) rfl (by intro j hj; rcases j with _ | _ | _ | j <;> first | rfl | (simp at hj; done) | (simp at hj; omega)) fun X => ?_
   unfold Cd.s_l15Make
   repeat' first
    |simp -dsimp only [go_sem, e1, e2, e5, e6, e3, gA, gB, m0, m2, hl4, cS]
    |refine Br.mk ?_ ?_<;>intro h<;>try simp -dsimp only[h]
    |refine CallK.c (by first|exact CT) ?_
    |refine and_c ?_
    |fail
   all_goals first | omega | exact ⟨_, _, rfl, rfl⟩
 ·have e0 : (mtC x.f0 x.f1 (tr T x.a) (tr T x.b) != 0) = true := by simp [h0]
  rw [show mtV x.f0 x.f1 (tr T x.a) (tr T x.b) = .v (.slice none 0 0) by simp [mtV, h0]] at CT
  have hV : dkV x (tr T x.a) (tr T x.b) = .v (.slice none 0 0) := by unfold dkV; rw [hC, if_neg h0]
  rw [hV, hC]
  generalize mtC x.f0 x.f1 (tr T x.a) (tr T x.b) = c at *
  refine Cd.s_l15Make_k.o.fn Tryz.mixed (hin := [.var [.loc (.b 1) 0 T.length, .loc (.b 2) 0 TS.length] false, .arr 1 (E cD T) false, .arr 1 (E cTs TS) false]) _ _ [.b 0, .b 1, .b 2] [.var [.loc (.b 1) 0 T.length, .loc (.b 2) 0 TS.length] false, .arr 1 (E cD T) false, .arr 1 (E cTs TS) false] Cd.s_l15Make_k.n Cd.s_l15Make_k.r rfl (by simp) rfl (by intro j hj; rcases j with _ | _ | _ | j <;> first | rfl | (simp at hj; done) | (simp at hj; omega)) fun X => ?_
  unfold Cd.s_l15Make
  repeat' first
   |simp -dsimp only [go_sem, e1, e2, e5, e6, e0, gA, gB, cS]
   |refine Br.mk ?_ ?_<;>intro h<;>try simp -dsimp only[h]
   |refine CallK.c (by first|exact CT) ?_
   |refine and_c ?_
   |fail
  all_goals first | omega | exact ⟨_, _, rfl, rfl⟩
end Go.Proofs.YtmfjbgjeljhcaaaGreat
