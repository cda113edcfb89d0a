/- Offices in new memory: the reference. -/
import Derived.Test.YtagejhkjpgephaaGreatDoorXwVm
set_option linter.unusedSimpArgs false
set_option linter.unusedVariables false
set_option maxHeartbeats 8000000
namespace Go.Proofs.YtagejhkjpgephaaGreatDoor
open Go.Vs
section
attribute [local irreducible] Vs.Fn keyC mgC selC mtC srtL flt offT fogL mat chOK areCh chTo chAt l03 chB rk cd3 chI stp stpTo
attribute [local go_sem] Int.reduceBEq Int.reduceBNe cO cFd E_len List.replicate_succ List.replicate_zero List.flatten_cons List.flatten_nil List.cons_append List.nil_append List.set_cons_zero List.set_cons_succ List.length_cons List.length_nil List.length_set List.mem_singleton List.mem_cons List.not_mem_nil or_false false_or Vs.Name.t.injEq Vs.Name.b.injEq List.getD_cons_zero List.getD_cons_succ in
theorem l15MakeN (x : Stp) (hz : x.text.size ≤ 1048576) (T : List (List (List Int))) (hs : ∀ d, d ∈ T → smallC d) (hl : T.length ≤ 1048576) (iA : 0 ≤ x.a ∧ x.a < (T.length : Int)) (iB : 0 ≤ x.b ∧ x.b < (T.length : Int)) : Vs.Fn Tryz.prog F.s_l15Make [.var [.loc (.b 1) 0 T.length, .v (.slice none 0 0)] false, .arr 1 (E cD T) false] [.ptr (.b 0) 0 0, .ro (cS x)] (.tup [dkV x (tr T x.a) (tr T x.b), .v (.int .i64 (dkC x (tr T x.a) (tr T x.b)))]) ([.var [.loc (.b 1) 0 T.length, .v (.slice none 0 0)] false, .arr 1 (E cD T) false].map some) := by
 have sa := hs _ (tr_mem iA)
 have sb := hs _ (tr_mem iB)
 have gA := tr_at iA
 have gB := tr_at iB
 have a0 := iA.1
 have a1 := iA.2
 have b0 := iB.1
 have b1 := iB.2
 by_cases h1 : x.kind = 1
 ·have CT := spec_SortedBy (tr T x.a) x.f0 x.f1 sa.2 sa.1
  have hC : dkC x (tr T x.a) (tr T x.b) = keyC x.f0 x.f1 (tr T x.a) := by simp [dkC, h1]
  have hL : dkL x (tr T x.a) (tr T x.b) = srtL x.f0 x.f1 (tr T x.a) := by simp [dkL, h1]
  have hV : dkV x (tr T x.a) (tr T x.b) = srtV x.f0 x.f1 (tr T x.a) := by unfold dkV srtV; rw [hC, hL]
  have hv2 : srtV x.f0 x.f1 (tr T x.a) = .sl 1 (E cC (srtL x.f0 x.f1 (tr T x.a))) ∨ srtV x.f0 x.f1 (tr T x.a) = .v (.slice none 0 0) := by unfold srtV; split <;> simp
  rw [hV, hC]
  generalize keyC x.f0 x.f1 (tr T x.a) = c at *
  rcases hv2 with hv2 | hv2 <;> rw [hv2] at CT ⊢
  all_goals
   refine Cd.s_l15Make_k.o.fn Tryz.mixed (hin := [.var [.loc (.b 1) 0 T.length, .v (.slice none 0 0)] false, .arr 1 (E cD T) false]) _ _ [.b 0, .b 1] [.var [.loc (.b 1) 0 T.length, .v (.slice none 0 0)] false, .arr 1 (E cD T) false] Cd.s_l15Make_k.n Cd.s_l15Make_k.r rfl (by simp) rfl (by intro j hj; rcases j with _ | _ | _ | j <;> first | rfl | (simp at hj; done) | (simp at hj; omega)) fun X => ?_
   unfold Cd.s_l15Make
   repeat' first
    |simp -dsimp only [go_sem, h1, gA, gB, cS]
    |refine Br.mk ?_ ?_<;>intro h<;>try simp -dsimp only[h]
    |refine CallK.c (by first|exact CT) ?_
    |refine and_c ?_
    |fail
   all_goals first | omega | exact ⟨_, _, rfl, rfl⟩
 by_cases h2 : x.kind = 2
 ·have CT := spec_MergeDecks (tr T x.a) (tr T x.b) x.f0 x.f1 sa sb
  have hC : dkC x (tr T x.a) (tr T x.b) = mgC x.f0 x.f1 (tr T x.a) (tr T x.b) := by simp [dkC, h2]
  have hL : dkL x (tr T x.a) (tr T x.b) = srtL x.f0 x.f1 (tr T x.a ++ tr T x.b) := by simp [dkL, h2]
  have hV : dkV x (tr T x.a) (tr T x.b) = mgV x.f0 x.f1 (tr T x.a) (tr T x.b) := by unfold dkV mgV; rw [hC, hL]
  have hv2 : mgV x.f0 x.f1 (tr T x.a) (tr T x.b) = .sl 1 (E cC (srtL x.f0 x.f1 (tr T x.a ++ tr T x.b))) ∨ mgV x.f0 x.f1 (tr T x.a) (tr T x.b) = .v (.slice none 0 0) := by unfold mgV; split <;> simp
  rw [hV, hC]
  generalize mgC x.f0 x.f1 (tr T x.a) (tr T x.b) = c at *
  rcases hv2 with hv2 | hv2 <;> rw [hv2] at CT ⊢
  all_goals
   refine Cd.s_l15Make_k.o.fn Tryz.mixed (hin := [.var [.loc (.b 1) 0 T.length, .v (.slice none 0 0)] false, .arr 1 (E cD T) false]) _ _ [.b 0, .b 1] [.var [.loc (.b 1) 0 T.length, .v (.slice none 0 0)] false, .arr 1 (E cD T) false] Cd.s_l15Make_k.n Cd.s_l15Make_k.r rfl (by simp) rfl (by intro j hj; rcases j with _ | _ | _ | j <;> first | rfl | (simp at hj; done) | (simp at hj; omega)) fun X => ?_
   unfold Cd.s_l15Make
   repeat' first
    |simp -dsimp only [go_sem, h2, gA, gB, cS]
    |refine Br.mk ?_ ?_<;>intro h<;>try simp -dsimp only[h]
    |refine CallK.c (by first|exact CT) ?_
    |refine and_c ?_
    |fail
   all_goals first | omega | exact ⟨_, _, rfl, rfl⟩
 by_cases h5 : x.kind = 5
 ·have CT := spec_SelectEqual (tr T x.a) x.f0 x.f1 x.text sa hz
  have hC : dkC x (tr T x.a) (tr T x.b) = selC x.f0 x.f1 x.text (tr T x.a) := by simp [dkC, h5]
  have hL : dkL x (tr T x.a) (tr T x.b) = flt (offT x.f0 x.f1 x.text) (tr T x.a) := by simp [dkL, h5]
  have hV : dkV x (tr T x.a) (tr T x.b) = selV x.f0 x.f1 x.text (tr T x.a) := by unfold dkV selV; rw [hC, hL]
  have hv2 : selV x.f0 x.f1 x.text (tr T x.a) = .sl 1 (E cC (flt (offT x.f0 x.f1 x.text) (tr T x.a))) ∨ selV x.f0 x.f1 x.text (tr T x.a) = .v (.slice none 0 0) := by unfold selV; split <;> simp
  rw [hV, hC]
  generalize selC x.f0 x.f1 x.text (tr T x.a) = c at *
  rcases hv2 with hv2 | hv2 <;> rw [hv2] at CT ⊢
  all_goals
   refine Cd.s_l15Make_k.o.fn Tryz.mixed (hin := [.var [.loc (.b 1) 0 T.length, .v (.slice none 0 0)] false, .arr 1 (E cD T) false]) _ _ [.b 0, .b 1] [.var [.loc (.b 1) 0 T.length, .v (.slice none 0 0)] false, .arr 1 (E cD T) false] Cd.s_l15Make_k.n Cd.s_l15Make_k.r rfl (by simp) rfl (by intro j hj; rcases j with _ | _ | _ | j <;> first | rfl | (simp at hj; done) | (simp at hj; omega)) fun X => ?_
   unfold Cd.s_l15Make
   repeat' first
    |simp -dsimp only [go_sem, h5, gA, gB, cS]
    |refine Br.mk ?_ ?_<;>intro h<;>try simp -dsimp only[h]
    |refine CallK.c (by first|exact CT) ?_
    |refine and_c ?_
    |fail
   all_goals first | omega | exact ⟨_, _, rfl, rfl⟩
 by_cases h6 : x.kind = 6
 ·have CT := spec_FirstOfGroups (tr T x.a) x.f0 x.f1 sa
  have hC : dkC x (tr T x.a) (tr T x.b) = keyC x.f0 x.f1 (tr T x.a) := by simp [dkC, h6]
  have hL : dkL x (tr T x.a) (tr T x.b) = fogL x.f0 x.f1 (tr T x.a) := by simp [dkL, h6]
  have hV : dkV x (tr T x.a) (tr T x.b) = fogV x.f0 x.f1 (tr T x.a) := by unfold dkV fogV; rw [hC, hL]
  have hv2 : fogV x.f0 x.f1 (tr T x.a) = .sl 1 (E cC (fogL x.f0 x.f1 (tr T x.a))) ∨ fogV x.f0 x.f1 (tr T x.a) = .v (.slice none 0 0) := by unfold fogV; split <;> simp
  rw [hV, hC]
  generalize keyC x.f0 x.f1 (tr T x.a) = c at *
  rcases hv2 with hv2 | hv2 <;> rw [hv2] at CT ⊢
  all_goals
   refine Cd.s_l15Make_k.o.fn Tryz.mixed (hin := [.var [.loc (.b 1) 0 T.length, .v (.slice none 0 0)] false, .arr 1 (E cD T) false]) _ _ [.b 0, .b 1] [.var [.loc (.b 1) 0 T.length, .v (.slice none 0 0)] false, .arr 1 (E cD T) false] Cd.s_l15Make_k.n Cd.s_l15Make_k.r rfl (by simp) rfl (by intro j hj; rcases j with _ | _ | _ | j <;> first | rfl | (simp at hj; done) | (simp at hj; omega)) fun X => ?_
   unfold Cd.s_l15Make
   repeat' first
    |simp -dsimp only [go_sem, h6, gA, gB, cS]
    |refine Br.mk ?_ ?_<;>intro h<;>try simp -dsimp only[h]
    |refine CallK.c (by first|exact CT) ?_
    |refine and_c ?_
    |fail
   all_goals first | omega | exact ⟨_, _, rfl, rfl⟩
 have hC : dkC x (tr T x.a) (tr T x.b) = mtC x.f0 x.f1 (tr T x.a) (tr T x.b) := by simp [dkC, h1, h2, h5, h6]
 have e1 : (x.kind == 1) = false := beq_eq_false_iff_ne.2 h1
 have e2 : (x.kind == 2) = false := beq_eq_false_iff_ne.2 h2
 have e5 : (x.kind == 5) = false := beq_eq_false_iff_ne.2 h5
 have e6 : (x.kind == 6) = false := beq_eq_false_iff_ne.2 h6
 have CT := spec_MatchDecks (tr T x.a) (tr T x.b) x.f0 x.f1 sa sb
 by_cases h0 : mtC x.f0 x.f1 (tr T x.a) (tr T x.b) = 0
 ·rw [show mtV x.f0 x.f1 (tr T x.a) (tr T x.b) = .sl 1 (E cD (mtL x.f0 x.f1 (tr T x.a) (tr T x.b))) by simp [mtV, h0], h0] at CT
  have hl4 : (mtL x.f0 x.f1 (tr T x.a) (tr T x.b)).length = 4 := rfl
  have m0 : (E cD (mtL x.f0 x.f1 (tr T x.a) (tr T x.b))).getD 0 [] = [.sl 1 (E cC (mat x.f0 x.f1 (tr T x.a) (tr T x.b) true))] := rfl
  have m2 : (E cD (mtL x.f0 x.f1 (tr T x.a) (tr T x.b))).getD 2 [] = [.sl 1 (E cC (mat x.f0 x.f1 (tr T x.a) (tr T x.b) false))] := rfl
  generalize mtL x.f0 x.f1 (tr T x.a) (tr T x.b) = ML at *
  by_cases h3 : x.kind = 3
  ·have e3 : (x.kind == 3) = true := beq_iff_eq.2 h3
   have hV : dkV x (tr T x.a) (tr T x.b) = .sl 1 (E cC (mat x.f0 x.f1 (tr T x.a) (tr T x.b) true)) := by unfold dkV; rw [hC, h0]; simp [dkL, h1, h2, h5, h6, h3]
   rw [hV, hC, h0]
   refine Cd.s_l15Make_k.o.fn Tryz.mixed (hin := [.var [.loc (.b 1) 0 T.length, .v (.slice none 0 0)] false, .arr 1 (E cD T) false]) _ _ [.b 0, .b 1] [.var [.loc (.b 1) 0 T.length, .v (.slice none 0 0)] false, .arr 1 (E cD T) false] Cd.s_l15Make_k.n Cd.s_l15Make_k.r rfl (by simp) rfl (by intro j hj; rcases j with _ | _ | _ | j <;> first | rfl | (simp at hj; done) | (simp at hj; omega)) fun X => ?_
   unfold Cd.s_l15Make
   repeat' first
    |simp -dsimp only [go_sem, e1, e2, e5, e6, e3, gA, gB, m0, m2, hl4, cS]
    |refine Br.mk ?_ ?_<;>intro h<;>try simp -dsimp only[h]
    |refine CallK.c (by first|exact CT) ?_
    |refine and_c ?_
    |fail
   all_goals first | omega | exact ⟨_, _, rfl, rfl⟩
  ·have e3 : (x.kind == 3) = false := beq_eq_false_iff_ne.2 h3
   have hV : dkV x (tr T x.a) (tr T x.b) = .sl 1 (E cC (mat x.f0 x.f1 (tr T x.a) (tr T x.b) false)) := by unfold dkV; rw [hC, h0]; simp [dkL, h1, h2, h5, h6, h3]
   rw [hV, hC, h0]
   refine Cd.s_l15Make_k.o.fn Tryz.mixed (hin := [.var [.loc (.b 1) 0 T.length, .v (.slice none 0 0)] false, .arr 1 (E cD T) false]) _ _ [.b 0, .b 1] [.var [.loc (.b 1) 0 T.length, .v (.slice none 0 0)] false, .arr 1 (E cD T) false] Cd.s_l15Make_k.n Cd.s_l15Make_k.r rfl (by simp) rfl (by intro j hj; rcases j with _ | _ | _ | j <;> first | rfl | (simp at hj; done) | (simp at hj; omega)) fun X => ?_
   unfold Cd.s_l15Make
   repeat' first
    |simp -dsimp only [go_sem, e1, e2, e5, e6, e3, gA, gB, m0, m2, hl4, cS]
    |refine Br.mk ?_ ?_<;>intro h<;>try simp -dsimp only[h]
    |refine CallK.c (by first|exact CT) ?_
    |refine and_c ?_
    |fail
   all_goals first | omega | exact ⟨_, _, rfl, rfl⟩
 ·have e0 : (mtC x.f0 x.f1 (tr T x.a) (tr T x.b) != 0) = true := by simp [h0]
  rw [show mtV x.f0 x.f1 (tr T x.a) (tr T x.b) = .v (.slice none 0 0) by simp [mtV, h0]] at CT
  have hV : dkV x (tr T x.a) (tr T x.b) = .v (.slice none 0 0) := by unfold dkV; rw [hC, if_neg h0]
  rw [hV, hC]
  generalize mtC x.f0 x.f1 (tr T x.a) (tr T x.b) = c at *
  refine Cd.s_l15Make_k.o.fn Tryz.mixed (hin := [.var [.loc (.b 1) 0 T.length, .v (.slice none 0 0)] false, .arr 1 (E cD T) false]) _ _ [.b 0, .b 1] [.var [.loc (.b 1) 0 T.length, .v (.slice none 0 0)] false, .arr 1 (E cD T) false] Cd.s_l15Make_k.n Cd.s_l15Make_k.r rfl (by simp) rfl (by intro j hj; rcases j with _ | _ | _ | j <;> first | rfl | (simp at hj; done) | (simp at hj; omega)) fun X => ?_
  unfold Cd.s_l15Make
  repeat' first
   |simp -dsimp only [go_sem, e1, e2, e5, e6, e0, gA, gB, cS]
   |refine Br.mk ?_ ?_<;>intro h<;>try simp -dsimp only[h]
   |refine CallK.c (by first|exact CT) ?_
   |refine and_c ?_
   |fail
  all_goals first | omega | exact ⟨_, _, rfl, rfl⟩
attribute [local go_sem] Int.reduceBEq Int.reduceBNe cO cFd E_len List.replicate_succ List.replicate_zero List.flatten_cons List.flatten_nil List.cons_append List.nil_append List.set_cons_zero List.set_cons_succ List.length_cons List.length_nil List.length_set List.mem_singleton List.mem_cons List.not_mem_nil or_false false_or Vs.Name.t.injEq Vs.Name.b.injEq List.getD_cons_zero List.getD_cons_succ in
theorem l15MakeL (x : Stp) (hz : x.text.size ≤ 1048576) (T : List (List (List Int))) (hs : ∀ d, d ∈ T → smallC d) (hl : T.length ≤ 1048576) (iA : 0 ≤ x.a ∧ x.a < (T.length : Int)) (iB : 0 ≤ x.b ∧ x.b < (T.length : Int)) (TS : List (List Tot)) : Vs.Fn Tryz.prog F.s_l15Make [.var [.loc (.b 1) 0 T.length, .loc (.b 2) 0 TS.length] false, .arr 1 (E cD T) false, .arr 1 (E cTs TS) false] [.ptr (.b 0) 0 0, .ro (cS x)] (.tup [dkV x (tr T x.a) (tr T x.b), .v (.int .i64 (dkC x (tr T x.a) (tr T x.b)))]) ([.var [.loc (.b 1) 0 T.length, .loc (.b 2) 0 TS.length] false, .arr 1 (E cD T) false, .arr 1 (E cTs TS) false].map some) := by
 have sa := hs _ (tr_mem iA)
 have sb := hs _ (tr_mem iB)
 have gA := tr_at iA
 have gB := tr_at iB
 have a0 := iA.1
 have a1 := iA.2
 have b0 := iB.1
 have b1 := iB.2
 by_cases h1 : x.kind = 1
 ·have CT := spec_SortedBy (tr T x.a) x.f0 x.f1 sa.2 sa.1
  have hC : dkC x (tr T x.a) (tr T x.b) = keyC x.f0 x.f1 (tr T x.a) := by simp [dkC, h1]
  have hL : dkL x (tr T x.a) (tr T x.b) = srtL x.f0 x.f1 (tr T x.a) := by simp [dkL, h1]
  have hV : dkV x (tr T x.a) (tr T x.b) = srtV x.f0 x.f1 (tr T x.a) := by unfold dkV srtV; rw [hC, hL]
  have hv2 : srtV x.f0 x.f1 (tr T x.a) = .sl 1 (E cC (srtL x.f0 x.f1 (tr T x.a))) ∨ srtV x.f0 x.f1 (tr T x.a) = .v (.slice none 0 0) := by unfold srtV; split <;> simp
  rw [hV, hC]
  generalize keyC x.f0 x.f1 (tr T x.a) = c at *
  rcases hv2 with hv2 | hv2 <;> rw [hv2] at CT ⊢
  all_goals
   refine Cd.s_l15Make_k.o.fn Tryz.mixed (hin := [.var [.loc (.b 1) 0 T.length, .loc (.b 2) 0 TS.length] false, .arr 1 (E cD T) false, .arr 1 (E cTs TS) false]) _ _ [.b 0, .b 1, .b 2] [.var [.loc (.b 1) 0 T.length, .loc (.b 2) 0 TS.length] false, .arr 1 (E cD T) false, .arr 1 (E cTs TS) false] Cd.s_l15Make_k.n Cd.s_l15Make_k.r rfl (by simp) rfl (by intro j hj; rcases j with _ | _ | _ | j <;> first | rfl | (simp at hj; done) | (simp at hj; omega)) fun X => ?_
   unfold Cd.s_l15Make
   repeat' first
    |simp -dsimp only [go_sem, h1, gA, gB, cS]
    |refine Br.mk ?_ ?_<;>intro h<;>try simp -dsimp only[h]
    |refine CallK.c (by first|exact CT) ?_
    |refine and_c ?_
    |fail
   all_goals first | omega | exact ⟨_, _, rfl, rfl⟩
 by_cases h2 : x.kind = 2
 ·have CT := spec_MergeDecks (tr T x.a) (tr T x.b) x.f0 x.f1 sa sb
  have hC : dkC x (tr T x.a) (tr T x.b) = mgC x.f0 x.f1 (tr T x.a) (tr T x.b) := by simp [dkC, h2]
  have hL : dkL x (tr T x.a) (tr T x.b) = srtL x.f0 x.f1 (tr T x.a ++ tr T x.b) := by simp [dkL, h2]
  have hV : dkV x (tr T x.a) (tr T x.b) = mgV x.f0 x.f1 (tr T x.a) (tr T x.b) := by unfold dkV mgV; rw [hC, hL]
  have hv2 : mgV x.f0 x.f1 (tr T x.a) (tr T x.b) = .sl 1 (E cC (srtL x.f0 x.f1 (tr T x.a ++ tr T x.b))) ∨ mgV x.f0 x.f1 (tr T x.a) (tr T x.b) = .v (.slice none 0 0) := by unfold mgV; split <;> simp
  rw [hV, hC]
  generalize mgC x.f0 x.f1 (tr T x.a) (tr T x.b) = c at *
  rcases hv2 with hv2 | hv2 <;> rw [hv2] at CT ⊢
  all_goals
   refine Cd.s_l15Make_k.o.fn Tryz.mixed (hin := [.var [.loc (.b 1) 0 T.length, .loc (.b 2) 0 TS.length] false, .arr 1 (E cD T) false, .arr 1 (E cTs TS) false]) _ _ [.b 0, .b 1, .b 2] [.var [.loc (.b 1) 0 T.length, .loc (.b 2) 0 TS.length] false, .arr 1 (E cD T) false, .arr 1 (E cTs TS) false] Cd.s_l15Make_k.n Cd.s_l15Make_k.r rfl (by simp) rfl (by intro j hj; rcases j with _ | _ | _ | j <;> first | rfl | (simp at hj; done) | (simp at hj; omega)) fun X => ?_
   unfold Cd.s_l15Make
   repeat' first
    |simp -dsimp only [go_sem, h2, gA, gB, cS]
    |refine Br.mk ?_ ?_<;>intro h<;>try simp -dsimp only[h]
    |refine CallK.c (by first|exact CT) ?_
    |refine and_c ?_
    |fail
   all_goals first | omega | exact ⟨_, _, rfl, rfl⟩
 by_cases h5 : x.kind = 5
 ·have CT := spec_SelectEqual (tr T x.a) x.f0 x.f1 x.text sa hz
  have hC : dkC x (tr T x.a) (tr T x.b) = selC x.f0 x.f1 x.text (tr T x.a) := by simp [dkC, h5]
  have hL : dkL x (tr T x.a) (tr T x.b) = flt (offT x.f0 x.f1 x.text) (tr T x.a) := by simp [dkL, h5]
  have hV : dkV x (tr T x.a) (tr T x.b) = selV x.f0 x.f1 x.text (tr T x.a) := by unfold dkV selV; rw [hC, hL]
  have hv2 : selV x.f0 x.f1 x.text (tr T x.a) = .sl 1 (E cC (flt (offT x.f0 x.f1 x.text) (tr T x.a))) ∨ selV x.f0 x.f1 x.text (tr T x.a) = .v (.slice none 0 0) := by unfold selV; split <;> simp
  rw [hV, hC]
  generalize selC x.f0 x.f1 x.text (tr T x.a) = c at *
  rcases hv2 with hv2 | hv2 <;> rw [hv2] at CT ⊢
  all_goals
   refine Cd.s_l15Make_k.o.fn Tryz.mixed (hin := [.var [.loc (.b 1) 0 T.length, .loc (.b 2) 0 TS.length] false, .arr 1 (E cD T) false, .arr 1 (E cTs TS) false]) _ _ [.b 0, .b 1, .b 2] [.var [.loc (.b 1) 0 T.length, .loc (.b 2) 0 TS.length] false, .arr 1 (E cD T) false, .arr 1 (E cTs TS) false] Cd.s_l15Make_k.n Cd.s_l15Make_k.r rfl (by simp) rfl (by intro j hj; rcases j with _ | _ | _ | j <;> first | rfl | (simp at hj; done) | (simp at hj; omega)) fun X => ?_
   unfold Cd.s_l15Make
   repeat' first
    |simp -dsimp only [go_sem, h5, gA, gB, cS]
    |refine Br.mk ?_ ?_<;>intro h<;>try simp -dsimp only[h]
    |refine CallK.c (by first|exact CT) ?_
    |refine and_c ?_
    |fail
   all_goals first | omega | exact ⟨_, _, rfl, rfl⟩
 by_cases h6 : x.kind = 6
 ·have CT := spec_FirstOfGroups (tr T x.a) x.f0 x.f1 sa
  have hC : dkC x (tr T x.a) (tr T x.b) = keyC x.f0 x.f1 (tr T x.a) := by simp [dkC, h6]
  have hL : dkL x (tr T x.a) (tr T x.b) = fogL x.f0 x.f1 (tr T x.a) := by simp [dkL, h6]
  have hV : dkV x (tr T x.a) (tr T x.b) = fogV x.f0 x.f1 (tr T x.a) := by unfold dkV fogV; rw [hC, hL]
  have hv2 : fogV x.f0 x.f1 (tr T x.a) = .sl 1 (E cC (fogL x.f0 x.f1 (tr T x.a))) ∨ fogV x.f0 x.f1 (tr T x.a) = .v (.slice none 0 0) := by unfold fogV; split <;> simp
  rw [hV, hC]
  generalize keyC x.f0 x.f1 (tr T x.a) = c at *
  rcases hv2 with hv2 | hv2 <;> rw [hv2] at CT ⊢
  all_goals
   refine Cd.s_l15Make_k.o.fn Tryz.mixed (hin := [.var [.loc (.b 1) 0 T.length, .loc (.b 2) 0 TS.length] false, .arr 1 (E cD T) false, .arr 1 (E cTs TS) false]) _ _ [.b 0, .b 1, .b 2] [.var [.loc (.b 1) 0 T.length, .loc (.b 2) 0 TS.length] false, .arr 1 (E cD T) false, .arr 1 (E cTs TS) false] Cd.s_l15Make_k.n Cd.s_l15Make_k.r rfl (by simp) rfl (by intro j hj; rcases j with _ | _ | _ | j <;> first | rfl | (simp at hj; done) | (simp at hj; omega)) fun X => ?_
   unfold Cd.s_l15Make
   repeat' first
    |simp -dsimp only [go_sem, h6, gA, gB, cS]
    |refine Br.mk ?_ ?_<;>intro h<;>try simp -dsimp only[h]
    |refine CallK.c (by first|exact CT) ?_
    |refine and_c ?_
    |fail
   all_goals first | omega | exact ⟨_, _, rfl, rfl⟩
 have hC : dkC x (tr T x.a) (tr T x.b) = mtC x.f0 x.f1 (tr T x.a) (tr T x.b) := by simp [dkC, h1, h2, h5, h6]
 have e1 : (x.kind == 1) = false := beq_eq_false_iff_ne.2 h1
 have e2 : (x.kind == 2) = false := beq_eq_false_iff_ne.2 h2
 have e5 : (x.kind == 5) = false := beq_eq_false_iff_ne.2 h5
 have e6 : (x.kind == 6) = false := beq_eq_false_iff_ne.2 h6
 have CT := spec_MatchDecks (tr T x.a) (tr T x.b) x.f0 x.f1 sa sb
 by_cases h0 : mtC x.f0 x.f1 (tr T x.a) (tr T x.b) = 0
 ·rw [show mtV x.f0 x.f1 (tr T x.a) (tr T x.b) = .sl 1 (E cD (mtL x.f0 x.f1 (tr T x.a) (tr T x.b))) by simp [mtV, h0], h0] at CT
  have hl4 : (mtL x.f0 x.f1 (tr T x.a) (tr T x.b)).length = 4 := rfl
  have m0 : (E cD (mtL x.f0 x.f1 (tr T x.a) (tr T x.b))).getD 0 [] = [.sl 1 (E cC (mat x.f0 x.f1 (tr T x.a) (tr T x.b) true))] := rfl
  have m2 : (E cD (mtL x.f0 x.f1 (tr T x.a) (tr T x.b))).getD 2 [] = [.sl 1 (E cC (mat x.f0 x.f1 (tr T x.a) (tr T x.b) false))] := rfl
  generalize mtL x.f0 x.f1 (tr T x.a) (tr T x.b) = ML at *
  by_cases h3 : x.kind = 3
  ·have e3 : (x.kind == 3) = true := beq_iff_eq.2 h3
   have hV : dkV x (tr T x.a) (tr T x.b) = .sl 1 (E cC (mat x.f0 x.f1 (tr T x.a) (tr T x.b) true)) := by unfold dkV; rw [hC, h0]; simp [dkL, h1, h2, h5, h6, h3]
   rw [hV, hC, h0]
   refine Cd.s_l15Make_k.o.fn Tryz.mixed (hin := [.var [.loc (.b 1) 0 T.length, .loc (.b 2) 0 TS.length] false, .arr 1 (E cD T) false, .arr 1 (E cTs TS) false]) _ _ [.b 0, .b 1, .b 2] [.var [.loc (.b 1) 0 T.length, .loc (.b 2) 0 TS.length] false, .arr 1 (E cD T) false, .arr 1 (E cTs TS) false] Cd.s_l15Make_k.n Cd.s_l15Make_k.r rfl (by simp) rfl (by intro j hj; rcases j with _ | _ | _ | j <;> first | rfl | (simp at hj; done) | (simp at hj; omega)) fun X => ?_
   unfold Cd.s_l15Make
   repeat' first
    |simp -dsimp only [go_sem, e1, e2, e5, e6, e3, gA, gB, m0, m2, hl4, cS]
    |refine Br.mk ?_ ?_<;>intro h<;>try simp -dsimp only[h]
    |refine CallK.c (by first|exact CT) ?_
    |refine and_c ?_
    |fail
   all_goals first | omega | exact ⟨_, _, rfl, rfl⟩
  ·have e3 : (x.kind == 3) = false := beq_eq_false_iff_ne.2 h3
   have hV : dkV x (tr T x.a) (tr T x.b) = .sl 1 (E cC (mat x.f0 x.f1 (tr T x.a) (tr T x.b) false)) := by unfold dkV; rw [hC, h0]; simp [dkL, h1, h2, h5, h6, h3]
   rw [hV, hC, h0]
   refine Cd.s_l15Make_k.o.fn Tryz.mixed (hin := [.var [.loc (.b 1) 0 T.length, .loc (.b 2) 0 TS.length] false, .arr 1 (E cD T) false, .arr 1 (E cTs TS) false]) _ _ [.b 0, .b 1, .b 2] [.var [.loc (.b 1) 0 T.length, .loc (.b 2) 0 TS.length] false, .arr 1 (E cD T) false, .arr 1 (E cTs TS) false] Cd.s_l15Make_k.n Cd.s_l15Make_k.r rfl (by simp) rfl (by intro j hj; rcases j with _ | _ | _ | j <;> first | rfl | (simp at hj; done) | (simp at hj; omega)) fun X => ?_
   unfold Cd.s_l15Make
   repeat' first
    |simp -dsimp only [go_sem, e1, e2, e5, e6, e3, gA, gB, m0, m2, hl4, cS]
    |refine Br.mk ?_ ?_<;>intro h<;>try simp -dsimp only[h]
    |refine CallK.c (by first|exact CT) ?_
    |refine and_c ?_
    |fail
   all_goals first | omega | exact ⟨_, _, rfl, rfl⟩
 ·have e0 : (mtC x.f0 x.f1 (tr T x.a) (tr T x.b) != 0) = true := by simp [h0]
  rw [show mtV x.f0 x.f1 (tr T x.a) (tr T x.b) = .v (.slice none 0 0) by simp [mtV, h0]] at CT
  have hV : dkV x (tr T x.a) (tr T x.b) = .v (.slice none 0 0) := by unfold dkV; rw [hC, if_neg h0]
  rw [hV, hC]
  generalize mtC x.f0 x.f1 (tr T x.a) (tr T x.b) = c at *
  refine Cd.s_l15Make_k.o.fn Tryz.mixed (hin := [.var [.loc (.b 1) 0 T.length, .loc (.b 2) 0 TS.length] false, .arr 1 (E cD T) false, .arr 1 (E cTs TS) false]) _ _ [.b 0, .b 1, .b 2] [.var [.loc (.b 1) 0 T.length, .loc (.b 2) 0 TS.length] false, .arr 1 (E cD T) false, .arr 1 (E cTs TS) false] Cd.s_l15Make_k.n Cd.s_l15Make_k.r rfl (by simp) rfl (by intro j hj; rcases j with _ | _ | _ | j <;> first | rfl | (simp at hj; done) | (simp at hj; omega)) fun X => ?_
  unfold Cd.s_l15Make
  repeat' first
   |simp -dsimp only [go_sem, e1, e2, e5, e6, e0, gA, gB, cS]
   |refine Br.mk ?_ ?_<;>intro h<;>try simp -dsimp only[h]
   |refine CallK.c (by first|exact CT) ?_
   |refine and_c ?_
   |fail
  all_goals first | omega | exact ⟨_, _, rfl, rfl⟩
end
section
attribute [local irreducible] Vs.Fn chOK areCh chTo chAt l03 chB rk cd3 chI stp stpTo
theorem rc_nil {k : Nat} {S : Nat → Prop} {w : World} {v : Value} (h : RC S w (.v (.slice none 0 0)) v) : RC S w (.sl k []) v := by
 cases h
 exact RC.sl k [] none 0 0 0 (fun _ => undef) (fun h => absurd rfl h) (fun i j h => by simp at h) (fun i j h => by simp at h) (fun i j h => by simp at h) (fun i h => by simp at h) ⟨Nat.le_refl _, by decide⟩
theorem fn_args {P : Program} {f : FuncId} {hin : List Blk} {args args' : List AV} {r : AV} {hout : List (Option Blk)} (hl : args.length = args'.length)
  (h : ∀ (S : Nat → Prop) (w : World) (j : Nat) (v : Value), j < args.length → (∀ ρ κ hh, RV S w ρ κ hh (args.getD j .junk) v → RV S w ρ κ hh (args'.getD j .junk) v)) (hf : Vs.Fn P f hin args' r hout) : Vs.Fn P f hin args r hout := by
 unfold Vs.Fn at hf ⊢
 exact ⟨hf.1, fun S w ρ κ vs h1 h2 h3 h4 => hf.2 S w ρ κ vs h1 h2 (h3.trans hl) fun j hj => h S w j _ (by omega) ρ κ _ (h4 j (by omega))⟩
theorem ro_nil {S : Nat → Prop} {w : World} {x : AV} {k : Nat} {v : Value} {ρ : Vs.Name → Option Nat} {κ : Vs.Name → Nat} {hh : Vs.Name → Option Blk} (h : RV S w ρ κ hh (.ro [x, .v (.slice none 0 0)]) v) : RV S w ρ κ hh (.ro [x, .sl k []]) v := by
 have h := inv_ro h
 refine .clo ?_
 generalize hc : [x, AV.v (.slice none 0 0)] = c at h
 cases h with
 | ro c y off xs hS h1 h2 h3 =>
  subst hc
  refine .ro _ y off xs hS h1 h2 fun j hj => ?_
  match j, hj with
  | 0, _ => exact h3 0 (by simp)
  | 1, _ => exact rc_nil (h3 1 (by simp))
def gA (n : Vs.Name) (i : Nat) : AV := if i = 0 then .v (.slice none 0 0) else .loc n 0 i
def gH (n : Vs.Name) (rows : List (List AV)) (i : Nat) : List (Vs.Name × Blk) := if i = 0 then [] else [(n, .arr 1 rows false)]
attribute [local go_sem] Int.reduceBEq Int.reduceBNe cC cTs E_len List.replicate_succ List.replicate_zero List.flatten_cons List.flatten_nil List.cons_append List.nil_append List.set_cons_zero List.set_cons_succ List.length_cons List.length_nil List.length_set List.mem_singleton List.mem_cons List.not_mem_nil or_false false_or Vs.Name.t.injEq in
theorem l15OwnE (o : Off) (ho : smallO o) (ht0 : 0 < o.trays.length) (hm0 : o.totals.length = 0) : Vs.Fn Tryz.prog F.s_l15Own [] [.ro (cO o)] (.agg [.loc (.b 0) 0 o.trays.length, .v (.slice none 0 0)]) [some (.arr 1 (E cD o.trays) false)] := by
 have hn := ho.1.1
 have hm := ho.2.1
 refine Cd.s_l15Own_k.o.fn Tryz.mixed (hin := []) _ _ [.t 27 0] [.arr 1 (E cD o.trays) false] Cd.s_l15Own_k.n Cd.s_l15Own_k.r rfl (by simp) rfl (by simp) fun X => ?_
 unfold Cd.s_l15Own
 repeat' first
  |simp -dsimp only [go_sem, cO, cD]
  |refine Br.mk ?_ ?_<;>intro h<;>try simp -dsimp only[h]
  |refine and_c ?_
  |fail
 refine LoopK.at (drawn_ok Tryz.mixed) (X := { i : Nat // i ≤ o.trays.length }) (fun i => [(4, .v (.int .i64 (i.1 : Nat)))]) (fun i => (.t 3 0, .var [gA (.t 27 0) i.1, .v (.slice none 0 0)] false) :: gH (.t 27 0) (E cD (o.trays.take i.1)) i.1) (fun i => o.trays.length - i.1) ⟨0, by omega⟩ ?_ ?_
 ·simp [Vs.LeL, Vs.look, Vs.hlook, Vs.sput, Vs.sputs, Vs.hset, Vs.hputs, gA, gH]
 ·rintro ⟨i, hi⟩
  try dsimp only at hi
  by_cases hlt : i < o.trays.length
  ·have ht : decide ((i : Int) < (o.trays.length : Int)) = true := decide_eq_true (by omega)
   have hw := wrap_succ hlt (by omega)
   have hat := cD_at hlt
   have hrow := E_snocD hlt
   have hal : (E cD (o.trays.take i)).length = i := by rw [E_len]; simp; omega
   have hal2 : (o.trays.take i).length = i := by simp; omega
   have CP := l02Copy o.trays[i] (ho.1.2 _ (List.getElem_mem hlt))
   by_cases hi0 : i = 0
   ·have hA : gA (.t 27 0) i = .v (.slice none 0 0) := by simp [gA, hi0]
    have hH : gH (.t 27 0) (E cD (o.trays.take i)) i = [] := by simp [gH, hi0]
    have hr0 : E cD (o.trays.take i) = [] := by rw [hi0]; rfl
    rw [hr0, List.nil_append] at hrow
    rw [hA, hH]
    simp -dsimp only [go_sem, ht, hat, cO, cD]
    repeat' first
     |simp -dsimp only [go_sem, ht, hat, hw, hrow, cO, cD]
     |refine Br.mk ?_ ?_<;>intro h<;>try simp -dsimp only[h]
     |refine CallK.c (by first|exact CP) ?_
     |refine and_c ?_
     |fail
    all_goals first | omega | (exact ⟨⟨i + 1, by omega⟩, by simp [Vs.LeL, Vs.look, Vs.hlook, Vs.sput, Vs.sputs, Vs.hset, Vs.hputs, gA, gH, hrow, hi0], by simp only; omega⟩)
   ·have hA : gA (.t 27 0) i = .loc (.t 27 0) 0 i := by simp [gA, hi0]
    have hH : gH (.t 27 0) (E cD (o.trays.take i)) i = [(.t 27 0, .arr 1 (E cD (o.trays.take i)) false)] := by simp [gH, hi0]
    rw [hA, hH]
    simp -dsimp only [go_sem, ht, hat, cO, cD]
    repeat' first
     |simp -dsimp only [go_sem, ht, hat, hw, hrow, hal, hal2, cO, cD]
     |refine Br.mk ?_ ?_<;>intro h<;>try simp -dsimp only[h]
     |refine CallK.c (by first|exact CP) ?_
     |refine and_c ?_
     |fail
    all_goals first | omega | (exact ⟨⟨i + 1, by omega⟩, by simp [Vs.LeL, Vs.look, Vs.hlook, Vs.sput, Vs.sputs, Vs.hset, Vs.hputs, gA, gH, hrow, hi0], by simp only; omega⟩)
  ·obtain rfl : i = o.trays.length := by omega
   have ht : decide ((o.trays.length : Int) < (o.trays.length : Int)) = false := by simp
   have hA : gA (.t 27 0) o.trays.length = .loc (.t 27 0) 0 o.trays.length := by unfold gA; rw [if_neg (by omega)]
   have hH : gH (.t 27 0) (E cD (o.trays.take o.trays.length)) o.trays.length = [(.t 27 0, .arr 1 (E cD (o.trays.take o.trays.length)) false)] := by unfold gH; rw [if_neg (by omega)]
   rw [hA, hH]
   simp -dsimp only [go_sem, ht, cO, cD]
   refine And.intro ?_ (fun h => absurd rfl h)
   refine LoopK.at (drawn_ok Tryz.mixed) (X := { i : Nat // i ≤ o.totals.length }) (fun i => [(5, .v (.int .i64 (i.1 : Nat)))]) (fun i => (.t 3 0, .var [.loc (.t 27 0) 0 o.trays.length, gA (.t 50 0) i.1] false) :: gH (.t 50 0) (E cTs (o.totals.take i.1)) i.1) (fun i => o.totals.length - i.1) ⟨0, by omega⟩ ?_ ?_
   ·simp [Vs.LeL, Vs.look, Vs.hlook, Vs.sput, Vs.sputs, Vs.hset, Vs.hputs, gA, gH]
   ·rintro ⟨i, hi⟩
    try dsimp only at hi
    by_cases hlt : i < o.totals.length
    ·have ht : decide ((i : Int) < (o.totals.length : Int)) = true := decide_eq_true (by omega)
     have hw := wrap_succ hlt (by omega)
     have hat := cTs_at hlt
     have hrow := E_snocT hlt
     have hal : (E cTs (o.totals.take i)).length = i := by rw [E_len]; simp; omega
     have hal2 : (o.totals.take i).length = i := by simp; omega
     have hs := (ho.2.2 _ (List.getElem_mem hlt)).1
     by_cases hi0 : i = 0
     ·have hA : gA (.t 50 0) i = .v (.slice none 0 0) := by simp [gA, hi0]
      have hH : gH (.t 50 0) (E cTs (o.totals.take i)) i = [] := by simp [gH, hi0]
      have hr0 : E cTs (o.totals.take i) = [] := by rw [hi0]; rfl
      rw [hr0, List.nil_append] at hrow
      rw [hA, hH]
      simp -dsimp only [go_sem, ht, hat, cO, cD]
      repeat' first
       |simp -dsimp only [go_sem, ht, hat, hw, hrow, cO, cD]
       |refine Br.mk ?_ ?_<;>intro h<;>try simp -dsimp only[h]
       |refine and_c ?_
       |fail
      all_goals first | omega | (exact ⟨⟨i + 1, by omega⟩, by simp [Vs.LeL, Vs.look, Vs.hlook, Vs.sput, Vs.sputs, Vs.hset, Vs.hputs, gA, gH, hrow, hi0], by simp only; omega⟩)
     ·have hA : gA (.t 50 0) i = .loc (.t 50 0) 0 i := by simp [gA, hi0]
      have hH : gH (.t 50 0) (E cTs (o.totals.take i)) i = [(.t 50 0, .arr 1 (E cTs (o.totals.take i)) false)] := by simp [gH, hi0]
      rw [hA, hH]
      simp -dsimp only [go_sem, ht, hat, cO, cD]
      repeat' first
       |simp -dsimp only [go_sem, ht, hat, hw, hrow, hal, hal2, cO, cD]
       |refine Br.mk ?_ ?_<;>intro h<;>try simp -dsimp only[h]
       |refine and_c ?_
       |fail
      all_goals first | omega | (exact ⟨⟨i + 1, by omega⟩, by simp [Vs.LeL, Vs.look, Vs.hlook, Vs.sput, Vs.sputs, Vs.hset, Vs.hputs, gA, gH, hrow, hi0], by simp only; omega⟩)
    ·obtain rfl : i = o.totals.length := by omega
     have ht : decide ((o.totals.length : Int) < (o.totals.length : Int)) = false := by simp
     have ht1 : (E cD (o.trays.take o.trays.length)) = E cD o.trays := by rw [List.take_length]
     have hA : gA (.t 50 0) o.totals.length = .v (.slice none 0 0) := by simp [gA, hm0]
     have hH : gH (.t 50 0) (E cTs (o.totals.take o.totals.length)) o.totals.length = [] := by simp [gH, hm0]
     rw [hA, hH]
     repeat' first
      |simp -dsimp only [go_sem, ht, ht1, cO, cD]
      |refine Br.mk ?_ ?_<;>intro h<;>try simp -dsimp only[h]
      |refine And.intro ?_ (fun h => absurd rfl h)
      |refine and_c ?_
      |fail
     all_goals first | omega | exact ⟨_, _, rfl, rfl⟩ | exact ⟨⟨_, _, rfl, rfl⟩, fun h => h rfl⟩
attribute [local go_sem] Int.reduceBEq Int.reduceBNe cC E_len List.replicate_succ List.replicate_zero List.flatten_cons List.flatten_nil List.cons_append List.nil_append List.set_cons_zero List.set_cons_succ List.length_cons List.length_nil List.length_set List.mem_singleton List.mem_cons List.not_mem_nil or_false false_or Vs.Name.t.injEq in
theorem l15OwnL (o : Off) (ho : smallO o) (ht0 : 0 < o.trays.length) (hm0 : 0 < o.totals.length) : Vs.Fn Tryz.prog F.s_l15Own [] [.ro (cO o)] (.agg [.loc (.b 0) 0 o.trays.length, .loc (.b 1) 0 o.totals.length]) [some (.arr 1 (E cD o.trays) false), some (.arr 1 (E cTs o.totals) false)] := by
 have hn := ho.1.1
 have hm := ho.2.1
 refine Cd.s_l15Own_k.o.fn Tryz.mixed (hin := []) _ _ [.t 27 0, .t 50 0] [.arr 1 (E cD o.trays) false, .arr 1 (E cTs o.totals) false] Cd.s_l15Own_k.n Cd.s_l15Own_k.r rfl (by simp) rfl (by simp) fun X => ?_
 unfold Cd.s_l15Own
 repeat' first
  |simp -dsimp only [go_sem, cO, cTs, cD]
  |refine Br.mk ?_ ?_<;>intro h<;>try simp -dsimp only[h]
  |refine and_c ?_
  |fail
 refine LoopK.at (drawn_ok Tryz.mixed) (X := { i : Nat // i ≤ o.trays.length }) (fun i => [(4, .v (.int .i64 (i.1 : Nat)))]) (fun i => (.t 3 0, .var [gA (.t 27 0) i.1, .v (.slice none 0 0)] false) :: gH (.t 27 0) (E cD (o.trays.take i.1)) i.1) (fun i => o.trays.length - i.1) ⟨0, by omega⟩ ?_ ?_
 ·simp [Vs.LeL, Vs.look, Vs.hlook, Vs.sput, Vs.sputs, Vs.hset, Vs.hputs, gA, gH]
 ·rintro ⟨i, hi⟩
  try dsimp only at hi
  by_cases hlt : i < o.trays.length
  ·have ht : decide ((i : Int) < (o.trays.length : Int)) = true := decide_eq_true (by omega)
   have hw := wrap_succ hlt (by omega)
   have hat := cD_at hlt
   have hrow := E_snocD hlt
   have hal : (E cD (o.trays.take i)).length = i := by rw [E_len]; simp; omega
   have hal2 : (o.trays.take i).length = i := by simp; omega
   have CP := l02Copy o.trays[i] (ho.1.2 _ (List.getElem_mem hlt))
   by_cases hi0 : i = 0
   ·have hA : gA (.t 27 0) i = .v (.slice none 0 0) := by simp [gA, hi0]
    have hH : gH (.t 27 0) (E cD (o.trays.take i)) i = [] := by simp [gH, hi0]
    have hr0 : E cD (o.trays.take i) = [] := by rw [hi0]; rfl
    rw [hr0, List.nil_append] at hrow
    rw [hA, hH]
    simp -dsimp only [go_sem, ht, hat, cO, cTs, cD]
    repeat' first
     |simp -dsimp only [go_sem, ht, hat, hw, hrow, cO, cTs, cD]
     |refine Br.mk ?_ ?_<;>intro h<;>try simp -dsimp only[h]
     |refine CallK.c (by first|exact CP) ?_
     |refine and_c ?_
     |fail
    all_goals first | omega | (exact ⟨⟨i + 1, by omega⟩, by simp [Vs.LeL, Vs.look, Vs.hlook, Vs.sput, Vs.sputs, Vs.hset, Vs.hputs, gA, gH, hrow, hi0], by simp only; omega⟩)
   ·have hA : gA (.t 27 0) i = .loc (.t 27 0) 0 i := by simp [gA, hi0]
    have hH : gH (.t 27 0) (E cD (o.trays.take i)) i = [(.t 27 0, .arr 1 (E cD (o.trays.take i)) false)] := by simp [gH, hi0]
    rw [hA, hH]
    simp -dsimp only [go_sem, ht, hat, cO, cTs, cD]
    repeat' first
     |simp -dsimp only [go_sem, ht, hat, hw, hrow, hal, hal2, cO, cTs, cD]
     |refine Br.mk ?_ ?_<;>intro h<;>try simp -dsimp only[h]
     |refine CallK.c (by first|exact CP) ?_
     |refine and_c ?_
     |fail
    all_goals first | omega | (exact ⟨⟨i + 1, by omega⟩, by simp [Vs.LeL, Vs.look, Vs.hlook, Vs.sput, Vs.sputs, Vs.hset, Vs.hputs, gA, gH, hrow, hi0], by simp only; omega⟩)
  ·obtain rfl : i = o.trays.length := by omega
   have ht : decide ((o.trays.length : Int) < (o.trays.length : Int)) = false := by simp
   have hA : gA (.t 27 0) o.trays.length = .loc (.t 27 0) 0 o.trays.length := by unfold gA; rw [if_neg (by omega)]
   have hH : gH (.t 27 0) (E cD (o.trays.take o.trays.length)) o.trays.length = [(.t 27 0, .arr 1 (E cD (o.trays.take o.trays.length)) false)] := by unfold gH; rw [if_neg (by omega)]
   rw [hA, hH]
   simp -dsimp only [go_sem, ht, cO, cTs, cD]
   refine And.intro ?_ (fun h => absurd rfl h)
   refine LoopK.at (drawn_ok Tryz.mixed) (X := { i : Nat // i ≤ o.totals.length }) (fun i => [(5, .v (.int .i64 (i.1 : Nat)))]) (fun i => (.t 3 0, .var [.loc (.t 27 0) 0 o.trays.length, gA (.t 50 0) i.1] false) :: gH (.t 50 0) (E cTs (o.totals.take i.1)) i.1) (fun i => o.totals.length - i.1) ⟨0, by omega⟩ ?_ ?_
   ·simp [Vs.LeL, Vs.look, Vs.hlook, Vs.sput, Vs.sputs, Vs.hset, Vs.hputs, gA, gH]
   ·rintro ⟨i, hi⟩
    try dsimp only at hi
    by_cases hlt : i < o.totals.length
    ·have ht : decide ((i : Int) < (o.totals.length : Int)) = true := decide_eq_true (by omega)
     have hw := wrap_succ hlt (by omega)
     have hat := cTs_at hlt
     have hrow := E_snocT hlt
     have hal : (E cTs (o.totals.take i)).length = i := by rw [E_len]; simp; omega
     have hal2 : (o.totals.take i).length = i := by simp; omega
     have hs := (ho.2.2 _ (List.getElem_mem hlt)).1
     by_cases hi0 : i = 0
     ·have hA : gA (.t 50 0) i = .v (.slice none 0 0) := by simp [gA, hi0]
      have hH : gH (.t 50 0) (E cTs (o.totals.take i)) i = [] := by simp [gH, hi0]
      have hr0 : E cTs (o.totals.take i) = [] := by rw [hi0]; rfl
      rw [hr0, List.nil_append] at hrow
      rw [hA, hH]
      simp -dsimp only [go_sem, ht, hat, cO, cTs, cD]
      repeat' first
       |simp -dsimp only [go_sem, ht, hat, hw, hrow, cO, cTs, cD]
       |refine Br.mk ?_ ?_<;>intro h<;>try simp -dsimp only[h]
       |refine and_c ?_
       |fail
      all_goals first | omega | (exact ⟨⟨i + 1, by omega⟩, by simp [Vs.LeL, Vs.look, Vs.hlook, Vs.sput, Vs.sputs, Vs.hset, Vs.hputs, gA, gH, hrow, hi0], by simp only; omega⟩)
     ·have hA : gA (.t 50 0) i = .loc (.t 50 0) 0 i := by simp [gA, hi0]
      have hH : gH (.t 50 0) (E cTs (o.totals.take i)) i = [(.t 50 0, .arr 1 (E cTs (o.totals.take i)) false)] := by simp [gH, hi0]
      rw [hA, hH]
      simp -dsimp only [go_sem, ht, hat, cO, cTs, cD]
      repeat' first
       |simp -dsimp only [go_sem, ht, hat, hw, hrow, hal, hal2, cO, cTs, cD]
       |refine Br.mk ?_ ?_<;>intro h<;>try simp -dsimp only[h]
       |refine and_c ?_
       |fail
      all_goals first | omega | (exact ⟨⟨i + 1, by omega⟩, by simp [Vs.LeL, Vs.look, Vs.hlook, Vs.sput, Vs.sputs, Vs.hset, Vs.hputs, gA, gH, hrow, hi0], by simp only; omega⟩)
    ·obtain rfl : i = o.totals.length := by omega
     have ht : decide ((o.totals.length : Int) < (o.totals.length : Int)) = false := by simp
     have ht1 : (E cD (o.trays.take o.trays.length)) = E cD o.trays := by rw [List.take_length]
     have ht2 : (E cTs (o.totals.take o.totals.length)) = E cTs o.totals := by rw [List.take_length]
     have hA : gA (.t 50 0) o.totals.length = .loc (.t 50 0) 0 o.totals.length := by unfold gA; rw [if_neg (by omega)]
     have hH : gH (.t 50 0) (E cTs (o.totals.take o.totals.length)) o.totals.length = [(.t 50 0, .arr 1 (E cTs (o.totals.take o.totals.length)) false)] := by unfold gH; rw [if_neg (by omega)]
     rw [hA, hH]
     repeat' first
      |simp -dsimp only [go_sem, ht, ht1, ht2, cO, cTs, cD]
      |refine Br.mk ?_ ?_<;>intro h<;>try simp -dsimp only[h]
      |refine And.intro ?_ (fun h => absurd rfl h)
      |refine and_c ?_
      |fail
     all_goals first | omega | exact ⟨_, _, rfl, rfl⟩ | exact ⟨⟨_, _, rfl, rfl⟩, fun h => h rfl⟩
end
end Go.Proofs.YtagejhkjpgephaaGreatDoor
