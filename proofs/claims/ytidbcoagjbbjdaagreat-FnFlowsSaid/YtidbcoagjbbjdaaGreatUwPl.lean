/- The law FnFlows. -/
import Derived.Test.YtidbcoagjbbjdaaGreatUwPk
import Derived.Test.YtidbcoagjbbjdaaGreatUwPf
import Derived.Test.YtidbcoagjbbjdaaGreatUwD
import Derived.Test.YtidbcoagjbbjdaaGreatUwC
set_option linter.all false
set_option maxHeartbeats 8000000
namespace Go.Proofs.YtidbcoagjbbjdaaGreat
open Go.Vs
variable [Vs.Envs]
attribute [local irreducible] Vs.Fn wO dsC run stO offB qO
theorem eqLB_refl {α : Type} {q : α → α → Bool} (hq : ∀ x, q x x = true) (l : List α) : eqLB q l l = true := eqLB_self fun x _ => hq x
theorem qO_refl (o : Off) : qO o o = true := by
 have h1 : ∀ x : Int, qI x x = true := fun x => by simp [qI]
 have h2 : ∀ c, qC c c = true := fun c => eqLB_refl h1 c
 have h3 : ∀ d, qD d d = true := fun d => eqLB_refl h2 d
 have h4 : ∀ t : Tot, qT t t = true := fun t => by simp [qT]
 have h5 : ∀ t, qTs t t = true := fun t => eqLB_refl h4 t
 unfold qO
 rw [eqLB_refl h3, eqLB_refl h5]; rfl
theorem run_zero : ∀ (fl : List Stp) (o : Off), (run o fl).2 = 0 → (run o fl).1 = o
 | [], o, _ => by unfold run; rfl
 | x :: r, o, h => by
  unfold run at h ⊢
  by_cases hc : dsC x o = 0
  ·rw [if_pos hc] at h; simp at h
  ·rw [if_neg hc]
theorem runI_go {o o' : Off} {fl : List Stp} {i : Nat} (h : runI o fl i o') (hi : i < (run o fl).2) (hl : i < fl.length) : dsC fl[i] o' = 0 := by
 by_cases hc : dsC fl[i] o' = 0
 ·exact hc
 ·rw [runI_stop hl h hc] at hi
  simp at hi
theorem runI_fin {o o' : Off} {fl : List Stp} (h : runI o fl (run o fl).2 o') : (run o fl).1 = o' ∧ ∀ hl : (run o fl).2 < fl.length, dsC fl[(run o fl).2] o' ≠ 0 := by
 have h' := h
 unfold runI at h
 have h2 : (run o' (fl.drop (run o fl).2)).2 = 0 := by
  have := congrArg Prod.snd h
  simp only at this
  omega
 have h1 : (run o fl).1 = (run o' (fl.drop (run o fl).2)).1 := by
  have := congrArg Prod.fst h
  exact this
 refine ⟨by rw [h1, run_zero _ _ h2], fun hl hc => ?_⟩
 have h3 := runI_step hl h' hc
 unfold runI at h3
 have := congrArg Prod.snd h3
 simp only at this
 omega
def EN (T : List (List (List Int))) : AV := .agg [.sl 1 (E cD T), .v (.slice none 0 0)]
theorem rf_E (T : List (List (List Int))) (ho : okO 5 ⟨T, []⟩) (fl : List Stp) (hz : ∀ x, x ∈ fl → x.text.size ≤ 1048576) (hl : fl.length ≤ 20) : Fz F.i_RunFlow [.agg [.sl 1 (E cD T), .v (.slice none 0 0)], .sl 9 (E cS fl)] (.tup [.agg (cO (run ⟨T, []⟩ fl).1), .v (.int .i64 ((run ⟨T, []⟩ fl).2 : Nat)), .v (.int .i64 0)]) := by
 refine fn_args (args' := [.agg (cO ⟨T, []⟩), .sl 9 (E cS fl)]) rfl (fun S w j v hj ρ κ hh hv => ?_) (runFlowT ⟨T, []⟩ 5 ho fl hz hl)
 match j, hj with
 | 0, _ => exact agg_nil hv
 | 1, _ => exact hv
theorem ds_E (T : List (List (List Int))) (ho : okO 5 ⟨T, []⟩) (x : Stp) (hz : x.text.size ≤ 1048576) : Fz F.i_DoStep [.agg [.sl 1 (E cD T), .v (.slice none 0 0)], .agg (cS x)] (.tup [dsV x ⟨T, []⟩, .v (.int .i64 (dsC x ⟨T, []⟩))]) := by
 refine fn_args (args' := [.agg (cO ⟨T, []⟩), .agg (cS x)]) rfl (fun S w j v hj ρ κ hh hv => ?_) (doStepT ⟨T, []⟩ 5 ho x hz)
 match j, hj with
 | 0, _ => exact agg_nil hv
 | 1, _ => exact hv
theorem so_E (T : List (List (List Int))) (ho : okO 5 ⟨T, []⟩) : Fz F.s_SameOffice [.agg [.sl 1 (E cD T), .v (.slice none 0 0)], .agg (cO ⟨T, []⟩)] (.v (.bool true)) := by
 have h := spec_SameOffice ⟨T, []⟩ ⟨T, []⟩ (okO_small ho)
 rw [qO_refl] at h
 refine fn_args (args' := [.agg (cO ⟨T, []⟩), .agg (cO ⟨T, []⟩)]) rfl (fun S w j v hj ρ κ hh hv => ?_) h
 match j, hj with
 | 0, _ => exact agg_nil hv
 | 1, _ => exact hv
theorem si_E (T : List (List (List Int))) (ho : okO 5 ⟨T, []⟩) : Fz F.i_SameOffice [.agg [.sl 1 (E cD T), .v (.slice none 0 0)], .agg (cO ⟨T, []⟩)] (.v (.bool true)) := by
 have h := impl_SameOffice ⟨T, []⟩ ⟨T, []⟩ (okO_small ho)
 rw [qO_refl] at h
 refine fn_args (args' := [.agg (cO ⟨T, []⟩), .agg (cO ⟨T, []⟩)]) rfl (fun S w j v hj ρ κ hh hv => ?_) h
 match j, hj with
 | 0, _ => exact agg_nil hv
 | 1, _ => exact hv
theorem vo_T {w : Nat} (o : Off) (ho : okO w o) : Fz F.s_ValidOffice [.agg (cO o)] (.v (.bool true)) := by
 have h := spec_ValidOffice o (okO_small ho)
 rwa [offB_ok ho] at h
def tlE (i : Nat) (o : Off) : AV := if i = 0 then .v (.slice none 0 0) else .sl 1 (E cTs o.totals)
theorem so_T (o : Off) (ho : okO 5 o) : Fz F.s_SameOffice [.agg (cO o), .agg (cO o)] (.v (.bool true)) := by
 have h := spec_SameOffice o o (okO_small ho)
 rwa [qO_refl] at h
theorem si_T (o : Off) (ho : okO 5 o) : Fz F.i_SameOffice [.agg (cO o), .agg (cO o)] (.v (.bool true)) := by
 have h := impl_SameOffice o o (okO_small ho)
 rwa [qO_refl] at h
attribute [local go_sem] Int.reduceBEq Int.reduceBNe cC cO cFd E_len List.replicate_succ List.replicate_zero List.flatten_cons List.flatten_nil List.cons_append List.nil_append List.set_cons_zero List.set_cons_succ List.length_cons List.length_nil List.length_set List.mem_singleton List.mem_cons List.not_mem_nil or_false false_or Vs.Name.t.injEq List.getD_cons_zero List.getD_cons_succ Vs.Name.b.injEq in
set_option maxRecDepth 20000 in
theorem flowsE (l m : List Int) (LG : Fz F.l_a2Long [.sl 1 (E cU l), .sl 1 (E cU m)] (.v (.bool false))) (fs : List Stp) (hfs : okS fs) (hfl : fs.length ≤ 5) (AF : Fz F.s_A2Flow [.sl 1 (E cU m)] (.sl 9 (E cS fs))) (T : List (List (List Int))) (ho : okO 5 ⟨T, []⟩) (AO : Fz F.s_A2Office [.sl 1 (E cU l)] (.agg [.sl 1 (E cD T), .v (.slice none 0 0)])) : Fz F.l_FnFlows [.sl 1 (E cU l), .sl 1 (E cU m)] (.v (.bool true)) := by
 have hz : ∀ x, x ∈ fs → x.text.size ≤ 1048576 := fun x hx => by have := (hfs x hx).2; omega
 have RF := rf_E T ho fs hz (by omega)
 have hrl := run_ok fs ⟨T, []⟩ ho
 have VO := vo_T (run ⟨T, []⟩ fs).1 hrl.1
 have hR2l : (E cS fs).length = fs.length := E_len _
 generalize hR : run ⟨T, []⟩ fs = R at *
 have en0 : decide ((R.2 : Int) < 0) = false := decide_eq_false (by omega)
 have en1 : decide ((R.2 : Int) > (fs.length : Nat)) = false := decide_eq_false (by have := hrl.2; omega)
 refine fn0 Cd.l_FnFlows_k fun X => ?_
 repeat' first|simp -dsimp only [go_sem, cS, hR2l, en0, en1]|apply Br.mk<;>intro h<;>try simp -dsimp only[h]|refine CallK.c (by first|exact LG|exact AO|exact AF|exact RF|exact VO) ?_|refine And.intro ?_ (fun h => absurd rfl h)|refine aC ?_|fail
 refine LoopK.at dM (X := { p : Nat × Off // p.1 ≤ R.2 ∧ okO 5 p.2 ∧ runI ⟨T, []⟩ fs p.1 p.2 ∧ (p.1 = 0 → p.2 = ⟨T, []⟩) }) (fun p => [(11, .v (.int .i64 (p.1.1 : Nat)))]) (fun p => [(.t 10 0, .var [.sl 1 (E cD p.1.2.trays), tlE p.1.1 p.1.2] false)]) (fun p => R.2 - p.1.1) ⟨(0, ⟨T, []⟩), by simp, ho, runI_zero _ _, fun _ => rfl⟩ ?_ ?_
 ·simp [Vs.LeL, Vs.look, Vs.hlook, Vs.sput, Vs.sputs, Vs.hset, Vs.hputs, cO, tlE]
 ·rintro ⟨⟨i, o'⟩, hi, ho', hrun, h0⟩
  dsimp only at hi ho' hrun
  rcases i with _ | i0
  ·obtain rfl := h0 rfl
   try simp -dsimp only [go_sem, tlE, cS]
   refine Br.mk (fun hc => ?_) fun hc => ?_
   ·have hiR : 0 < R.2 := Dq
    have hlt : 0 < fs.length := by omega
    have hw : IntKind.i64.wrap (((0 : Nat) : Int) + 1) = ((0 + 1 : Nat) : Int) := by rw [wrap_in (by omega) (by omega)]; omega
    have hds := runI_go hrun (by rw [hR]; exact hiR) hlt
    have hnx := runI_step hlt hrun hds
    have hok2 := ds_ok ho' hds
    have DS := ds_E T ho' fs[0] (hz _ (List.getElem_mem hlt))
    rw [show dsV fs[0] ⟨T, []⟩ = .agg (cO (stO fs[0] ⟨T, []⟩)) by unfold dsV; rw [if_pos hds], hds] at DS
    have VO2 := vo_T (stO fs[0] ⟨T, []⟩) hok2
    have gx : (E cS fs).getD 0 [] = cS fs[0] := E_get hlt
    generalize stO fs[0] ⟨T, []⟩ = o2 at *
    repeat' first|simp -dsimp only [go_sem, hw, gx, cS]|apply Br.mk<;>intro h<;>try simp -dsimp only[h]|refine CallK.c (by first|exact DS|exact VO2) ?_|refine And.intro ?_ (fun h => absurd rfl h)|refine aC ?_|fail
    all_goals first | omega | (refine ⟨⟨(0 + 1, o2), by simp only; omega, hok2, hnx, fun h => by simp at h⟩, ?_, by simp only; omega⟩; simp [Vs.LeL, Vs.look, Vs.hlook, Vs.sput, Vs.sputs, Vs.hset, Vs.hputs, cO, tlE]; done)
   ·have hge : 0 = R.2 := by
     have : ¬ 0 < R.2 := Dq
     omega
    have hfin := runI_fin (o := ⟨T, []⟩) (fl := fs) (o' := ⟨T, []⟩) (by rw [hR, ← hge]; exact hrun)
    rw [hR] at hfin
    obtain ⟨hR1, hR2⟩ := hfin
    have SA := so_E T ho'
    have SB := si_E T ho'
    by_cases hn : R.2 < fs.length
    ·have hds := hR2 hn
     have DS := ds_E T ho' fs[R.2] (hz _ (List.getElem_mem hn))
     rw [show dsV fs[R.2] ⟨T, []⟩ = noO by unfold dsV; rw [if_neg hds]] at DS
     have gx : (E cS fs).getD R.2 [] = cS fs[R.2] := E_get hn
     have e1 : decide ((R.2 : Int) < (fs.length : Nat)) = true := decide_eq_true (by omega)
     have e2 : (dsC fs[R.2] ⟨T, []⟩ == 0) = false := by simpa using hds
     generalize dsC fs[R.2] ⟨T, []⟩ = cc at *
     repeat' first|simp -dsimp only [go_sem, gx, e1, e2, noO, hR1, cS]|apply Br.mk<;>intro h<;>try simp -dsimp only[h]|refine CallK.c (by first|exact DS|exact SA|exact SB) ?_|refine And.intro ?_ (fun h => absurd rfl h)|refine aC ?_|fail
     all_goals first | omega | exact ⟨_, _, rfl, rfl⟩ | exact ⟨⟨_, _, rfl, rfl⟩, fun h => absurd rfl h⟩ | (simp; done)
    ·have e1 : decide ((R.2 : Int) < (fs.length : Nat)) = false := decide_eq_false (by omega)
     repeat' first|simp -dsimp only [go_sem, e1, hR1, cS]|apply Br.mk<;>intro h<;>try simp -dsimp only[h]|refine CallK.c (by first|exact SA|exact SB) ?_|refine And.intro ?_ (fun h => absurd rfl h)|refine aC ?_|fail
     all_goals first | omega | exact ⟨_, _, rfl, rfl⟩ | exact ⟨⟨_, _, rfl, rfl⟩, fun h => absurd rfl h⟩ | (simp; done)
  ·have e9 : ¬ i0 + 1 = 0 := by omega
   generalize hi0 : i0 + 1 = i at *
   have htl : tlE i o' = .sl 1 (E cTs o'.totals) := if_neg e9
   simp only [htl]
   try simp -dsimp only [go_sem, tlE, e9, cS]
   refine Br.mk (fun hc => ?_) fun hc => ?_
   ·have hiR : i < R.2 := Dq
    have hlt : i < fs.length := by omega
    have hw : IntKind.i64.wrap (((i : Nat) : Int) + 1) = ((i + 1 : Nat) : Int) := by rw [wrap_in (by omega) (by omega)]; omega
    have hds := runI_go hrun (by rw [hR]; exact hiR) hlt
    have hnx := runI_step hlt hrun hds
    have hok2 := ds_ok ho' hds
    have DS := doStepT o' 5 ho' fs[i] (hz _ (List.getElem_mem hlt))
    rw [show dsV fs[i] o' = .agg (cO (stO fs[i] o')) by unfold dsV; rw [if_pos hds], hds] at DS
    have VO2 := vo_T (stO fs[i] o') hok2
    have gx : (E cS fs).getD i [] = cS fs[i] := E_get hlt
    generalize stO fs[i] o' = o2 at *
    repeat' first|simp -dsimp only [go_sem, hw, gx, cS]|apply Br.mk<;>intro h<;>try simp -dsimp only[h]|refine CallK.c (by first|exact DS|exact VO2) ?_|refine And.intro ?_ (fun h => absurd rfl h)|refine aC ?_|fail
    all_goals first | omega | (refine ⟨⟨(i + 1, o2), by simp only; omega, hok2, hnx, fun h => by simp at h⟩, ?_, by simp only; omega⟩; simp [Vs.LeL, Vs.look, Vs.hlook, Vs.sput, Vs.sputs, Vs.hset, Vs.hputs, cO, tlE]; done)
   ·have hge : i = R.2 := by
     have : ¬ i < R.2 := Dq
     omega
    have hfin := runI_fin (o := ⟨T, []⟩) (fl := fs) (o' := o') (by rw [hR, ← hge]; exact hrun)
    rw [hR] at hfin
    obtain ⟨hR1, hR2⟩ := hfin
    have SA := so_T o' ho'
    have SB := si_T o' ho'
    by_cases hn : R.2 < fs.length
    ·have hds := hR2 hn
     have DS := doStepT o' 5 ho' fs[R.2] (hz _ (List.getElem_mem hn))
     rw [show dsV fs[R.2] o' = noO by unfold dsV; rw [if_neg hds]] at DS
     have gx : (E cS fs).getD R.2 [] = cS fs[R.2] := E_get hn
     have e1 : decide ((R.2 : Int) < (fs.length : Nat)) = true := decide_eq_true (by omega)
     have e2 : (dsC fs[R.2] o' == 0) = false := by simpa using hds
     generalize dsC fs[R.2] o' = cc at *
     repeat' first|simp -dsimp only [go_sem, gx, e1, e2, noO, hR1, cS]|apply Br.mk<;>intro h<;>try simp -dsimp only[h]|refine CallK.c (by first|exact DS|exact SA|exact SB) ?_|refine And.intro ?_ (fun h => absurd rfl h)|refine aC ?_|fail
     all_goals first | omega | exact ⟨_, _, rfl, rfl⟩ | exact ⟨⟨_, _, rfl, rfl⟩, fun h => absurd rfl h⟩ | (simp; done)
    ·have e1 : decide ((R.2 : Int) < (fs.length : Nat)) = false := decide_eq_false (by omega)
     repeat' first|simp -dsimp only [go_sem, e1, hR1, cS]|apply Br.mk<;>intro h<;>try simp -dsimp only[h]|refine CallK.c (by first|exact SA|exact SB) ?_|refine And.intro ?_ (fun h => absurd rfl h)|refine aC ?_|fail
     all_goals first | omega | exact ⟨_, _, rfl, rfl⟩ | exact ⟨⟨_, _, rfl, rfl⟩, fun h => absurd rfl h⟩ | (simp; done)
attribute [local go_sem] Int.reduceBEq Int.reduceBNe cC cFd E_len List.replicate_succ List.replicate_zero List.flatten_cons List.flatten_nil List.cons_append List.nil_append List.set_cons_zero List.set_cons_succ List.length_cons List.length_nil List.length_set List.mem_singleton List.mem_cons List.not_mem_nil or_false false_or Vs.Name.t.injEq List.getD_cons_zero List.getD_cons_succ Vs.Name.b.injEq in
set_option maxRecDepth 20000 in
theorem flowsL (l m : List Int) (LG : Fz F.l_a2Long [.sl 1 (E cU l), .sl 1 (E cU m)] (.v (.bool false))) (fs : List Stp) (hfs : okS fs) (hfl : fs.length ≤ 5) (AF : Fz F.s_A2Flow [.sl 1 (E cU m)] (.sl 9 (E cS fs))) (o : Off) (ho : okO 5 o) (AO : Fz F.s_A2Office [.sl 1 (E cU l)] (.agg (cO o))) : Fz F.l_FnFlows [.sl 1 (E cU l), .sl 1 (E cU m)] (.v (.bool true)) := by
 have hz : ∀ x, x ∈ fs → x.text.size ≤ 1048576 := fun x hx => by have := (hfs x hx).2; omega
 have RF := runFlowT o 5 ho fs hz (by omega)
 have hrl := run_ok fs o ho
 have VO := vo_T (run o fs).1 hrl.1
 have hR2l : (E cS fs).length = fs.length := E_len _
 generalize hR : run o fs = R at *
 have en0 : decide ((R.2 : Int) < 0) = false := decide_eq_false (by omega)
 have en1 : decide ((R.2 : Int) > (fs.length : Nat)) = false := decide_eq_false (by have := hrl.2; omega)
 refine fn0 Cd.l_FnFlows_k fun X => ?_
 repeat' first|simp -dsimp only [go_sem, cO, cS, hR2l, en0, en1]|apply Br.mk<;>intro h<;>try simp -dsimp only[h]|refine CallK.c (by first|exact LG|exact AO|exact AF|exact RF|exact VO) ?_|refine And.intro ?_ (fun h => absurd rfl h)|refine aC ?_|fail
 refine LoopK.at dM (X := { p : Nat × Off // p.1 ≤ R.2 ∧ okO 5 p.2 ∧ runI o fs p.1 p.2 }) (fun p => [(11, .v (.int .i64 (p.1.1 : Nat)))]) (fun p => [(.t 10 0, .var (cO p.1.2) false)]) (fun p => R.2 - p.1.1) ⟨(0, o), by simp, ho, runI_zero _ _⟩ ?_ ?_
 ·simp [Vs.LeL, Vs.look, Vs.hlook, Vs.sput, Vs.sputs, Vs.hset, Vs.hputs, cO, tlE]
 ·rintro ⟨⟨i, o'⟩, hi, ho', hrun⟩
  dsimp only at hi ho' hrun
  try simp -dsimp only [go_sem, cO, cS]
  refine Br.mk (fun hc => ?_) fun hc => ?_
  ·have hiR : i < R.2 := Dq
   have hlt : i < fs.length := by omega
   have hw : IntKind.i64.wrap (((i : Nat) : Int) + 1) = ((i + 1 : Nat) : Int) := by rw [wrap_in (by omega) (by omega)]; omega
   have hds := runI_go hrun (by rw [hR]; exact hiR) hlt
   have hnx := runI_step hlt hrun hds
   have hok2 := ds_ok ho' hds
   have DS := doStepT o' 5 ho' fs[i] (hz _ (List.getElem_mem hlt))
   rw [show dsV fs[i] o' = .agg (cO (stO fs[i] o')) by unfold dsV; rw [if_pos hds], hds] at DS
   have VO2 := vo_T (stO fs[i] o') hok2
   have gx : (E cS fs).getD i [] = cS fs[i] := E_get hlt
   generalize stO fs[i] o' = o2 at *
   repeat' first|simp -dsimp only [go_sem, hw, gx, cO, cS]|apply Br.mk<;>intro h<;>try simp -dsimp only[h]|refine CallK.c (by first|exact DS|exact VO2) ?_|refine And.intro ?_ (fun h => absurd rfl h)|refine aC ?_|fail
   all_goals first | omega | (refine ⟨⟨(i + 1, o2), by simp only; omega, hok2, hnx⟩, ?_, by simp only; omega⟩; simp [Vs.LeL, Vs.look, Vs.hlook, Vs.sput, Vs.sputs, Vs.hset, Vs.hputs, cO, tlE]; done)
  ·have hge : i = R.2 := by
    have : ¬ i < R.2 := Dq
    omega
   have hfin := runI_fin (o := o) (fl := fs) (o' := o') (by rw [hR, ← hge]; exact hrun)
   rw [hR] at hfin
   obtain ⟨hR1, hR2⟩ := hfin
   have SA := so_T o' ho'
   have SB := si_T o' ho'
   by_cases hn : R.2 < fs.length
   ·have hds := hR2 hn
    have DS := doStepT o' 5 ho' fs[R.2] (hz _ (List.getElem_mem hn))
    rw [show dsV fs[R.2] o' = noO by unfold dsV; rw [if_neg hds]] at DS
    have gx : (E cS fs).getD R.2 [] = cS fs[R.2] := E_get hn
    have e1 : decide ((R.2 : Int) < (fs.length : Nat)) = true := decide_eq_true (by omega)
    have e2 : (dsC fs[R.2] o' == 0) = false := by simpa using hds
    generalize dsC fs[R.2] o' = cc at *
    repeat' first|simp -dsimp only [go_sem, gx, e1, e2, noO, hR1, cO, cS]|apply Br.mk<;>intro h<;>try simp -dsimp only[h]|refine CallK.c (by first|exact DS|exact SA|exact SB) ?_|refine And.intro ?_ (fun h => absurd rfl h)|refine aC ?_|fail
    all_goals first | omega | exact ⟨_, _, rfl, rfl⟩ | exact ⟨⟨_, _, rfl, rfl⟩, fun h => absurd rfl h⟩ | (simp; done)
   ·have e1 : decide ((R.2 : Int) < (fs.length : Nat)) = false := decide_eq_false (by omega)
    repeat' first|simp -dsimp only [go_sem, e1, hR1, cO, cS]|apply Br.mk<;>intro h<;>try simp -dsimp only[h]|refine CallK.c (by first|exact SA|exact SB) ?_|refine And.intro ?_ (fun h => absurd rfl h)|refine aC ?_|fail
    all_goals first | omega | exact ⟨_, _, rfl, rfl⟩ | exact ⟨⟨_, _, rfl, rfl⟩, fun h => absurd rfl h⟩ | (simp; done)
theorem law_FnFlows (l m : List Int) (hl : ∀ x, x ∈ l → 0 ≤ x ∧ x ≤ 255) (hm : ∀ x, x ∈ m → 0 ≤ x ∧ x ≤ 255) : Fz F.l_FnFlows [.sl 1 (E cU l), .sl 1 (E cU m)] (.v (.bool true)) := by
 have LG := a2Long l m
 rcases Bool.eq_false_or_eq_true (decide ((l.length : Int) > 3000) || decide ((m.length : Int) > 3000)) with hg | hg
 ·rw [hg] at LG
  refine fn0 Cd.l_FnFlows_k fun X => ?_
  repeat' first|simp -dsimp only [go_sem, Int.reduceBEq, Int.reduceBNe, cC, cO, cS, cFd, E_len, List.replicate_succ, List.replicate_zero, List.flatten_cons, List.flatten_nil, List.cons_append, List.nil_append, List.set_cons_zero, List.set_cons_succ, List.length_cons, List.length_nil, List.length_set, List.mem_singleton, List.mem_cons, List.not_mem_nil, or_false, false_or, Vs.Name.t.injEq, List.getD_cons_zero, List.getD_cons_succ, Vs.Name.b.injEq]|apply Br.mk<;>intro h<;>try simp -dsimp only[h]|refine CallK.c (by first|exact LG) ?_|refine aC ?_|fail
  all_goals first | exact ⟨_, _, rfl, rfl⟩ | simp_all
 ·rw [hg] at LG
  simp only [Bool.or_eq_false_iff, decide_eq_false_iff_not] at hg
  obtain ⟨o, ho, AO⟩ := a2Office l ⟨by omega, hl⟩
  obtain ⟨fs, hfs, hfl, AF⟩ := a2Flow m ⟨by omega, hm⟩
  by_cases h0 : o.totals.length = 0
  ·obtain ⟨T, tt⟩ := o
   obtain rfl : tt = [] := List.eq_nil_of_length_eq_zero h0
   exact flowsE l m LG fs hfs hfl AF T ho AO
  ·unfold roV at AO
   rw [roT_l h0] at AO
   exact flowsL l m LG fs hfs hfl AF o ho AO
end Go.Proofs.YtidbcoagjbbjdaaGreat
