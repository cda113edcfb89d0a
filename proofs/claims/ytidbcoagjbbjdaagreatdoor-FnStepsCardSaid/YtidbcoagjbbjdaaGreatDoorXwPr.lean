/- The law FnSteps. -/
import Derived.Test.YtidbcoagjbbjdaaGreatDoorVsI
import Derived.Test.YtidbcoagjbbjdaaGreatDoorXwPk
import Derived.Test.YtidbcoagjbbjdaaGreatDoorXwPf
import Derived.Test.YtidbcoagjbbjdaaGreatDoorXwD
import Derived.Test.YtidbcoagjbbjdaaGreatDoorXwC
import Derived.Test.YtidbcoagjbbjdaaGreatDoorXwZl
import Derived.Test.YtidbcoagjbbjdaaGreatDoorXuM
set_option linter.all false
set_option maxHeartbeats 8000000
namespace Go.Proofs.YtidbcoagjbbjdaaGreatDoor
open Go.Vs
variable [Vs.Tab 0 Vs.powP]
attribute [local irreducible] Vs.Fn wO dsC run stO offB stTn stX stpB
theorem qD_refl (d : List (List Int)) : qD d d = true := by
 have h1 : ∀ x : Int, qI x x = true := fun x => by simp [qI]
 have h2 : ∀ c, qC c c = true := fun c => eqLB_self fun x _ => h1 x
 exact eqLB_self fun x _ => h2 x
theorem vo_T {w : Nat} (o : Off) (ho : okO w o) : Fz F.s_ValidOffice [.agg (cO o)] (.v (.bool true)) := by
 have h := spec_ValidOffice o (okO_small ho)
 rwa [offB_ok ho] at h
theorem ds_E (T : List (List (List Int))) (ho : okO 5 ⟨T, []⟩) (x : Stp) (hz : x.text.size ≤ 1048576) : Fz F.i_DoStep [.agg [.sl 1 (E cD T), .v (.slice none 0 0)], .agg (cS x)] (.tup [dsV x ⟨T, []⟩, .v (.int .i64 (dsC x ⟨T, []⟩))]) := by
 refine fn_args (args' := [.agg (cO ⟨T, []⟩), .agg (cS x)]) rfl (fun S w j v hj ρ κ hh hv => ?_) (doStepT ⟨T, []⟩ 5 ho x hz)
 match j, hj with
 | 0, _ => exact agg_nil hv
 | 1, _ => exact hv
theorem stX_pos (x : Stp) : 0 < (stX x).size := by
 have h1 : ∀ w, 0 < (stFn w x).size := fun w => by
  unfold stFn
  rw [ByteArray.size_append, ByteArray.size_append]
  have : (⟨#[32]⟩ : ByteArray).size = 1 := rfl
  omega
 unfold stX
 split
 ·rw [ByteArray.size_append, ByteArray.size_append]; have := h1 (stW x.kind); omega
 ·split
  ·rw [ByteArray.size_append, ByteArray.size_append, ByteArray.size_append]; have := h1 (stW x.kind); omega
  ·rw [ByteArray.size_append, ByteArray.size_append]; have := h1 (stW x.kind); omega
theorem stpB_up {x : Stp} {v w : Int} (h : v ≤ w) (hx : stpB x v = true) : stpB x w = true := by
 unfold stpB at hx ⊢
 simp only [Bool.and_eq_true] at hx ⊢
 obtain ⟨h1, h2, h3, h4, h5, h6, h7⟩ := hx
 refine ⟨h1, h2, h3, h4, fld_up h h5, h6, ?_⟩
 by_cases e : (x.kind == 7) = true
 ·rw [if_pos e] at h7 ⊢
  simp only [Bool.and_eq_true] at h7 ⊢
  exact ⟨h7.1, num_up h h7.2.1, h7.2.2⟩
 ·rw [if_neg e] at h7 ⊢
  exact h7
theorem okO_up {o : Off} (h : okO 5 o) {x : Stp} (hx : stpB x 5 = true) : stpB x (wO o.trays) = true := by
 rcases wO_or o.trays h.2.2.1 with h1 | ⟨h1, _⟩ <;> rw [h1]
 ·exact hx
 ·exact stpB_up (by omega) hx
theorem stT_no {x : Stp} (hx : stpB x 5 = true) : ((stTn x).toList == (⟨#[]⟩ : ByteArray).toList) = false := by
 have h20 := stpB_up (w := 20) (by omega) hx
 have e : stTn x = stX x := by unfold stTn; rw [if_pos h20]
 have hp := stX_pos x
 rw [e]
 generalize stX x = b at *
 rw [ByteArray.toList_eq, ByteArray.toList_eq]
 obtain ⟨d⟩ := b
 have h2 : 0 < d.size := hp
 have h3 : d.toList ≠ [] := fun h => by
  have := congrArg List.length h
  rw [Array.length_toList, List.length_nil] at this
  omega
 exact beq_eq_false_iff_ne.2 h3
theorem st_tray {x : Stp} {o : Off} {k : Nat} (h : ¬ (x.to.toNat = k) ∨ x.kind = 7) : (stO x o).trays.getD k [] = o.trays.getD k [] := by
 unfold stO
 by_cases h7 : x.kind = 7
 ·rw [if_pos h7]
 ·rw [if_neg h7]
  have hk := h.resolve_right h7
  simp only [List.getD, List.getElem?_set, hk, if_false]
theorem st_len (x : Stp) (o : Off) : (stO x o).totals.length = if x.kind = 7 then o.totals.length + 1 else o.totals.length := by
 unfold stO
 split
 ·rw [List.length_append]; rfl
 ·rfl
theorem cD_atG {T : List (List (List Int))} {k : Nat} (h : k < T.length) : (E cD T).getD k [] = [.sl 1 (E cC (T.getD k []))] := by
 rw [E_get h]; simp [cD, List.getD, h]
theorem trD_mem {T : List (List (List Int))} {k : Nat} (h : k < T.length) : T.getD k [] ∈ T := by
 rw [show T.getD k [] = T[k] by simp [List.getD, h]]; exact List.getElem_mem h
section
attribute [local go_sem] Int.reduceBEq Int.reduceBNe cC cO cS cFd E_len List.replicate_succ List.replicate_zero List.flatten_cons List.flatten_nil List.cons_append List.nil_append List.set_cons_zero List.set_cons_succ List.length_cons List.length_nil List.length_set List.mem_singleton List.mem_cons List.not_mem_nil or_false false_or Vs.Name.t.injEq List.getD_cons_zero List.getD_cons_succ Vs.Name.b.injEq
set_option maxRecDepth 20000 in
theorem stpW {p : Prop} (h : p := by
  have hz : ∀ x, x ∈ fs → x.text.size ≤ 1048576 := fun x hx => by have := (hfs x hx).2; omega
  have hfl2 : (E cS fs).length = fs.length := E_len _
  have VF := impl_ValidFlow fs 5 hz (by omega)
  rw [show (inB 5 1 20 && (fs.all (fun x => stpB x 5) && decide ((fs.length : Int) ≤ 20))) = true by
    rw [Bool.and_eq_true, Bool.and_eq_true]
    exact ⟨rfl, List.all_eq_true.2 fun x hx => (hfs x hx).1, by simp; omega⟩] at VF
  refine fn0 Cd.l_FnSteps_k fun X => ?_
  repeat' first|simp -dsimp only [go_sem, hfl2]|apply Br.mk<;>intro h<;>try simp -dsimp only[h]|refine CallK.c (by first|exact LG|exact AO|exact AF) ?_|refine And.intro ?_ (fun h => absurd rfl h)|refine aC ?_|fail
  refine LoopK.at dM (X := { i : Nat // i ≤ fs.length }) (fun i => [(7, .v (.int .i64 (i.1 : Nat)))]) (fun i => []) (fun i => fs.length - i.1) ⟨0, by omega⟩ ?_ ?_
  · exact le0
  · rintro ⟨i, hi⟩
    try dsimp only at hi
    try simp -dsimp only [go_sem, hfl2]
    refine Br.mk (fun hc => ?_) fun hc => ?_
    · have hlt : i < fs.length := Dq
      have hw : IntKind.i64.wrap ((i : Int) + 1) = ((i + 1 : Nat) : Int) := by rw [wrap_in (by omega) (by omega)]; omega
      have gx : (E cS fs).getD i [] = cS fs[i] := E_get hlt
      have hxv := (hfs _ (List.getElem_mem hlt)).1
      have hxz := hz _ (List.getElem_mem hlt)
      have VS := impl_ValidStep fs[i] 5 hxz
      rw [hxv, show (inB 5 1 20 && true) = true from rfl] at VS
      have ST := impl_StepText fs[i] hxz
      have eT := stT_no hxv
      have DS := DSF fs[i] hxz
      have h7t := (stp_ok ho (okO_up ho hxv)).to
      by_cases hds : dsC fs[i] o = 0
      · rw [show dsV fs[i] o = .agg (cO (stO fs[i] o)) by unfold dsV; rw [if_pos hds], hds] at DS
        have hok2 := ds_ok ho hds
        have VO2 := vo_T (stO fs[i] o) hok2
        have htr := fun k (h : ¬ (fs[i].to.toNat = k) ∨ fs[i].kind = 7) => st_tray (x := fs[i]) (o := o) (k := k) h
        have hst := st_len fs[i] o
        have h61 := ho.2.1
        have h62 := hok2.2.1
        have h20 := ho.2.2.2.1
        generalize stO fs[i] o = o2 at hok2 VO2 htr hst h62 DS
        have h7c : (fs[i].kind == 7) = true ∧ fs[i].kind = 7 ∧ o2.totals.length = o.totals.length + 1 ∨ (fs[i].kind == 7) = false ∧ ¬ fs[i].kind = 7 ∧ o2.totals.length = o.totals.length := by
          by_cases h7 : fs[i].kind = 7
          · exact .inl ⟨by simpa using h7, h7, by rw [hst, if_pos h7]⟩
          · exact .inr ⟨by simpa using h7, h7, by rw [hst, if_neg h7]⟩
        rcases h7c with ⟨e7, h7, hlen⟩ | ⟨e7, h7, hlen⟩
        all_goals
          repeat' first|simp -dsimp only [go_sem, hw, gx, eT]|apply Br.mk<;>intro h<;>try simp -dsimp only[h]|refine CallK.c (by first|exact VS|exact ST|exact DS|exact VO2) ?_|refine And.intro ?_ (fun h => absurd rfl h)|refine aC ?_|fail
          refine LoopK.at dM (X := { k : Nat // k ≤ 6 }) (fun k => [(11, .v (.int .i64 (k.1 : Nat)))]) (fun k => []) (fun k => 6 - k.1) ⟨0, by omega⟩ ?_ ?_
          · exact le0
          · rintro ⟨k, hk⟩
            try dsimp only at hk
            try simp -dsimp only [go_sem, e7]
            refine Br.mk (fun hc => ?_) fun hc => ?_
            · have hk6 : k < 6 := Dq
              have hwk : IntKind.i64.wrap ((k : Int) + 1) = ((k + 1 : Nat) : Int) := by rw [wrap_in (by omega) (by omega)]; omega
              have gk1 : (E cD o2.trays).getD k [] = [.sl 1 (E cC (o2.trays.getD k []))] := cD_atG (by omega)
              have gk2 : (E cD (o : Off).trays).getD k [] = [.sl 1 (E cC ((o : Off).trays.getD k []))] := cD_atG (by omega)
              have gk2 : (E cD o.trays).getD k [] = [.sl 1 (E cC (o.trays.getD k []))] := gk2
              have hll1 : (E cD o2.trays).length = 6 := by rw [E_len]; exact h62
              have hll2 : (E cD o.trays).length = 6 := by rw [E_len]; exact h61
 
              have SD := spec_SameDeck (o2.trays.getD k []) (o.trays.getD k []) (okD_small (w := 5) (by omega) (hok2.2.2.1 _ (trD_mem (by omega))))
              have hsd : qD (o2.trays.getD k []) (o.trays.getD k []) = true ∨ (k : Int) = fs[i].to ∧ ¬ fs[i].kind = 7 := by
                by_cases hd : ¬ (fs[i].to.toNat = k) ∨ fs[i].kind = 7
                · exact .inl (by rw [htr k hd, qD_refl])
                · exact .inr (by omega)
              have hek : ((k : Int) != fs[i].to) = false ∧ (k : Int) = fs[i].to ∨ ((k : Int) != fs[i].to) = true ∧ ¬ (k : Int) = fs[i].to := by
                by_cases h : (k : Int) = fs[i].to
                · exact .inl ⟨by rw [h]; simp, h⟩
                · exact .inr ⟨by simpa using h, h⟩
              rcases hek with ⟨ek, hkt⟩ | ⟨ek, hkt⟩ <;> rcases hsd with hq | hq
              all_goals first | omega | skip
              all_goals
                try rw [hq] at SD
                repeat' first|simp -dsimp only [go_sem, hwk, gk1, gk2, hll1, hll2, ek, e7, Bool.not_true, Bool.not_false, Bool.true_and, Bool.false_and]|apply Br.mk<;>intro h<;>try simp -dsimp only[h]|refine CallK.c (by first|exact SD) ?_|refine And.intro ?_ (fun h => absurd rfl h)|refine aC ?_|fail
                all_goals first | omega | (refine ⟨⟨k + 1, by omega⟩, ?_, by simp only; omega⟩; simp [Vs.LeL, Vs.look, Vs.hlook, Vs.sput, Vs.sputs, Vs.hset, Vs.hputs]; done)
 
            · have hge : k = 6 := by
                have : ¬ k < 6 := Dq
                omega
              subst hge
              have hlt2 : (E cTs o2.totals).length = o2.totals.length := E_len _
              have hlt1 : (E cTs o.totals).length = o.totals.length := E_len _
              have wl : IntKind.i64.wrap (((o.totals.length : Nat) : Int) + 1) = ((o.totals.length + 1 : Nat) : Int) := by rw [wrap_in (by omega) (by omega)]; omega
              have ne : (((o.totals.length : Nat) : Int) != ((o.totals.length : Nat) : Int)) = false := by simp
              have ne1 : (((o.totals.length + 1 : Nat) : Int) != ((o.totals.length + 1 : Nat) : Int)) = false := by simp
              rw [h0] at wl ne ne1 hlen hlt1
              repeat' first|simp -dsimp only [go_sem, e7, hlt1, hlt2, hlen, wl, ne, ne1, hw]|apply Br.mk<;>intro h<;>try simp -dsimp only[h]|refine And.intro ?_ (fun h => absurd rfl h)|refine aC ?_|fail
 
              all_goals first | omega | (refine ⟨⟨⟨i + 1, by omega⟩, ?_, by simp only; omega⟩, fun h => absurd rfl h⟩; simp [Vs.LeL, Vs.look, Vs.hlook, Vs.sput, Vs.sputs, Vs.hset, Vs.hputs]; done) | (refine ⟨⟨i + 1, by omega⟩, ?_, by simp only; omega⟩; simp [Vs.LeL, Vs.look, Vs.hlook, Vs.sput, Vs.sputs, Vs.hset, Vs.hputs]; done)
 
      · rw [show dsV fs[i] o = noO by unfold dsV; rw [if_neg hds]] at DS
        have ec : (dsC fs[i] o != 0) = true := by simpa using hds
        generalize dsC fs[i] o = cc at ec hds DS
        repeat' first|simp -dsimp only [go_sem, noO, ec, hw, gx, eT]|apply Br.mk<;>intro h<;>try simp -dsimp only[h]|refine CallK.c (by first|exact VS|exact ST|exact DS) ?_|refine And.intro ?_ (fun h => absurd rfl h)|refine aC ?_|fail
        all_goals first | omega | (refine ⟨⟨⟨i + 1, by omega⟩, ?_, by simp only; omega⟩, fun h => absurd rfl h⟩; simp [Vs.LeL, Vs.look, Vs.hlook, Vs.sput, Vs.sputs, Vs.hset, Vs.hputs]; done) | (refine ⟨⟨i + 1, by omega⟩, ?_, by simp only; omega⟩; simp [Vs.LeL, Vs.look, Vs.hlook, Vs.sput, Vs.sputs, Vs.hset, Vs.hputs]; done)
 
 
    · have hge : i = fs.length := by
        have : ¬ i < fs.length := Dq
        omega
      subst hge
      repeat' first|simp -dsimp only [go_sem, hfl2]|apply Br.mk<;>intro h<;>try simp -dsimp only[h]|refine CallK.c (by first|exact VF) ?_|refine And.intro ?_ (fun h => absurd rfl h)|refine aC ?_|fail
 
      all_goals first | omega | exact ⟨_, _, rfl, rfl⟩ | exact ⟨⟨_, _, rfl, rfl⟩, fun h => absurd rfl h⟩ | (simp; done) | trace_state) : p := h
set_option maxRecDepth 20000 in
theorem stepsE (l m : List Int) (LG : Fz F.l_a2Long [.sl 1 (E cU l), .sl 1 (E cU m)] (.v (.bool false))) (fs : List Stp) (hfs : okS fs) (hfl : fs.length ≤ 5) (AF : Fz F.s_A2Flow [.sl 1 (E cU m)] (.sl 9 (E cS fs))) (o : Off) (ho : okO 5 o) (AO : Fz F.s_A2Office [.sl 1 (E cU l)] (.agg [.sl 1 (E cD o.trays), .v (.slice none 0 0)])) (DSF : ∀ x : Stp, x.text.size ≤ 1048576 → Fz F.i_DoStep [.agg [.sl 1 (E cD o.trays), .v (.slice none 0 0)], .agg (cS x)] (.tup [dsV x o, .v (.int .i64 (dsC x o))])) (h0 : o.totals.length = 0) : Fz F.l_FnSteps [.sl 1 (E cU l), .sl 1 (E cU m)] (.v (.bool true)) := stpW
set_option maxRecDepth 20000 in
theorem stepsL (l m : List Int) (LG : Fz F.l_a2Long [.sl 1 (E cU l), .sl 1 (E cU m)] (.v (.bool false))) (fs : List Stp) (hfs : okS fs) (hfl : fs.length ≤ 5) (AF : Fz F.s_A2Flow [.sl 1 (E cU m)] (.sl 9 (E cS fs))) (o : Off) (ho : okO 5 o) (AO : Fz F.s_A2Office [.sl 1 (E cU l)] (.agg [.sl 1 (E cD o.trays), .sl 1 (E cTs o.totals)])) (DSF : ∀ x : Stp, x.text.size ≤ 1048576 → Fz F.i_DoStep [.agg [.sl 1 (E cD o.trays), .sl 1 (E cTs o.totals)], .agg (cS x)] (.tup [dsV x o, .v (.int .i64 (dsC x o))])) (n : Nat) (h0 : o.totals.length = n) : Fz F.l_FnSteps [.sl 1 (E cU l), .sl 1 (E cU m)] (.v (.bool true)) := stpW
end
theorem law_FnSteps (l m : List Int) (hl : ∀ x, x ∈ l → 0 ≤ x ∧ x ≤ 255) (hm : ∀ x, x ∈ m → 0 ≤ x ∧ x ≤ 255) : Fz F.l_FnSteps [.sl 1 (E cU l), .sl 1 (E cU m)] (.v (.bool true)) := by
 have LG := a2Long l m
 rcases Bool.eq_false_or_eq_true (decide ((l.length : Int) > 3000) || decide ((m.length : Int) > 3000)) with hg | hg
 ·rw [hg] at LG
  refine fn0 Cd.l_FnSteps_k fun X => ?_
  repeat' first|simp -dsimp only [go_sem, Int.reduceBEq, Int.reduceBNe, cC, cO, cS, cFd, E_len, List.replicate_succ, List.replicate_zero, List.flatten_cons, List.flatten_nil, List.cons_append, List.nil_append, List.set_cons_zero, List.set_cons_succ, List.length_cons, List.length_nil, List.length_set, List.mem_singleton, List.mem_cons, List.not_mem_nil, or_false, false_or, Vs.Name.t.injEq, List.getD_cons_zero, List.getD_cons_succ, Vs.Name.b.injEq]|apply Br.mk<;>intro h<;>try simp -dsimp only[h]|refine CallK.c (by first|exact LG) ?_|refine aC ?_|fail
  all_goals first | exact ⟨_, _, rfl, rfl⟩ | simp_all
 ·rw [hg] at LG
  simp only [Bool.or_eq_false_iff, decide_eq_false_iff_not] at hg
  obtain ⟨o, ho, AO⟩ := a2Office l ⟨by omega, hl⟩
  obtain ⟨fs, hfs, hfl, AF⟩ := a2Flow m ⟨by omega, hm⟩
  by_cases h0 : o.totals.length = 0
  ·obtain ⟨T, tt⟩ := o
   obtain rfl : tt = [] := List.eq_nil_of_length_eq_zero h0
   exact stepsE l m LG fs hfs hfl AF ⟨T, []⟩ ho AO (ds_E T ho) rfl
  ·unfold roV at AO
   rw [roT_l h0] at AO
   exact stepsL l m LG fs hfs hfl AF o ho AO (doStepT o 5 ho) _ rfl
end Go.Proofs.YtidbcoagjbbjdaaGreatDoor
