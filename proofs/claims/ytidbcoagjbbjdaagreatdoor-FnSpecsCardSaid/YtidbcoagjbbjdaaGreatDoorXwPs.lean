/- The law FnSpecs: the walk. -/
import Derived.Test.YtidbcoagjbbjdaaGreatDoorVsD
import Derived.Test.YtidbcoagjbbjdaaGreatDoorXwPq
set_option linter.all false
set_option maxHeartbeats 8000000
namespace Go.Proofs.YtidbcoagjbbjdaaGreatDoor
open Go.Vs
variable [Vs.Tab 0 Vs.powP]
attribute [local irreducible] Vs.Fn ordL chB rk chI spT spX evV evC cfV cfC totL srtL sumW numC stW deckB crd cfL
structure SpcOk (x : Spc) (o : List (List Int)) (S : List (List Int)) (T : List (ByteArray × Int)) : Prop where
 len : S.length ≤ o.length ∧ S.length ≤ 8
 small : smallC S
 deck : deckB S = true
 num : ∀ i (h : i < S.length), cardB S[i] = true ∧ S[i].length = 5 ∧ (numC x.s0 x.s1 S[i]).2 = true
 sum : stW T = sumW x.s0 x.s1 S
 nil : T.length = 0 ↔ S.length = 0
 tl : T.length ≤ 8
 nm : ∀ i j (hi : i < T.length) (hj : j < T.length), i < j → T[i].1 ≠ T[j].1
theorem spc_law {x : Spc} (hx : gdS x) {o : List (List Int)} (h : ∀ c, c ∈ o → crd c) (hl : o.length ≤ 8) : SpcOk x o (cfL x o) (totL x.g0 x.g1 x.s0 x.s1 (srtL x.g0 x.g1 (cfL x o))) := by
 obtain ⟨⟨g1, g0⟩, hs, _, _⟩ := gd_one hx
 have hm := cfl_mem x o
 have hln := cfl_len x o
 have h2 : ∀ c, c ∈ cfL x o → crd c := fun c hc => h c (hm c hc)
 have ho : ∀ c, c ∈ cfL x o → okF x.g0 x.g1 c := fun c hc => by
  have := (crd_card (h2 c hc)).2
  unfold okF
  omega
 have hp := srtL_perm ho (by omega)
 have hso := srtL_srt ho (by omega)
 have h3 : ∀ c, c ∈ srtL x.g0 x.g1 (cfL x o) → crd c := fun c hc => h2 c (hp.mem_iff.1 hc)
 have hgf : (x.g0 = 0 ∧ x.g1 = 1) ∨ (x.g0 = 1 ∧ x.g1 = 2) ∨ (x.g0 = 2 ∧ x.g1 = 3) := by omega
 have hl2 := hp.length_eq
 have hd := crd_deckB h2 (by omega)
 have hGl := grpL_len x.g0 x.g1 (srtL x.g0 x.g1 (cfL x o))
 have hTl : (totL x.g0 x.g1 x.s0 x.s1 (srtL x.g0 x.g1 (cfL x o))).length = (grpL x.g0 x.g1 (srtL x.g0 x.g1 (cfL x o))).length := by unfold totL; rw [List.length_map]
 refine ⟨⟨hln, by omega⟩, ⟨by omega, fun c hc => by have := (crd_card (h2 c hc)).2; omega⟩, hd.1, fun i hi => ?_, ?_, ?_, by omega, ?_⟩
 ·have hc := h2 _ (List.getElem_mem hi)
  exact ⟨(crd_card hc).1, (crd_card hc).2, (few_w hc hs).1⟩
 ·rw [stW_tot (fun c hc => few_w (h3 c hc) hs) (by omega), sI_perm hp, sumW_eq (fun c hc => few_w (h2 c hc) hs) (by omega)]
 ·rw [hTl]
  constructor
  ·intro h0
   have e := grpL_flat x.g0 x.g1 (srtL x.g0 x.g1 (cfL x o))
   rw [List.eq_nil_of_length_eq_zero h0] at e
   rw [← hl2, ← e]; rfl
  ·intro h0; omega
 ·exact tot_names (fun c hc => ho c (hp.mem_iff.1 hc)) g1 hso (all_chr h3 hgf)
attribute [local go_sem] Int.reduceBEq Int.reduceBNe cC cP cFd cTt E_len List.replicate_succ List.replicate_zero List.flatten_cons List.flatten_nil List.cons_append List.nil_append List.set_cons_zero List.set_cons_succ List.length_cons List.length_nil List.length_set List.mem_singleton List.mem_cons List.not_mem_nil or_false false_or Vs.Name.t.injEq List.getD_cons_zero List.getD_cons_succ List.take_succ_cons List.take_zero List.drop_succ_cons List.drop_zero in
set_option maxRecDepth 20000 in
theorem law_FnSpecs (l m : List Int) (hl : ∀ x, x ∈ l → 0 ≤ x ∧ x ≤ 255) (hm : ∀ x, x ∈ m → 0 ≤ x ∧ x ≤ 255) : Fz F.l_FnSpecs [.sl 1 (E cU l), .sl 1 (E cU m)] (.v (.bool true)) := by
 have LG := a2Long l m
 rcases Bool.eq_false_or_eq_true (decide ((l.length : Int) > 3000) || decide ((m.length : Int) > 3000)) with hg | hg
 ·rw [hg] at LG
  refine fn0 Cd.l_FnSpecs_k fun X => ?_
  repeat' first|simp -dsimp only [go_sem]|apply Br.mk<;>intro h<;>try simp -dsimp only[h]|refine CallK.c (by first|exact LG) ?_|refine aC ?_|fail
  all_goals first | exact ⟨_, _, rfl, rfl⟩ | simp_all
 ·rw [hg] at LG
  simp only [Bool.or_eq_false_iff, decide_eq_false_iff_not] at hg
  obtain ⟨o, hcr, hol, AC⟩ := a2Cards l ⟨by omega, hl⟩
  obtain ⟨x, hx, AS⟩ := a2Spec m ⟨by omega, hm⟩
  have hk : smallC o := ⟨by omega, fun c hc => by have := (crd_card (hcr c hc)).2; omega⟩
  have hz : x.text.size ≤ 1048576 := by have := (gd_one hx).2.2.1; omega
  have EV := impl_EvalSpec x o hk hz
  rw [(ev_ok hx hcr hol).1, (ev_ok hx hcr hol).2] at EV
  have CF := cardsForT x o hk hz (cf_ok hx hcr hol)
  have ST := impl_SpecText x hz
  have eT := spT_no hx
  have hok := spc_law hx hcr hol
  have hsf := (gd_one hx).2.1
  generalize spT x = tx at *
  generalize totL x.g0 x.g1 x.s0 x.s1 (srtL x.g0 x.g1 (cfL x o)) = T at *
  generalize cfL x o = S at *
  obtain ⟨⟨hS1, hS8⟩, hSs, hSd, hSn, hsum, hnil, hTl, hnm⟩ := hok
  have VD := vdS S hSs
  rw [hSd] at VD
  have eL : decide ((S.length : Int) > (o.length : Nat)) = false := decide_eq_false (by omega)
  refine fn0 Cd.l_FnSpecs_k fun X => ?_
  repeat' first|simp -dsimp only [go_sem, eT, eL]|apply Br.mk<;>intro h<;>try simp -dsimp only[h]|refine CallK.c (by first|exact LG|exact AC|exact AS|exact EV|exact CF|exact VD|exact ST) ?_|refine And.intro ?_ (fun h => absurd rfl h)|refine aC ?_|fail
  refine LoopK.at dM (X := { zz : Nat × (Unit) // zz.1 ≤ S.length ∧ True }) (fun zz => [(11, .v (.int .i64 (sumW x.s0 x.s1 (S.take zz.1.1)))), (12, .v (.int .i64 zz.1.1))]) (fun zz => []) (fun zz => S.length - zz.1.1) ⟨(0, ()), by omega, trivial⟩ ?_ ?_
  ·simp [Vs.LeL, Vs.look, Vs.hlook, Vs.sput, Vs.sputs, Vs.hset, Vs.hputs, sumW]
  ·rintro ⟨⟨i, _⟩, hi, hg⟩
   dsimp only at hi hg
   simp -dsimp only [go_sem]
   refine Br.mk (fun hc => ?_) fun hc => ?_
   ·have hlt : i < S.length := Dq
    have hw := wrap_succ hlt (by omega)
    have gS : (E cC S).getD i [] = [.sl 1 (E cI S[i])] := E_get hlt
    have NI := numberInT S[i] x.s0 x.s1 (hSn i hlt).1 (hSn i hlt).2.1 hsf (hSn i hlt).2.2
    have hsw := sumW_succ (fr := x.s0) (to := x.s1) hlt
    generalize (numC x.s0 x.s1 S[i]).1 = nv at *
    repeat' first|simp -dsimp only [go_sem, hw, gS]|apply Br.mk<;>intro h<;>try simp -dsimp only[h]|refine CallK.c (by first|exact NI) ?_|refine And.intro ?_ (fun h => absurd rfl h)|refine aC ?_|fail
    all_goals first | omega | (exact nx (i + 1, ()) trivial (h2 := by simp [Vs.LeL, Vs.look, Vs.hlook, Vs.sput, Vs.sputs, Vs.hset, Vs.hputs, hsw]))
   ·have hge : i = S.length := by
     have : ¬ i < S.length := Dq
     omega
    subst hge
    simp -dsimp only [go_sem]
    rw [List.take_length]
    have SU := sumTot T (by omega)
    rw [hsum] at SU
    have n0 : (sumW x.s0 x.s1 S != sumW x.s0 x.s1 S) = false := by simp
    have eD : ((T.length : Int) == 0) = ((S.length : Int) == 0) := by
     rw [Bool.eq_iff_iff]
     simp only [beq_iff_eq]
     omega
    rcases Bool.eq_false_or_eq_true ((S.length : Int) == 0) with hb | hb
    ·rw [hb] at eD
     repeat' first|simp -dsimp only [go_sem, n0, eD, hb, beq_self_eq_true, bne_self_eq_false, Bool.bne_true, Bool.bne_false, Bool.not_true, Bool.not_false]|apply Br.mk<;>intro h<;>try simp -dsimp only[h]|refine CallK.c (by first|exact SU) ?_|refine And.intro ?_ (fun h => absurd rfl h)|refine aC ?_|fail
     refine LoopK.at dM (X := { zz : Nat × (Unit) // zz.1 ≤ T.length ∧ True }) (fun zz => [(15, .v (.int .i64 zz.1.1))]) (fun zz => []) (fun zz => T.length - zz.1.1) ⟨(0, ()), by omega, trivial⟩ ?_ ?_
     ·exact le0
     ·rintro ⟨⟨i, _⟩, hi, hg⟩
      dsimp only at hi hg
      simp -dsimp only [go_sem]
      refine Br.mk (fun hc => ?_) fun hc => ?_
      ·have hlt : i < T.length := Dq
       have hw := wrap_succ hlt (by omega)
       have gt : (E cTt T).getD i [] = [.v (.string T[i].1), .v (.int .i64 T[i].2)] := E_get hlt
       have TN := totNamed T (by omega) i hlt (fun j hj hji => hnm j i hj hlt hji)
       generalize T[i] = ti at *
       have n1 : (ti.2 != ti.2) = false := by simp
       repeat' first|simp -dsimp only [go_sem, hw, gt, n1]|apply Br.mk<;>intro h<;>try simp -dsimp only[h]|refine CallK.c (by first|exact TN) ?_|refine And.intro ?_ (fun h => absurd rfl h)|refine aC ?_|fail
       all_goals first | omega | (exact nx (i + 1, ()) trivial)
      ·have hge : i = T.length := by
        have : ¬ i < T.length := Dq
        omega
       subst hge
       simp -dsimp only [go_sem]
       all_goals first | exact ⟨⟨_, _, rfl, rfl⟩, fun h => absurd rfl h⟩ | exact ⟨_, _, rfl, rfl⟩ | (refine ⟨⟨?_, fun h => absurd rfl h⟩, fun h => absurd rfl h⟩; exact ⟨_, _, rfl, rfl⟩) | (refine ⟨⟨⟨?_, fun h => absurd rfl h⟩, fun h => absurd rfl h⟩, fun h => absurd rfl h⟩; exact ⟨_, _, rfl, rfl⟩) | (simp; done)
    ·rw [hb] at eD
     repeat' first|simp -dsimp only [go_sem, n0, eD, hb, beq_self_eq_true, bne_self_eq_false, Bool.bne_true, Bool.bne_false, Bool.not_true, Bool.not_false]|apply Br.mk<;>intro h<;>try simp -dsimp only[h]|refine CallK.c (by first|exact SU) ?_|refine And.intro ?_ (fun h => absurd rfl h)|refine aC ?_|fail
     refine LoopK.at dM (X := { zz : Nat × (Unit) // zz.1 ≤ T.length ∧ True }) (fun zz => [(15, .v (.int .i64 zz.1.1))]) (fun zz => []) (fun zz => T.length - zz.1.1) ⟨(0, ()), by omega, trivial⟩ ?_ ?_
     ·exact le0
     ·rintro ⟨⟨i, _⟩, hi, hg⟩
      dsimp only at hi hg
      simp -dsimp only [go_sem]
      refine Br.mk (fun hc => ?_) fun hc => ?_
      ·have hlt : i < T.length := Dq
       have hw := wrap_succ hlt (by omega)
       have gt : (E cTt T).getD i [] = [.v (.string T[i].1), .v (.int .i64 T[i].2)] := E_get hlt
       have TN := totNamed T (by omega) i hlt (fun j hj hji => hnm j i hj hlt hji)
       generalize T[i] = ti at *
       have n1 : (ti.2 != ti.2) = false := by simp
       repeat' first|simp -dsimp only [go_sem, hw, gt, n1]|apply Br.mk<;>intro h<;>try simp -dsimp only[h]|refine CallK.c (by first|exact TN) ?_|refine And.intro ?_ (fun h => absurd rfl h)|refine aC ?_|fail
       all_goals first | omega | (exact nx (i + 1, ()) trivial)
      ·have hge : i = T.length := by
        have : ¬ i < T.length := Dq
        omega
       subst hge
       simp -dsimp only [go_sem]
       all_goals first | exact ⟨⟨_, _, rfl, rfl⟩, fun h => absurd rfl h⟩ | exact ⟨_, _, rfl, rfl⟩ | (refine ⟨⟨?_, fun h => absurd rfl h⟩, fun h => absurd rfl h⟩; exact ⟨_, _, rfl, rfl⟩) | (refine ⟨⟨⟨?_, fun h => absurd rfl h⟩, fun h => absurd rfl h⟩, fun h => absurd rfl h⟩; exact ⟨_, _, rfl, rfl⟩) | (simp; done)
end Go.Proofs.YtidbcoagjbbjdaaGreatDoor
