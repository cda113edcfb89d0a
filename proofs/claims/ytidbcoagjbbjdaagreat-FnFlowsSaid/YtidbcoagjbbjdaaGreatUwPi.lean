/- A step of a flow is spoilt; a field is drawn. -/
import Derived.Test.YtidbcoagjbbjdaaGreatUwVr
import Derived.Test.YtidbcoagjbbjdaaGreatUwPd
import Derived.Test.YtidbcoagjbbjdaaGreatUwD
set_option linter.all false
set_option maxHeartbeats 8000000
namespace Go.Proofs.YtidbcoagjbbjdaaGreat
open Go.Vs
section
variable [Vs.Envs]
attribute [local irreducible] Vs.Fn chOK areCh chTo chAt l03 chB rk cd3 chI stp stpTo
def T0 (l : List (List Int)) : List (List (List Int)) := l :: List.replicate 5 []
def O0 (l : List (List Int)) : Off := ⟨T0 l, []⟩
def TK (l : List (List Int)) (k : Nat) : List (List (List Int)) := l :: List.replicate k []
theorem TK_len (l : List (List Int)) (k : Nat) : (TK l k).length = k + 1 := by unfold TK; rw [List.length_cons, List.length_replicate]
theorem E_snN (l : List (List Int)) (k : Nat) : E cD (TK l k) ++ [[.sl 1 []]] = E cD (TK l (k + 1)) := by
 unfold TK
 rw [List.replicate_succ', ← List.cons_append, E_append]; rfl
attribute [local go_sem] Int.reduceBEq Int.reduceBNe cO cS cFd E_len List.replicate_succ List.replicate_zero List.flatten_cons List.flatten_nil List.cons_append List.nil_append List.set_cons_zero List.set_cons_succ List.length_cons List.length_nil List.length_set List.mem_singleton List.mem_cons List.not_mem_nil or_false false_or Vs.Name.t.injEq List.getD_cons_zero List.getD_cons_succ Vs.Name.b.injEq in
theorem l15New (l : List (List Int)) (hk : smallC l) : Fz F.s_l15New [.sl 1 (E cC l)] (.agg [.sl 1 (E cD (T0 l)), .v (.slice none 0 0)]) := by
 have CP := l02Copy l hk
 refine fn0 Cd.s_l15New_k fun X => ?_
 repeat' first|simp -dsimp only [go_sem, cC]|apply Br.mk<;>intro h<;>try simp -dsimp only[h]|refine CallK.c (by first|exact CP) ?_|refine aC ?_|fail
 have e0 : ([[.sl 1 (E cC l)]] : List (List AV)) = E cD (TK l 0) := rfl
 refine LoopK.atR dM (X := { k : Nat // k ≤ 5 }) (fun k => [(4, .v (.int .i64 (k.1 + 1 : Nat)))]) (fun k => [(.t 3 0, .var [.loc (.t 7 0) 0 (k.1 + 1), .v (.slice none 0 0)] false), (.t 7 0, .arr 1 (E cD (TK l k.1)) false)]) (fun k => 5 - k.1) ⟨0, by omega⟩ ?_ ?_
 ·simp [Vs.LeL, Vs.look, Vs.hlook, Vs.sput, Vs.sputs, Vs.hset, Vs.hputs, Vs.E, cD, TK]
 ·rintro ⟨k, hi⟩
  try dsimp only at hi
  try simp -dsimp only [go_sem, cC]
  refine Br.mk (fun hc => ?_) fun hc => ?_
  ·have hlt : k < 5 := by first | (simp at hc; omega) | omega
   have hw : IntKind.i64.wrap ((k + 1 : Nat) + 1 : Int) = ((k + 1 + 1 : Nat) : Int) := by rw [wrap_in (by omega) (by omega)]; omega
   have hrow := E_snN l k
   have hal : (E cD (TK l k)).length = k + 1 := by rw [E_len, TK_len]
   repeat' first|simp -dsimp only [go_sem, hw, hrow, hal, cC]|apply Br.mk<;>intro h<;>try simp -dsimp only[h]|refine aC ?_|refine ⟨[], rfl, rfl, ?_⟩|fail
   all_goals first | omega | (refine ⟨⟨k + 1, by omega⟩, .inr ⟨.t 17 0, .t 7 0, by decide, rfl, ?_⟩, by simp only; omega⟩; simp [Vs.renL, Vs.nmF, Vs.rn, Vs.rnL, Vs.rnB, Vs.LeL, Vs.look, Vs.hlook, Vs.sput, Vs.sputs, Vs.hset, Vs.hputs, hrow]; done)
  ·have hge : k = 5 := by
    have : ¬ k < 5 := by first | (simp at hc; omega) | omega
    omega
   subst hge
   have hal : (E cD (TK l 5)).length = 6 := by rw [E_len, TK_len]
   have hk6 : (E cD (TK l 5)).take 6 = E cD (TK l 5) := List.take_of_length_le (by omega)
   rw [show T0 l = TK l 5 from rfl]
   repeat' first|simp -dsimp only [go_sem, hal, hk6, cC]|apply Br.mk<;>intro h<;>try simp -dsimp only[h]|refine And.intro ?_ (fun h => absurd rfl h)|refine aC ?_|fail
   all_goals first | omega | exact ⟨_, _, rfl, rfl⟩ | exact ⟨⟨_, _, rfl, rfl⟩, fun h => h rfl⟩
end
section
variable [Vs.Envs]
attribute [local irreducible] Vs.Fn chOK areCh chTo chAt l03 chB rk cd3 chI stp stpTo
attribute [local go_sem] Int.reduceBEq Int.reduceBNe cC cTs cD E_len List.replicate_succ List.replicate_zero List.flatten_cons List.flatten_nil List.cons_append List.nil_append List.set_cons_zero List.set_cons_succ List.length_cons List.length_nil List.length_set List.mem_singleton List.mem_cons List.not_mem_nil or_false false_or Vs.Name.t.injEq in
theorem newOfficeC (o : Off) (ho : smallO o) : Fz F.i_newOffice [.agg (cO o)] (.agg (cO o)) := by
 have hn := ho.1.1
 have hm := ho.2.1
 refine Cd.i_newOffice_k.o.fn Tryz.mixed (hin := []) _ _ [] [] Cd.i_newOffice_k.n Cd.i_newOffice_k.r rfl (by simp) rfl (by simp) fun X => ?_
 unfold Cd.i_newOffice
 repeat' first|simp -dsimp only [go_sem, cO]|apply Br.mk<;>intro h<;>try simp -dsimp only[h]|refine aC ?_|fail
 refine LoopK.atR dM (X := { i : Nat // i ≤ o.trays.length }) (fun i => [(14, .v (.int .i64 (i.1 : Nat)))]) (fun i => [(.t 3 0, .var [.loc (.t 8 0) 0 i.1, .loc (.t 9 0) 0 0] false), (.t 8 0, .arr 1 (E cD (o.trays.take i.1)) false)]) (fun i => o.trays.length - i.1) ⟨0, by omega⟩ ?_ ?_
 ·simp [Vs.LeL, Vs.look, Vs.hlook, Vs.sput, Vs.sputs, Vs.hset, Vs.hputs, Vs.E]
 ·rintro ⟨i, hi⟩
  try dsimp only at hi
  try simp -dsimp only [go_sem, cO]
  refine Br.mk (fun hc => ?_) fun hc => ?_
  ·have hlt : i < o.trays.length := Dq
   have hw := wrap_succ hlt (by omega)
   have hat := cD_at hlt
   have hrow := E_snocD hlt
   have hal : (E cD (o.trays.take i)).length = i := by rw [E_len]; simp; omega
   have ND := newDeckC o.trays[i] (ho.1.2 _ (List.getElem_mem hlt))
   repeat' first|simp -dsimp only [go_sem, hw, hrow, hal, hat, cO]|apply Br.mk<;>intro h<;>try simp -dsimp only[h]|refine CallK.c (by first|exact ND) ?_|refine aC ?_|fail
   all_goals first | omega | (refine ⟨⟨i + 1, by omega⟩, .inr ⟨.t 23 0, .t 8 0, by decide, rfl, ?_⟩, by simp only; omega⟩; simp [Vs.renL, Vs.nmF, Vs.rn, Vs.rnL, Vs.rnB, Vs.LeL, Vs.look, Vs.hlook, Vs.sput, Vs.sputs, Vs.hset, Vs.hputs, hrow]; done)
  ·have hge : i = o.trays.length := by
    have : ¬ i < o.trays.length := Dq
    omega
   subst hge
   try simp -dsimp only [go_sem, cO]
   refine ⟨?_, fun h => h rfl⟩
   repeat' first|simp -dsimp only [go_sem, cO]|apply Br.mk<;>intro h<;>try simp -dsimp only[h]|refine aC ?_|fail
   refine LoopK.atR dM (X := { i : Nat // i ≤ o.totals.length }) (fun i => [(29, .v (.int .i64 (i.1 : Nat)))]) (fun i => [(.t 3 0, .var [.loc (.t 8 0) 0 o.trays.length, .loc (.t 9 0) 0 i.1] false), (.t 9 0, .arr 1 (E cTs (o.totals.take i.1)) false)]) (fun i => o.totals.length - i.1) ⟨0, by omega⟩ ?_ ?_
   ·simp [Vs.LeL, Vs.look, Vs.hlook, Vs.sput, Vs.sputs, Vs.hset, Vs.hputs, Vs.E]
   ·rintro ⟨i, hi⟩
    try dsimp only at hi
    try simp -dsimp only [go_sem, cO]
    refine Br.mk (fun hc => ?_) fun hc => ?_
    ·have hlt : i < o.totals.length := Dq
     have hw := wrap_succ hlt (by omega)
     have hat := cTs_at hlt
     have hrow := E_snocT hlt
     have hal : (E cTs (o.totals.take i)).length = i := by rw [E_len]; simp; omega
     have hs := (ho.2.2 _ (List.getElem_mem hlt)).1
     repeat' first|simp -dsimp only [go_sem, hw, hrow, hal, hat, cO]|apply Br.mk<;>intro h<;>try simp -dsimp only[h]|refine aC ?_|fail
     all_goals first | omega | (refine ⟨⟨i + 1, by omega⟩, .inr ⟨.t 39 0, .t 9 0, by decide, rfl, ?_⟩, by simp only; omega⟩; simp [Vs.renL, Vs.nmF, Vs.rn, Vs.rnL, Vs.rnB, Vs.LeL, Vs.look, Vs.hlook, Vs.sput, Vs.sputs, Vs.hset, Vs.hputs, hrow]; done)
    ·have hge : i = o.totals.length := by
      have : ¬ i < o.totals.length := Dq
      omega
     subst hge
     try simp -dsimp only [go_sem, cO]
     refine ⟨?_, fun h => h rfl⟩
     have ht1 : (E cD (o.trays.take o.trays.length)) = E cD o.trays := by rw [List.take_length]
     have hq1 : (E cD o.trays).take o.trays.length = E cD o.trays := List.take_of_length_le (by rw [E_len]; exact Nat.le_refl _)
     have hq2 : (E cTs o.totals).take o.totals.length = E cTs o.totals := List.take_of_length_le (by rw [E_len]; exact Nat.le_refl _)
     have ht2 : (E cTs (o.totals.take o.totals.length)) = E cTs o.totals := by rw [List.take_length]
     repeat' first|simp -dsimp only [go_sem, ht1, ht2, hq1, hq2, cO]|apply Br.mk<;>intro h<;>try simp -dsimp only[h]|refine aC ?_|fail
     all_goals first | omega | exact ⟨_, _, rfl, rfl⟩
theorem sizeSt (l : List Stp) : Fz F.i_size_i_Step_ [.sl 9 (E cS l)] (.v (.int .i64 l.length)) := by
 refine fn0 Cd.i_size_i_Step__k fun X => ?_
 repeat' first|simp -dsimp only [go_sem]|apply Br.mk<;>intro h<;>try simp -dsimp only[h]|refine aC ?_|fail
 all_goals (simp_all)
attribute [local go_sem] Int.reduceBEq Int.reduceBNe cC cFd E_len List.replicate_succ List.replicate_zero List.flatten_cons List.flatten_nil List.cons_append List.nil_append List.set_cons_zero List.set_cons_succ List.length_cons List.length_nil List.length_set List.mem_singleton List.mem_cons List.not_mem_nil or_false false_or Vs.Name.t.injEq List.getD_cons_zero List.getD_cons_succ Vs.Name.b.injEq in
theorem runFlow (o : Off) (w : Nat) (ho : okO w o) (fl : List Stp) (hz : ∀ x, x ∈ fl → x.text.size ≤ 1048576) (hl : fl.length ≤ 1048576) : Fz F.i_runFlow [.agg (cO o), .sl 9 (E cS fl)] (.tup [.agg (cO (run o fl).1), .v (.int .i64 ((run o fl).2 : Nat))]) := by
 have NO := newOfficeC o (okO_small ho)
 have SZ := sizeSt fl
 have hI0 := runI_zero o fl
 generalize hR : run o fl = R
 refine fn0 Cd.i_runFlow_k fun X => ?_
 repeat' first|simp -dsimp only [go_sem, cO, cS]|apply Br.mk<;>intro h<;>try simp -dsimp only[h]|refine CallK.c (by first|exact NO) ?_|refine aC ?_|fail
 refine LoopK.at dM (X := { p : Nat × Off // p.1 ≤ fl.length ∧ okO w p.2 ∧ runI o fl p.1 p.2 }) (fun p => [(15, .v (.int .i64 (p.1.1 : Nat)))]) (fun p => [(.t 6 0, .var (cO p.1.2) false)]) (fun p => fl.length - p.1.1) ⟨(0, o), by simp, ho, hI0⟩ ?_ ?_
 ·simp [Vs.LeL, Vs.look, Vs.hlook, Vs.sput, Vs.sputs, Vs.hset, Vs.hputs, cO]
 ·rintro ⟨⟨i, o'⟩, hi, ho', hrun⟩
  dsimp only at hi ho' hrun
  simp -dsimp only [go_sem, cO, cS]
  refine Br.mk (fun hc => ?_) fun hc => ?_
  ·have hlt : i < fl.length := Dq
   have hw := wrap_succ hlt (by omega)
   have gx : (E cS fl).getD i [] = cS fl[i] := E_get hlt
   have DS := doStep fl[i] (hz _ (List.getElem_mem hlt)) o' w ho'
   by_cases hd : dsC fl[i] o' = 0
   ·rw [show dsV fl[i] o' = .agg (cO (stO fl[i] o')) by unfold dsV; rw [if_pos hd], hd] at DS
    have hnext := runI_step hlt hrun hd
    have hok := ds_ok ho' hd
    generalize stO fl[i] o' = o2 at *
    repeat' first|simp -dsimp only [go_sem, hw, gx, cO, cS]|apply Br.mk<;>intro h<;>try simp -dsimp only[h]|refine CallK.c (by first|exact DS) ?_|refine aC ?_|fail
    all_goals first | omega | (refine ⟨⟨(i + 1, o2), by simp only; omega, hok, hnext⟩, ?_, by simp only; omega⟩; simp [Vs.LeL, Vs.look, Vs.hlook, Vs.sput, Vs.sputs, Vs.hset, Vs.hputs, cO]; done)
   ·rw [show dsV fl[i] o' = noO by unfold dsV; rw [if_neg hd]] at DS
    have e0 : (dsC fl[i] o' != 0) = true := by simp [hd]
    have hstop := runI_stop hlt hrun hd
    rw [hR] at hstop
    subst hstop
    generalize dsC fl[i] o' = c at *
    repeat' first|simp -dsimp only [go_sem, hw, gx, e0, noO, cO, cS]|apply Br.mk<;>intro h<;>try simp -dsimp only[h]|refine CallK.c (by first|exact DS) ?_|refine aC ?_|fail
    all_goals first | omega | exact ⟨_, _, rfl, rfl⟩
  ·have hge : i = fl.length := by
    have : ¬ i < fl.length := Dq
    omega
   subst hge
   have hstop := runI_end hrun
   rw [hR] at hstop
   subst hstop
   repeat' first|simp -dsimp only [go_sem, cO, cS]|apply Br.mk<;>intro h<;>try simp -dsimp only[h]|refine CallK.c (by first|exact SZ) ?_|refine And.intro ?_ (fun h => absurd rfl h)|refine aC ?_|fail
   all_goals first | omega | exact ⟨_, _, rfl, rfl⟩ | exact ⟨⟨_, _, rfl, rfl⟩, fun h => h rfl⟩
end
section
variable [Vs.Envs]
attribute [local irreducible] Vs.Fn nxV nxS pkV pkS ptN crd stpB dtF strB wO offB deckB dsC
def stT (l : List Int) : Nat → Sr → List Stp → List Stp → Sr → Prop
 | 0, x, o, o', x' => o' = o ∧ x' = x
 | k + 1, x, o, o', x' => ∃ s x1, s.text.size ≤ 2 ∧ x1.p ≤ x.p + 30 ∧ Vs.Fn Tryz.prog F.s_l15DrawStep [sB l x] [.ptr (.b 0) 0 0] (.agg (cS s)) [some (sB l x1)] ∧ stT l k x1 (if stpB s 5 then o ++ [s] else o) o' x'
def okS (o : List Stp) : Prop := ∀ s, s ∈ o → stpB s 5 = true ∧ s.text.size ≤ 2
theorem okS_add {o : List Stp} {s : Stp} (h : okS o) (hs : s.text.size ≤ 2) : okS (if stpB s 5 then o ++ [s] else o) := by
 split
 ·rename_i hv
  intro t ht
  rcases List.mem_append.1 ht with ht | ht
  ·exact h t ht
  ·rw [List.mem_singleton.1 ht]; exact ⟨hv, hs⟩
 ·exact h
theorem stT_ex {l : List Int} (hl : byt l) : ∀ (k : Nat) (x : Sr) (o : List Stp), x.p + 30 * k ≤ 2900 → okS o → ∃ o' x', (x'.p ≤ x.p + 30 * k ∧ o'.length ≤ o.length + k ∧ okS o') ∧ stT l k x o o' x'
 | 0, x, o, _, h => ⟨o, x, ⟨by omega, by omega, h⟩, rfl, rfl⟩
 | k + 1, x, o, h, ho => by
  obtain ⟨s, x1, hs, hx1, hf⟩ := drawStep l x hl (by omega)
  obtain ⟨o', x', ⟨h1, h2, h3⟩, h4⟩ := stT_ex hl k x1 (if stpB s 5 then o ++ [s] else o) (by omega) (okS_add ho hs)
  refine ⟨o', x', ⟨by omega, ?_, h3⟩, s, x1, hs, hx1, hf, h4⟩
  split at h2
  ·rw [List.length_append, List.length_singleton] at h2; omega
  ·omega
theorem l00FromB (l : List Int) : Vs.Fn Tryz.prog F.s_l00From [] [.sl 1 (E cU l)] (.ptr (.b 0) 0 0) [some (.var [.sl 1 (E cU l), .v (.int .i64 0), .v (.int .u64 0)] false)] := by
 refine Cd.s_l00From_k.o.fn Tryz.mixed (hin := []) _ _ [.t 5 0] [sB l ⟨0, 0⟩] Cd.s_l00From_k.n Cd.s_l00From_k.r rfl (by simp) rfl (by simp) fun X => ?_
 unfold Cd.s_l00From
 repeat' first|simp -dsimp only [go_sem, Int.reduceBEq, Int.reduceBNe, cC, E_len, List.replicate_succ, List.replicate_zero, List.flatten_cons, List.flatten_nil, List.cons_append, List.nil_append, List.set_cons_zero, List.set_cons_succ, List.length_cons, List.length_nil, List.length_set, List.mem_singleton, List.mem_cons, List.not_mem_nil, or_false, false_or, Vs.Name.t.injEq, List.getD_cons_zero, List.getD_cons_succ, nestN, cellN, topN, sB, List.append_nil, List.flatMap_cons, List.flatMap_nil]|apply Br.mk<;>intro h<;>try simp -dsimp only[h]|refine aC ?_|fail
 all_goals exact ⟨_, _, rfl, rfl⟩
theorem a2Long (l m : List Int) : Fz F.l_a2Long [.sl 1 (E cU l), .sl 1 (E cU m)] (.v (.bool (decide ((l.length : Int) > 3000) || decide ((m.length : Int) > 3000)))) := by
 refine fn0 Cd.l_a2Long_k fun X => ?_
 repeat' first|simp -dsimp only [go_sem, E_len]|apply Br.mk<;>intro h<;>try simp -dsimp only[h]|refine aC ?_|fail
 all_goals (first | (simp_all [E_len]; done) | (refine ret_eq ?_; simp_all [E_len]; done) | (simp_all [E_len]; omega))
attribute [local go_sem] Int.reduceBEq Int.reduceBNe cC E_len List.replicate_succ List.replicate_zero List.flatten_cons List.flatten_nil List.cons_append List.nil_append List.set_cons_zero List.set_cons_succ List.length_cons List.length_nil List.length_set List.mem_singleton List.mem_cons List.not_mem_nil or_false false_or Vs.Name.t.injEq List.getD_cons_zero List.getD_cons_succ nestN cellN topN sB List.append_nil List.flatMap_cons List.flatMap_nil in
theorem a2Flow (l : List Int) (hl : byt l) : ∃ fs, okS fs ∧ fs.length ≤ 5 ∧ Fz F.s_A2Flow [.sl 1 (E cU l)] (.sl 9 (E cS fs)) := by
 obtain ⟨k0, hk0⟩ : ∃ k : Nat, pkV l ⟨0, 0⟩ 6 = k := ⟨(pkV l ⟨0, 0⟩ 6).toNat, by have := pkV_in hl ⟨0, 0⟩ (n := 6) (by omega); omega⟩
 have v := pkV_in hl ⟨0, 0⟩ (n := 6) (by omega)
 have P0 := pick l ⟨0, 0⟩ hl 6 (by dsimp only; omega)
 have p0 := pkS_p l ⟨0, 0⟩ 6
 rw [hk0] at P0 v
 generalize pkS l ⟨0, 0⟩ 6 = x0 at *
 dsimp only at p0
 obtain ⟨fs, z, ⟨hz, hfs, hok⟩, hT⟩ := stT_ex hl k0 x0 [] (by omega) (fun s hs => by cases hs)
 simp only [List.length_nil] at hfs
 refine ⟨fs, hok, by omega, ?_⟩
 have FR := l00FromB l
 refine fn0 Cd.s_A2Flow_k fun X => ?_
 repeat' first|simp -dsimp only [go_sem, cS]|apply Br.mk<;>intro h<;>try simp -dsimp only[h]|refine CallK.bor (by first|exact P0) rfl ?_|refine CallK.own (by first|exact FR) rfl ?_|refine aC ?_|fail
 refine LoopK.at dM (X := { zz : Nat × Sr × List Stp // (zz.2.1.p + 30 * zz.1 ≤ 2800) ∧ (zz.1 + zz.2.2.length ≤ 6) ∧ stT l zz.1 zz.2.1 zz.2.2 fs z }) (fun zz => [(4, .loc (.t 4 0) 0 zz.1.2.2.length), (5, .v (.int .i64 (zz.1.1 : Nat)))]) (fun zz => [(.t 8 0, sB l zz.1.2.1), (.t 4 0, .arr 9 (E cS zz.1.2.2) false)]) (fun zz => zz.1.1) ⟨(k0, x0, []), by dsimp only; omega, by dsimp only; simp only [List.length_nil]; omega, hT⟩ ?_ ?_
 ·simp [Vs.LeL, Vs.look, Vs.hlook, Vs.sput, Vs.sputs, Vs.hset, Vs.hputs, Vs.E, sB]
 ·rintro ⟨⟨k, y, o⟩, hk1, hk2, hr⟩
  dsimp only at hk1 hk2 hr
  simp -dsimp only [go_sem, cS]
  refine Br.mk (fun hc => ?_) fun hc => ?_
  ·obtain ⟨k, rfl⟩ : ∃ j, k = j + 1 := ⟨k - 1, by simp at hc; omega⟩
   have w := subK (k := k) (by omega)
   obtain ⟨s, y1, hs, hy1, hf, hr⟩ := hr
   have LS := l15Step s 5 (by omega)
   have hap : E cS o ++ [cS s] = E cS (o ++ [s]) := by rw [E_append]; rfl
   simp only [cS] at hap
   by_cases hv : stpB s 5 = true
   ·rw [hv] at LS
    repeat' first|simp -dsimp only [go_sem, w, hap, cS]|apply Br.mk<;>intro h<;>try simp -dsimp only[h]|refine CallK.bor (by first|exact hf) rfl ?_|refine CallK.c (by first|exact LS) ?_|refine aC ?_|fail
    all_goals first | omega | (refine ⟨⟨(k, y1, o ++ [s]), by dsimp only; omega, by dsimp only; (try rw [List.length_append]); (try simp only [List.length_cons, List.length_nil]); omega, by simpa [hv] using hr⟩, ?_, by simp only; omega⟩; simp [Vs.LeL, Vs.look, Vs.hlook, Vs.sput, Vs.sputs, Vs.hset, Vs.hputs, Vs.E, sB, cS]; done)
   ·have hv : stpB s 5 = false := by simpa using hv
    rw [hv] at LS
    repeat' first|simp -dsimp only [go_sem, w, hap, cS]|apply Br.mk<;>intro h<;>try simp -dsimp only[h]|refine CallK.bor (by first|exact hf) rfl ?_|refine CallK.c (by first|exact LS) ?_|refine aC ?_|fail
    all_goals first | omega | (refine ⟨⟨(k, y1, o), by dsimp only; omega, by dsimp only; (try rw [List.length_append]); (try simp only [List.length_cons, List.length_nil]); omega, by simpa [hv] using hr⟩, ?_, by simp only; omega⟩; simp [Vs.LeL, Vs.look, Vs.hlook, Vs.sput, Vs.sputs, Vs.hset, Vs.hputs, Vs.E, sB, cS]; done)
  ·obtain rfl : k = 0 := by simp at hc; omega
   obtain ⟨rfl, rfl⟩ := hr
   have htk : (E cS fs).take fs.length = E cS fs := List.take_of_length_le (by rw [E_len]; exact Nat.le_refl _)
   simp -dsimp only [go_sem]
   first | exact ⟨⟨_, _, rfl, rfl⟩, fun h => h rfl⟩ | (rw [htk]; exact ⟨⟨_, _, rfl, rfl⟩, fun h => h rfl⟩)
end
section
variable [Vs.Envs]
attribute [local irreducible] Vs.Fn nxV nxS pkV pkS ptN crd stpB dtF strB
open Go.Vs.Q in
def CdV.l15Spoil : ACode := s [m 4 0,o 5 (.call (.func F._s_l00Src__pick) [4,(k 8)] [0])] [0,1,5]<|.block 0 (s [en 7 5 0,m 6 7] [0,1,5,6]<|.cond 6 (.region [m 8 1,m 9 0,o 10 (.bslice 1 4 [.v (.int .i64 (0))] [(0,(k 0)),(1,(k 7)),(2,(k 8)),(3,(k (-1)))]),o 11 (.call (.func F._s_l00Src__among) [9,10] [0]),nc 12 8,fa 13 0
 12,⟨none,.store 1 13 11,none⟩] [] []) (s [en 15 5 1,m 14 15] [0,1,5,14]<|.cond 14 (.region [m 16 1,m 17 0,o 18 (.bslice 1 3 [.v (.int .i64 (0))] [(0,(k (-1))),(1,(k 5)),(2,(k 6))]),o 19 (.call (.func F._s_l00Src__among) [17,18] [0]),nc 20 16,fa 21 1 20,⟨none,.store 1 21 19,none⟩] [] []) (s [en 23
 5 2,m 22 23] [0,1,5,22]<|.cond 22 (.region [m 24 1,m 25 0,o 26 (.bslice 1 4 [.v (.int .i64 (0))] [(0,(k (-1))),(1,(k 1)),(2,(k 5)),(3,(k 6))]),o 27 (.call (.func F._s_l00Src__among) [25,26] [0]),nc 28 24,fa 29 2 28,⟨none,.store 1 29 27,none⟩] [] []) (s [en 31 5 3,m 30 31] [0,1,5,30]<|.cond 30
 (.region [m 32 1,m 33 0,o 34 (.bslice 1 3 [.v (.int .i64 (0))] [(0,(k (-1))),(1,(k 5)),(2,(k 6))]),o 35 (.call (.func F._s_l00Src__among) [33,34] [0]),nc 36 32,fa 37 3 36,⟨none,.store 1 37 35,none⟩] [] []) (s [en 39 5 4,m 38 39] [0,1,5,38]<|.cond 38 (.region [m 40 1,m 41 0,o 42 (.call (.func
 F.s_l02DrawField) [41,(k 5)] [0]),nc 43 40,fa 44 4 43,⟨none,.store 2 44 42,none⟩] [] []) (s [en 46 5 5,m 45 46] [0,1,5,45]<|.cond 45 (.region [m 47 1,m 48 0,o 49 (.call (.func F.s_l02DrawField) [48,(k 5)] [0]),nc 50 47,fa 51 6 50,⟨none,.store 2 51 49,none⟩] [] []) (s [en 53 5 6,m 52 53]
 [0,1,5,52]<|.cond 52 (.region [m 54 1,m 55 0,o 56 (.bslice 1 4 [.v (.string ⟨#[]⟩)] [(0,(.const (.string ⟨#[]⟩))),(1,(.const (.string ⟨#[65]⟩))),(2,(.const (.string ⟨#[97]⟩))),(3,(.const (.string ⟨#[65,66]⟩)))]),o 57 (.call (.func F._s_l00Src__text) [55,56] [0]),nc 58 54,fa 59 8 58,⟨none,.store 1
 59 57,none⟩] [] []) (s [en 61 5 7,m 60 61] [0,1,60]<|.cond 60 (.region [m 62 1,m 63 0,o 64 (.call (.func F._s_l00Src__pick) [63,(k 2)] [0]),o 65 (.bin .add (k 13) 64),o 66 (.build [.v (.int .i64 (0)),.v (.int .i64 (0))] [(0,1,(k 1)),(1,1,65)]),nc 67 62,fa 68 6 67,⟨none,.store 2 68 66,none⟩] []
 []) .skip))))))))
theorem CdV.l15Spoil_k : CK 115 Tryz.f115 CdV.l15Spoil 69 [] := ck Tryz.func115
attribute [go_sem] CdV.l15Spoil
open Go.Vs.Q in
def CdV.l02DrawField : ACode := s [o 4 (.alloc [.v (.int .i64 (0)),.v (.int .i64 (0))])] [0,1,4]<|.seq (s [m 7 0,o 8 (.call (.func F._s_l00Src__one) [7,(k 12)] [0])] [0,1,4,8]<|.cond 8 (s [m 9 0,m 10 1,o 11 (.bslice 1 6 [.v (.int .i64 (0))] [(0,(k (-1))),(1,(k 0)),(2,(k 1)),(3,10),(4,(k 9223372036854775807)),(5,(k
 (-9223372036854775808)))]),o 12 (.call (.func F._s_l00Src__among) [9,11] [0]),m 5 12] [0,1,4,5]<|s [m 13 5,m 14 0,m 15 1,m 16 1,ad 17 16 1,o 18 (.bslice 1 5 [.v (.int .i64 (0))] [(0,(k 0)),(1,(k 1)),(2,15),(3,17),(4,(k 9223372036854775807))]),o 19 (.call (.func F._s_l00Src__among) [14,18]
 [0]),o 20 (.build [.v (.int .i64 (0)),.v (.int .i64 (0))] [(0,1,13),(1,1,19)]),⟨none,.store 2 4 20,none⟩] [4]<|.ret) .skip)<|s [m 21 0,m 22 1,c 23 F.s_l00Max [(k 1),22],o 24 (.call (.func F._s_l00Src__pick) [21,23] [0]),m 6 24] [0,1,4,6]<|s [m 25 6,m 26 6,ad 27 26 1,m 28 0,m 29 1,m 30 6,o 31
 (.bin .sub 29 30),c 32 F.s_l00Max [(k 1),31],o 33 (.call (.func F._s_l00Src__pick) [28,32] [0]),o 34 (.bin .add 27 33),o 35 (.build [.v (.int .i64 (0)),.v (.int .i64 (0))] [(0,1,25),(1,1,34)]),⟨none,.store 2 4 35,none⟩] [4]<|.ret
theorem CdV.l02DrawField_k : CK 140 Tryz.f140 CdV.l02DrawField 36 [.cell 4 45] := ck Tryz.func140
attribute [go_sem] CdV.l02DrawField
theorem l00Max (a b : Int) : Fz F.s_l00Max [.v (.int .i64 a), .v (.int .i64 b)] (.v (.int .i64 (if a > b then a else b))) := by
 refine fn0 Cd.s_l00Max_k fun X => ?_
 repeat' first|simp -dsimp only [go_sem]|apply Br.mk<;>intro h<;>try simp -dsimp only[h]|refine aC ?_|fail
 all_goals (first | (refine ret_eq ?_; simp_all; done) | (simp_all; done) | (simp_all; omega))
attribute [local go_sem] Int.reduceBEq Int.reduceBNe cC E_len List.replicate_succ List.replicate_zero List.flatten_cons List.flatten_nil List.cons_append List.nil_append List.set_cons_zero List.set_cons_succ List.length_cons List.length_nil List.length_set List.mem_singleton List.mem_cons List.not_mem_nil or_false false_or Vs.Name.t.injEq List.getD_cons_zero List.getD_cons_succ nestN cellN topN List.append_nil List.flatMap_cons List.flatMap_nil Int.reduceAdd Int.reduceSub in
theorem drawField5 (l : List Int) (x : Sr) (hl : byt l) (hp : x.p ≤ 2900) : ∃ f0 f1 z, z.p ≤ x.p + 8 ∧ Vs.Fn Tryz.prog F.s_l02DrawField [sB l x] [.ptr (.b 0) 0 0, .v (.int .i64 5)] (.agg [.v (.int .i64 f0), .v (.int .i64 f1)]) [some (sB l z)] := by
 have P1 := one l x hl 12 (by omega)
 have q1 := pkS_p l x 12
 obtain ⟨b1, hb1⟩ : ∃ b, (pkV l x 12 == 0) = b := ⟨_, rfl⟩
 rw [hb1] at P1
 generalize pkS l x 12 = y1 at *
 cases b1
 ·have h2 := pkV_in hl y1 (n := 5) (by omega)
  have P2 := pick l y1 hl 5 (by omega)
  have q2 := pkS_p l y1 5
  generalize pkV l y1 5 = v2 at *
  generalize pkS l y1 5 = y2 at *
  have M1 := l00Max 1 5
  rw [show (if (1 : Int) > 5 then (1 : Int) else 5) = 5 from rfl] at M1
  have w5 : IntKind.i64.wrap (5 - v2) = 5 - v2 := wrap_in (by omega) (by omega)
  have M2 := l00Max 1 (5 - v2)
  rw [show (if (1 : Int) > 5 - v2 then (1 : Int) else 5 - v2) = 5 - v2 by split <;> omega] at M2
  have P3 := pick l y2 hl (5 - v2) (by omega)
  have q3 := pkS_p l y2 (5 - v2)
  generalize pkV l y2 (5 - v2) = v3 at *
  generalize pkS l y2 (5 - v2) = z at *
  refine ⟨v2, IntKind.i64.wrap (IntKind.i64.wrap (v2 + 1) + v3), z, by omega, ?_⟩
  refine CdV.l02DrawField_k.o.fn Tryz.mixed (hin := [sB l x]) _ _ [.b 0] [sB l z] CdV.l02DrawField_k.n CdV.l02DrawField_k.r rfl (by simp) rfl (by simp) fun X => ?_
  unfold CdV.l02DrawField
  repeat' first|simp -dsimp only [go_sem, sB, w5]|apply Br.mk<;>intro h<;>try simp -dsimp only[h]|refine CallK.bor (by first|exact P1|exact P2|exact P3) rfl ?_|refine CallK.c (by first|exact M1|exact M2) ?_|refine aC ?_|fail
  all_goals first | exact ⟨_, _, rfl, rfl⟩
 ·have A1 := among l y1 hl [-1, 0, 1, 5, 9223372036854775807, -9223372036854775808] (by omega) (by simp) (by simp)
  have q2 := pkS_p l y1 (([-1, 0, 1, 5, 9223372036854775807, -9223372036854775808] : List Int).length : Nat)
  generalize ([-1, 0, 1, 5, 9223372036854775807, -9223372036854775808] : List Int).getD _ 0 = v2 at *
  generalize pkS l y1 (([-1, 0, 1, 5, 9223372036854775807, -9223372036854775808] : List Int).length : Nat) = y2 at *
  have A2 := among l y2 hl [0, 1, 5, 6, 9223372036854775807] (by omega) (by simp) (by simp)
  have q3 := pkS_p l y2 (([0, 1, 5, 6, 9223372036854775807] : List Int).length : Nat)
  generalize ([0, 1, 5, 6, 9223372036854775807] : List Int).getD _ 0 = v3 at *
  generalize pkS l y2 (([0, 1, 5, 6, 9223372036854775807] : List Int).length : Nat) = z at *
  have w6 : IntKind.i64.wrap (5 + 1) = 6 := rfl
  refine ⟨v2, v3, z, by omega, ?_⟩
  refine CdV.l02DrawField_k.o.fn Tryz.mixed (hin := [sB l x]) _ _ [.b 0] [sB l z] CdV.l02DrawField_k.n CdV.l02DrawField_k.r rfl (by simp) rfl (by simp) fun X => ?_
  unfold CdV.l02DrawField
  repeat' first|simp -dsimp only [go_sem, sB, w6]|apply Br.mk<;>intro h<;>try simp -dsimp only[h]|refine CallK.bor (by first|exact P1) rfl ?_|refine CallK.borL (by first|exact A1|exact A2) rfl ?_|refine aC ?_|fail
  all_goals first | exact ⟨_, _, rfl, rfl⟩
theorem cS_at {o : List Stp} {i : Nat} (hi : i < o.length) : (E cS o).getD i [] = [.v (.int .i64 o[i].kind), .v (.int .i64 o[i].a), .v (.int .i64 o[i].b), .v (.int .i64 o[i].to), .v (.int .i64 o[i].f0), .v (.int .i64 o[i].f1), .v (.int .i64 o[i].s0), .v (.int .i64 o[i].s1), .v (.string o[i].text)] := E_get hi
theorem cS_set (o : List Stp) (i : Nat) (y : Stp) : (E cS o).set i [.v (.int .i64 y.kind), .v (.int .i64 y.a), .v (.int .i64 y.b), .v (.int .i64 y.to), .v (.int .i64 y.f0), .v (.int .i64 y.f1), .v (.int .i64 y.s0), .v (.int .i64 y.s1), .v (.string y.text)] = E cS (o.set i y) := by simp [E, List.map_set, cS]
theorem spW {p : Prop} (h : p := by
  refine CdV.l15Spoil_k.o.fn Tryz.mixed (hin := [sB l x, .arr 9 (E cS o) false]) _ _ [.b 0, .b 1] [sB l z, .arr 9 (E cS (o.set i ns)) false] CdV.l15Spoil_k.n CdV.l15Spoil_k.r rfl (by simp) rfl (by intro j hj; rcases j with _ | _ | _ | j <;> first | rfl | (simp at hj; done) | (simp at hj; omega)) fun X => ?_
  unfold CdV.l15Spoil
  repeat' first|simp -dsimp only [go_sem, Int.reduceBEq, Int.reduceBNe, cC, E_len, List.replicate_succ, List.replicate_zero, List.flatten_cons, List.flatten_nil, List.cons_append, List.nil_append, List.set_cons_zero, List.set_cons_succ, List.length_cons, List.length_nil, List.length_set, List.mem_singleton, List.mem_cons, List.not_mem_nil, or_false, false_or, Vs.Name.t.injEq, List.getD_cons_zero, List.getD_cons_succ, nestN, cellN, topN, sB, List.append_nil, List.flatMap_cons, List.flatMap_nil, Int.reduceAdd, Int.reduceSub, Vs.Name.b.injEq, Nat.one_ne_zero, Nat.zero_ne_one, and_true, and_false, true_and, false_and, cS, hlo, hgi, hst, E_len, List.getD_cons_zero, List.getD_cons_succ, List.set_cons_zero, List.set_cons_succ, List.take_succ_cons, List.take_zero, List.drop_succ_cons, List.drop_zero, List.cons_append, List.nil_append]|apply Br.mk<;>intro h<;>try simp -dsimp only[h]|refine CallK.bor (by first|exact P1|exact P2|exact DF) rfl ?_|refine CallK.borL (by first|exact A1) rfl ?_|refine aC ?_|fail
  all_goals first | omega | exact ⟨_, _, rfl, rfl⟩ | (refine ⟨⟨by omega, by omega⟩, ?_⟩; exact ⟨_, _, rfl, rfl⟩)) : p := h
theorem tx4 (i : Nat) : (([⟨#[]⟩, ⟨#[65]⟩, ⟨#[97]⟩, ⟨#[65, 66]⟩] : List ByteArray).getD i ⟨#[]⟩).size ≤ 2 := by
 rcases i with _ | _ | _ | _ | i <;> first | decide | exact Nat.zero_le _
theorem spoil (l : List Int) (x : Sr) (hl : byt l) (hp : x.p ≤ 2800) (o : List Stp) (i : Nat) (hi : i < o.length) (ho : o.length ≤ 100) (hsz : o[i].text.size ≤ 2) : ∃ s z, z.p ≤ x.p + 20 ∧ s.text.size ≤ 2 ∧ Vs.Fn Tryz.prog F.s_l15Spoil [sB l x, .arr 9 (E cS o) false] [.ptr (.b 0) 0 0, .ptr (.b 1) i 0] (.tup []) [some (sB l z), some (.arr 9 (E cS (o.set i s)) false)] := by
 have hlo : (E cS o).length = o.length := E_len _
 have P1 := pick l x hl 8 (by omega)
 have q1 := pkS_p l x 8
 have h1 := pkV_in hl x (n := 8) (by omega)
 generalize pkV l x 8 = v1 at *
 generalize pkS l x 8 = y1 at *
 have hv : v1 = 0 ∨ v1 = 1 ∨ v1 = 2 ∨ v1 = 3 ∨ v1 = 4 ∨ v1 = 5 ∨ v1 = 6 ∨ v1 = 7 := by omega
 rcases hv with rfl | rfl | rfl | rfl | rfl | rfl | rfl | rfl
 ·have A1 := among l y1 hl [0, 7, 8, -1] (by omega) (by simp) (by simp)
  have q2 := pkS_p l y1 (([0, 7, 8, -1] : List Int).length : Nat)
  generalize ([0, 7, 8, -1] : List Int).getD _ 0 = w at *
  generalize pkS l y1 (([0, 7, 8, -1] : List Int).length : Nat) = z at *
  refine ⟨⟨w, o[i].a, o[i].b, o[i].to, o[i].f0, o[i].f1, o[i].s0, o[i].s1, o[i].text⟩, z, by omega, by show o[i].text.size ≤ 2; exact hsz, ?_⟩
  have hgi := cS_at hi
  have hst := cS_set o i ⟨w, o[i].a, o[i].b, o[i].to, o[i].f0, o[i].f1, o[i].s0, o[i].s1, o[i].text⟩
  dsimp only at hst
  generalize o[i] = s at *
  generalize (⟨w, s.a, s.b, s.to, s.f0, s.f1, s.s0, s.s1, s.text⟩ : Stp) = ns at *
  exact spW
 ·have A1 := among l y1 hl [-1, 5, 6] (by omega) (by simp) (by simp)
  have q2 := pkS_p l y1 (([-1, 5, 6] : List Int).length : Nat)
  generalize ([-1, 5, 6] : List Int).getD _ 0 = w at *
  generalize pkS l y1 (([-1, 5, 6] : List Int).length : Nat) = z at *
  refine ⟨⟨o[i].kind, w, o[i].b, o[i].to, o[i].f0, o[i].f1, o[i].s0, o[i].s1, o[i].text⟩, z, by omega, by show o[i].text.size ≤ 2; exact hsz, ?_⟩
  have hgi := cS_at hi
  have hst := cS_set o i ⟨o[i].kind, w, o[i].b, o[i].to, o[i].f0, o[i].f1, o[i].s0, o[i].s1, o[i].text⟩
  dsimp only at hst
  generalize o[i] = s at *
  generalize (⟨s.kind, w, s.b, s.to, s.f0, s.f1, s.s0, s.s1, s.text⟩ : Stp) = ns at *
  exact spW
 ·have A1 := among l y1 hl [-1, 1, 5, 6] (by omega) (by simp) (by simp)
  have q2 := pkS_p l y1 (([-1, 1, 5, 6] : List Int).length : Nat)
  generalize ([-1, 1, 5, 6] : List Int).getD _ 0 = w at *
  generalize pkS l y1 (([-1, 1, 5, 6] : List Int).length : Nat) = z at *
  refine ⟨⟨o[i].kind, o[i].a, w, o[i].to, o[i].f0, o[i].f1, o[i].s0, o[i].s1, o[i].text⟩, z, by omega, by show o[i].text.size ≤ 2; exact hsz, ?_⟩
  have hgi := cS_at hi
  have hst := cS_set o i ⟨o[i].kind, o[i].a, w, o[i].to, o[i].f0, o[i].f1, o[i].s0, o[i].s1, o[i].text⟩
  dsimp only at hst
  generalize o[i] = s at *
  generalize (⟨s.kind, s.a, w, s.to, s.f0, s.f1, s.s0, s.s1, s.text⟩ : Stp) = ns at *
  exact spW
 ·have A1 := among l y1 hl [-1, 5, 6] (by omega) (by simp) (by simp)
  have q2 := pkS_p l y1 (([-1, 5, 6] : List Int).length : Nat)
  generalize ([-1, 5, 6] : List Int).getD _ 0 = w at *
  generalize pkS l y1 (([-1, 5, 6] : List Int).length : Nat) = z at *
  refine ⟨⟨o[i].kind, o[i].a, o[i].b, w, o[i].f0, o[i].f1, o[i].s0, o[i].s1, o[i].text⟩, z, by omega, by show o[i].text.size ≤ 2; exact hsz, ?_⟩
  have hgi := cS_at hi
  have hst := cS_set o i ⟨o[i].kind, o[i].a, o[i].b, w, o[i].f0, o[i].f1, o[i].s0, o[i].s1, o[i].text⟩
  dsimp only at hst
  generalize o[i] = s at *
  generalize (⟨s.kind, s.a, s.b, w, s.f0, s.f1, s.s0, s.s1, s.text⟩ : Stp) = ns at *
  exact spW
 ·obtain ⟨w0, w1, z, q2, DF⟩ := drawField5 l y1 hl (by omega)
  refine ⟨⟨o[i].kind, o[i].a, o[i].b, o[i].to, w0, w1, o[i].s0, o[i].s1, o[i].text⟩, z, by omega, by show o[i].text.size ≤ 2; exact hsz, ?_⟩
  have hgi := cS_at hi
  have hst := cS_set o i ⟨o[i].kind, o[i].a, o[i].b, o[i].to, w0, w1, o[i].s0, o[i].s1, o[i].text⟩
  dsimp only at hst
  generalize o[i] = s at *
  generalize (⟨s.kind, s.a, s.b, s.to, w0, w1, s.s0, s.s1, s.text⟩ : Stp) = ns at *
  exact spW
 ·obtain ⟨w0, w1, z, q2, DF⟩ := drawField5 l y1 hl (by omega)
  refine ⟨⟨o[i].kind, o[i].a, o[i].b, o[i].to, o[i].f0, o[i].f1, w0, w1, o[i].text⟩, z, by omega, by show o[i].text.size ≤ 2; exact hsz, ?_⟩
  have hgi := cS_at hi
  have hst := cS_set o i ⟨o[i].kind, o[i].a, o[i].b, o[i].to, o[i].f0, o[i].f1, w0, w1, o[i].text⟩
  dsimp only at hst
  generalize o[i] = s at *
  generalize (⟨s.kind, s.a, s.b, s.to, s.f0, s.f1, w0, w1, s.text⟩ : Stp) = ns at *
  exact spW
 ·have A1 := text l y1 hl [⟨#[]⟩, ⟨#[65]⟩, ⟨#[97]⟩, ⟨#[65, 66]⟩] (by omega) (by simp) (by simp)
  have q2 := pkS_p l y1 (([⟨#[]⟩, ⟨#[65]⟩, ⟨#[97]⟩, ⟨#[65, 66]⟩] : List ByteArray).length : Nat)
  have hts : (([⟨#[]⟩, ⟨#[65]⟩, ⟨#[97]⟩, ⟨#[65, 66]⟩] : List ByteArray).getD (pkV l y1 (([⟨#[]⟩, ⟨#[65]⟩, ⟨#[97]⟩, ⟨#[65, 66]⟩] : List ByteArray).length : Nat)).toNat ⟨#[]⟩).size ≤ 2 := tx4 _
  unfold cSt at A1
  simp only [Vs.E, List.map_cons, List.map_nil] at A1
  generalize ([⟨#[]⟩, ⟨#[65]⟩, ⟨#[97]⟩, ⟨#[65, 66]⟩] : List ByteArray).getD _ ⟨#[]⟩ = w at *
  generalize pkS l y1 (([⟨#[]⟩, ⟨#[65]⟩, ⟨#[97]⟩, ⟨#[65, 66]⟩] : List ByteArray).length : Nat) = z at *
  refine ⟨⟨o[i].kind, o[i].a, o[i].b, o[i].to, o[i].f0, o[i].f1, o[i].s0, o[i].s1, w⟩, z, by omega, hts, ?_⟩
  have hgi := cS_at hi
  have hst := cS_set o i ⟨o[i].kind, o[i].a, o[i].b, o[i].to, o[i].f0, o[i].f1, o[i].s0, o[i].s1, w⟩
  dsimp only at hst
  generalize o[i] = s at *
  generalize (⟨s.kind, s.a, s.b, s.to, s.f0, s.f1, s.s0, s.s1, w⟩ : Stp) = ns at *
  exact spW
 ·have P2 := pick l y1 hl 2 (by omega)
  have q2 := pkS_p l y1 2
  generalize pkV l y1 2 = w at *
  generalize pkS l y1 2 = z at *
  refine ⟨⟨o[i].kind, o[i].a, o[i].b, o[i].to, o[i].f0, o[i].f1, 1, IntKind.i64.wrap (13 + w), o[i].text⟩, z, by omega, by show o[i].text.size ≤ 2; exact hsz, ?_⟩
  have hgi := cS_at hi
  have hst := cS_set o i ⟨o[i].kind, o[i].a, o[i].b, o[i].to, o[i].f0, o[i].f1, 1, IntKind.i64.wrap (13 + w), o[i].text⟩
  dsimp only at hst
  generalize o[i] = s at *
  generalize (⟨s.kind, s.a, s.b, s.to, s.f0, s.f1, 1, IntKind.i64.wrap (13 + w), s.text⟩ : Stp) = ns at *
  exact spW
end
end Go.Proofs.YtidbcoagjbbjdaaGreat
