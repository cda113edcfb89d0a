/- A flow run by the program. -/
import Derived.Test.YtmfjbgjeljhcaaaGreatZwVr
set_option linter.unusedSimpArgs false
set_option linter.unusedVariables false
set_option maxHeartbeats 8000000
namespace Go.Proofs.YtmfjbgjeljhcaaaGreat
open Go.Vs
section
attribute [local irreducible] Vs.Fn chOK areCh chTo chAt l03 chB rk cd3 chI stp stpTo
theorem rc_rows {k : Nat} {S : Nat → Prop} {w : World} {rows rows' : List (List AV)} {v : Value} (hl : rows.length = rows'.length) (hk : ∀ i, i < rows'.length → (rows'.getD i []).length = k)
  (hc : ∀ i j, i < rows.length → j < k → ∀ u, RC S w ((rows.getD i []).getD j .junk) u → RC S w ((rows'.getD i []).getD j .junk) u) (h : RC S w (.sl k rows) v) : RC S w (.sl k rows') v := by
 cases h with
 | sl _ _ base cap x off xs hb hc' ho hr hk' hcap =>
  rw [hl]
  exact RC.sl k rows' base cap x off xs (fun hne => hb (fun e => hne (List.eq_nil_of_length_eq_zero (by rw [← hl, e]; rfl)))) (fun i j hi hj => hc' i j (by omega) hj) (fun i j hi hj => ho i j (by omega) hj) (fun i j hi hj => hc i j (by omega) hj _ (hr i j (by omega) hj)) hk (by omega)
def rowsN (l : List (List Int)) : List (List AV) := [[.sl 1 (E cC l)], [.v (.slice none 0 0)], [.v (.slice none 0 0)], [.v (.slice none 0 0)], [.v (.slice none 0 0)], [.v (.slice none 0 0)]]
def T0 (l : List (List Int)) : List (List (List Int)) := l :: List.replicate 5 []
def O0 (l : List (List Int)) : Off := ⟨T0 l, []⟩
theorem rows_nil {S : Nat → Prop} {w : World} {l : List (List Int)} {v : Value} (h : RC S w (.sl 1 (rowsN l)) v) : RC S w (.sl 1 (E cD (T0 l))) v := by
 refine rc_rows (rows := rowsN l) rfl (fun i hi => ?_) (fun i j hi hj u hu => ?_) h
 ·match i, hi with
  | 0, _ => rfl
  | 1, _ => rfl
  | 2, _ => rfl
  | 3, _ => rfl
  | 4, _ => rfl
  | 5, _ => rfl
  | n + 6, hi => exact absurd hi (by simp [E, T0])
 ·obtain rfl : j = 0 := by omega
  match i, hi with
  | 0, _ => exact hu
  | 1, _ => exact rc_nil hu
  | 2, _ => exact rc_nil hu
  | 3, _ => exact rc_nil hu
  | 4, _ => exact rc_nil hu
  | 5, _ => exact rc_nil hu
  | n + 6, hi => exact absurd hi (by simp [rowsN])
theorem off_nil {S : Nat → Prop} {w : World} {l : List (List Int)} {v : Value} {ρ : Vs.Name → Option Nat} {κ : Vs.Name → Nat} {hh : Vs.Name → Option Blk} (h : RV S w ρ κ hh (.agg [.sl 1 (rowsN l), .sl 1 []]) v) : RV S w ρ κ hh (.agg (cO (O0 l))) v := by
 obtain ⟨vs, rfl, h1, h2⟩ := inv_agg h
 refine .agg _ _ h1 fun j hj => ?_
 match j, hj with
 | 0, _ => exact .clo (rows_nil (inv_sl (h2 0 (by simp))))
 | 1, _ => exact h2 1 (by simp)
theorem O0_ok {l : List (List Int)} (hd : deckB l = true) : okO (widB l).toNat (O0 l) := by
 have h1 := wid_in hd
 simp only [inB, Bool.and_eq_true, decide_eq_true_eq] at h1
 refine ⟨⟨by omega, by omega⟩, rfl, fun d hm => ?_, by simp [O0], fun t ht => absurd ht (by simp [O0])⟩
 rcases List.mem_cons.1 hm with rfl | hm
 ·refine ⟨hd, fun c hc => ?_⟩
  simp only [deckB, Bool.and_eq_true, List.all_eq_true, decide_eq_true_eq] at hd
  have h0 : d.length ≠ 0 := by intro e; rw [List.eq_nil_of_length_eq_zero e] at hc; cases hc
  rw [(hd.1 c hc).2, widB, if_neg h0, Int.toNat_natCast]
 ·rw [(List.mem_replicate.1 hm).2]
  exact ⟨by decide, fun c hc => absurd hc (by simp)⟩
theorem impl_NewOffice (l : List (List Int)) (hk : smallC l) (hd : deckB l = true) : Fz F.i_NewOffice [.sl 1 (E cC l)] (.tup [.agg [.sl 1 (rowsN l), .sl 1 []], .v (.int .i64 0)]) := by
 have VD := validDeck l hk.2 hk.1
 rw [hd] at VD
 have ND := newDeckC l hk
 refine fn0 Cd.i_NewOffice_k fun X => ?_
 repeat' first
  |simp -dsimp only [go_sem, rowsN, Int.reduceBEq, Int.reduceBNe, cC, cO, cS, cFd, E_len, List.replicate_succ, List.replicate_zero, List.flatten_cons, List.flatten_nil, List.cons_append, List.nil_append, List.set_cons_zero, List.set_cons_succ, List.length_cons, List.length_nil, List.length_set, List.mem_singleton, List.mem_cons, List.not_mem_nil, or_false, false_or, Vs.Name.t.injEq, List.getD_cons_zero, List.getD_cons_succ, Vs.Name.b.injEq]
  |refine Br.mk ?_ ?_<;>intro h<;>try simp -dsimp only[h]
  |refine CallK.c (by first|exact VD|exact ND) ?_
  |refine and_c ?_
  |fail
 all_goals first | omega | exact ⟨_, _, rfl, rfl⟩
def TK (l : List (List Int)) (k : Nat) : List (List (List Int)) := l :: List.replicate k []
theorem TK_len (l : List (List Int)) (k : Nat) : (TK l k).length = k + 1 := by unfold TK; rw [List.length_cons, List.length_replicate]
theorem E_snN (l : List (List Int)) (k : Nat) : E cD (TK l k) ++ [[.sl 1 []]] = E cD (TK l (k + 1)) := by
 unfold TK
 rw [List.replicate_succ', ← List.cons_append, E_append]; rfl
attribute [local go_sem] Int.reduceBEq Int.reduceBNe cO cS cFd E_len List.replicate_succ List.replicate_zero List.flatten_cons List.flatten_nil List.cons_append List.nil_append List.set_cons_zero List.set_cons_succ List.length_cons List.length_nil List.length_set List.mem_singleton List.mem_cons List.not_mem_nil or_false false_or Vs.Name.t.injEq List.getD_cons_zero List.getD_cons_succ Vs.Name.b.injEq in
theorem l15New (l : List (List Int)) (hk : smallC l) : Fz F.s_l15New [.sl 1 (E cC l)] (.agg [.sl 1 (E cD (T0 l)), .v (.slice none 0 0)]) := by
 have CP := l02Copy l hk
 refine fn0 Cd.s_l15New_k fun X => ?_
 repeat' first
  |simp -dsimp only [go_sem, cC]
  |refine Br.mk ?_ ?_<;>intro h<;>try simp -dsimp only[h]
  |refine CallK.c (by first|exact CP) ?_
  |refine and_c ?_
  |fail
 have e0 : ([[.sl 1 (E cC l)]] : List (List AV)) = E cD (TK l 0) := rfl
 refine LoopK.atR (drawn_ok Tryz.mixed) (X := { k : Nat // k ≤ 5 }) (fun k => [(4, .v (.int .i64 (k.1 + 1 : Nat)))]) (fun k => [(.t 3 0, .var [.loc (.t 7 0) 0 (k.1 + 1), .v (.slice none 0 0)] false), (.t 7 0, .arr 1 (E cD (TK l k.1)) false)]) (fun k => 5 - k.1) ⟨0, by omega⟩ ?_ ?_
 ·simp [Vs.LeL, Vs.look, Vs.hlook, Vs.sput, Vs.sputs, Vs.hset, Vs.hputs, Vs.E, cD, TK]
 ·rintro ⟨k, hi⟩
  try dsimp only at hi
  try simp -dsimp only [go_sem, cC]
  refine Br.mk (fun hc => ?_) fun hc => ?_
  ·have hlt : k < 5 := by first | (simp at hc; omega) | omega
   have hw : IntKind.i64.wrap ((k + 1 : Nat) + 1 : Int) = ((k + 1 + 1 : Nat) : Int) := by rw [wrap_in (by omega) (by omega)]; omega
   have hrow := E_snN l k
   have hal : (E cD (TK l k)).length = k + 1 := by rw [E_len, TK_len]
   repeat' first
    |simp -dsimp only [go_sem, hw, hrow, hal, cC]
    |refine Br.mk ?_ ?_<;>intro h<;>try simp -dsimp only[h]
    |refine and_c ?_
    |refine ⟨[], rfl, rfl, ?_⟩
    |fail
   all_goals first | omega | (refine ⟨⟨k + 1, by omega⟩, .inr ⟨.t 17 0, .t 7 0, by decide, rfl, ?_⟩, by simp only; omega⟩; simp [Vs.renL, Vs.nmF, Vs.rn, Vs.rnL, Vs.rnB, Vs.LeL, Vs.look, Vs.hlook, Vs.sput, Vs.sputs, Vs.hset, Vs.hputs, hrow]; done)
  ·have hge : k = 5 := by
    have : ¬ k < 5 := by first | (simp at hc; omega) | omega
    omega
   subst hge
   have hal : (E cD (TK l 5)).length = 6 := by rw [E_len, TK_len]
   have hk6 : (E cD (TK l 5)).take 6 = E cD (TK l 5) := List.take_of_length_le (by omega)
   rw [show T0 l = TK l 5 from rfl]
   repeat' first
    |simp -dsimp only [go_sem, hal, hk6, cC]
    |refine Br.mk ?_ ?_<;>intro h<;>try simp -dsimp only[h]
    |refine And.intro ?_ (fun h => absurd rfl h)
    |refine and_c ?_
    |fail
   all_goals first | omega | exact ⟨_, _, rfl, rfl⟩ | exact ⟨⟨_, _, rfl, rfl⟩, fun h => h rfl⟩
end
section
attribute [local irreducible] Vs.Fn chOK areCh chTo chAt l03 chB rk cd3 chI stp stpTo
attribute [local go_sem] Int.reduceBEq Int.reduceBNe cC cTs cD E_len List.replicate_succ List.replicate_zero List.flatten_cons List.flatten_nil List.cons_append List.nil_append List.set_cons_zero List.set_cons_succ List.length_cons List.length_nil List.length_set List.mem_singleton List.mem_cons List.not_mem_nil or_false false_or Vs.Name.t.injEq in
theorem newOfficeC (o : Off) (ho : smallO o) : Fz F.i_newOffice [.agg (cO o)] (.agg (cO o)) := by
 have hn := ho.1.1
 have hm := ho.2.1
 refine Cd.i_newOffice_k.o.fn Tryz.mixed (hin := []) _ _ [] [] Cd.i_newOffice_k.n Cd.i_newOffice_k.r rfl (by simp) rfl (by simp) fun X => ?_
 unfold Cd.i_newOffice
 repeat' first
  |simp -dsimp only [go_sem, cO]
  |refine Br.mk ?_ ?_<;>intro h<;>try simp -dsimp only[h]
  |refine and_c ?_
  |fail
 refine LoopK.atR (drawn_ok Tryz.mixed) (X := { i : Nat // i ≤ o.trays.length }) (fun i => [(14, .v (.int .i64 (i.1 : Nat)))]) (fun i => [(.t 3 0, .var [.loc (.t 8 0) 0 i.1, .loc (.t 9 0) 0 0] false), (.t 8 0, .arr 1 (E cD (o.trays.take i.1)) false)]) (fun i => o.trays.length - i.1) ⟨0, by omega⟩ ?_ ?_
 ·simp [Vs.LeL, Vs.look, Vs.hlook, Vs.sput, Vs.sputs, Vs.hset, Vs.hputs, Vs.E]
 ·rintro ⟨i, hi⟩
  try dsimp only at hi
  try simp -dsimp only [go_sem, cO]
  refine Br.mk (fun hc => ?_) fun hc => ?_
  ·have hlt : i < o.trays.length := Dq
   have hw := wrap_succ hlt (by omega)
   have hat := cD_at hlt
   have hrow := E_snocD hlt
   have hal : (E cD (o.trays.take i)).length = i := by rw [E_len]; simp; omega
   have ND := newDeckC o.trays[i] (ho.1.2 _ (List.getElem_mem hlt))
   repeat' first
    |simp -dsimp only [go_sem, hw, hrow, hal, hat, cO]
    |refine Br.mk ?_ ?_<;>intro h<;>try simp -dsimp only[h]
    |refine CallK.c (by first|exact ND) ?_
    |refine and_c ?_
    |fail
   all_goals first | omega | (refine ⟨⟨i + 1, by omega⟩, .inr ⟨.t 23 0, .t 8 0, by decide, rfl, ?_⟩, by simp only; omega⟩; simp [Vs.renL, Vs.nmF, Vs.rn, Vs.rnL, Vs.rnB, Vs.LeL, Vs.look, Vs.hlook, Vs.sput, Vs.sputs, Vs.hset, Vs.hputs, hrow]; done)
  ·have hge : i = o.trays.length := by
    have : ¬ i < o.trays.length := Dq
    omega
   subst hge
   try simp -dsimp only [go_sem, cO]
   refine ⟨?_, fun h => h rfl⟩
   repeat' first
    |simp -dsimp only [go_sem, cO]
    |refine Br.mk ?_ ?_<;>intro h<;>try simp -dsimp only[h]
    |refine and_c ?_
    |fail
   refine LoopK.atR (drawn_ok Tryz.mixed) (X := { i : Nat // i ≤ o.totals.length }) (fun i => [(29, .v (.int .i64 (i.1 : Nat)))]) (fun i => [(.t 3 0, .var [.loc (.t 8 0) 0 o.trays.length, .loc (.t 9 0) 0 i.1] false), (.t 9 0, .arr 1 (E cTs (o.totals.take i.1)) false)]) (fun i => o.totals.length - i.1) ⟨0, by omega⟩ ?_ ?_
   ·simp [Vs.LeL, Vs.look, Vs.hlook, Vs.sput, Vs.sputs, Vs.hset, Vs.hputs, Vs.E]
   ·rintro ⟨i, hi⟩
    try dsimp only at hi
    try simp -dsimp only [go_sem, cO]
    refine Br.mk (fun hc => ?_) fun hc => ?_
    ·have hlt : i < o.totals.length := Dq
     have hw := wrap_succ hlt (by omega)
     have hat := cTs_at hlt
     have hrow := E_snocT hlt
     have hal : (E cTs (o.totals.take i)).length = i := by rw [E_len]; simp; omega
     have hs := (ho.2.2 _ (List.getElem_mem hlt)).1
     repeat' first
      |simp -dsimp only [go_sem, hw, hrow, hal, hat, cO]
      |refine Br.mk ?_ ?_<;>intro h<;>try simp -dsimp only[h]
      |refine and_c ?_
      |fail
     all_goals first | omega | (refine ⟨⟨i + 1, by omega⟩, .inr ⟨.t 39 0, .t 9 0, by decide, rfl, ?_⟩, by simp only; omega⟩; simp [Vs.renL, Vs.nmF, Vs.rn, Vs.rnL, Vs.rnB, Vs.LeL, Vs.look, Vs.hlook, Vs.sput, Vs.sputs, Vs.hset, Vs.hputs, hrow]; done)
    ·have hge : i = o.totals.length := by
      have : ¬ i < o.totals.length := Dq
      omega
     subst hge
     try simp -dsimp only [go_sem, cO]
     refine ⟨?_, fun h => h rfl⟩
     have ht1 : (E cD (o.trays.take o.trays.length)) = E cD o.trays := by rw [List.take_length]
     have hq1 : (E cD o.trays).take o.trays.length = E cD o.trays := List.take_of_length_le (by rw [E_len]; exact Nat.le_refl _)
     have hq2 : (E cTs o.totals).take o.totals.length = E cTs o.totals := List.take_of_length_le (by rw [E_len]; exact Nat.le_refl _)
     have ht2 : (E cTs (o.totals.take o.totals.length)) = E cTs o.totals := by rw [List.take_length]
     repeat' first
      |simp -dsimp only [go_sem, ht1, ht2, hq1, hq2, cO]
      |refine Br.mk ?_ ?_<;>intro h<;>try simp -dsimp only[h]
      |refine and_c ?_
      |fail
     all_goals first | omega | exact ⟨_, _, rfl, rfl⟩
theorem sizeSt (l : List Stp) : Fz F.i_size_i_Step_ [.sl 9 (E cS l)] (.v (.int .i64 l.length)) := by
 refine fn0 Cd.i_size_i_Step__k fun X => ?_
 repeat' first
  |simp -dsimp only [go_sem]
  |refine Br.mk ?_ ?_<;>intro h<;>try simp -dsimp only[h]
  |refine and_c ?_
  |fail
 all_goals (simp_all)
attribute [local go_sem] Int.reduceBEq Int.reduceBNe cC cFd E_len List.replicate_succ List.replicate_zero List.flatten_cons List.flatten_nil List.cons_append List.nil_append List.set_cons_zero List.set_cons_succ List.length_cons List.length_nil List.length_set List.mem_singleton List.mem_cons List.not_mem_nil or_false false_or Vs.Name.t.injEq List.getD_cons_zero List.getD_cons_succ Vs.Name.b.injEq in
theorem runFlow (o : Off) (w : Nat) (ho : okO w o) (fl : List Stp) (hz : ∀ x, x ∈ fl → x.text.size ≤ 1048576) (hl : fl.length ≤ 1048576) : Fz F.i_runFlow [.agg (cO o), .sl 9 (E cS fl)] (.tup [.agg (cO (run o fl).1), .v (.int .i64 ((run o fl).2 : Nat))]) := by
 have NO := newOfficeC o (okO_small ho)
 have SZ := sizeSt fl
 have hI0 := runI_zero o fl
 generalize hR : run o fl = R
 refine fn0 Cd.i_runFlow_k fun X => ?_
 repeat' first
  |simp -dsimp only [go_sem, cO, cS]
  |refine Br.mk ?_ ?_<;>intro h<;>try simp -dsimp only[h]
  |refine CallK.c (by first|exact NO) ?_
  |refine and_c ?_
  |fail
 refine LoopK.at (drawn_ok Tryz.mixed) (X := { p : Nat × Off // p.1 ≤ fl.length ∧ okO w p.2 ∧ runI o fl p.1 p.2 }) (fun p => [(15, .v (.int .i64 (p.1.1 : Nat)))]) (fun p => [(.t 6 0, .var (cO p.1.2) false)]) (fun p => fl.length - p.1.1) ⟨(0, o), by simp, ho, hI0⟩ ?_ ?_
 ·simp [Vs.LeL, Vs.look, Vs.hlook, Vs.sput, Vs.sputs, Vs.hset, Vs.hputs, cO]
 ·rintro ⟨⟨i, o'⟩, hi, ho', hrun⟩
  dsimp only at hi ho' hrun
  simp -dsimp only [go_sem, cO, cS]
  refine Br.mk (fun hc => ?_) fun hc => ?_
  ·have hlt : i < fl.length := Dq
   have hw := wrap_succ hlt (by omega)
   have gx : (E cS fl).getD i [] = cS fl[i] := E_get hlt
   have DS := doStep fl[i] (hz _ (List.getElem_mem hlt)) o' w ho'
   by_cases hd : dsC fl[i] o' = 0
   ·rw [show dsV fl[i] o' = .agg (cO (stO fl[i] o')) by unfold dsV; rw [if_pos hd], hd] at DS
    have hnext := runI_step hlt hrun hd
    have hok := ds_ok ho' hd
    generalize stO fl[i] o' = o2 at *
    repeat' first
     |simp -dsimp only [go_sem, hw, gx, cO, cS]
     |refine Br.mk ?_ ?_<;>intro h<;>try simp -dsimp only[h]
     |refine CallK.c (by first|exact DS) ?_
     |refine and_c ?_
     |fail
    all_goals first | omega | (refine ⟨⟨(i + 1, o2), by simp only; omega, hok, hnext⟩, ?_, by simp only; omega⟩; simp [Vs.LeL, Vs.look, Vs.hlook, Vs.sput, Vs.sputs, Vs.hset, Vs.hputs, cO]; done)
   ·rw [show dsV fl[i] o' = noO by unfold dsV; rw [if_neg hd]] at DS
    have e0 : (dsC fl[i] o' != 0) = true := by simp [hd]
    have hstop := runI_stop hlt hrun hd
    rw [hR] at hstop
    subst hstop
    generalize dsC fl[i] o' = c at *
    repeat' first
     |simp -dsimp only [go_sem, hw, gx, e0, noO, cO, cS]
     |refine Br.mk ?_ ?_<;>intro h<;>try simp -dsimp only[h]
     |refine CallK.c (by first|exact DS) ?_
     |refine and_c ?_
     |fail
    all_goals first | omega | exact ⟨_, _, rfl, rfl⟩
  ·have hge : i = fl.length := by
    have : ¬ i < fl.length := Dq
    omega
   subst hge
   have hstop := runI_end hrun
   rw [hR] at hstop
   subst hstop
   repeat' first
    |simp -dsimp only [go_sem, cO, cS]
    |refine Br.mk ?_ ?_<;>intro h<;>try simp -dsimp only[h]
    |refine CallK.c (by first|exact SZ) ?_
    |refine And.intro ?_ (fun h => absurd rfl h)
    |refine and_c ?_
    |fail
   all_goals first | omega | exact ⟨_, _, rfl, rfl⟩ | exact ⟨⟨_, _, rfl, rfl⟩, fun h => h rfl⟩
end
end Go.Proofs.YtmfjbgjeljhcaaaGreat
