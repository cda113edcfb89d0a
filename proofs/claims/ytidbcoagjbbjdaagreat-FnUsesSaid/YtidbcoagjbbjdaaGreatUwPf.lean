/- Drawn decks and flows are valid; flows and steps from outside; an office that may be changed. -/
import Derived.Test.YtidbcoagjbbjdaaGreatUwPd
import Derived.Test.YtidbcoagjbbjdaaGreatUwVu
import Derived.Test.YtidbcoagjbbjdaaGreatUwD
import Derived.Test.YtidbcoagjbbjdaaGreatUwPb
set_option linter.unusedSimpArgs false
set_option linter.unusedVariables false
set_option linter.unusedSectionVars false
set_option maxHeartbeats 8000000
namespace Go.Proofs.YtidbcoagjbbjdaaGreat
open Go.Vs
section
variable [Vs.Envs]
attribute [local irreducible] Vs.Fn nxV nxS pkV pkS ptN crd stpB dtF strB wO offB deckB dsC
def stT (l : List Int) : Nat → Sr → List Stp → List Stp → Sr → Prop
 | 0, x, o, o', x' => o' = o ∧ x' = x
 | k + 1, x, o, o', x' => ∃ s x1, s.text.size ≤ 2 ∧ x1.p ≤ x.p + 30 ∧ Vs.Fn Tryz.prog F.s_l15DrawStep [sB l x] [.ptr (.b 0) 0 0] (.agg (cS s)) [some (sB l x1)] ∧ stT l k x1 (if stpB s 5 then o ++ [s] else o) o' x'
def okS (o : List Stp) : Prop := ∀ s, s ∈ o → stpB s 5 = true ∧ s.text.size ≤ 2
theorem okS_add {o : List Stp} {s : Stp} (h : okS o) (hs : s.text.size ≤ 2) : okS (if stpB s 5 then o ++ [s] else o) := by
 split
 ·rename_i hv
  intro t ht
  rcases List.mem_append.1 ht with ht | ht
  ·exact h t ht
  ·rw [List.mem_singleton.1 ht]; exact ⟨hv, hs⟩
 ·exact h
theorem stT_ex {l : List Int} (hl : byt l) : ∀ (k : Nat) (x : Sr) (o : List Stp), x.p + 30 * k ≤ 2900 → okS o → ∃ o' x', (x'.p ≤ x.p + 30 * k ∧ o'.length ≤ o.length + k ∧ okS o') ∧ stT l k x o o' x'
 | 0, x, o, _, h => ⟨o, x, ⟨by omega, by omega, h⟩, rfl, rfl⟩
 | k + 1, x, o, h, ho => by
  obtain ⟨s, x1, hs, hx1, hf⟩ := drawStep l x hl (by omega)
  obtain ⟨o', x', ⟨h1, h2, h3⟩, h4⟩ := stT_ex hl k x1 (if stpB s 5 then o ++ [s] else o) (by omega) (okS_add ho hs)
  refine ⟨o', x', ⟨by omega, ?_, h3⟩, s, x1, hs, hx1, hf, h4⟩
  split at h2
  ·rw [List.length_append, List.length_singleton] at h2; omega
  ·omega
theorem l00FromB (l : List Int) : Vs.Fn Tryz.prog F.s_l00From [] [.sl 1 (E cU l)] (.ptr (.b 0) 0 0) [some (.var [.sl 1 (E cU l), .v (.int .i64 0), .v (.int .u64 0)] false)] := by
 refine Cd.s_l00From_k.o.fn Tryz.mixed (hin := []) _ _ [.t 5 0] [sB l ⟨0, 0⟩] Cd.s_l00From_k.n Cd.s_l00From_k.r rfl (by simp) rfl (by simp) fun X => ?_
 unfold Cd.s_l00From
 repeat' first
  |simp -dsimp only [go_sem, Int.reduceBEq, Int.reduceBNe, cC, E_len, List.replicate_succ, List.replicate_zero, List.flatten_cons, List.flatten_nil, List.cons_append, List.nil_append, List.set_cons_zero, List.set_cons_succ, List.length_cons, List.length_nil, List.length_set, List.mem_singleton, List.mem_cons, List.not_mem_nil, or_false, false_or, Vs.Name.t.injEq, List.getD_cons_zero, List.getD_cons_succ, nestN, cellN, topN, sB, List.append_nil, List.flatMap_cons, List.flatMap_nil]
  |refine Br.mk ?_ ?_<;>intro h<;>try simp -dsimp only[h]
  |refine and_c ?_
  |fail
 all_goals exact ⟨_, _, rfl, rfl⟩
theorem a2Long (l m : List Int) : Fz F.l_a2Long [.sl 1 (E cU l), .sl 1 (E cU m)] (.v (.bool (decide ((l.length : Int) > 3000) || decide ((m.length : Int) > 3000)))) := by
 refine fn0 Cd.l_a2Long_k fun X => ?_
 repeat' first
  |simp -dsimp only [go_sem, E_len]
  |refine Br.mk ?_ ?_<;>intro h<;>try simp -dsimp only[h]
  |refine and_c ?_
  |fail
 all_goals (first | (simp_all [E_len]; done) | (refine ret_eq ?_; simp_all [E_len]; done) | (simp_all [E_len]; omega))
theorem a2Cards (l : List Int) (hl : byt l) : ∃ o, (∀ c, c ∈ o → crd c) ∧ o.length ≤ 8 ∧ Fz F.s_A2Cards [.sl 1 (E cU l)] (.sl 1 (E cC o)) := by
 obtain ⟨o, z, h1, h2, h3, D⟩ := l13Deck l ⟨0, 0⟩ hl 8 (by omega) (by dsimp only; omega)
 have FR := l00FromB l
 refine ⟨o, h1, h2, ?_⟩
 refine fn0 Cd.s_A2Cards_k fun X => ?_
 repeat' first
  |simp -dsimp only [go_sem, Int.reduceBEq, Int.reduceBNe, cC, E_len, List.replicate_succ, List.replicate_zero, List.flatten_cons, List.flatten_nil, List.cons_append, List.nil_append, List.set_cons_zero, List.set_cons_succ, List.length_cons, List.length_nil, List.length_set, List.mem_singleton, List.mem_cons, List.not_mem_nil, or_false, false_or, Vs.Name.t.injEq, List.getD_cons_zero, List.getD_cons_succ, nestN, cellN, topN, sB, List.append_nil, List.flatMap_cons, List.flatMap_nil]
  |refine Br.mk ?_ ?_<;>intro h<;>try simp -dsimp only[h]
  |refine CallK.bor (by first|exact D) rfl ?_
  |refine CallK.own (by first|exact FR) rfl ?_
  |refine and_c ?_
  |fail
 all_goals first | exact ⟨_, _, rfl, rfl⟩
attribute [local go_sem] Int.reduceBEq Int.reduceBNe cC E_len List.replicate_succ List.replicate_zero List.flatten_cons List.flatten_nil List.cons_append List.nil_append List.set_cons_zero List.set_cons_succ List.length_cons List.length_nil List.length_set List.mem_singleton List.mem_cons List.not_mem_nil or_false false_or Vs.Name.t.injEq List.getD_cons_zero List.getD_cons_succ nestN cellN topN sB List.append_nil List.flatMap_cons List.flatMap_nil in
theorem a2Flow (l : List Int) (hl : byt l) : ∃ fs, okS fs ∧ fs.length ≤ 5 ∧ Fz F.s_A2Flow [.sl 1 (E cU l)] (.sl 9 (E cS fs)) := by
 obtain ⟨k0, hk0⟩ : ∃ k : Nat, pkV l ⟨0, 0⟩ 6 = k := ⟨(pkV l ⟨0, 0⟩ 6).toNat, by have := pkV_in hl ⟨0, 0⟩ (n := 6) (by omega); omega⟩
 have v := pkV_in hl ⟨0, 0⟩ (n := 6) (by omega)
 have P0 := pick l ⟨0, 0⟩ hl 6 (by dsimp only; omega)
 have p0 := pkS_p l ⟨0, 0⟩ 6
 rw [hk0] at P0 v
 generalize pkS l ⟨0, 0⟩ 6 = x0 at *
 dsimp only at p0
 obtain ⟨fs, z, ⟨hz, hfs, hok⟩, hT⟩ := stT_ex hl k0 x0 [] (by omega) (fun s hs => by cases hs)
 simp only [List.length_nil] at hfs
 refine ⟨fs, hok, by omega, ?_⟩
 have FR := l00FromB l
 refine fn0 Cd.s_A2Flow_k fun X => ?_
 repeat' first
  |simp -dsimp only [go_sem, cS]
  |refine Br.mk ?_ ?_<;>intro h<;>try simp -dsimp only[h]
  |refine CallK.bor (by first|exact P0) rfl ?_
  |refine CallK.own (by first|exact FR) rfl ?_
  |refine and_c ?_
  |fail
 refine LoopK.at (drawn_ok Tryz.mixed) (X := { zz : Nat × Sr × List Stp // (zz.2.1.p + 30 * zz.1 ≤ 2800) ∧ (zz.1 + zz.2.2.length ≤ 6) ∧ stT l zz.1 zz.2.1 zz.2.2 fs z }) (fun zz => [(4, .loc (.t 4 0) 0 zz.1.2.2.length), (5, .v (.int .i64 (zz.1.1 : Nat)))]) (fun zz => [(.t 8 0, sB l zz.1.2.1), (.t 4 0, .arr 9 (E cS zz.1.2.2) false)]) (fun zz => zz.1.1) ⟨(k0, x0, []), by dsimp only; omega, by dsimp only; simp only [List.length_nil]; omega, hT⟩ ?_ ?_
 ·simp [Vs.LeL, Vs.look, Vs.hlook, Vs.sput, Vs.sputs, Vs.hset, Vs.hputs, Vs.E, sB]
 ·rintro ⟨⟨k, y, o⟩, hk1, hk2, hr⟩
  dsimp only at hk1 hk2 hr
  simp -dsimp only [go_sem, cS]
  refine Br.mk (fun hc => ?_) fun hc => ?_
  ·obtain ⟨k, rfl⟩ : ∃ j, k = j + 1 := ⟨k - 1, by simp at hc; omega⟩
   have w := subK (k := k) (by omega)
   obtain ⟨s, y1, hs, hy1, hf, hr⟩ := hr
   have LS := l15Step s 5 (by omega)
   have hap : E cS o ++ [cS s] = E cS (o ++ [s]) := by rw [E_append]; rfl
   simp only [cS] at hap
   by_cases hv : stpB s 5 = true
   ·rw [hv] at LS
    repeat' first
     |simp -dsimp only [go_sem, w, hap, cS]
     |refine Br.mk ?_ ?_<;>intro h<;>try simp -dsimp only[h]
     |refine CallK.bor (by first|exact hf) rfl ?_
     |refine CallK.c (by first|exact LS) ?_
     |refine and_c ?_
     |fail
    all_goals first | omega | (refine ⟨⟨(k, y1, o ++ [s]), by dsimp only; omega, by dsimp only; (try rw [List.length_append]); (try simp only [List.length_cons, List.length_nil]); omega, by simpa [hv] using hr⟩, ?_, by simp only; omega⟩; simp [Vs.LeL, Vs.look, Vs.hlook, Vs.sput, Vs.sputs, Vs.hset, Vs.hputs, Vs.E, sB, cS]; done)
   ·have hv : stpB s 5 = false := by simpa using hv
    rw [hv] at LS
    repeat' first
     |simp -dsimp only [go_sem, w, hap, cS]
     |refine Br.mk ?_ ?_<;>intro h<;>try simp -dsimp only[h]
     |refine CallK.bor (by first|exact hf) rfl ?_
     |refine CallK.c (by first|exact LS) ?_
     |refine and_c ?_
     |fail
    all_goals first | omega | (refine ⟨⟨(k, y1, o), by dsimp only; omega, by dsimp only; (try rw [List.length_append]); (try simp only [List.length_cons, List.length_nil]); omega, by simpa [hv] using hr⟩, ?_, by simp only; omega⟩; simp [Vs.LeL, Vs.look, Vs.hlook, Vs.sput, Vs.sputs, Vs.hset, Vs.hputs, Vs.E, sB, cS]; done)
  ·obtain rfl : k = 0 := by simp at hc; omega
   obtain ⟨rfl, rfl⟩ := hr
   have htk : (E cS fs).take fs.length = E cS fs := List.take_of_length_le (by rw [E_len]; exact Nat.le_refl _)
   simp -dsimp only [go_sem]
   first | exact ⟨⟨_, _, rfl, rfl⟩, fun h => h rfl⟩ | (rw [htk]; exact ⟨⟨_, _, rfl, rfl⟩, fun h => h rfl⟩)
end
section
variable [Vs.Envs]
attribute [local irreducible] Vs.Fn wO dsC
theorem crd_ok {c : List Int} (h : crd c) : cardB c = true ∧ c.length = 5 := by
 obtain ⟨a, n, m, ha, hn, hm, rfl⟩ := h
 have h1 : ∀ k : Nat, k < 100 → (ptN 2 (k : Int)).all (fun x => inB x 0 4095) = true := by decide +kernel
 have h2 : ∀ k : Nat, k < 31 → (ptN 2 (-(k : Int))).all (fun x => inB x 0 4095) = true := by decide +kernel
 have e1 : (ptN 2 n).all (fun x => inB x 0 4095) = true := by
  have := h1 n.toNat (by omega)
  rwa [Int.toNat_of_nonneg hn.1] at this
 have e2 : (ptN 2 m).all (fun x => inB x 0 4095) = true := by
  by_cases h0 : 0 ≤ m
  ·have := h1 m.toNat (by omega)
   rwa [Int.toNat_of_nonneg h0] at this
  ·have := h2 (-m).toNat (by omega)
   rwa [Int.toNat_of_nonneg (by omega), Int.neg_neg] at this
 have e0 : inB a 0 4095 = true := by rcases ha with rfl | rfl | rfl <;> decide +kernel
 have hl : (a :: (ptN 2 n ++ ptN 2 m)).length = 5 := by simp [pt_len]
 refine ⟨?_, hl⟩
 unfold cardB
 rw [hl, List.all_cons, List.all_append, e0, e1, e2]
 rfl
theorem crd_deck {o : List (List Int)} (h : ∀ c, c ∈ o → crd c) (hl : o.length ≤ 40) : okD 5 o := by
 refine ⟨?_, fun c hc => (crd_ok (h c hc)).2⟩
 simp only [deckB, Bool.and_eq_true, List.all_eq_true, decide_eq_true_eq]
 refine ⟨fun c hc => ⟨(crd_ok (h c hc)).1, ?_⟩, hl⟩
 have h0 : 0 < o.length := List.length_pos_of_mem hc
 have hm0 : o.getD 0 [] ∈ o := by rw [show o.getD 0 [] = o[0] by simp [List.getD, h0]]; exact List.getElem_mem _
 rw [(crd_ok (h c hc)).2, (crd_ok (h _ hm0)).2]
theorem okD_O0 {w : Nat} (hw : 1 ≤ w ∧ w ≤ 20) {d : List (List Int)} (h : okD w d) : okO w (O0 d) := by
 refine ⟨hw, rfl, fun e he => ?_, by simp [O0], fun t ht => absurd ht (by simp [O0])⟩
 rcases List.mem_cons.1 he with rfl | he
 ·exact h
 ·rw [(List.mem_replicate.1 he).2]; exact ⟨rfl, fun c hc => absurd hc (by simp)⟩
theorem offB_ok {w : Nat} {o : Off} (h : okO w o) : offB o = true := by
 unfold offB
 rw [Bool.and_eq_true, Bool.and_eq_true]
 refine ⟨rall_true.2 fun i hi => ?_, by simp [h.2.1], by have := h.2.2.2.1; simp; omega⟩
 have hm : o.trays.getD i [] ∈ o.trays := by rw [show o.trays.getD i [] = o.trays[i] by simp [List.getD, hi]]; exact List.getElem_mem _
 have hd := h.2.2.1 _ hm
 unfold offI
 generalize o.trays.getD i [] = d at *
 rw [Bool.and_eq_true, Bool.or_eq_true]
 refine ⟨hd.1, ?_⟩
 by_cases h0 : d.length = 0
 ·left; simp [h0]
 ·right
  have hw : (d.getD 0 []).length = w := hd.2 _ (by rw [show d.getD 0 [] = d[0]'(by omega) by simp [List.getD, (by omega : 0 < d.length)]]; exact List.getElem_mem _)
  rcases wO_or o.trays h.2.2.1 with h1 | ⟨_, h1⟩
  ·rw [hw, h1]; simp
  ·exact absurd (h1 d hm) h0
theorem runFlowT (o : Off) (w : Nat) (ho : okO w o) (fl : List Stp) (hz : ∀ x, x ∈ fl → x.text.size ≤ 1048576) (hl : fl.length ≤ 20) : Fz F.i_RunFlow [.agg (cO o), .sl 9 (E cS fl)] (.tup [.agg (cO (run o fl).1), .v (.int .i64 ((run o fl).2 : Nat)), .v (.int .i64 0)]) := by
 have VO := impl_ValidOffice o (okO_small ho)
 rw [offB_ok ho] at VO
 have RF := runFlow o w ho fl hz (by omega)
 have e20 : decide ((fl.length : Int) > 20) = false := decide_eq_false (by omega)
 generalize run o fl = R at *
 refine fn0 Cd.i_RunFlow_k fun X => ?_
 repeat' first
  |simp -dsimp only [go_sem, Int.reduceBEq, Int.reduceBNe, cC, cO, cS, cFd, E_len, List.replicate_succ, List.replicate_zero, List.flatten_cons, List.flatten_nil, List.cons_append, List.nil_append, List.set_cons_zero, List.set_cons_succ, List.length_cons, List.length_nil, List.length_set, List.mem_singleton, List.mem_cons, List.not_mem_nil, or_false, false_or, Vs.Name.t.injEq, List.getD_cons_zero, List.getD_cons_succ, Vs.Name.b.injEq, e20]
  |refine Br.mk ?_ ?_<;>intro h<;>try simp -dsimp only[h]
  |refine CallK.c (by first|exact VO|exact RF) ?_
  |refine and_c ?_
  |fail
 all_goals first | exact ⟨_, _, rfl, rfl⟩ | (refine ⟨?_, fun h => h rfl⟩; exact ⟨_, _, rfl, rfl⟩)
attribute [local go_sem] Int.reduceBEq Int.reduceBNe cO cS cFd E_len List.replicate_succ List.replicate_zero List.flatten_cons List.flatten_nil List.cons_append List.nil_append List.set_cons_zero List.set_cons_succ List.length_cons List.length_nil List.length_set List.mem_singleton List.mem_cons List.not_mem_nil or_false false_or Vs.Name.t.injEq List.getD_cons_zero List.getD_cons_succ Vs.Name.b.injEq in
theorem l15NewO (l : List (List Int)) (hk : smallC l) : Vs.Fn Tryz.prog F.s_l15New [] [.sl 1 (E cC l)] (.agg [.loc (.b 0) 0 6, .v (.slice none 0 0)]) [some (.arr 1 (E cD (T0 l)) false)] := by
 have CP := l02Copy l hk
 refine Cd.s_l15New_k.o.fn Tryz.mixed (hin := []) _ _ [.t 7 0] [.arr 1 (E cD (T0 l)) false] Cd.s_l15New_k.n Cd.s_l15New_k.r rfl (by simp) rfl (by simp) fun X => ?_
 unfold Cd.s_l15New
 repeat' first
  |simp -dsimp only [go_sem, cC]
  |refine Br.mk ?_ ?_<;>intro h<;>try simp -dsimp only[h]
  |refine CallK.c (by first|exact CP) ?_
  |refine and_c ?_
  |fail
 have e0 : ([[.sl 1 (E cC l)]] : List (List AV)) = E cD (TK l 0) := rfl
 refine LoopK.atR (drawn_ok Tryz.mixed) (X := { k : Nat // k ≤ 5 }) (fun k => [(4, .v (.int .i64 (k.1 + 1 : Nat)))]) (fun k => [(.t 3 0, .var [.loc (.t 7 0) 0 (k.1 + 1), .v (.slice none 0 0)] false), (.t 7 0, .arr 1 (E cD (TK l k.1)) false)]) (fun k => 5 - k.1) ⟨0, by omega⟩ ?_ ?_
 ·simp [Vs.LeL, Vs.look, Vs.hlook, Vs.sput, Vs.sputs, Vs.hset, Vs.hputs, Vs.E, cD, TK]
 ·rintro ⟨k, hi⟩
  try dsimp only at hi
  try simp -dsimp only [go_sem, cC]
  refine Br.mk (fun hc => ?_) fun hc => ?_
  ·have hlt : k < 5 := by first | (simp at hc; omega) | omega
   have hw : IntKind.i64.wrap ((k + 1 : Nat) + 1 : Int) = ((k + 1 + 1 : Nat) : Int) := by rw [wrap_in (by omega) (by omega)]; omega
   have hrow := E_snN l k
   have hal : (E cD (TK l k)).length = k + 1 := by rw [E_len, TK_len]
   repeat' first
    |simp -dsimp only [go_sem, hw, hrow, hal, cC]
    |refine Br.mk ?_ ?_<;>intro h<;>try simp -dsimp only[h]
    |refine and_c ?_
    |refine ⟨[], rfl, rfl, ?_⟩
    |fail
   all_goals first | omega | (refine ⟨⟨k + 1, by omega⟩, .inr ⟨.t 17 0, .t 7 0, by decide, rfl, ?_⟩, by simp only; omega⟩; simp [Vs.renL, Vs.nmF, Vs.rn, Vs.rnL, Vs.rnB, Vs.LeL, Vs.look, Vs.hlook, Vs.sput, Vs.sputs, Vs.hset, Vs.hputs, hrow]; done)
  ·have hge : k = 5 := by
    have : ¬ k < 5 := by first | (simp at hc; omega) | omega
    omega
   subst hge
   have hal : (E cD (TK l 5)).length = 6 := by rw [E_len, TK_len]
   have hk6 : (E cD (TK l 5)).take 6 = E cD (TK l 5) := List.take_of_length_le (by omega)
   rw [show T0 l = TK l 5 from rfl]
   repeat' first
    |simp -dsimp only [go_sem, hal, hk6, cC]
    |refine Br.mk ?_ ?_<;>intro h<;>try simp -dsimp only[h]
    |refine And.intro ?_ (fun h => absurd rfl h)
    |refine and_c ?_
    |fail
   all_goals first | omega | exact ⟨_, _, rfl, rfl⟩ | exact ⟨⟨_, _, rfl, rfl⟩, fun h => h rfl⟩
theorem newOfficeO (l : List (List Int)) (hk : smallC l) (hd : deckB l = true) : Vs.Fn Tryz.prog F.s_NewOffice [] [.sl 1 (E cC l)] (.tup [.agg [.loc (.b 0) 0 6, .v (.slice none 0 0)], .v (.int .i64 0)]) [some (.arr 1 (E cD (T0 l)) false)] := by
 have LD := l02Deck l hk.2 hk.1
 rw [hd] at LD
 have LN := l15NewO l hk
 refine Cd.s_NewOffice_k.o.fn Tryz.mixed (hin := []) _ _ [.t 9 0] [.arr 1 (E cD (T0 l)) false] Cd.s_NewOffice_k.n Cd.s_NewOffice_k.r rfl (by simp) rfl (by simp) fun X => ?_
 unfold Cd.s_NewOffice
 repeat' first
  |simp -dsimp only [go_sem, Int.reduceBEq, Int.reduceBNe, cC, cO, cS, cFd, E_len, List.replicate_succ, List.replicate_zero, List.flatten_cons, List.flatten_nil, List.cons_append, List.nil_append, List.set_cons_zero, List.set_cons_succ, List.length_cons, List.length_nil, List.length_set, List.mem_singleton, List.mem_cons, List.not_mem_nil, or_false, false_or, Vs.Name.t.injEq, List.getD_cons_zero, List.getD_cons_succ, Vs.Name.b.injEq]
  |refine Br.mk ?_ ?_<;>intro h<;>try simp -dsimp only[h]
  |refine CallK.own (by first|exact LN) rfl ?_
  |refine CallK.c (by first|exact LD) ?_
  |refine and_c ?_
  |fail
 all_goals first | exact ⟨_, _, rfl, rfl⟩ | (refine ⟨?_, fun h => h rfl⟩; exact ⟨_, _, rfl, rfl⟩)
end
end Go.Proofs.YtidbcoagjbbjdaaGreat
