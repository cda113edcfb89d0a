/- A flow run by the program. -/
import Derived.Test.YtidbcoagjbbjdaaGreatUwVm
import Derived.Test.YtidbcoagjbbjdaaGreatUuO
import Derived.Test.YtidbcoagjbbjdaaGreatUwVf
import Derived.Test.YtidbcoagjbbjdaaGreatVtR
import Derived.Test.YtidbcoagjbbjdaaGreatUuS
set_option linter.unusedSimpArgs false
set_option linter.unusedVariables false
set_option linter.unusedSectionVars false
set_option maxHeartbeats 8000000
namespace Go.Proofs.YtidbcoagjbbjdaaGreat
open Go.Vs
section
variable [Vs.Envs]
attribute [local irreducible] Vs.Fn keyC mgC selC mtC srtL fogL mat allN chOK areCh chTo chAt l03 chB rk cd3 chI stp stpTo
def stC (x : Stp) (o : Off) : Int := if x.kind = 7 then (if 20 ≤ o.totals.length then 5 else if totB x.f0 x.f1 x.s0 x.s1 (tr o.trays x.a) then 0 else 8) else dkC x (tr o.trays x.a) (tr o.trays x.b)
def stO (x : Stp) (o : Off) : Off := if x.kind = 7 then ⟨o.trays, o.totals ++ [totL x.f0 x.f1 x.s0 x.s1 (tr o.trays x.a)]⟩ else ⟨o.trays.set x.to.toNat (dkL x (tr o.trays x.a) (tr o.trays x.b)), o.totals⟩
def dsC (x : Stp) (o : Off) : Int := if stpB x (wO o.trays) then stC x o else 2
def run : Off → List Stp → Off × Nat
 | o, [] => (o, 0)
 | o, x :: r => if dsC x o = 0 then ((run (stO x o) r).1, (run (stO x o) r).2 + 1) else (o, 0)
def okD (w : Nat) (d : List (List Int)) : Prop := deckB d = true ∧ ∀ c, c ∈ d → c.length = w
def okO (w : Nat) (o : Off) : Prop := (1 ≤ w ∧ w ≤ 20) ∧ o.trays.length = 6 ∧ (∀ d, d ∈ o.trays → okD w d) ∧ o.totals.length ≤ 20 ∧ ∀ t, t ∈ o.totals → smallT t
theorem okD_small {w : Nat} {d : List (List Int)} (hw : w ≤ 20) (h : okD w d) : smallC d := by
 have h4 := deck_40 h.1
 exact ⟨by omega, fun c hc => by rw [h.2 c hc]; omega⟩
theorem okO_small {w : Nat} {o : Off} (h : okO w o) : smallO o := by
 obtain ⟨hw, h6, hd, ht, hs⟩ := h
 exact ⟨⟨by omega, fun d hdd => okD_small hw.2 (hd d hdd)⟩, ⟨by omega, hs⟩⟩
theorem wO_or {w : Nat} : ∀ T : List (List (List Int)), (∀ d, d ∈ T → okD w d) → wO T = w ∨ (wO T = 20 ∧ ∀ d, d ∈ T → d.length = 0)
 | [], _ => .inr ⟨rfl, fun d hd => absurd hd (by simp)⟩
 | d :: r, h => by
  unfold wO
  by_cases h0 : d.length = 0
  ·rw [if_pos h0]
   rcases wO_or r fun e he => h e (List.mem_cons_of_mem _ he) with h1 | ⟨h1, h2⟩
   ·exact .inl h1
   ·refine .inr ⟨h1, fun e he => ?_⟩
    rcases List.mem_cons.1 he with rfl | he
    ·exact h0
    ·exact h2 e he
  ·rw [if_neg h0]
   refine .inl ((h d (List.mem_cons_self ..)).2 _ ?_)
   rw [show d.getD 0 [] = d[0]'(by omega) by simp [List.getD, (by omega : 0 < d.length)]]; exact List.getElem_mem _
theorem okD_wid {w : Nat} {d : List (List Int)} (h : okD w d) : widB d = 20 ∧ d.length = 0 ∨ widB d = w ∧ d.length ≠ 0 := by
 unfold widB
 by_cases h0 : d.length = 0
 ·rw [if_pos h0]; exact .inl ⟨rfl, h0⟩
 ·rw [if_neg h0, h.2 (d.getD 0 []) (by rw [show d.getD 0 [] = d[0]'(by omega) by simp [List.getD, (by omega : 0 < d.length)]]; exact List.getElem_mem _)]; exact .inr ⟨rfl, h0⟩
theorem fld_up {a b v w : Int} (h : v ≤ w) (hf : fldB a b v = true) : fldB a b w = true := by
 simp only [fldB, Bool.and_eq_true, decide_eq_true_eq] at hf ⊢
 omega
theorem num_up {a b v w : Int} (h : v ≤ w) (hf : numB a b v = true) : numB a b w = true := by
 unfold numB at hf ⊢
 rw [Bool.and_eq_true] at hf ⊢
 exact ⟨fld_up h hf.1, hf.2⟩
theorem wid_ge {w : Nat} {o : Off} (h : okO w o) {d : List (List Int)} (hd : d ∈ o.trays) : (wO o.trays : Int) ≤ widB d := by
 rcases okD_wid (h.2.2.1 d hd) with ⟨h1, _⟩ | ⟨h1, h2⟩
 ·rcases wO_or o.trays h.2.2.1 with h3 | ⟨h3, _⟩
  ·rw [h1, h3]; have := h.1.2; omega
  ·rw [h1, h3]; omega
 ·rcases wO_or o.trays h.2.2.1 with h3 | ⟨h3, h4⟩
  ·rw [h1, h3]; omega
  ·exact absurd (h4 d hd) h2
theorem wO_in {w : Nat} {o : Off} (h : okO w o) : inB (wO o.trays : Int) 1 20 = true := by
 have := h.1
 rcases wO_or o.trays h.2.2.1 with h3 | ⟨h3, _⟩ <;> rw [h3] <;> simp [inB] <;> omega
structure StpOk (x : Stp) (o : Off) : Prop where
 k : 1 ≤ x.kind ∧ x.kind ≤ 7
 a : 0 ≤ x.a ∧ x.a < (o.trays.length : Int)
 b : 0 ≤ x.b ∧ x.b < (o.trays.length : Int)
 to : 0 ≤ x.to ∧ x.to < (o.trays.length : Int)
 f : fldB x.f0 x.f1 (wO o.trays) = true
 n : x.kind = 7 → numB x.s0 x.s1 (wO o.trays) = true
theorem stp_ok {w : Nat} {o : Off} (h : okO w o) {x : Stp} (hx : stpB x (wO o.trays) = true) : StpOk x o := by
 unfold stpB at hx
 simp only [Bool.and_eq_true] at hx
 obtain ⟨hk, ha, hb, ht, hf, _, hr⟩ := hx
 simp only [inB, Bool.and_eq_true, decide_eq_true_eq] at hk ha hb ht
 have h6 := h.2.1
 refine ⟨hk, ⟨by omega, by omega⟩, ⟨by omega, by omega⟩, ⟨by omega, by omega⟩, hf, fun h7 => ?_⟩
 rw [if_pos (by simp [h7])] at hr
 simp only [Bool.and_eq_true] at hr
 exact hr.2.1
theorem okD_of {w : Nat} {a b m : List (List Int)} (ha : okD w a) (hb : okD w b) (hm : ∀ c, c ∈ m → c ∈ a ∨ c ∈ b) (hl : m.length ≤ 40) : okD w m := by
 have hw : ∀ c, c ∈ m → c.length = w := fun c hc => (hm c hc).elim (ha.2 c) (hb.2 c)
 have hc1 : ∀ c, c ∈ m → cardB c = true := fun c hc => by
  have h1 := ha.1
  have h2 := hb.1
  simp only [deckB, Bool.and_eq_true, List.all_eq_true, decide_eq_true_eq] at h1 h2
  rcases hm c hc with h | h
  ·exact (h1.1 c h).1
  ·exact (h2.1 c h).1
 refine ⟨?_, hw⟩
 simp only [deckB, Bool.and_eq_true, List.all_eq_true, decide_eq_true_eq]
 refine ⟨fun c hc => ⟨hc1 c hc, ?_⟩, hl⟩
 have h0 : 0 < m.length := List.length_pos_of_mem hc
 have hm0 : m.getD 0 [] ∈ m := by rw [show m.getD 0 [] = m[0] by simp [List.getD, h0]]; exact List.getElem_mem _
 rw [hw c hc, hw _ hm0]
theorem fogL_mem {fr to : Int} {l : List (List Int)} : ∀ c, c ∈ fogL fr to l → c ∈ l := by
 intro c hc
 unfold fogL at hc
 obtain ⟨i, hi, rfl⟩ := List.mem_map.1 hc
 exact mem_get (grpTo_inO i hi)
theorem fogL_len (fr to : Int) (l : List (List Int)) : (fogL fr to l).length ≤ l.length := by
 unfold fogL; rw [List.length_map]; exact grpTo_len fr to l l.length
theorem flt_mem {q : List Int → Bool} {l : List (List Int)} : ∀ c, c ∈ flt q l → c ∈ l := fun c hc => (List.mem_filter.1 hc).1
theorem matMem {fr to : Int} {l o : List (List Int)} {e : Bool} : ∀ c, c ∈ mat fr to l o e → c ∈ l := by unfold mat; exact flt_mem
theorem matLn (fr to : Int) (l o : List (List Int)) (e : Bool) : (mat fr to l o e).length ≤ l.length := by unfold mat; exact flt_len _ _
theorem mgC_len {fr to : Int} {a b : List (List Int)} (h : mgC fr to a b = 0) : a.length + b.length ≤ 40 := by
 unfold mgC at h
 split at h
 ·split at h
  ·cases h
  ·split at h
   ·split at h
    ·cases h
    ·omega
   ·cases h
 ·contradiction
theorem dk_ok {w : Nat} {x : Stp} {a b : List (List Int)} (ha : okD w a) (hb : okD w b) (fa : fldB x.f0 x.f1 (widB a) = true) (fb : fldB x.f0 x.f1 (widB b) = true) (hc : dkC x a b = 0) : okD w (dkL x a b) := by
 have oa := okF_of ha.1 fa
 have ob := okF_of hb.1 fb
 have la := deck_40 ha.1
 have lb := deck_40 hb.1
 unfold dkC at hc
 unfold dkL
 by_cases h1 : x.kind = 1
 ·rw [if_pos h1] at hc ⊢
  exact okD_of ha hb (fun c h => .inl (srtL_mem oa la c h)) (by rw [srtL_len]; exact la)
 rw [if_neg h1] at hc ⊢
 by_cases h2 : x.kind = 2
 ·rw [if_pos h2] at hc ⊢
  have hl := mgC_len hc
  have hab : (a ++ b).length ≤ 40 := by rw [List.length_append]; exact hl
  refine okD_of ha hb (fun c h => ?_) (by rw [srtL_len]; exact hab)
  exact List.mem_append.1 (srtL_mem (fun c h => (List.mem_append.1 h).elim (oa c) (ob c)) hab c h)
 rw [if_neg h2] at hc ⊢
 by_cases h5 : x.kind = 5
 ·rw [if_pos h5]
  exact okD_of ha hb (fun c h => .inl (flt_mem c h)) (Nat.le_trans (flt_len _ _) la)
 rw [if_neg h5]
 by_cases h6 : x.kind = 6
 ·rw [if_pos h6]
  exact okD_of ha hb (fun c h => .inl (fogL_mem c h)) (Nat.le_trans (fogL_len _ _ _) la)
 rw [if_neg h6]
 split
 ·exact okD_of ha hb (fun c h => .inl (matMem c h)) (Nat.le_trans (matLn _ _ _ _ _) la)
 ·exact okD_of ha hb (fun c h => .inl (matMem c h)) (Nat.le_trans (matLn _ _ _ _ _) la)
theorem totL_small {fr to sf st : Int} {l : List (List Int)} {w : Nat} (hw : w ≤ 20) (h : okD w l) : smallT (totL fr to sf st l) := by
 have h4 := deck_40 h.1
 have hg := grpL_len fr to l
 refine ⟨by unfold totL; rw [List.length_map]; omega, fun t ht => ?_⟩
 unfold totL at ht
 obtain ⟨g, hgm, rfl⟩ := List.mem_map.1 ht
 obtain ⟨g0, _, gm⟩ := grpL_mem hgm
 have hc : g.getD 0 [] ∈ l := gm _ (by rw [show g.getD 0 [] = g[0] by simp [List.getD, g0]]; exact List.getElem_mem _)
 show (txt (fH fr to (g.getD 0 []))).size ≤ 1048576
 rw [txt_size]
 unfold fH
 rw [List.length_drop, List.length_take, h.2 _ hc]
 omega
theorem st_ok {w : Nat} {o : Off} {x : Stp} (h : okO w o) (hx : StpOk x o) (hc : stC x o = 0) : okO w (stO x o) := by
 have h6 := h.2.1
 have ma := tr_mem hx.a
 have mb := tr_mem hx.b
 unfold stC at hc
 unfold stO
 by_cases h7 : x.kind = 7
 ·rw [if_pos h7] at hc ⊢
  refine ⟨h.1, h6, h.2.2.1, ?_, fun t ht => ?_⟩
  ·rw [List.length_append, List.length_singleton]
   split at hc
   ·cases hc
   ·omega
  ·rcases List.mem_append.1 ht with ht | ht
   ·exact h.2.2.2.2 t ht
   ·rw [List.mem_singleton.1 ht]; exact totL_small h.1.2 (h.2.2.1 _ ma)
 ·rw [if_neg h7] at hc ⊢
  refine ⟨h.1, by simpa using h6, fun d hd => ?_, h.2.2.2.1, h.2.2.2.2⟩
  rcases List.mem_or_eq_of_mem_set hd with hd | rfl
  ·exact h.2.2.1 d hd
  ·exact dk_ok (h.2.2.1 _ ma) (h.2.2.1 _ mb) (fld_up (wid_ge h ma) hx.f) (fld_up (wid_ge h mb) hx.f) hc
theorem ds_ok {w : Nat} {o : Off} {x : Stp} (h : okO w o) (hc : dsC x o = 0) : okO w (stO x o) := by
 unfold dsC at hc
 split at hc
 ·rename_i hx; exact st_ok h (stp_ok h hx) hc
 ·cases hc
theorem run_ok {w : Nat} : ∀ (fl : List Stp) (o : Off), okO w o → okO w (run o fl).1 ∧ (run o fl).2 ≤ fl.length
 | [], o, h => ⟨h, Nat.le_refl _⟩
 | x :: r, o, h => by
  unfold run
  by_cases hc : dsC x o = 0
  ·rw [if_pos hc]
   obtain ⟨h1, h2⟩ := run_ok r (stO x o) (ds_ok h hc)
   exact ⟨h1, Nat.succ_le_succ h2⟩
  ·rw [if_neg hc]; exact ⟨h, Nat.zero_le _⟩
def runI (o : Off) (fl : List Stp) (i : Nat) (o' : Off) : Prop := run o fl = ((run o' (fl.drop i)).1, (run o' (fl.drop i)).2 + i)
theorem runI_zero (o : Off) (fl : List Stp) : runI o fl 0 o := rfl
theorem runI_step {o o' : Off} {fl : List Stp} {i : Nat} (hi : i < fl.length) (h : runI o fl i o') (hc : dsC fl[i] o' = 0) : runI o fl (i + 1) (stO fl[i] o') := by
 unfold runI at h ⊢
 rw [List.drop_eq_getElem_cons hi, run, if_pos hc] at h
 rw [h]; simp only [Prod.mk.injEq, true_and]; omega
theorem runI_stop {o o' : Off} {fl : List Stp} {i : Nat} (hi : i < fl.length) (h : runI o fl i o') (hc : dsC fl[i] o' ≠ 0) : run o fl = (o', i) := by
 unfold runI at h
 rw [List.drop_eq_getElem_cons hi, run, if_neg hc] at h
 rw [h, Nat.zero_add]
theorem runI_end {o o' : Off} {fl : List Stp} (h : runI o fl fl.length o') : run o fl = (o', fl.length) := by
 unfold runI at h
 rw [List.drop_length, run] at h
 rw [h, Nat.zero_add]
end
section
variable [Vs.Envs]
attribute [local irreducible] Vs.Fn keyC mgC selC mtC srtL fogL mat allN dkC dkL totB totL stpB wO chOK areCh chTo chAt l03 chB rk cd3 chI stp stpTo
def noO : AV := .agg [.v (.slice none 0 0), .v (.slice none 0 0)]
def dsV (x : Stp) (o : Off) : AV := if dsC x o = 0 then .agg (cO (stO x o)) else noO
theorem E_setD (m : List (List (List Int))) (i : Nat) (d : List (List Int)) : (E cD m).set i [.sl 1 (E cC d)] = E cD (m.set i d) := by simp [E, List.map_set, cD]
theorem E_snT (m : List (List Tot)) (t : List Tot) : E cTs m ++ [[.sl 2 (E cT t)]] = E cTs (m ++ [t]) := by rw [E_append]; rfl
theorem totV_ok {fr to sf st : Int} {l : List (List Int)} (h : totB fr to sf st l = true) : totV fr to sf st l = .sl 2 (E cT (totL fr to sf st l)) := by unfold totV; rw [if_pos h]; rfl
theorem totV_no {fr to sf st : Int} {l : List (List Int)} (h : totB fr to sf st l = false) : totV fr to sf st l = .v (.slice none 0 0) := by unfold totV; rw [h]; rfl
theorem dkV_ok {x : Stp} {a b : List (List Int)} (h : dkC x a b = 0) : dkV x a b = .sl 1 (E cC (dkL x a b)) := by unfold dkV; rw [if_pos h]
theorem dkV_no {x : Stp} {a b : List (List Int)} (h : dkC x a b ≠ 0) : dkV x a b = .v (.slice none 0 0) := by unfold dkV; rw [if_neg h]
theorem ds_dk {x : Stp} {o : Off} (hv : stpB x (wO o.trays) = true) (h7 : x.kind ≠ 7) : dsC x o = dkC x (tr o.trays x.a) (tr o.trays x.b) := by unfold dsC stC; rw [if_pos hv, if_neg h7]
theorem st_dk {x : Stp} {o : Off} (h7 : x.kind ≠ 7) : stO x o = ⟨o.trays.set x.to.toNat (dkL x (tr o.trays x.a) (tr o.trays x.b)), o.totals⟩ := by unfold stO; rw [if_neg h7]
theorem ds_tot {x : Stp} {o : Off} (hv : stpB x (wO o.trays) = true) (h7 : x.kind = 7) : dsC x o = if 20 ≤ o.totals.length then 5 else if totB x.f0 x.f1 x.s0 x.s1 (tr o.trays x.a) then 0 else 8 := by unfold dsC stC; rw [if_pos hv, if_pos h7]
theorem st_tot {x : Stp} {o : Off} (h7 : x.kind = 7) : stO x o = ⟨o.trays, o.totals ++ [totL x.f0 x.f1 x.s0 x.s1 (tr o.trays x.a)]⟩ := by unfold stO; rw [if_pos h7]
attribute [local go_sem] Int.reduceBEq Int.reduceBNe cC cFd E_len List.replicate_succ List.replicate_zero List.flatten_cons List.flatten_nil List.cons_append List.nil_append List.set_cons_zero List.set_cons_succ List.length_cons List.length_nil List.length_set List.mem_singleton List.mem_cons List.not_mem_nil or_false false_or Vs.Name.t.injEq List.getD_cons_zero List.getD_cons_succ in
theorem doStep (x : Stp) (hz : x.text.size ≤ 1048576) (o : Off) (w : Nat) (ho : okO w o) : Fz F.i_doStep [.agg (cO o), .agg (cS x)] (.tup [dsV x o, .v (.int .i64 (dsC x o))]) := by
 have hso := okO_small ho
 have OC := officeColumns o hso
 have NO := newOffice o hso
 have VS := impl_ValidStep x (wO o.trays : Int) hz
 rw [wO_in ho, Bool.true_and] at VS
 have hd6 := ho.2.1
 have ht20 := ho.2.2.2.1
 cases hv : stpB x (wO o.trays)
 ·rw [hv] at VS
  rw [show dsC x o = 2 by unfold dsC; rw [hv]; rfl, show dsV x o = noO by unfold dsV dsC; rw [hv]; rfl]
  refine fn0 Cd.i_doStep_k fun X => ?_
  repeat' first
   |simp -dsimp only [go_sem, noO, cO, cS]
   |refine Br.mk ?_ ?_<;>intro h<;>try simp -dsimp only[h]
   |refine CallK.c (by first|exact VS|exact OC) ?_
   |refine and_c ?_
   |fail
  all_goals first | omega | exact ⟨_, _, rfl, rfl⟩
 rw [hv] at VS
 have hx := stp_ok ho hv
 have ma := tr_mem hx.a
 have mb := tr_mem hx.b
 have ga := tr_at hx.a
 have gb := tr_at hx.b
 have a0 := hx.a.1
 have a1 := hx.a.2
 have gt := tr_at hx.to
 have t0 := hx.to.1
 have t1 := hx.to.2
 have hla : (E cD o.trays).length = o.trays.length := E_len _
 have hlt : (E cTs o.totals).length = o.totals.length := E_len _
 have hk1 : (E cD o.trays).take o.trays.length = E cD o.trays := List.take_of_length_le (by omega)
 have hk2 : (E cTs o.totals).take o.totals.length = E cTs o.totals := List.take_of_length_le (by omega)
 by_cases h7 : x.kind = 7
 ·have e7 : (x.kind == 7) = true := beq_iff_eq.2 h7
  rw [show dsV x o = if dsC x o = 0 then .agg (cO (stO x o)) else noO from rfl, ds_tot hv h7, st_tot h7]
  by_cases h20 : 20 ≤ o.totals.length
  ·have e20 : ((o.totals.length : Int) == 20) = true := beq_iff_eq.2 (by omega)
   rw [if_pos h20]
   rw [if_neg (by decide)]
   refine fn0 Cd.i_doStep_k fun X => ?_
   repeat' first
    |simp -dsimp only [go_sem, e7, e20, noO, cO, cS]
    |refine Br.mk ?_ ?_<;>intro h<;>try simp -dsimp only[h]
    |refine CallK.own (by first|exact NO) rfl ?_
    |refine CallK.c (by first|exact VS|exact OC) ?_
    |refine and_c ?_
    |fail
   all_goals first | omega | exact ⟨_, _, rfl, rfl⟩
  ·have e20 : ((o.totals.length : Int) == 20) = false := beq_eq_false_iff_ne.2 (by omega)
   rw [if_neg h20]
   have da := ho.2.2.1 _ ma
   have TO := totalsOf (tr o.trays x.a) x.f0 x.f1 x.s0 x.s1 (okF_of da.1 (fld_up (wid_ge ho ma) hx.f)) (okP_of da.1 (num_up (wid_ge ho ma) (hx.n h7))) (okD_small ho.1.2 da).1
   cases hb : totB x.f0 x.f1 x.s0 x.s1 (tr o.trays x.a)
   ·rw [totV_no hb, hb] at TO
    simp only [Bool.false_eq_true, if_false] at TO
    rw [if_neg (by decide), if_neg (by decide)]
    refine fn0 Cd.i_doStep_k fun X => ?_
    repeat' first
     |simp -dsimp only [go_sem, e7, e20, noO, ga, cO, cS]
     |refine Br.mk ?_ ?_<;>intro h<;>try simp -dsimp only[h]
     |refine CallK.own (by first|exact NO) rfl ?_
     |refine CallK.c (by first|exact VS|exact OC|exact TO) ?_
     |refine and_c ?_
     |fail
    all_goals first | omega | exact ⟨_, _, rfl, rfl⟩
   ·rw [totV_ok hb, hb] at TO
    simp only [if_true] at TO
    rw [if_pos rfl, if_pos rfl]
    have hsn := E_snT o.totals (totL x.f0 x.f1 x.s0 x.s1 (tr o.trays x.a))
    have hk3 : (E cTs (o.totals ++ [totL x.f0 x.f1 x.s0 x.s1 (tr o.trays x.a)])).take (o.totals.length + 1) = E cTs (o.totals ++ [totL x.f0 x.f1 x.s0 x.s1 (tr o.trays x.a)]) := List.take_of_length_le (by rw [E_len, List.length_append]; exact Nat.le_refl _)
    refine fn0 Cd.i_doStep_k fun X => ?_
    repeat' first
     |simp -dsimp only [go_sem, e7, e20, ga, hla, hlt, hsn, hk1, hk2, hk3, cO, cS]
     |refine Br.mk ?_ ?_<;>intro h<;>try simp -dsimp only[h]
     |refine CallK.own (by first|exact NO) rfl ?_
     |refine CallK.c (by first|exact VS|exact OC|exact TO) ?_
     |refine and_c ?_
     |fail
    all_goals first | omega | exact ⟨_, _, rfl, rfl⟩
 ·have e7 : (x.kind == 7) = false := beq_eq_false_iff_ne.2 h7
  rw [show dsV x o = if dsC x o = 0 then .agg (cO (stO x o)) else noO from rfl, ds_dk hv h7, st_dk h7]
  have DK := impl_deckOf x hz o.trays hso.1.2 hso.1.1 hx.a hx.b o.totals
  by_cases h0 : dkC x (tr o.trays x.a) (tr o.trays x.b) = 0
  ·rw [dkV_ok h0] at DK
   rw [h0] at DK ⊢
   rw [if_pos rfl]
   generalize dkL x (tr o.trays x.a) (tr o.trays x.b) = D at *
   have hst := E_setD o.trays x.to.toNat D
   have hk3 : (E cD (o.trays.set x.to.toNat D)).take o.trays.length = E cD (o.trays.set x.to.toNat D) := List.take_of_length_le (by rw [E_len, List.length_set]; exact Nat.le_refl _)
   refine fn0 Cd.i_doStep_k fun X => ?_
   repeat' first
    |simp -dsimp only [go_sem, e7, gt, hla, hlt, hst, hk1, hk2, hk3, cO, cS]
    |refine Br.mk ?_ ?_<;>intro h<;>try simp -dsimp only[h]
    |refine CallK.own (by first|exact NO) rfl ?_
    |refine CallK.c (by first|exact VS|exact OC|exact DK) ?_
    |refine and_c ?_
    |fail
   all_goals first | omega | exact ⟨_, _, rfl, rfl⟩
  ·rw [dkV_no h0] at DK
   rw [if_neg h0]
   have e0 : (dkC x (tr o.trays x.a) (tr o.trays x.b) != 0) = true := by simp [h0]
   generalize dkC x (tr o.trays x.a) (tr o.trays x.b) = c at *
   refine fn0 Cd.i_doStep_k fun X => ?_
   repeat' first
    |simp -dsimp only [go_sem, e7, e0, noO, cO, cS]
    |refine Br.mk ?_ ?_<;>intro h<;>try simp -dsimp only[h]
    |refine CallK.own (by first|exact NO) rfl ?_
    |refine CallK.c (by first|exact VS|exact OC|exact DK) ?_
    |refine and_c ?_
    |fail
   all_goals first | omega | exact ⟨_, _, rfl, rfl⟩
end
section
variable [Vs.Envs]
attribute [local irreducible] Vs.Fn keyC mgC selC mtC srtL flt offT fogL mat chOK areCh chTo chAt l03 chB rk cd3 chI stp stpTo
end
section
variable [Vs.Envs]
attribute [local irreducible] Vs.Fn chOK areCh chTo chAt l03 chB rk cd3 chI stp stpTo
theorem rc_nil {k : Nat} {S : Nat → Prop} {w : World} {v : Value} (h : RC S w (.v (.slice none 0 0)) v) : RC S w (.sl k []) v := by
 cases h
 exact RC.sl k [] none 0 0 0 (fun _ => undef) (fun h => absurd rfl h) (fun i j h => by simp at h) (fun i j h => by simp at h) (fun i j h => by simp at h) (fun i h => by simp at h) ⟨Nat.le_refl _, by decide⟩
theorem fn_args {P : Program} {f : FuncId} {hin : List Blk} {args args' : List AV} {r : AV} {hout : List (Option Blk)} (hl : args.length = args'.length)
  (h : ∀ (S : Nat → Prop) (w : World) (j : Nat) (v : Value), j < args.length → (∀ ρ κ hh, RV S w ρ κ hh (args.getD j .junk) v → RV S w ρ κ hh (args'.getD j .junk) v)) (hf : Vs.Fn P f hin args' r hout) : Vs.Fn P f hin args r hout := by
 unfold Vs.Fn at hf ⊢
 exact ⟨hf.1, fun S w ρ κ vs h1 h2 h3 h4 => hf.2 S w ρ κ vs h1 h2 (h3.trans hl) fun j hj => h S w j _ (by omega) ρ κ _ (h4 j (by omega))⟩
theorem agg_nil {S : Nat → Prop} {w : World} {x : AV} {k : Nat} {v : Value} {ρ : Vs.Name → Option Nat} {κ : Vs.Name → Nat} {hh : Vs.Name → Option Blk} (h : RV S w ρ κ hh (.agg [x, .v (.slice none 0 0)]) v) : RV S w ρ κ hh (.agg [x, .sl k []]) v := by
 obtain ⟨vs, rfl, h1, h2⟩ := inv_agg h
 refine .agg _ _ h1 fun j hj => ?_
 match j, hj with
 | 0, _ => exact h2 0 (by simp)
 | 1, _ => exact .clo (rc_nil ((h2 1 (by simp)).closed rfl))
def gA (n : Vs.Name) (i : Nat) : AV := if i = 0 then .v (.slice none 0 0) else .loc n 0 i
end
section
variable [Vs.Envs]
attribute [local irreducible] Vs.Fn keyC mgC selC mtC srtL fogL mat allN dkC dkL totB totL stpB wO chOK areCh chTo chAt l03 chB rk cd3 chI stp stpTo
open Go.Vs.Q in
def CdV.l15Do : ACode := s [mi 4 0] [0,1]<|.seq (s [m 9 1,nc 10 9,fa 11 0 10,lf 12 1 11,en 13 12 7] [0,1,13]<|.cond 13 (.seq (s [m 14 0,nc 15 14,fa 16 1 15,lf 17 1 16,ln 18 17,o 19 (.bin .geq 18 (k 20))] [0,1,19]<|.cond 19 (s [mi 4 5] [4]<|.ret) .skip)<|r [m 21 0,nc 22 21,fa 23 0 22,lf 24 1 23,m 25 1,nc 26 25,fa 27 1 26,lf
 28 1 27,ix 29 1 24 28,lf 30 1 29,m 31 1,nc 32 31,fa 33 4 32,lt 34 2 33,m 35 1,nc 36 35,fa 37 6 36,lt 38 2 37,c 39 F.s_l15Sums [30,34,38],m 20 39,ex 40 20 0,ex 41 20 1,m 5 40,m 6 41] [0,5,6] [21,23,24,22,25,26,27,28,29,30,31,32,33,34,35,36,37,38,39,20,40,41,5]<|.seq (s [m 42 6,en 43 42 0]
 [0,5,6,43]<|.cond 43 (.region [m 44 0,m 45 0,nc 46 45,fa 47 1 46,lf 48 1 47,m 49 5,o 50 (.bslice 1 1 [.v (.slice none 0 0)] [(0,49)]),o 51 (.append 1 24 48 50),nc 52 44,fa 53 1 52,⟨none,.store 1 53 51,none⟩] [6] []) .skip)<|s [m 54 6,m 4 54] [4]<|.ret) .skip)<|s [m 56 0,m 57 1,o 58 (.call (.func
 F.s_l15Make) [56,57] [0]),m 55 58,ex 59 55 0,ex 60 55 1,m 7 59,m 8 60] [0,1,7,8]<|.seq (s [m 61 8,en 62 61 0] [0,1,7,8,62]<|.cond 62 (.region [m 63 0,nc 64 63,fa 65 0 64,lf 66 1 65,m 67 1,nc 68 67,fa 69 3 68,lf 70 1 69,m 71 7,ix 72 1 66 70,⟨none,.store 1 72 71,none⟩] [8]
 [63,65,66,64,67,68,69,70,71]) .skip)<|s [m 73 8,m 4 73] [4]<|.ret
end
section
variable [Vs.Envs]
attribute [local irreducible] Vs.Fn chOK areCh chTo chAt l03 chB rk cd3 chI stp stpTo
theorem rc_rows {k : Nat} {S : Nat → Prop} {w : World} {rows rows' : List (List AV)} {v : Value} (hl : rows.length = rows'.length) (hk : ∀ i, i < rows'.length → (rows'.getD i []).length = k)
  (hc : ∀ i j, i < rows.length → j < k → ∀ u, RC S w ((rows.getD i []).getD j .junk) u → RC S w ((rows'.getD i []).getD j .junk) u) (h : RC S w (.sl k rows) v) : RC S w (.sl k rows') v := by
 cases h with
 | sl _ _ base cap x off xs hb hc' ho hr hk' hcap =>
  rw [hl]
  exact RC.sl k rows' base cap x off xs (fun hne => hb (fun e => hne (List.eq_nil_of_length_eq_zero (by rw [← hl, e]; rfl)))) (fun i j hi hj => hc' i j (by omega) hj) (fun i j hi hj => ho i j (by omega) hj) (fun i j hi hj => hc i j (by omega) hj _ (hr i j (by omega) hj)) hk (by omega)
def rowsN (l : List (List Int)) : List (List AV) := [[.sl 1 (E cC l)], [.v (.slice none 0 0)], [.v (.slice none 0 0)], [.v (.slice none 0 0)], [.v (.slice none 0 0)], [.v (.slice none 0 0)]]
def T0 (l : List (List Int)) : List (List (List Int)) := l :: List.replicate 5 []
def O0 (l : List (List Int)) : Off := ⟨T0 l, []⟩
theorem rows_nil {S : Nat → Prop} {w : World} {l : List (List Int)} {v : Value} (h : RC S w (.sl 1 (rowsN l)) v) : RC S w (.sl 1 (E cD (T0 l))) v := by
 refine rc_rows (rows := rowsN l) rfl (fun i hi => ?_) (fun i j hi hj u hu => ?_) h
 ·match i, hi with
  | 0, _ => rfl
  | 1, _ => rfl
  | 2, _ => rfl
  | 3, _ => rfl
  | 4, _ => rfl
  | 5, _ => rfl
  | n + 6, hi => exact absurd hi (by simp [E, T0])
 ·obtain rfl : j = 0 := by omega
  match i, hi with
  | 0, _ => exact hu
  | 1, _ => exact rc_nil hu
  | 2, _ => exact rc_nil hu
  | 3, _ => exact rc_nil hu
  | 4, _ => exact rc_nil hu
  | 5, _ => exact rc_nil hu
  | n + 6, hi => exact absurd hi (by simp [rowsN])
theorem off_nil {S : Nat → Prop} {w : World} {l : List (List Int)} {v : Value} {ρ : Vs.Name → Option Nat} {κ : Vs.Name → Nat} {hh : Vs.Name → Option Blk} (h : RV S w ρ κ hh (.agg [.sl 1 (rowsN l), .sl 1 []]) v) : RV S w ρ κ hh (.agg (cO (O0 l))) v := by
 obtain ⟨vs, rfl, h1, h2⟩ := inv_agg h
 refine .agg _ _ h1 fun j hj => ?_
 match j, hj with
 | 0, _ => exact .clo (rows_nil (inv_sl (h2 0 (by simp))))
 | 1, _ => exact h2 1 (by simp)
theorem impl_NewOffice (l : List (List Int)) (hk : smallC l) (hd : deckB l = true) : Fz F.i_NewOffice [.sl 1 (E cC l)] (.tup [.agg [.sl 1 (rowsN l), .sl 1 []], .v (.int .i64 0)]) := by
 have VD := validDeck l hk.2 hk.1
 rw [hd] at VD
 have ND := newDeckC l hk
 refine fn0 Cd.i_NewOffice_k fun X => ?_
 repeat' first
  |simp -dsimp only [go_sem, rowsN, Int.reduceBEq, Int.reduceBNe, cC, cO, cS, cFd, E_len, List.replicate_succ, List.replicate_zero, List.flatten_cons, List.flatten_nil, List.cons_append, List.nil_append, List.set_cons_zero, List.set_cons_succ, List.length_cons, List.length_nil, List.length_set, List.mem_singleton, List.mem_cons, List.not_mem_nil, or_false, false_or, Vs.Name.t.injEq, List.getD_cons_zero, List.getD_cons_succ, Vs.Name.b.injEq]
  |refine Br.mk ?_ ?_<;>intro h<;>try simp -dsimp only[h]
  |refine CallK.c (by first|exact VD|exact ND) ?_
  |refine and_c ?_
  |fail
 all_goals first | omega | exact ⟨_, _, rfl, rfl⟩
def TK (l : List (List Int)) (k : Nat) : List (List (List Int)) := l :: List.replicate k []
theorem TK_len (l : List (List Int)) (k : Nat) : (TK l k).length = k + 1 := by unfold TK; rw [List.length_cons, List.length_replicate]
theorem E_snN (l : List (List Int)) (k : Nat) : E cD (TK l k) ++ [[.sl 1 []]] = E cD (TK l (k + 1)) := by
 unfold TK
 rw [List.replicate_succ', ← List.cons_append, E_append]; rfl
attribute [local go_sem] Int.reduceBEq Int.reduceBNe cO cS cFd E_len List.replicate_succ List.replicate_zero List.flatten_cons List.flatten_nil List.cons_append List.nil_append List.set_cons_zero List.set_cons_succ List.length_cons List.length_nil List.length_set List.mem_singleton List.mem_cons List.not_mem_nil or_false false_or Vs.Name.t.injEq List.getD_cons_zero List.getD_cons_succ Vs.Name.b.injEq in
theorem l15New (l : List (List Int)) (hk : smallC l) : Fz F.s_l15New [.sl 1 (E cC l)] (.agg [.sl 1 (E cD (T0 l)), .v (.slice none 0 0)]) := by
 have CP := l02Copy l hk
 refine fn0 Cd.s_l15New_k fun X => ?_
 repeat' first
  |simp -dsimp only [go_sem, cC]
  |refine Br.mk ?_ ?_<;>intro h<;>try simp -dsimp only[h]
  |refine CallK.c (by first|exact CP) ?_
  |refine and_c ?_
  |fail
 have e0 : ([[.sl 1 (E cC l)]] : List (List AV)) = E cD (TK l 0) := rfl
 refine LoopK.atR (drawn_ok Tryz.mixed) (X := { k : Nat // k ≤ 5 }) (fun k => [(4, .v (.int .i64 (k.1 + 1 : Nat)))]) (fun k => [(.t 3 0, .var [.loc (.t 7 0) 0 (k.1 + 1), .v (.slice none 0 0)] false), (.t 7 0, .arr 1 (E cD (TK l k.1)) false)]) (fun k => 5 - k.1) ⟨0, by omega⟩ ?_ ?_
 ·simp [Vs.LeL, Vs.look, Vs.hlook, Vs.sput, Vs.sputs, Vs.hset, Vs.hputs, Vs.E, cD, TK]
 ·rintro ⟨k, hi⟩
  try dsimp only at hi
  try simp -dsimp only [go_sem, cC]
  refine Br.mk (fun hc => ?_) fun hc => ?_
  ·have hlt : k < 5 := by first | (simp at hc; omega) | omega
   have hw : IntKind.i64.wrap ((k + 1 : Nat) + 1 : Int) = ((k + 1 + 1 : Nat) : Int) := by rw [wrap_in (by omega) (by omega)]; omega
   have hrow := E_snN l k
   have hal : (E cD (TK l k)).length = k + 1 := by rw [E_len, TK_len]
   repeat' first
    |simp -dsimp only [go_sem, hw, hrow, hal, cC]
    |refine Br.mk ?_ ?_<;>intro h<;>try simp -dsimp only[h]
    |refine and_c ?_
    |refine ⟨[], rfl, rfl, ?_⟩
    |fail
   all_goals first | omega | (refine ⟨⟨k + 1, by omega⟩, .inr ⟨.t 17 0, .t 7 0, by decide, rfl, ?_⟩, by simp only; omega⟩; simp [Vs.renL, Vs.nmF, Vs.rn, Vs.rnL, Vs.rnB, Vs.LeL, Vs.look, Vs.hlook, Vs.sput, Vs.sputs, Vs.hset, Vs.hputs, hrow]; done)
  ·have hge : k = 5 := by
    have : ¬ k < 5 := by first | (simp at hc; omega) | omega
    omega
   subst hge
   have hal : (E cD (TK l 5)).length = 6 := by rw [E_len, TK_len]
   have hk6 : (E cD (TK l 5)).take 6 = E cD (TK l 5) := List.take_of_length_le (by omega)
   rw [show T0 l = TK l 5 from rfl]
   repeat' first
    |simp -dsimp only [go_sem, hal, hk6, cC]
    |refine Br.mk ?_ ?_<;>intro h<;>try simp -dsimp only[h]
    |refine And.intro ?_ (fun h => absurd rfl h)
    |refine and_c ?_
    |fail
   all_goals first | omega | exact ⟨_, _, rfl, rfl⟩ | exact ⟨⟨_, _, rfl, rfl⟩, fun h => h rfl⟩
end
section
variable [Vs.Envs]
attribute [local irreducible] Vs.Fn chOK areCh chTo chAt l03 chB rk cd3 chI stp stpTo
attribute [local go_sem] Int.reduceBEq Int.reduceBNe cC cTs cD E_len List.replicate_succ List.replicate_zero List.flatten_cons List.flatten_nil List.cons_append List.nil_append List.set_cons_zero List.set_cons_succ List.length_cons List.length_nil List.length_set List.mem_singleton List.mem_cons List.not_mem_nil or_false false_or Vs.Name.t.injEq in
theorem newOfficeC (o : Off) (ho : smallO o) : Fz F.i_newOffice [.agg (cO o)] (.agg (cO o)) := by
 have hn := ho.1.1
 have hm := ho.2.1
 refine Cd.i_newOffice_k.o.fn Tryz.mixed (hin := []) _ _ [] [] Cd.i_newOffice_k.n Cd.i_newOffice_k.r rfl (by simp) rfl (by simp) fun X => ?_
 unfold Cd.i_newOffice
 repeat' first
  |simp -dsimp only [go_sem, cO]
  |refine Br.mk ?_ ?_<;>intro h<;>try simp -dsimp only[h]
  |refine and_c ?_
  |fail
 refine LoopK.atR (drawn_ok Tryz.mixed) (X := { i : Nat // i ≤ o.trays.length }) (fun i => [(14, .v (.int .i64 (i.1 : Nat)))]) (fun i => [(.t 3 0, .var [.loc (.t 8 0) 0 i.1, .loc (.t 9 0) 0 0] false), (.t 8 0, .arr 1 (E cD (o.trays.take i.1)) false)]) (fun i => o.trays.length - i.1) ⟨0, by omega⟩ ?_ ?_
 ·simp [Vs.LeL, Vs.look, Vs.hlook, Vs.sput, Vs.sputs, Vs.hset, Vs.hputs, Vs.E]
 ·rintro ⟨i, hi⟩
  try dsimp only at hi
  try simp -dsimp only [go_sem, cO]
  refine Br.mk (fun hc => ?_) fun hc => ?_
  ·have hlt : i < o.trays.length := Dq
   have hw := wrap_succ hlt (by omega)
   have hat := cD_at hlt
   have hrow := E_snocD hlt
   have hal : (E cD (o.trays.take i)).length = i := by rw [E_len]; simp; omega
   have ND := newDeckC o.trays[i] (ho.1.2 _ (List.getElem_mem hlt))
   repeat' first
    |simp -dsimp only [go_sem, hw, hrow, hal, hat, cO]
    |refine Br.mk ?_ ?_<;>intro h<;>try simp -dsimp only[h]
    |refine CallK.c (by first|exact ND) ?_
    |refine and_c ?_
    |fail
   all_goals first | omega | (refine ⟨⟨i + 1, by omega⟩, .inr ⟨.t 23 0, .t 8 0, by decide, rfl, ?_⟩, by simp only; omega⟩; simp [Vs.renL, Vs.nmF, Vs.rn, Vs.rnL, Vs.rnB, Vs.LeL, Vs.look, Vs.hlook, Vs.sput, Vs.sputs, Vs.hset, Vs.hputs, hrow]; done)
  ·have hge : i = o.trays.length := by
    have : ¬ i < o.trays.length := Dq
    omega
   subst hge
   try simp -dsimp only [go_sem, cO]
   refine ⟨?_, fun h => h rfl⟩
   repeat' first
    |simp -dsimp only [go_sem, cO]
    |refine Br.mk ?_ ?_<;>intro h<;>try simp -dsimp only[h]
    |refine and_c ?_
    |fail
   refine LoopK.atR (drawn_ok Tryz.mixed) (X := { i : Nat // i ≤ o.totals.length }) (fun i => [(29, .v (.int .i64 (i.1 : Nat)))]) (fun i => [(.t 3 0, .var [.loc (.t 8 0) 0 o.trays.length, .loc (.t 9 0) 0 i.1] false), (.t 9 0, .arr 1 (E cTs (o.totals.take i.1)) false)]) (fun i => o.totals.length - i.1) ⟨0, by omega⟩ ?_ ?_
   ·simp [Vs.LeL, Vs.look, Vs.hlook, Vs.sput, Vs.sputs, Vs.hset, Vs.hputs, Vs.E]
   ·rintro ⟨i, hi⟩
    try dsimp only at hi
    try simp -dsimp only [go_sem, cO]
    refine Br.mk (fun hc => ?_) fun hc => ?_
    ·have hlt : i < o.totals.length := Dq
     have hw := wrap_succ hlt (by omega)
     have hat := cTs_at hlt
     have hrow := E_snocT hlt
     have hal : (E cTs (o.totals.take i)).length = i := by rw [E_len]; simp; omega
     have hs := (ho.2.2 _ (List.getElem_mem hlt)).1
     repeat' first
      |simp -dsimp only [go_sem, hw, hrow, hal, hat, cO]
      |refine Br.mk ?_ ?_<;>intro h<;>try simp -dsimp only[h]
      |refine and_c ?_
      |fail
     all_goals first | omega | (refine ⟨⟨i + 1, by omega⟩, .inr ⟨.t 39 0, .t 9 0, by decide, rfl, ?_⟩, by simp only; omega⟩; simp [Vs.renL, Vs.nmF, Vs.rn, Vs.rnL, Vs.rnB, Vs.LeL, Vs.look, Vs.hlook, Vs.sput, Vs.sputs, Vs.hset, Vs.hputs, hrow]; done)
    ·have hge : i = o.totals.length := by
      have : ¬ i < o.totals.length := Dq
      omega
     subst hge
     try simp -dsimp only [go_sem, cO]
     refine ⟨?_, fun h => h rfl⟩
     have ht1 : (E cD (o.trays.take o.trays.length)) = E cD o.trays := by rw [List.take_length]
     have hq1 : (E cD o.trays).take o.trays.length = E cD o.trays := List.take_of_length_le (by rw [E_len]; exact Nat.le_refl _)
     have hq2 : (E cTs o.totals).take o.totals.length = E cTs o.totals := List.take_of_length_le (by rw [E_len]; exact Nat.le_refl _)
     have ht2 : (E cTs (o.totals.take o.totals.length)) = E cTs o.totals := by rw [List.take_length]
     repeat' first
      |simp -dsimp only [go_sem, ht1, ht2, hq1, hq2, cO]
      |refine Br.mk ?_ ?_<;>intro h<;>try simp -dsimp only[h]
      |refine and_c ?_
      |fail
     all_goals first | omega | exact ⟨_, _, rfl, rfl⟩
theorem sizeSt (l : List Stp) : Fz F.i_size_i_Step_ [.sl 9 (E cS l)] (.v (.int .i64 l.length)) := by
 refine fn0 Cd.i_size_i_Step__k fun X => ?_
 repeat' first
  |simp -dsimp only [go_sem]
  |refine Br.mk ?_ ?_<;>intro h<;>try simp -dsimp only[h]
  |refine and_c ?_
  |fail
 all_goals (simp_all)
attribute [local go_sem] Int.reduceBEq Int.reduceBNe cC cFd E_len List.replicate_succ List.replicate_zero List.flatten_cons List.flatten_nil List.cons_append List.nil_append List.set_cons_zero List.set_cons_succ List.length_cons List.length_nil List.length_set List.mem_singleton List.mem_cons List.not_mem_nil or_false false_or Vs.Name.t.injEq List.getD_cons_zero List.getD_cons_succ Vs.Name.b.injEq in
theorem runFlow (o : Off) (w : Nat) (ho : okO w o) (fl : List Stp) (hz : ∀ x, x ∈ fl → x.text.size ≤ 1048576) (hl : fl.length ≤ 1048576) : Fz F.i_runFlow [.agg (cO o), .sl 9 (E cS fl)] (.tup [.agg (cO (run o fl).1), .v (.int .i64 ((run o fl).2 : Nat))]) := by
 have NO := newOfficeC o (okO_small ho)
 have SZ := sizeSt fl
 have hI0 := runI_zero o fl
 generalize hR : run o fl = R
 refine fn0 Cd.i_runFlow_k fun X => ?_
 repeat' first
  |simp -dsimp only [go_sem, cO, cS]
  |refine Br.mk ?_ ?_<;>intro h<;>try simp -dsimp only[h]
  |refine CallK.c (by first|exact NO) ?_
  |refine and_c ?_
  |fail
 refine LoopK.at (drawn_ok Tryz.mixed) (X := { p : Nat × Off // p.1 ≤ fl.length ∧ okO w p.2 ∧ runI o fl p.1 p.2 }) (fun p => [(15, .v (.int .i64 (p.1.1 : Nat)))]) (fun p => [(.t 6 0, .var (cO p.1.2) false)]) (fun p => fl.length - p.1.1) ⟨(0, o), by simp, ho, hI0⟩ ?_ ?_
 ·simp [Vs.LeL, Vs.look, Vs.hlook, Vs.sput, Vs.sputs, Vs.hset, Vs.hputs, cO]
 ·rintro ⟨⟨i, o'⟩, hi, ho', hrun⟩
  dsimp only at hi ho' hrun
  simp -dsimp only [go_sem, cO, cS]
  refine Br.mk (fun hc => ?_) fun hc => ?_
  ·have hlt : i < fl.length := Dq
   have hw := wrap_succ hlt (by omega)
   have gx : (E cS fl).getD i [] = cS fl[i] := E_get hlt
   have DS := doStep fl[i] (hz _ (List.getElem_mem hlt)) o' w ho'
   by_cases hd : dsC fl[i] o' = 0
   ·rw [show dsV fl[i] o' = .agg (cO (stO fl[i] o')) by unfold dsV; rw [if_pos hd], hd] at DS
    have hnext := runI_step hlt hrun hd
    have hok := ds_ok ho' hd
    generalize stO fl[i] o' = o2 at *
    repeat' first
     |simp -dsimp only [go_sem, hw, gx, cO, cS]
     |refine Br.mk ?_ ?_<;>intro h<;>try simp -dsimp only[h]
     |refine CallK.c (by first|exact DS) ?_
     |refine and_c ?_
     |fail
    all_goals first | omega | (refine ⟨⟨(i + 1, o2), by simp only; omega, hok, hnext⟩, ?_, by simp only; omega⟩; simp [Vs.LeL, Vs.look, Vs.hlook, Vs.sput, Vs.sputs, Vs.hset, Vs.hputs, cO]; done)
   ·rw [show dsV fl[i] o' = noO by unfold dsV; rw [if_neg hd]] at DS
    have e0 : (dsC fl[i] o' != 0) = true := by simp [hd]
    have hstop := runI_stop hlt hrun hd
    rw [hR] at hstop
    subst hstop
    generalize dsC fl[i] o' = c at *
    repeat' first
     |simp -dsimp only [go_sem, hw, gx, e0, noO, cO, cS]
     |refine Br.mk ?_ ?_<;>intro h<;>try simp -dsimp only[h]
     |refine CallK.c (by first|exact DS) ?_
     |refine and_c ?_
     |fail
    all_goals first | omega | exact ⟨_, _, rfl, rfl⟩
  ·have hge : i = fl.length := by
    have : ¬ i < fl.length := Dq
    omega
   subst hge
   have hstop := runI_end hrun
   rw [hR] at hstop
   subst hstop
   repeat' first
    |simp -dsimp only [go_sem, cO, cS]
    |refine Br.mk ?_ ?_<;>intro h<;>try simp -dsimp only[h]
    |refine CallK.c (by first|exact SZ) ?_
    |refine And.intro ?_ (fun h => absurd rfl h)
    |refine and_c ?_
    |fail
   all_goals first | omega | exact ⟨_, _, rfl, rfl⟩ | exact ⟨⟨_, _, rfl, rfl⟩, fun h => h rfl⟩
end
end Go.Proofs.YtidbcoagjbbjdaaGreat
