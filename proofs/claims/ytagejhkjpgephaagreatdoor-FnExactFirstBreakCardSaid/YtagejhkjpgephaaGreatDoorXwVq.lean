/- A step done by the program. -/
import Derived.Test.YtagejhkjpgephaaGreatDoorXwVm
import Derived.Test.YtagejhkjpgephaaGreatDoorXuO
import Derived.Test.YtagejhkjpgephaaGreatDoorXwD
import Derived.Test.YtagejhkjpgephaaGreatDoorXwVf
import Derived.Test.YtagejhkjpgephaaGreatDoorEtR
import Derived.Test.YtagejhkjpgephaaGreatDoorXuF
set_option linter.unusedSimpArgs false
set_option linter.unusedVariables false
set_option maxHeartbeats 8000000
namespace Go.Proofs.YtagejhkjpgephaaGreatDoor
open Go.Vs
section
attribute [local irreducible] Vs.Fn keyC mgC selC mtC srtL fogL mat allN chOK areCh chTo chAt l03 chB rk cd3 chI stp stpTo
def stC (x : Stp) (o : Off) : Int := if x.kind = 7 then (if 20 ≤ o.totals.length then 5 else if totB x.f0 x.f1 x.s0 x.s1 (tr o.trays x.a) then 0 else 8) else dkC x (tr o.trays x.a) (tr o.trays x.b)
def stO (x : Stp) (o : Off) : Off := if x.kind = 7 then ⟨o.trays, o.totals ++ [totL x.f0 x.f1 x.s0 x.s1 (tr o.trays x.a)]⟩ else ⟨o.trays.set x.to.toNat (dkL x (tr o.trays x.a) (tr o.trays x.b)), o.totals⟩
def dsC (x : Stp) (o : Off) : Int := if stpB x (wO o.trays) then stC x o else 2
def run : Off → List Stp → Off × Nat
 | o, [] => (o, 0)
 | o, x :: r => if dsC x o = 0 then ((run (stO x o) r).1, (run (stO x o) r).2 + 1) else (o, 0)
def okD (w : Nat) (d : List (List Int)) : Prop := deckB d = true ∧ ∀ c, c ∈ d → c.length = w
def okO (w : Nat) (o : Off) : Prop := (1 ≤ w ∧ w ≤ 20) ∧ o.trays.length = 6 ∧ (∀ d, d ∈ o.trays → okD w d) ∧ o.totals.length ≤ 20 ∧ ∀ t, t ∈ o.totals → smallT t
theorem okD_small {w : Nat} {d : List (List Int)} (hw : w ≤ 20) (h : okD w d) : smallC d := by
 have h4 := deck_40 h.1
 exact ⟨by omega, fun c hc => by rw [h.2 c hc]; omega⟩
theorem okO_small {w : Nat} {o : Off} (h : okO w o) : smallO o := by
 obtain ⟨hw, h6, hd, ht, hs⟩ := h
 exact ⟨⟨by omega, fun d hdd => okD_small hw.2 (hd d hdd)⟩, ⟨by omega, hs⟩⟩
theorem wO_or {w : Nat} : ∀ T : List (List (List Int)), (∀ d, d ∈ T → okD w d) → wO T = w ∨ (wO T = 20 ∧ ∀ d, d ∈ T → d.length = 0)
 | [], _ => .inr ⟨rfl, fun d hd => absurd hd (by simp)⟩
 | d :: r, h => by
  unfold wO
  by_cases h0 : d.length = 0
  ·rw [if_pos h0]
   rcases wO_or r fun e he => h e (List.mem_cons_of_mem _ he) with h1 | ⟨h1, h2⟩
   ·exact .inl h1
   ·refine .inr ⟨h1, fun e he => ?_⟩
    rcases List.mem_cons.1 he with rfl | he
    ·exact h0
    ·exact h2 e he
  ·rw [if_neg h0]
   refine .inl ((h d (List.mem_cons_self ..)).2 _ ?_)
   rw [show d.getD 0 [] = d[0]'(by omega) by simp [List.getD, (by omega : 0 < d.length)]]; exact List.getElem_mem _
theorem okD_wid {w : Nat} {d : List (List Int)} (h : okD w d) : widB d = 20 ∧ d.length = 0 ∨ widB d = w ∧ d.length ≠ 0 := by
 unfold widB
 by_cases h0 : d.length = 0
 ·rw [if_pos h0]; exact .inl ⟨rfl, h0⟩
 ·rw [if_neg h0, h.2 (d.getD 0 []) (by rw [show d.getD 0 [] = d[0]'(by omega) by simp [List.getD, (by omega : 0 < d.length)]]; exact List.getElem_mem _)]; exact .inr ⟨rfl, h0⟩
theorem fld_up {a b v w : Int} (h : v ≤ w) (hf : fldB a b v = true) : fldB a b w = true := by
 simp only [fldB, Bool.and_eq_true, decide_eq_true_eq] at hf ⊢
 omega
theorem num_up {a b v w : Int} (h : v ≤ w) (hf : numB a b v = true) : numB a b w = true := by
 unfold numB at hf ⊢
 rw [Bool.and_eq_true] at hf ⊢
 exact ⟨fld_up h hf.1, hf.2⟩
theorem wid_ge {w : Nat} {o : Off} (h : okO w o) {d : List (List Int)} (hd : d ∈ o.trays) : (wO o.trays : Int) ≤ widB d := by
 rcases okD_wid (h.2.2.1 d hd) with ⟨h1, _⟩ | ⟨h1, h2⟩
 ·rcases wO_or o.trays h.2.2.1 with h3 | ⟨h3, _⟩
  ·rw [h1, h3]; have := h.1.2; omega
  ·rw [h1, h3]; omega
 ·rcases wO_or o.trays h.2.2.1 with h3 | ⟨h3, h4⟩
  ·rw [h1, h3]; omega
  ·exact absurd (h4 d hd) h2
theorem wO_in {w : Nat} {o : Off} (h : okO w o) : inB (wO o.trays : Int) 1 20 = true := by
 have := h.1
 rcases wO_or o.trays h.2.2.1 with h3 | ⟨h3, _⟩ <;> rw [h3] <;> simp [inB] <;> omega
structure StpOk (x : Stp) (o : Off) : Prop where
 k : 1 ≤ x.kind ∧ x.kind ≤ 7
 a : 0 ≤ x.a ∧ x.a < (o.trays.length : Int)
 b : 0 ≤ x.b ∧ x.b < (o.trays.length : Int)
 to : 0 ≤ x.to ∧ x.to < (o.trays.length : Int)
 f : fldB x.f0 x.f1 (wO o.trays) = true
 n : x.kind = 7 → numB x.s0 x.s1 (wO o.trays) = true
theorem stp_ok {w : Nat} {o : Off} (h : okO w o) {x : Stp} (hx : stpB x (wO o.trays) = true) : StpOk x o := by
 unfold stpB at hx
 simp only [Bool.and_eq_true] at hx
 obtain ⟨hk, ha, hb, ht, hf, _, hr⟩ := hx
 simp only [inB, Bool.and_eq_true, decide_eq_true_eq] at hk ha hb ht
 have h6 := h.2.1
 refine ⟨hk, ⟨by omega, by omega⟩, ⟨by omega, by omega⟩, ⟨by omega, by omega⟩, hf, fun h7 => ?_⟩
 rw [if_pos (by simp [h7])] at hr
 simp only [Bool.and_eq_true] at hr
 exact hr.2.1
theorem okD_of {w : Nat} {a b m : List (List Int)} (ha : okD w a) (hb : okD w b) (hm : ∀ c, c ∈ m → c ∈ a ∨ c ∈ b) (hl : m.length ≤ 40) : okD w m := by
 have hw : ∀ c, c ∈ m → c.length = w := fun c hc => (hm c hc).elim (ha.2 c) (hb.2 c)
 have hc1 : ∀ c, c ∈ m → cardB c = true := fun c hc => by
  have h1 := ha.1
  have h2 := hb.1
  simp only [deckB, Bool.and_eq_true, List.all_eq_true, decide_eq_true_eq] at h1 h2
  rcases hm c hc with h | h
  ·exact (h1.1 c h).1
  ·exact (h2.1 c h).1
 refine ⟨?_, hw⟩
 simp only [deckB, Bool.and_eq_true, List.all_eq_true, decide_eq_true_eq]
 refine ⟨fun c hc => ⟨hc1 c hc, ?_⟩, hl⟩
 have h0 : 0 < m.length := List.length_pos_of_mem hc
 have hm0 : m.getD 0 [] ∈ m := by rw [show m.getD 0 [] = m[0] by simp [List.getD, h0]]; exact List.getElem_mem _
 rw [hw c hc, hw _ hm0]
theorem fogL_mem {fr to : Int} {l : List (List Int)} : ∀ c, c ∈ fogL fr to l → c ∈ l := by
 intro c hc
 unfold fogL at hc
 obtain ⟨i, hi, rfl⟩ := List.mem_map.1 hc
 exact mem_get (grpTo_inO i hi)
theorem fogL_len (fr to : Int) (l : List (List Int)) : (fogL fr to l).length ≤ l.length := by
 unfold fogL; rw [List.length_map]; exact grpTo_len fr to l l.length
theorem flt_mem {q : List Int → Bool} {l : List (List Int)} : ∀ c, c ∈ flt q l → c ∈ l := fun c hc => (List.mem_filter.1 hc).1
theorem matMem {fr to : Int} {l o : List (List Int)} {e : Bool} : ∀ c, c ∈ mat fr to l o e → c ∈ l := by unfold mat; exact flt_mem
theorem matLn (fr to : Int) (l o : List (List Int)) (e : Bool) : (mat fr to l o e).length ≤ l.length := by unfold mat; exact flt_len _ _
theorem mgC_len {fr to : Int} {a b : List (List Int)} (h : mgC fr to a b = 0) : a.length + b.length ≤ 40 := by
 unfold mgC at h
 split at h
 ·split at h
  ·cases h
  ·split at h
   ·split at h
    ·cases h
    ·omega
   ·cases h
 ·contradiction
theorem dk_ok {w : Nat} {x : Stp} {a b : List (List Int)} (ha : okD w a) (hb : okD w b) (fa : fldB x.f0 x.f1 (widB a) = true) (fb : fldB x.f0 x.f1 (widB b) = true) (hc : dkC x a b = 0) : okD w (dkL x a b) := by
 have oa := okF_of ha.1 fa
 have ob := okF_of hb.1 fb
 have la := deck_40 ha.1
 have lb := deck_40 hb.1
 unfold dkC at hc
 unfold dkL
 by_cases h1 : x.kind = 1
 ·rw [if_pos h1] at hc ⊢
  exact okD_of ha hb (fun c h => .inl (srtL_mem oa la c h)) (by rw [srtL_len]; exact la)
 rw [if_neg h1] at hc ⊢
 by_cases h2 : x.kind = 2
 ·rw [if_pos h2] at hc ⊢
  have hl := mgC_len hc
  have hab : (a ++ b).length ≤ 40 := by rw [List.length_append]; exact hl
  refine okD_of ha hb (fun c h => ?_) (by rw [srtL_len]; exact hab)
  exact List.mem_append.1 (srtL_mem (fun c h => (List.mem_append.1 h).elim (oa c) (ob c)) hab c h)
 rw [if_neg h2] at hc ⊢
 by_cases h5 : x.kind = 5
 ·rw [if_pos h5]
  exact okD_of ha hb (fun c h => .inl (flt_mem c h)) (Nat.le_trans (flt_len _ _) la)
 rw [if_neg h5]
 by_cases h6 : x.kind = 6
 ·rw [if_pos h6]
  exact okD_of ha hb (fun c h => .inl (fogL_mem c h)) (Nat.le_trans (fogL_len _ _ _) la)
 rw [if_neg h6]
 split
 ·exact okD_of ha hb (fun c h => .inl (matMem c h)) (Nat.le_trans (matLn _ _ _ _ _) la)
 ·exact okD_of ha hb (fun c h => .inl (matMem c h)) (Nat.le_trans (matLn _ _ _ _ _) la)
theorem totL_small {fr to sf st : Int} {l : List (List Int)} {w : Nat} (hw : w ≤ 20) (h : okD w l) : smallT (totL fr to sf st l) := by
 have h4 := deck_40 h.1
 have hg := grpL_len fr to l
 refine ⟨by unfold totL; rw [List.length_map]; omega, fun t ht => ?_⟩
 unfold totL at ht
 obtain ⟨g, hgm, rfl⟩ := List.mem_map.1 ht
 obtain ⟨g0, _, gm⟩ := grpL_mem hgm
 have hc : g.getD 0 [] ∈ l := gm _ (by rw [show g.getD 0 [] = g[0] by simp [List.getD, g0]]; exact List.getElem_mem _)
 show (txt (fH fr to (g.getD 0 []))).size ≤ 1048576
 rw [txt_size]
 unfold fH
 rw [List.length_drop, List.length_take, h.2 _ hc]
 omega
theorem st_ok {w : Nat} {o : Off} {x : Stp} (h : okO w o) (hx : StpOk x o) (hc : stC x o = 0) : okO w (stO x o) := by
 have h6 := h.2.1
 have ma := tr_mem hx.a
 have mb := tr_mem hx.b
 unfold stC at hc
 unfold stO
 by_cases h7 : x.kind = 7
 ·rw [if_pos h7] at hc ⊢
  refine ⟨h.1, h6, h.2.2.1, ?_, fun t ht => ?_⟩
  ·rw [List.length_append, List.length_singleton]
   split at hc
   ·cases hc
   ·omega
  ·rcases List.mem_append.1 ht with ht | ht
   ·exact h.2.2.2.2 t ht
   ·rw [List.mem_singleton.1 ht]; exact totL_small h.1.2 (h.2.2.1 _ ma)
 ·rw [if_neg h7] at hc ⊢
  refine ⟨h.1, by simpa using h6, fun d hd => ?_, h.2.2.2.1, h.2.2.2.2⟩
  rcases List.mem_or_eq_of_mem_set hd with hd | rfl
  ·exact h.2.2.1 d hd
  ·exact dk_ok (h.2.2.1 _ ma) (h.2.2.1 _ mb) (fld_up (wid_ge h ma) hx.f) (fld_up (wid_ge h mb) hx.f) hc
theorem ds_ok {w : Nat} {o : Off} {x : Stp} (h : okO w o) (hc : dsC x o = 0) : okO w (stO x o) := by
 unfold dsC at hc
 split at hc
 ·rename_i hx; exact st_ok h (stp_ok h hx) hc
 ·cases hc
end
section
attribute [local irreducible] Vs.Fn stpB stC stO ctlB ctlT chOK areCh chTo chAt l03 chB rk cd3 chI stp stpTo
def fbC (fr to : Int) (o : Off) (n : Nat) : Int := if offB o then (if numB fr to (wO o.trays) && decide ((n : Int) ≤ 20) then 0 else 2) else 1
def exC (fr to : Int) (o : Off) : Int := if offB o then (if numB fr to (wO o.trays) then 0 else 2) else 1
theorem off_len {o : Off} (h : offB o = true) : o.trays.length = 6 := by
 simp only [offB, Bool.and_eq_true, beq_iff_eq] at h
 omega
theorem off_tray {o : Off} (h : offB o = true) {i : Nat} (hi : i < 6) : offI o i = true := by
 have h6 := off_len h
 simp only [offB, Bool.and_eq_true] at h
 have h1 := h.1
 rw [rall_true] at h1
 exact h1 i (by omega)
theorem l18Code (fr to : Int) (o : Off) (ho : smallO o) : Fz F.s_l18Code [.ro (cO o), .agg (cFd fr to)] (.v (.int .i64 (exC fr to o))) := by
 refine fn0 Cd.s_l18Code_k fun X => ?_
 repeat' first
  |simp -dsimp only [go_sem, cFd, cO]
  |refine Br.mk ?_ ?_<;>intro h<;>try simp -dsimp only[h]
  |refine CallK.c (by first|exact l15Ok o ho|exact l15Width o ho|exact l18Field fr to _) ?_
  |refine and_c ?_
  |fail
 all_goals (simp_all [exC])
theorem off_ok {o : Off} (h : offB o = true) (hs : smallO o) : okO (wO o.trays) o := by
 have h6 := off_len h
 have hin : ∀ d, d ∈ o.trays → okD (wO o.trays) d := by
  intro d hd
  obtain ⟨i, hi, rfl⟩ := List.mem_iff_getElem.1 hd
  have h1 := off_tray h (i := i) (by omega)
  rw [offI, getD_lt hi] at h1
  simp only [Bool.and_eq_true, Bool.or_eq_true, beq_iff_eq] at h1
  refine ⟨h1.1, fun c hc => ?_⟩
  have h0 : o.trays[i].length ≠ 0 := by intro e; rw [List.eq_nil_of_length_eq_zero e] at hc; cases hc
  rw [← h1.2.resolve_left h0]
  have hd := h1.1
  simp only [deckB, Bool.and_eq_true, List.all_eq_true, decide_eq_true_eq] at hd
  exact (hd.1 c hc).2
 have hw : 1 ≤ wO o.trays ∧ wO o.trays ≤ 20 := by
  have key : ∀ l : List (List (List Int)), (∀ d, d ∈ l → deckB d = true) → 1 ≤ wO l ∧ wO l ≤ 20 := by
   intro l
   induction l with
   | nil => intro _; simp [wO]
   | cons d r ih =>
    intro h
    rw [wO]
    split
    ·exact ih fun e he => h e (by simp [he])
    ·rename_i h0
     have hd := h d (by simp)
     have h1 : 0 < d.length := by omega
     simp only [deckB, Bool.and_eq_true, List.all_eq_true, decide_eq_true_eq] at hd
     have hc := (hd.1 d[0] (List.getElem_mem h1)).1
     simp only [cardB, inB, Bool.and_eq_true, List.all_eq_true, decide_eq_true_eq] at hc
     rw [getD_lt h1]
     omega
  exact key _ fun d hd => (hin d hd).1
 simp only [offB, Bool.and_eq_true, decide_eq_true_eq] at h
 exact ⟨hw, h6, hin, by omega, hs.2.2⟩
theorem ok_okP {o : Off} {w : Nat} (h : okO w o) {fr to : Int} (hn : numB fr to w = true) {d : List (List Int)} (hd : d ∈ o.trays) : ∀ c, c ∈ d → okP fr to c := by
 intro c hc
 obtain ⟨h1, h2⟩ := h.2.2.1 d hd
 have hcl := h2 c hc
 simp only [deckB, Bool.and_eq_true, List.all_eq_true, decide_eq_true_eq] at h1
 have hcb := (h1.1 c hc).1
 simp only [cardB, inB, Bool.and_eq_true, List.all_eq_true, decide_eq_true_eq] at hcb
 simp only [numB, fldB, Bool.and_eq_true, decide_eq_true_eq] at hn
 rw [← hcl] at hn
 obtain ⟨⟨g1, g2, g3⟩, g4⟩ := hn
 obtain ⟨h5, h6, h7⟩ := hcb
 have hw : W (to - fr) = to - fr := wrap_in (by omega) (by omega)
 rw [hw] at g4
 exact ⟨g1, g2, g3, g4, by omega, fun x hx => h5 x hx⟩
def tlK (x : Stp) : Int := if x.kind = 7 then x.a else x.to
def tlT (x : Stp) (o : Off) : List (List Int) := tr o.trays (tlK x)
def alg (fr to : Int) : Off → List Stp → List (Int × Int × Int) × Bool
 | _, [] => ([], true)
 | o, x :: r => if dsC x o = 0 then
   (if ctlB fr to (tlT x (stO x o)) then (ctlT fr to (tlT x (stO x o)) :: (alg fr to (stO x o) r).1, (alg fr to (stO x o) r).2) else ([], false))
  else ([], true)
def algI (fr to : Int) (o : Off) (fl : List Stp) (i : Nat) (o' : Off) (acc : List (Int × Int × Int)) : Prop :=
 (alg fr to o fl).2 = (alg fr to o' (fl.drop i)).2 ∧ ((alg fr to o fl).2 = true → (alg fr to o fl).1 = acc ++ (alg fr to o' (fl.drop i)).1) ∧ acc.length = i
theorem algI_zero (fr to : Int) (o : Off) (fl : List Stp) : algI fr to o fl 0 o [] := ⟨rfl, fun _ => rfl, rfl⟩
theorem algI_step {fr to : Int} {o o' : Off} {fl : List Stp} {i : Nat} {acc : List (Int × Int × Int)} (hlt : i < fl.length) (h : algI fr to o fl i o' acc) (hd : dsC fl[i] o' = 0) (hb : ctlB fr to (tlT fl[i] (stO fl[i] o')) = true) :
  algI fr to o fl (i + 1) (stO fl[i] o') (acc ++ [ctlT fr to (tlT fl[i] (stO fl[i] o'))]) := by
 obtain ⟨h1, h2, h3⟩ := h
 rw [List.drop_eq_getElem_cons hlt, alg, if_pos hd, if_pos hb] at h1 h2
 refine ⟨h1, fun h => ?_, by simp [h3]⟩
 rw [h2 h, List.append_assoc]; rfl
theorem algI_bad {fr to : Int} {o o' : Off} {fl : List Stp} {i : Nat} {acc : List (Int × Int × Int)} (hlt : i < fl.length) (h : algI fr to o fl i o' acc) (hd : dsC fl[i] o' = 0) (hb : ctlB fr to (tlT fl[i] (stO fl[i] o')) = false) : (alg fr to o fl).2 = false := by
 obtain ⟨h1, h2, h3⟩ := h
 rw [List.drop_eq_getElem_cons hlt, alg, if_pos hd, if_neg (by rw [hb]; simp)] at h1
 exact h1
theorem algI_stop {fr to : Int} {o o' : Off} {fl : List Stp} {i : Nat} {acc : List (Int × Int × Int)} (hlt : i < fl.length) (h : algI fr to o fl i o' acc) (hd : dsC fl[i] o' ≠ 0) : alg fr to o fl = (acc, true) := by
 obtain ⟨h1, h2, h3⟩ := h
 rw [List.drop_eq_getElem_cons hlt, alg, if_neg hd] at h1 h2
 have := h2 h1
 rw [List.append_nil] at this
 exact Prod.ext this h1
theorem algI_end {fr to : Int} {o o' : Off} {fl : List Stp} {acc : List (Int × Int × Int)} (h : algI fr to o fl fl.length o' acc) : alg fr to o fl = (acc, true) := by
 obtain ⟨h1, h2, h3⟩ := h
 rw [List.drop_length, alg] at h1 h2
 have := h2 h1
 rw [List.append_nil] at this
 exact Prod.ext this h1
def fbI : List (Int × Int × Int) → List (Int × Int × Int) → Nat → Int
 | _, [], _ => -1
 | [], _ :: _, i => i
 | a :: r, b :: s, i => if a = b then fbI r s (i + 1) else i
end
section
attribute [local irreducible] Vs.Fn keyC mgC selC mtC srtL fogL mat allN dkC dkL totB totL stpB wO chOK areCh chTo chAt l03 chB rk cd3 chI stp stpTo
def noO : AV := .agg [.v (.slice none 0 0), .v (.slice none 0 0)]
def dsV (x : Stp) (o : Off) : AV := if dsC x o = 0 then .agg (cO (stO x o)) else noO
theorem E_setD (m : List (List (List Int))) (i : Nat) (d : List (List Int)) : (E cD m).set i [.sl 1 (E cC d)] = E cD (m.set i d) := by simp [E, List.map_set, cD]
theorem E_snT (m : List (List Tot)) (t : List Tot) : E cTs m ++ [[.sl 2 (E cT t)]] = E cTs (m ++ [t]) := by rw [E_append]; rfl
theorem totV_ok {fr to sf st : Int} {l : List (List Int)} (h : totB fr to sf st l = true) : totV fr to sf st l = .sl 2 (E cT (totL fr to sf st l)) := by unfold totV; rw [if_pos h]; rfl
theorem totV_no {fr to sf st : Int} {l : List (List Int)} (h : totB fr to sf st l = false) : totV fr to sf st l = .v (.slice none 0 0) := by unfold totV; rw [h]; rfl
theorem dkV_ok {x : Stp} {a b : List (List Int)} (h : dkC x a b = 0) : dkV x a b = .sl 1 (E cC (dkL x a b)) := by unfold dkV; rw [if_pos h]
theorem dkV_no {x : Stp} {a b : List (List Int)} (h : dkC x a b ≠ 0) : dkV x a b = .v (.slice none 0 0) := by unfold dkV; rw [if_neg h]
theorem ds_dk {x : Stp} {o : Off} (hv : stpB x (wO o.trays) = true) (h7 : x.kind ≠ 7) : dsC x o = dkC x (tr o.trays x.a) (tr o.trays x.b) := by unfold dsC stC; rw [if_pos hv, if_neg h7]
theorem st_dk {x : Stp} {o : Off} (h7 : x.kind ≠ 7) : stO x o = ⟨o.trays.set x.to.toNat (dkL x (tr o.trays x.a) (tr o.trays x.b)), o.totals⟩ := by unfold stO; rw [if_neg h7]
theorem ds_tot {x : Stp} {o : Off} (hv : stpB x (wO o.trays) = true) (h7 : x.kind = 7) : dsC x o = if 20 ≤ o.totals.length then 5 else if totB x.f0 x.f1 x.s0 x.s1 (tr o.trays x.a) then 0 else 8 := by unfold dsC stC; rw [if_pos hv, if_pos h7]
theorem st_tot {x : Stp} {o : Off} (h7 : x.kind = 7) : stO x o = ⟨o.trays, o.totals ++ [totL x.f0 x.f1 x.s0 x.s1 (tr o.trays x.a)]⟩ := by unfold stO; rw [if_pos h7]
attribute [local go_sem] Int.reduceBEq Int.reduceBNe cC cFd E_len List.replicate_succ List.replicate_zero List.flatten_cons List.flatten_nil List.cons_append List.nil_append List.set_cons_zero List.set_cons_succ List.length_cons List.length_nil List.length_set List.mem_singleton List.mem_cons List.not_mem_nil or_false false_or Vs.Name.t.injEq List.getD_cons_zero List.getD_cons_succ in
theorem doStep (x : Stp) (hz : x.text.size ≤ 1048576) (o : Off) (w : Nat) (ho : okO w o) : Fz F.i_doStep [.agg (cO o), .agg (cS x)] (.tup [dsV x o, .v (.int .i64 (dsC x o))]) := by
 have hso := okO_small ho
 have OC := officeColumns o hso
 have NO := newOffice o hso
 have VS := impl_ValidStep x (wO o.trays : Int) hz
 rw [wO_in ho, Bool.true_and] at VS
 have hd6 := ho.2.1
 have ht20 := ho.2.2.2.1
 cases hv : stpB x (wO o.trays)
 ·rw [hv] at VS
  rw [show dsC x o = 2 by unfold dsC; rw [hv]; rfl, show dsV x o = noO by unfold dsV dsC; rw [hv]; rfl]
  refine fn0 Cd.i_doStep_k fun X => ?_
  repeat' first
   |simp -dsimp only [go_sem, noO, cO, cS]
   |refine Br.mk ?_ ?_<;>intro h<;>try simp -dsimp only[h]
   |refine CallK.c (by first|exact VS|exact OC) ?_
   |refine and_c ?_
   |fail
  all_goals first | omega | exact ⟨_, _, rfl, rfl⟩
 rw [hv] at VS
 have hx := stp_ok ho hv
 have ma := tr_mem hx.a
 have mb := tr_mem hx.b
 have ga := tr_at hx.a
 have gb := tr_at hx.b
 have a0 := hx.a.1
 have a1 := hx.a.2
 have gt := tr_at hx.to
 have t0 := hx.to.1
 have t1 := hx.to.2
 have hla : (E cD o.trays).length = o.trays.length := E_len _
 have hlt : (E cTs o.totals).length = o.totals.length := E_len _
 have hk1 : (E cD o.trays).take o.trays.length = E cD o.trays := List.take_of_length_le (by omega)
 have hk2 : (E cTs o.totals).take o.totals.length = E cTs o.totals := List.take_of_length_le (by omega)
 by_cases h7 : x.kind = 7
 ·have e7 : (x.kind == 7) = true := beq_iff_eq.2 h7
  rw [show dsV x o = if dsC x o = 0 then .agg (cO (stO x o)) else noO from rfl, ds_tot hv h7, st_tot h7]
  by_cases h20 : 20 ≤ o.totals.length
  ·have e20 : ((o.totals.length : Int) == 20) = true := beq_iff_eq.2 (by omega)
   rw [if_pos h20]
   rw [if_neg (by decide)]
   refine fn0 Cd.i_doStep_k fun X => ?_
   repeat' first
    |simp -dsimp only [go_sem, e7, e20, noO, cO, cS]
    |refine Br.mk ?_ ?_<;>intro h<;>try simp -dsimp only[h]
    |refine CallK.own (by first|exact NO) rfl ?_
    |refine CallK.c (by first|exact VS|exact OC) ?_
    |refine and_c ?_
    |fail
   all_goals first | omega | exact ⟨_, _, rfl, rfl⟩
  ·have e20 : ((o.totals.length : Int) == 20) = false := beq_eq_false_iff_ne.2 (by omega)
   rw [if_neg h20]
   have da := ho.2.2.1 _ ma
   have TO := totalsOf (tr o.trays x.a) x.f0 x.f1 x.s0 x.s1 (okF_of da.1 (fld_up (wid_ge ho ma) hx.f)) (okP_of da.1 (num_up (wid_ge ho ma) (hx.n h7))) (okD_small ho.1.2 da).1
   cases hb : totB x.f0 x.f1 x.s0 x.s1 (tr o.trays x.a)
   ·rw [totV_no hb, hb] at TO
    simp only [Bool.false_eq_true, if_false] at TO
    rw [if_neg (by decide), if_neg (by decide)]
    refine fn0 Cd.i_doStep_k fun X => ?_
    repeat' first
     |simp -dsimp only [go_sem, e7, e20, noO, ga, cO, cS]
     |refine Br.mk ?_ ?_<;>intro h<;>try simp -dsimp only[h]
     |refine CallK.own (by first|exact NO) rfl ?_
     |refine CallK.c (by first|exact VS|exact OC|exact TO) ?_
     |refine and_c ?_
     |fail
    all_goals first | omega | exact ⟨_, _, rfl, rfl⟩
   ·rw [totV_ok hb, hb] at TO
    simp only [if_true] at TO
    rw [if_pos rfl, if_pos rfl]
    have hsn := E_snT o.totals (totL x.f0 x.f1 x.s0 x.s1 (tr o.trays x.a))
    have hk3 : (E cTs (o.totals ++ [totL x.f0 x.f1 x.s0 x.s1 (tr o.trays x.a)])).take (o.totals.length + 1) = E cTs (o.totals ++ [totL x.f0 x.f1 x.s0 x.s1 (tr o.trays x.a)]) := List.take_of_length_le (by rw [E_len, List.length_append]; exact Nat.le_refl _)
    refine fn0 Cd.i_doStep_k fun X => ?_
    repeat' first
     |simp -dsimp only [go_sem, e7, e20, ga, hla, hlt, hsn, hk1, hk2, hk3, cO, cS]
     |refine Br.mk ?_ ?_<;>intro h<;>try simp -dsimp only[h]
     |refine CallK.own (by first|exact NO) rfl ?_
     |refine CallK.c (by first|exact VS|exact OC|exact TO) ?_
     |refine and_c ?_
     |fail
    all_goals first | omega | exact ⟨_, _, rfl, rfl⟩
 ·have e7 : (x.kind == 7) = false := beq_eq_false_iff_ne.2 h7
  rw [show dsV x o = if dsC x o = 0 then .agg (cO (stO x o)) else noO from rfl, ds_dk hv h7, st_dk h7]
  have DK := impl_deckOf x hz o.trays hso.1.2 hso.1.1 hx.a hx.b o.totals
  by_cases h0 : dkC x (tr o.trays x.a) (tr o.trays x.b) = 0
  ·rw [dkV_ok h0] at DK
   rw [h0] at DK ⊢
   rw [if_pos rfl]
   generalize dkL x (tr o.trays x.a) (tr o.trays x.b) = D at *
   have hst := E_setD o.trays x.to.toNat D
   have hk3 : (E cD (o.trays.set x.to.toNat D)).take o.trays.length = E cD (o.trays.set x.to.toNat D) := List.take_of_length_le (by rw [E_len, List.length_set]; exact Nat.le_refl _)
   refine fn0 Cd.i_doStep_k fun X => ?_
   repeat' first
    |simp -dsimp only [go_sem, e7, gt, hla, hlt, hst, hk1, hk2, hk3, cO, cS]
    |refine Br.mk ?_ ?_<;>intro h<;>try simp -dsimp only[h]
    |refine CallK.own (by first|exact NO) rfl ?_
    |refine CallK.c (by first|exact VS|exact OC|exact DK) ?_
    |refine and_c ?_
    |fail
   all_goals first | omega | exact ⟨_, _, rfl, rfl⟩
  ·rw [dkV_no h0] at DK
   rw [if_neg h0]
   have e0 : (dkC x (tr o.trays x.a) (tr o.trays x.b) != 0) = true := by simp [h0]
   generalize dkC x (tr o.trays x.a) (tr o.trays x.b) = c at *
   refine fn0 Cd.i_doStep_k fun X => ?_
   repeat' first
    |simp -dsimp only [go_sem, e7, e0, noO, cO, cS]
    |refine Br.mk ?_ ?_<;>intro h<;>try simp -dsimp only[h]
    |refine CallK.own (by first|exact NO) rfl ?_
    |refine CallK.c (by first|exact VS|exact OC|exact DK) ?_
    |refine and_c ?_
    |fail
   all_goals first | omega | exact ⟨_, _, rfl, rfl⟩
end
end Go.Proofs.YtagejhkjpgephaaGreatDoor
