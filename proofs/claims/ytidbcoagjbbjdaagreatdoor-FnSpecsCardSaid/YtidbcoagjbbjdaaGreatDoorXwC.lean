/- Offices: sizes, copies, comparisons. -/
import Derived.Test.YtidbcoagjbbjdaaGreatDoorVsD
import Derived.Test.YtidbcoagjbbjdaaGreatDoorXwSd
import Derived.Test.YtidbcoagjbbjdaaGreatDoorXuR
import Derived.Test.YtidbcoagjbbjdaaGreatDoorXuD
import Derived.Test.YtidbcoagjbbjdaaGreatDoorVtN
set_option linter.all false
set_option maxHeartbeats 8000000
namespace Go.Proofs.YtidbcoagjbbjdaaGreatDoor
open Go.Vs
section
variable [Vs.Tab 0 Vs.powP]
attribute [local irreducible] Vs.Fn swp swR rot insI insJ mvU mvD smg insS
theorem mem_mvD : ∀ (n k : Nat) (l : List Int), n ≤ k → k < l.length → ∀ x, x ∈ mvD n k l → x ∈ l
 | 0, _, _, _, _, x, h => by unfold mvD at h; exact h
 | n + 1, k, l, hk, hl, x, h => by
  unfold mvD at h
  exact mem_swp (by omega) (by omega) x (mem_mvD n (k - 1) _ (by omega) (by rw [swp_length]; omega) x h)
theorem mem_smg {lt : Int → Int → Bool} : ∀ (f a m b : Nat) (l : List Int), a < m → m < b → b ≤ l.length → ∀ x, x ∈ smg lt f a m b l → x ∈ l
 | 0, _, _, _, _, _, _, _, x, h => by unfold smg at h; exact h
 | f + 1, a, m, b, l, h1, h2, h3, x, h => by
  unfold smg at h
  split at h
  ·have := bs_in (fun h => lt (l.getD h 0) (l.getD a 0)) _ m b (Nat.le_refl _) (by omega)
   exact mem_mvU _ _ _ (by omega) x h
  ·split at h
   ·have := bs_in (fun h => !lt (l.getD m 0) (l.getD h 0)) _ a m (Nat.le_refl _) (by omega)
    exact mem_mvD _ _ _ (by omega) (by omega) x h
   ·dsimp only at h
    generalize hs : bs (fun c => !lt (l.getD ((a + b) / 2 + m - 1 - c) 0) (l.getD c 0)) (if (a + b) / 2 < m then (a + b) / 2 + m - b else a) (if (a + b) / 2 < m then (a + b) / 2 else m) = s at h
    have hsb := bs_in (fun c => !lt (l.getD ((a + b) / 2 + m - 1 - c) 0) (l.getD c 0)) _ (if (a + b) / 2 < m then (a + b) / 2 + m - b else a) (if (a + b) / 2 < m then (a + b) / 2 else m) (Nat.le_refl _) (by split <;> omega)
    rw [hs] at hsb
    have k1 : a ≤ s ∧ s ≤ m ∧ s ≤ (a + b) / 2 ∧ (a + b) / 2 + m - s ≤ b := by
     split at hsb <;> omega
    have r1 : ∀ x, x ∈ (if s < m ∧ m < (a + b) / 2 + m - s then rot m ((a + b) / 2 + m - s - s) (m - s) ((a + b) / 2 + m - s - m) l else l) → x ∈ l := by
     intro x hx
     split at hx
     ·exact mem_rot m _ _ _ l (by omega) (by omega) x hx
     ·exact hx
    have len1 : (if s < m ∧ m < (a + b) / 2 + m - s then rot m ((a + b) / 2 + m - s - s) (m - s) ((a + b) / 2 + m - s - m) l else l).length = l.length := by
     split
     ·rw [rot_length]
     ·rfl
    generalize (if s < m ∧ m < (a + b) / 2 + m - s then rot m ((a + b) / 2 + m - s - s) (m - s) ((a + b) / 2 + m - s - m) l else l) = l1 at h r1 len1
    have r2 : ∀ x, x ∈ (if a < s ∧ s < (a + b) / 2 then smg lt f a s ((a + b) / 2) l1 else l1) → x ∈ l1 := by
     intro x hx
     split at hx
     ·rename_i hc
      exact mem_smg f a s _ l1 hc.1 hc.2 (by omega) x hx
     ·exact hx
    have len2 : (if a < s ∧ s < (a + b) / 2 then smg lt f a s ((a + b) / 2) l1 else l1).length = l1.length := by
     split
     ·rw [smg_length]
     ·rfl
    generalize (if a < s ∧ s < (a + b) / 2 then smg lt f a s ((a + b) / 2) l1 else l1) = l2 at h r2 len2
    split at h
    ·rename_i hc
     exact r1 x (r2 x (mem_smg f _ _ b l2 hc.1 hc.2 (by omega) x h))
    ·exact r1 x (r2 x h)
theorem symG1 (g : FuncId) (caps : List AV) (hcaps : cellsB caps = true) (cf : Int → Int → Int) (D : Int → Prop) (hc : CmpOK Tryz.prog g caps cf D) (l : List Int) (hD : ∀ x, x ∈ l → D x) (a m b f : Nat) (hl : l.length ≤ 1048576) (ham : a + 1 < m) (hmb : m + 1 < b) (hb : b ≤ l.length) (hf : b - a ≤ f + 1)
  (mid : Nat) (hmid : mid = (a + b) / 2) (hcd : mid < m)
  (IH : ∀ (l' : List Int), l'.length = l.length → (∀ x, x ∈ l' → D x) → ∀ a' m' b' : Nat, a' < m' → m' < b' → b' ≤ l.length → b' - a' ≤ f →
    Vs.Fn Tryz.prog F.symMerge_int64_ [.arr 1 (E cI l') false] [.loc (.b 0) 0 l.length, .v (.int .i64 (a' : Nat)), .v (.int .i64 (m' : Nat)), .v (.int .i64 (b' : Nat)), .fn g caps] (.tup []) [some (.arr 1 (E cI (smg (ltf cf) f a' m' b' l')) false)]) :
  Vs.Fn Tryz.prog F.symMerge_int64_ [.arr 1 (E cI l) false] [.loc (.b 0) 0 l.length, .v (.int .i64 (a : Nat)), .v (.int .i64 (m : Nat)), .v (.int .i64 (b : Nat)), .fn g caps] (.tup [])
   [some (.arr 1 (E cI (smg (ltf cf) (f + 1) a m b l)) false)] := by
 have w1 := subN (a := m) (b := a) (by omega) (by omega)
 have w2 := subN (a := b) (b := m) (by omega) (by omega)
 have w3 := addN (a := a) (b := b) (by omega)
 have w4 := half (a := a) (b := b) (by omega)
 rw [← hmid] at w4
 have w5 := addN (a := mid) (b := m) (by omega)
 have w6 := sub1 (a := mid + m) (by omega) (by omega)
 have w7 : mid + m ≥ b → IntKind.i64.wrap (((mid + m : Nat) : Int) - (b : Int)) = ((mid + m - b : Nat) : Int) := fun h => subN h (by omega)
 have hll : (E cI l).length = l.length := E_len ..
 have e28 : (((m - a : Nat) : Int) == 1) = false := beq_eq_false_iff_ne.2 (by omega)
 have e29 : (((b - m : Nat) : Int) == 1) = false := beq_eq_false_iff_ne.2 (by omega)
 have e30 : decide ((m : Int) > (mid : Int)) = true := decide_eq_true (by omega)
 have w7a := w7 (by omega)
 obtain ⟨s, hs⟩ : ∃ s, s = bs (fun c => !ltf cf (l.getD (mid + m - 1 - c) 0) (l.getD c 0)) (mid + m - b) (mid) := ⟨_, rfl⟩
 have hsb := bs_in (fun c => !ltf cf (l.getD (mid + m - 1 - c) 0) (l.getD c 0)) _ (mid + m - b) (mid) (Nat.le_refl _) (by omega)
 rw [← hs] at hsb
 have hlh : a ≤ s ∧ s ≤ m ∧ s ≤ mid ∧ mid + m - s ≤ b ∧ mid < b := by omega
 obtain ⟨T, hT⟩ : ∃ T, T = smg (ltf cf) (f + 1) a m b l := ⟨_, rfl⟩
 have hT2 : T = if mid < mid + m - s ∧ mid + m - s < b then smg (ltf cf) f mid (mid + m - s) b (if a < s ∧ s < mid then smg (ltf cf) f a s mid (if s < m ∧ m < mid + m - s then rot m (mid + m - s - s) (m - s) (mid + m - s - m) l else l) else (if s < m ∧ m < mid + m - s then rot m (mid + m - s - s) (m - s) (mid + m - s - m) l else l)) else (if a < s ∧ s < mid then smg (ltf cf) f a s mid (if s < m ∧ m < mid + m - s then rot m (mid + m - s - s) (m - s) (mid + m - s - m) l else l) else (if s < m ∧ m < mid + m - s then rot m (mid + m - s - s) (m - s) (mid + m - s - m) l else l)) := by
  rw [hT, smg, if_neg (by omega), if_neg (by omega)]
  dsimp only
  rw [← hmid]
  simp only [if_pos hcd]
  rw [← hs]
 rw [← hT]
 have hDr : ∀ x, x ∈ rot m (mid + m - s - s) (m - s) (mid + m - s - m) l → D x := fun x hx => hD x (mem_rot m _ _ _ l (by omega) (by omega) x hx)
 have hrl : (rot m (mid + m - s - s) (m - s) (mid + m - s - m) l).length = l.length := rot_length ..
 refine Cd.symMerge_int64__k.o.fn Tryz.mixed (hin := [.arr 1 (E cI l) false]) _ _ [.b 0] [.arr 1 (E cI T) false] Cd.symMerge_int64__k.n Cd.symMerge_int64__k.r rfl (by simp) rfl (by simp) fun X => ?_
 unfold Cd.symMerge_int64_
 simp -dsimp only [go_sem, w1, w2, w3, w4, w5, w6, e28, e29, e30, hll, w7a]
 refine ⟨by omega, ?_⟩
 refine LoopK.at dM (X := { zz : Nat × Nat // ((mid + m - b) ≤ zz.1 ∧ zz.1 ≤ zz.2 ∧ zz.2 ≤ (mid)) ∧ bs (fun c => !ltf cf (l.getD (mid + m - 1 - c) 0) (l.getD c 0)) zz.1 zz.2 = bs (fun c => !ltf cf (l.getD (mid + m - 1 - c) 0) (l.getD c 0)) ((mid + m - b)) ((mid)) }) (fun zz => [(20, .v (.int .i64 zz.1.1)), (21, .v (.int .i64 zz.1.2))]) (fun _ => []) (fun zz => zz.1.2 - zz.1.1) ⟨((mid + m - b), (mid)), ⟨by dsimp only; omega, by dsimp only; omega, by dsimp only; omega⟩, rfl⟩ ?_ ?_
 ·exact le0
 ·rintro ⟨⟨i, j⟩, ⟨hi0, hij, hj0⟩, hr⟩
  dsimp only at hi0 hij hj0 hr
  have wij := addN (a := i) (b := j) (by omega)
  have whf := half (a := i) (b := j) (by omega)
  simp -dsimp only [go_sem, wij, hll]
  refine Br.mk (fun hlt => ?_) fun hlt => ?_
  ·have hlt2 : i < j := by simpa using hlt
   obtain ⟨h, hh⟩ : ∃ h, h = (i + j) / 2 := ⟨_, rfl⟩
   rw [← hh] at whf
   have wh1 := add1 (a := h) (by omega)
   have wph := subN (a := mid + m - 1) (b := h) (by omega) (by omega)
   have hcc := hc _ _ (getD_mem hD (i := mid + m - 1 - h) (by omega)) (getD_mem hD (i := h) (by omega))
   have g1 := cI_getD (m := l) (j := h) (by omega)
   have g2 := cI_getD (m := l) (j := mid + m - 1 - h) (by omega)
   by_cases hl2 : cf (l.getD (mid + m - 1 - h) 0) (l.getD h 0) < 0
   ·have e2 : decide (cf (l.getD (mid + m - 1 - h) 0) (l.getD h 0) < 0) = true := decide_eq_true hl2
    rw [bs_no _ hlt2 (by rw [← hh]; show (!decide (cf (l.getD (mid + m - 1 - h) 0) (l.getD h 0) < 0)) = false; rw [e2]; rfl), ← hh] at hr
    repeat' first|simp -dsimp only [go_sem, wij, whf, wh1, wph, g1, g2, e2, hll, Bool.not_true, Bool.not_false, conv_cells hcaps _ 6, conv_cells hcaps _ 7, List.set_cons_zero, List.length_cons, List.length_nil, List.getElem?_cons_zero, List.flatMap_cons, List.flatMap_nil, cellN, topN, nestN, List.getD_cons_zero, List.append_nil, List.nil_append, List.cons_append]|apply Br.mk<;>intro h<;>try simp -dsimp only[h]|refine CallK.c (by first|exact hcc) ?_|refine aC ?_|fail
    all_goals first | omega | (exact ⟨⟨(i, h), ⟨by dsimp only; omega, by dsimp only; omega, by dsimp only; omega⟩, hr⟩, by simp [Vs.LeL, Vs.look, Vs.hlook, Vs.sput, Vs.sputs, Vs.hset, Vs.hputs], by simp only; omega⟩)
   ·have e2 : decide (cf (l.getD (mid + m - 1 - h) 0) (l.getD h 0) < 0) = false := decide_eq_false hl2
    rw [bs_yes _ hlt2 (by rw [← hh]; show (!decide (cf (l.getD (mid + m - 1 - h) 0) (l.getD h 0) < 0)) = true; rw [e2]; rfl), ← hh] at hr
    repeat' first|simp -dsimp only [go_sem, wij, whf, wh1, wph, g1, g2, e2, hll, Bool.not_true, Bool.not_false, conv_cells hcaps _ 6, conv_cells hcaps _ 7, List.set_cons_zero, List.length_cons, List.length_nil, List.getElem?_cons_zero, List.flatMap_cons, List.flatMap_nil, cellN, topN, nestN, List.getD_cons_zero, List.append_nil, List.nil_append, List.cons_append]|apply Br.mk<;>intro h<;>try simp -dsimp only[h]|refine CallK.c (by first|exact hcc) ?_|refine aC ?_|fail
    all_goals first | omega | (exact ⟨⟨(h + 1, j), ⟨by dsimp only; omega, by dsimp only; omega, by dsimp only; omega⟩, hr⟩, by simp [Vs.LeL, Vs.look, Vs.hlook, Vs.sput, Vs.sputs, Vs.hset, Vs.hputs], by simp only; omega⟩)
  ·have hge : i = j := by
    have : ¬ i < j := by simpa using hlt
    omega
   subst hge
   rw [bs_done _ (Nat.lt_irrefl _)] at hr
   rw [← hs] at hr
   subst hr
   have we := subN (a := mid + m) (b := i) (by omega) (by omega)
   have d1 : decide ((i : Int) < (m : Int)) = decide (i < m) := by simp
   have d2 : decide ((m : Int) < ((mid + m - i : Nat) : Int)) = decide (i < mid) := by
    have : (m : Int) < ((mid + m - i : Nat) : Int) ↔ i < mid := by omega
    simp only [this]
   have d3 : decide ((a : Int) < (i : Int)) = decide (a < i) := by simp
   have d4 : decide ((i : Int) < (mid : Int)) = decide (i < mid) := by simp
   have d5 : decide ((mid : Int) < ((mid + m - i : Nat) : Int)) = decide (i < m) := by
    have : (mid : Int) < ((mid + m - i : Nat) : Int) ↔ i < m := by omega
    simp only [this]
   have d6 : decide (((mid + m - i : Nat) : Int) < (b : Int)) = decide (mid + m - i < b) := by simp
   have q2 : (m < mid + m - i) = (i < mid) := by apply propext; omega
   have q5 : (mid < mid + m - i) = (i < m) := by apply propext; omega
   simp only [q2, q5] at hT2
   have CR := fun (h1 : i < m) (h2 : i < mid) => rotate g caps hcaps l i m (mid + m - i) hl h1 (by omega) (by omega)
   by_cases A : a < i <;> by_cases B : i < mid <;> by_cases C : i < m <;> by_cases E' : mid + m - i < b
   all_goals
    simp only [A, B, C, E', and_self, and_true, true_and, and_false, false_and, if_true, if_false, decide_true, decide_false] at d1 d2 d3 d4 d5 d6 hT2
    simp -dsimp only [go_sem, we, d1, d2, d3, d4, d5, d6, hll, conv_cells hcaps _ 6, conv_cells hcaps _ 7, List.set_cons_zero, List.length_cons, List.length_nil, List.getElem?_cons_zero, List.flatMap_cons, List.flatMap_nil, cellN, topN, nestN, List.getD_cons_zero, List.append_nil, List.nil_append, List.cons_append]
    refine ⟨?_, fun h => h rfl⟩
    repeat' first|simp -dsimp only [go_sem, we, d1, d2, d3, d4, d5, d6, hll, conv_cells hcaps _ 6, conv_cells hcaps _ 7, List.set_cons_zero, List.length_cons, List.length_nil, List.getElem?_cons_zero, List.flatMap_cons, List.flatMap_nil, cellN, topN, nestN, List.getD_cons_zero, List.append_nil, List.nil_append, List.cons_append]|refine And.intro rfl (CallK.bor (CR C B) rfl ?_)|refine And.intro rfl (CallK.bor (IH _ ?_ ?_ _ _ _ ?_ ?_ ?_ ?_) rfl ?_)|simp -dsimp only [go_sem, we, d1, d2, d3, d4, d5, d6, hll, conv_cells hcaps _ 6, conv_cells hcaps _ 7, List.set_cons_zero, List.length_cons, List.length_nil, List.getElem?_cons_zero, List.flatMap_cons, List.flatMap_nil, cellN, topN, nestN, List.getD_cons_zero, List.append_nil, List.nil_append, List.cons_append]|fail
   all_goals first
    | omega
    | exact hD
    | exact hDr
    | exact hrl
    | rfl
    | (rw [smg_length]; first | exact hrl | rfl)
    | (intro x hx; first | exact hD x (mem_smg _ _ _ _ l (by omega) (by omega) (by omega) x hx) | exact hDr x (mem_smg _ _ _ _ _ (by omega) (by omega) (by rw [hrl]; omega) x hx))
    | (rw [hT2]; exact ⟨_, _, rfl, rfl⟩)
   
theorem symG2 (g : FuncId) (caps : List AV) (hcaps : cellsB caps = true) (cf : Int → Int → Int) (D : Int → Prop) (hc : CmpOK Tryz.prog g caps cf D) (l : List Int) (hD : ∀ x, x ∈ l → D x) (a m b f : Nat) (hl : l.length ≤ 1048576) (ham : a + 1 < m) (hmb : m + 1 < b) (hb : b ≤ l.length) (hf : b - a ≤ f + 1)
  (mid : Nat) (hmid : mid = (a + b) / 2) (hcd : ¬ mid < m)
  (IH : ∀ (l' : List Int), l'.length = l.length → (∀ x, x ∈ l' → D x) → ∀ a' m' b' : Nat, a' < m' → m' < b' → b' ≤ l.length → b' - a' ≤ f →
    Vs.Fn Tryz.prog F.symMerge_int64_ [.arr 1 (E cI l') false] [.loc (.b 0) 0 l.length, .v (.int .i64 (a' : Nat)), .v (.int .i64 (m' : Nat)), .v (.int .i64 (b' : Nat)), .fn g caps] (.tup []) [some (.arr 1 (E cI (smg (ltf cf) f a' m' b' l')) false)]) :
  Vs.Fn Tryz.prog F.symMerge_int64_ [.arr 1 (E cI l) false] [.loc (.b 0) 0 l.length, .v (.int .i64 (a : Nat)), .v (.int .i64 (m : Nat)), .v (.int .i64 (b : Nat)), .fn g caps] (.tup [])
   [some (.arr 1 (E cI (smg (ltf cf) (f + 1) a m b l)) false)] := by
 have w1 := subN (a := m) (b := a) (by omega) (by omega)
 have w2 := subN (a := b) (b := m) (by omega) (by omega)
 have w3 := addN (a := a) (b := b) (by omega)
 have w4 := half (a := a) (b := b) (by omega)
 rw [← hmid] at w4
 have w5 := addN (a := mid) (b := m) (by omega)
 have w6 := sub1 (a := mid + m) (by omega) (by omega)
 have w7 : mid + m ≥ b → IntKind.i64.wrap (((mid + m : Nat) : Int) - (b : Int)) = ((mid + m - b : Nat) : Int) := fun h => subN h (by omega)
 have hll : (E cI l).length = l.length := E_len ..
 have e28 : (((m - a : Nat) : Int) == 1) = false := beq_eq_false_iff_ne.2 (by omega)
 have e29 : (((b - m : Nat) : Int) == 1) = false := beq_eq_false_iff_ne.2 (by omega)
 have e30 : decide ((m : Int) > (mid : Int)) = false := decide_eq_false (by omega)
 obtain ⟨s, hs⟩ : ∃ s, s = bs (fun c => !ltf cf (l.getD (mid + m - 1 - c) 0) (l.getD c 0)) (a) (m) := ⟨_, rfl⟩
 have hsb := bs_in (fun c => !ltf cf (l.getD (mid + m - 1 - c) 0) (l.getD c 0)) _ (a) (m) (Nat.le_refl _) (by omega)
 rw [← hs] at hsb
 have hlh : a ≤ s ∧ s ≤ m ∧ s ≤ mid ∧ mid + m - s ≤ b ∧ mid < b := by omega
 obtain ⟨T, hT⟩ : ∃ T, T = smg (ltf cf) (f + 1) a m b l := ⟨_, rfl⟩
 have hT2 : T = if mid < mid + m - s ∧ mid + m - s < b then smg (ltf cf) f mid (mid + m - s) b (if a < s ∧ s < mid then smg (ltf cf) f a s mid (if s < m ∧ m < mid + m - s then rot m (mid + m - s - s) (m - s) (mid + m - s - m) l else l) else (if s < m ∧ m < mid + m - s then rot m (mid + m - s - s) (m - s) (mid + m - s - m) l else l)) else (if a < s ∧ s < mid then smg (ltf cf) f a s mid (if s < m ∧ m < mid + m - s then rot m (mid + m - s - s) (m - s) (mid + m - s - m) l else l) else (if s < m ∧ m < mid + m - s then rot m (mid + m - s - s) (m - s) (mid + m - s - m) l else l)) := by
  rw [hT, smg, if_neg (by omega), if_neg (by omega)]
  dsimp only
  rw [← hmid]
  simp only [if_neg hcd]
  rw [← hs]
 rw [← hT]
 have hDr : ∀ x, x ∈ rot m (mid + m - s - s) (m - s) (mid + m - s - m) l → D x := fun x hx => hD x (mem_rot m _ _ _ l (by omega) (by omega) x hx)
 have hrl : (rot m (mid + m - s - s) (m - s) (mid + m - s - m) l).length = l.length := rot_length ..
 refine Cd.symMerge_int64__k.o.fn Tryz.mixed (hin := [.arr 1 (E cI l) false]) _ _ [.b 0] [.arr 1 (E cI T) false] Cd.symMerge_int64__k.n Cd.symMerge_int64__k.r rfl (by simp) rfl (by simp) fun X => ?_
 unfold Cd.symMerge_int64_
 simp -dsimp only [go_sem, w1, w2, w3, w4, w5, w6, e28, e29, e30, hll]
 refine ⟨by omega, ?_⟩
 refine LoopK.at dM (X := { zz : Nat × Nat // ((a) ≤ zz.1 ∧ zz.1 ≤ zz.2 ∧ zz.2 ≤ (m)) ∧ bs (fun c => !ltf cf (l.getD (mid + m - 1 - c) 0) (l.getD c 0)) zz.1 zz.2 = bs (fun c => !ltf cf (l.getD (mid + m - 1 - c) 0) (l.getD c 0)) ((a)) ((m)) }) (fun zz => [(20, .v (.int .i64 zz.1.1)), (21, .v (.int .i64 zz.1.2))]) (fun _ => []) (fun zz => zz.1.2 - zz.1.1) ⟨((a), (m)), ⟨by dsimp only; omega, by dsimp only; omega, by dsimp only; omega⟩, rfl⟩ ?_ ?_
 ·exact le0
 ·rintro ⟨⟨i, j⟩, ⟨hi0, hij, hj0⟩, hr⟩
  dsimp only at hi0 hij hj0 hr
  have wij := addN (a := i) (b := j) (by omega)
  have whf := half (a := i) (b := j) (by omega)
  simp -dsimp only [go_sem, wij, hll]
  refine Br.mk (fun hlt => ?_) fun hlt => ?_
  ·have hlt2 : i < j := by simpa using hlt
   obtain ⟨h, hh⟩ : ∃ h, h = (i + j) / 2 := ⟨_, rfl⟩
   rw [← hh] at whf
   have wh1 := add1 (a := h) (by omega)
   have wph := subN (a := mid + m - 1) (b := h) (by omega) (by omega)
   have hcc := hc _ _ (getD_mem hD (i := mid + m - 1 - h) (by omega)) (getD_mem hD (i := h) (by omega))
   have g1 := cI_getD (m := l) (j := h) (by omega)
   have g2 := cI_getD (m := l) (j := mid + m - 1 - h) (by omega)
   by_cases hl2 : cf (l.getD (mid + m - 1 - h) 0) (l.getD h 0) < 0
   ·have e2 : decide (cf (l.getD (mid + m - 1 - h) 0) (l.getD h 0) < 0) = true := decide_eq_true hl2
    rw [bs_no _ hlt2 (by rw [← hh]; show (!decide (cf (l.getD (mid + m - 1 - h) 0) (l.getD h 0) < 0)) = false; rw [e2]; rfl), ← hh] at hr
    repeat' first|simp -dsimp only [go_sem, wij, whf, wh1, wph, g1, g2, e2, hll, Bool.not_true, Bool.not_false, conv_cells hcaps _ 6, conv_cells hcaps _ 7, List.set_cons_zero, List.length_cons, List.length_nil, List.getElem?_cons_zero, List.flatMap_cons, List.flatMap_nil, cellN, topN, nestN, List.getD_cons_zero, List.append_nil, List.nil_append, List.cons_append]|apply Br.mk<;>intro h<;>try simp -dsimp only[h]|refine CallK.c (by first|exact hcc) ?_|refine aC ?_|fail
    all_goals first | omega | (exact ⟨⟨(i, h), ⟨by dsimp only; omega, by dsimp only; omega, by dsimp only; omega⟩, hr⟩, by simp [Vs.LeL, Vs.look, Vs.hlook, Vs.sput, Vs.sputs, Vs.hset, Vs.hputs], by simp only; omega⟩)
   ·have e2 : decide (cf (l.getD (mid + m - 1 - h) 0) (l.getD h 0) < 0) = false := decide_eq_false hl2
    rw [bs_yes _ hlt2 (by rw [← hh]; show (!decide (cf (l.getD (mid + m - 1 - h) 0) (l.getD h 0) < 0)) = true; rw [e2]; rfl), ← hh] at hr
    repeat' first|simp -dsimp only [go_sem, wij, whf, wh1, wph, g1, g2, e2, hll, Bool.not_true, Bool.not_false, conv_cells hcaps _ 6, conv_cells hcaps _ 7, List.set_cons_zero, List.length_cons, List.length_nil, List.getElem?_cons_zero, List.flatMap_cons, List.flatMap_nil, cellN, topN, nestN, List.getD_cons_zero, List.append_nil, List.nil_append, List.cons_append]|apply Br.mk<;>intro h<;>try simp -dsimp only[h]|refine CallK.c (by first|exact hcc) ?_|refine aC ?_|fail
    all_goals first | omega | (exact ⟨⟨(h + 1, j), ⟨by dsimp only; omega, by dsimp only; omega, by dsimp only; omega⟩, hr⟩, by simp [Vs.LeL, Vs.look, Vs.hlook, Vs.sput, Vs.sputs, Vs.hset, Vs.hputs], by simp only; omega⟩)
  ·have hge : i = j := by
    have : ¬ i < j := by simpa using hlt
    omega
   subst hge
   rw [bs_done _ (Nat.lt_irrefl _)] at hr
   rw [← hs] at hr
   subst hr
   have we := subN (a := mid + m) (b := i) (by omega) (by omega)
   have d1 : decide ((i : Int) < (m : Int)) = decide (i < m) := by simp
   have d2 : decide ((m : Int) < ((mid + m - i : Nat) : Int)) = decide (i < mid) := by
    have : (m : Int) < ((mid + m - i : Nat) : Int) ↔ i < mid := by omega
    simp only [this]
   have d3 : decide ((a : Int) < (i : Int)) = decide (a < i) := by simp
   have d4 : decide ((i : Int) < (mid : Int)) = decide (i < mid) := by simp
   have d5 : decide ((mid : Int) < ((mid + m - i : Nat) : Int)) = decide (i < m) := by
    have : (mid : Int) < ((mid + m - i : Nat) : Int) ↔ i < m := by omega
    simp only [this]
   have d6 : decide (((mid + m - i : Nat) : Int) < (b : Int)) = decide (mid + m - i < b) := by simp
   have q2 : (m < mid + m - i) = (i < mid) := by apply propext; omega
   have q5 : (mid < mid + m - i) = (i < m) := by apply propext; omega
   simp only [q2, q5] at hT2
   have CR := fun (h1 : i < m) (h2 : i < mid) => rotate g caps hcaps l i m (mid + m - i) hl h1 (by omega) (by omega)
   by_cases A : a < i <;> by_cases B : i < mid <;> by_cases C : i < m <;> by_cases E' : mid + m - i < b
   all_goals
    simp only [A, B, C, E', and_self, and_true, true_and, and_false, false_and, if_true, if_false, decide_true, decide_false] at d1 d2 d3 d4 d5 d6 hT2
    simp -dsimp only [go_sem, we, d1, d2, d3, d4, d5, d6, hll, conv_cells hcaps _ 6, conv_cells hcaps _ 7, List.set_cons_zero, List.length_cons, List.length_nil, List.getElem?_cons_zero, List.flatMap_cons, List.flatMap_nil, cellN, topN, nestN, List.getD_cons_zero, List.append_nil, List.nil_append, List.cons_append]
    refine ⟨?_, fun h => h rfl⟩
    repeat' first|simp -dsimp only [go_sem, we, d1, d2, d3, d4, d5, d6, hll, conv_cells hcaps _ 6, conv_cells hcaps _ 7, List.set_cons_zero, List.length_cons, List.length_nil, List.getElem?_cons_zero, List.flatMap_cons, List.flatMap_nil, cellN, topN, nestN, List.getD_cons_zero, List.append_nil, List.nil_append, List.cons_append]|refine And.intro rfl (CallK.bor (CR C B) rfl ?_)|refine And.intro rfl (CallK.bor (IH _ ?_ ?_ _ _ _ ?_ ?_ ?_ ?_) rfl ?_)|simp -dsimp only [go_sem, we, d1, d2, d3, d4, d5, d6, hll, conv_cells hcaps _ 6, conv_cells hcaps _ 7, List.set_cons_zero, List.length_cons, List.length_nil, List.getElem?_cons_zero, List.flatMap_cons, List.flatMap_nil, cellN, topN, nestN, List.getD_cons_zero, List.append_nil, List.nil_append, List.cons_append]|fail
   all_goals first
    | omega
    | exact hD
    | exact hDr
    | exact hrl
    | rfl
    | (rw [smg_length]; first | exact hrl | rfl)
    | (intro x hx; first | exact hD x (mem_smg _ _ _ _ l (by omega) (by omega) (by omega) x hx) | exact hDr x (mem_smg _ _ _ _ _ (by omega) (by omega) (by rw [hrl]; omega) x hx))
    | (rw [hT2]; exact ⟨_, _, rfl, rfl⟩)
   
theorem sym (g : FuncId) (caps : List AV) (hcaps : cellsB caps = true) (cf : Int → Int → Int) (D : Int → Prop) (hc : CmpOK Tryz.prog g caps cf D) (n : Nat) (hn : n ≤ 1048576) : ∀ (f : Nat) (l : List Int), l.length = n → (∀ x, x ∈ l → D x) → ∀ a m b : Nat, a < m → m < b → b ≤ n → b - a ≤ f →
  Vs.Fn Tryz.prog F.symMerge_int64_ [.arr 1 (E cI l) false] [.loc (.b 0) 0 n, .v (.int .i64 (a : Nat)), .v (.int .i64 (m : Nat)), .v (.int .i64 (b : Nat)), .fn g caps] (.tup []) [some (.arr 1 (E cI (smg (ltf cf) f a m b l)) false)]
 | 0, l, hl, hD, a, m, b, h1, h2, h3, h4 => absurd h4 (by omega)
 | f + 1, l, hl, hD, a, m, b, h1, h2, h3, h4 => by
  subst hl
  by_cases k1 : m = a + 1
  ·subst k1
   have hs : smg (ltf cf) (f + 1) a (a + 1) b l = mvU (bs (fun h => ltf cf (l.getD h 0) (l.getD a 0)) (a + 1) b - 1 - a) a l := by rw [smg, if_pos (by omega)]
   rw [hs]
   exact sym1 g caps hcaps cf D hc l hD a b hn h2 h3
  by_cases k2 : b = m + 1
  ·subst k2
   have hs : smg (ltf cf) (f + 1) a m (m + 1) l = mvD (m - bs (fun h => !ltf cf (l.getD m 0) (l.getD h 0)) a m) m l := by rw [smg, if_neg (by omega), if_pos (by omega)]
   rw [hs]
   exact sym2 g caps hcaps cf D hc l hD a m hn (by omega) h3
  by_cases k3 : (a + b) / 2 < m
  ·exact symG1 g caps hcaps cf D hc l hD a m b f hn (by omega) (by omega) h3 h4 _ rfl k3 fun l' e1 e2 a' m' b' e3 e4 e5 e6 => sym g caps hcaps cf D hc l.length hn f l' e1 e2 a' m' b' e3 e4 e5 e6
  ·exact symG2 g caps hcaps cf D hc l hD a m b f hn (by omega) (by omega) h3 h4 _ rfl k3 fun l' e1 e2 a' m' b' e3 e4 e5 e6 => sym g caps hcaps cf D hc l.length hn f l' e1 e2 a' m' b' e3 e4 e5 e6
end
section
variable [Vs.Tab 0 Vs.powP]
attribute [local irreducible] Vs.Fn swp swR rot insI insJ mvU mvD smg insS
theorem mem_insJ {lt : Int → Int → Bool} {a : Nat} : ∀ (j : Nat) (l : List Int), j < l.length → ∀ x, x ∈ insJ lt a j l → x ∈ l
 | 0, l, _, x, h => by unfold insJ at h; exact h
 | j + 1, l, hj, x, h => by
  rw [insJ] at h
  split at h
  ·exact mem_swp (by omega) (by omega) x (mem_insJ j _ (by rw [swp_length]; omega) x h)
  ·exact h
theorem mem_insI {lt : Int → Int → Bool} {a : Nat} : ∀ (n i : Nat) (l : List Int), i + n ≤ l.length → ∀ x, x ∈ insI lt a n i l → x ∈ l
 | 0, _, l, _, x, h => by unfold insI at h; exact h
 | n + 1, i, l, hi, x, h => by
  rw [insI] at h
  exact mem_insJ i l (by omega) x (mem_insI n (i + 1) _ (by rw [insJ_length]; omega) x h)
theorem mem_insS {lt : Int → Int → Bool} {a b : Nat} {l : List Int} (hb : b ≤ l.length) : ∀ x, x ∈ insS lt a b l → x ∈ l := by
 intro x h
 unfold insS at h
 by_cases hab : a + 1 ≤ b
 ·exact mem_insI _ _ l (by omega) x h
 ·rw [show b - (a + 1) = 0 by omega] at h
  unfold insI at h; exact h
theorem insS_none {lt : Int → Int → Bool} {a b : Nat} {l : List Int} (h : b ≤ a + 1) : insS lt a b l = l := by
 unfold insS
 rw [show b - (a + 1) = 0 by omega]
 unfold insI; rfl
theorem W20 : IntKind.i64.wrap (0 + 20) = 20 := by decide
theorem W40 : IntKind.i64.wrap (2 * 20) = 40 := by decide
theorem W60 : IntKind.i64.wrap (40 + 20) = 60 := by decide
theorem W80 : IntKind.i64.wrap (40 + IntKind.i64.wrap (2 * 20)) = 80 := by decide
theorem stable (g : FuncId) (caps : List AV) (hcaps : cellsB caps = true) (cf : Int → Int → Int) (D : Int → Prop) (hc : CmpOK Tryz.prog g caps cf D) (l : List Int) (hD : ∀ x, x ∈ l → D x) (hl : l.length ≤ 40) :
  Vs.Fn Tryz.prog F.stable_int64_ [.arr 1 (E cI l) false] [.loc (.b 0) 0 l.length, .v (.int .i64 (l.length : Nat)), .fn g caps] (.tup []) [some (.arr 1 (E cI (stb (ltf cf) l)) false)] := by
 have hI : ∀ (m : List Int), m.length = l.length → (∀ x, x ∈ m → D x) → ∀ a b : Nat, a ≤ b → b ≤ l.length →
   Vs.Fn Tryz.prog F.insort_int64_ [.arr 1 (E cI m) false] [.loc (.b 0) 0 l.length, .v (.int .i64 (a : Nat)), .v (.int .i64 (b : Nat)), .fn g caps] (.tup []) [some (.arr 1 (E cI (insS (ltf cf) a b m)) false)] := by
  intro m hm hDm a b h1 h2
  have := insertion g caps hcaps cf D hc m hDm a b (by omega) h1 (by omega)
  rwa [hm] at this
 have hS := fun (m : List Int) (hm : m.length = l.length) (hDm : ∀ x, x ∈ m → D x) (b : Nat) (h1 : 20 < b) (h2 : b ≤ l.length) => sym g caps hcaps cf D hc l.length (by omega) 40 m hm hDm 0 20 b (by omega) h1 h2 (by omega)
 obtain ⟨r1, hr1⟩ : ∃ r, r = insS (ltf cf) 0 20 l := ⟨_, rfl⟩
 obtain ⟨r2, hr2⟩ : ∃ r, r = insS (ltf cf) 20 l.length r1 := ⟨_, rfl⟩
 obtain ⟨r0, hr0⟩ : ∃ r, r = insS (ltf cf) 0 l.length l := ⟨_, rfl⟩
 have n1 : r1.length = l.length := by rw [hr1, insS_length]
 have n2 : r2.length = l.length := by rw [hr2, insS_length, n1]
 have n0 : r0.length = l.length := by rw [hr0, insS_length]
 have D1 : 20 ≤ l.length → ∀ x, x ∈ r1 → D x := fun h x hx => hD x (mem_insS (by omega) x (by rw [← hr1]; exact hx))
 have D2 : 20 ≤ l.length → ∀ x, x ∈ r2 → D x := fun h x hx => D1 h x (mem_insS (a := 20) (b := l.length) (by omega) x (by rw [← hr2]; exact hx))
 obtain ⟨T, hT⟩ : ∃ T, T = stb (ltf cf) l := ⟨_, rfl⟩
 have hT2 : T = if l.length < 20 then r0 else if 20 < l.length then smg (ltf cf) 40 0 20 l.length r2 else r2 := by
  rw [hT, hr0, hr2, hr1]; rfl
 rw [← hT]
 refine Cd.stable_int64__k.o.fn Tryz.mixed (hin := [.arr 1 (E cI l) false]) _ _ [.b 0] [.arr 1 (E cI T) false] Cd.stable_int64__k.n Cd.stable_int64__k.r rfl (by simp) rfl (by simp) fun X => ?_
 unfold Cd.stable_int64_
 simp -dsimp only [go_sem]
 refine LoopK.at dM (X := { zz : Nat × List Int // (zz.1 = 0 ∧ zz.2 = l) ∨ (zz.1 = 1 ∧ zz.2 = r1 ∧ 20 ≤ l.length) ∨ (zz.1 = 2 ∧ zz.2 = r2 ∧ l.length = 40) }) (fun zz => [(7, .v (.int .i64 ((20 * zz.1.1 : Nat) : Int))), (8, .v (.int .i64 ((20 * zz.1.1 + 20 : Nat) : Int)))]) (fun zz => [(.b 0, .arr 1 (E cI zz.1.2) false)]) (fun zz => 3 - zz.1.1) ⟨(0, l), .inl ⟨rfl, rfl⟩⟩ ?_ ?_
 ·exact le0
 ·rintro ⟨⟨k, m⟩, hk⟩
  dsimp only at hk
  have hm : m.length = l.length := by rcases hk with ⟨_, rfl⟩ | ⟨_, rfl, _⟩ | ⟨_, rfl, _⟩ <;> first | rfl | assumption
  have hml : (E cI m).length = l.length := by rw [E_len]; exact hm
  have hDm : ∀ x, x ∈ m → D x := by
   rcases hk with ⟨_, rfl⟩ | ⟨_, rfl, h⟩ | ⟨_, rfl, h⟩
   ·exact hD
   ·exact D1 h
   ·exact D2 (by omega)
  simp -dsimp only [go_sem]
  refine Br.mk (fun hlt => ?_) fun hlt => ?_
  ·have hlt2 : 20 * k + 20 ≤ l.length := by have := of_decide_eq_true hlt; omega
   have hk1 : k ≤ 1 := by omega
   have w1 : IntKind.i64.wrap (((20 * k + 20 : Nat) : Int) + 20) = ((20 * (k + 1) + 20 : Nat) : Int) := by rw [wrap_in (by omega) (by omega)]; omega
   have CI := hI m hm hDm (20 * k) (20 * k + 20) (by omega) hlt2
   simp -dsimp only [go_sem, hml, conv_cells hcaps _ 6, conv_cells hcaps _ 7, List.set_cons_zero, List.length_cons, List.length_nil, List.getElem?_cons_zero, List.flatMap_cons, List.flatMap_nil, cellN, topN, nestN, List.getD_cons_zero, List.append_nil, List.nil_append, List.cons_append]
   refine ⟨rfl, CallK.bor CI rfl ?_⟩
   simp -dsimp only [go_sem, hml, conv_cells hcaps _ 6, conv_cells hcaps _ 7, List.set_cons_zero, List.length_cons, List.length_nil, List.getElem?_cons_zero, List.flatMap_cons, List.flatMap_nil, cellN, topN, nestN, List.getD_cons_zero, List.append_nil, List.nil_append, List.cons_append]
   have hnext : (k + 1 = 0 ∧ insS (ltf cf) (20 * k) (20 * k + 20) m = l) ∨ (k + 1 = 1 ∧ insS (ltf cf) (20 * k) (20 * k + 20) m = r1 ∧ 20 ≤ l.length) ∨ (k + 1 = 2 ∧ insS (ltf cf) (20 * k) (20 * k + 20) m = r2 ∧ l.length = 40) := by
    rcases hk with ⟨rfl, rfl⟩ | ⟨rfl, rfl, h⟩ | ⟨rfl, rfl, h⟩
    ·exact .inr (.inl ⟨rfl, hr1.symm, by omega⟩)
    ·exact .inr (.inr ⟨rfl, by rw [hr2, show l.length = 40 by omega], by omega⟩)
    ·omega
   have he : ((20 * (k + 1) : Nat) : Int) = ((20 * k + 20 : Nat) : Int) := by omega
   refine ⟨⟨(k + 1, insS (ltf cf) (20 * k) (20 * k + 20) m), hnext⟩, ?_, by simp only; omega⟩
   simp [Vs.LeL, Vs.look, Vs.hlook, Vs.sput, Vs.sputs, Vs.hset, Vs.hputs]
   rw [wrap_in (by omega) (by omega)]; omega
  ·have hge : ¬ 20 * k + 20 ≤ l.length := by have := of_decide_eq_false hlt; omega
   have hk3 : 20 * k ≤ l.length := by rcases hk with ⟨rfl, rfl⟩ | ⟨rfl, rfl, h⟩ | ⟨rfl, rfl, h⟩ <;> omega
   have CI := hI m hm hDm (20 * k) l.length hk3 (Nat.le_refl _)
   obtain ⟨q, hq⟩ : ∃ q, q = insS (ltf cf) (20 * k) l.length m := ⟨_, rfl⟩
   rw [← hq] at CI
   have hqv : (l.length < 20 ∧ q = r0) ∨ (20 ≤ l.length ∧ q = r2) := by
    rcases hk with ⟨rfl, rfl⟩ | ⟨rfl, rfl, h⟩ | ⟨rfl, rfl, h⟩
    ·exact .inl ⟨by omega, by rw [hq, hr0]⟩
    ·exact .inr ⟨h, by rw [hq, hr2]⟩
    ·exact .inr ⟨by omega, by rw [hq, insS_none (by omega)]⟩
   have hqn : q.length = l.length := by rw [hq, insS_length]; exact hm
   have hqD : ∀ x, x ∈ q → D x := fun x hx => hDm x (mem_insS (a := 20 * k) (b := l.length) (by omega) x (by rw [← hq]; exact hx))
   have hql : (E cI q).length = l.length := by rw [E_len]; exact hqn
   simp -dsimp only [go_sem, hml, conv_cells hcaps _ 6, conv_cells hcaps _ 7, List.set_cons_zero, List.length_cons, List.length_nil, List.getElem?_cons_zero, List.flatMap_cons, List.flatMap_nil, cellN, topN, nestN, List.getD_cons_zero, List.append_nil, List.nil_append, List.cons_append]
   refine ⟨⟨rfl, CallK.bor CI rfl ?_⟩, fun h => h rfl⟩
   simp -dsimp only [go_sem, hml, conv_cells hcaps _ 6, conv_cells hcaps _ 7, List.set_cons_zero, List.length_cons, List.length_nil, List.getElem?_cons_zero, List.flatMap_cons, List.flatMap_nil, cellN, topN, nestN, List.getD_cons_zero, List.append_nil, List.nil_append, List.cons_append]
   refine LoopK.at dM (X := { zz : Bool × List Int // (zz.1 = false ∧ zz.2 = q) ∨ (zz.1 = true ∧ zz.2 = T) }) (fun zz => [(6, .v (.int .i64 (if zz.1.1 then 40 else 20)))]) (fun zz => [(.b 0, .arr 1 (E cI zz.1.2) false)]) (fun zz => if zz.1.1 then 0 else 1) ⟨(false, q), .inl ⟨rfl, rfl⟩⟩ ?_ ?_
   ·exact le0
   ·rintro ⟨⟨fl, d⟩, hf⟩
    dsimp only at hf
    rcases hf with ⟨rfl, rfl⟩ | ⟨rfl, rfl⟩
    rotate_left
    ·have e1 : decide ((40 : Int) < (l.length : Int)) = false := decide_eq_false (by omega)
     simp -dsimp only [go_sem, e1, Bool.false_eq_true, hml, conv_cells hcaps _ 6, conv_cells hcaps _ 7, List.set_cons_zero, List.length_cons, List.length_nil, List.getElem?_cons_zero, List.flatMap_cons, List.flatMap_nil, cellN, topN, nestN, List.getD_cons_zero, List.append_nil, List.nil_append, List.cons_append]
     exact ⟨⟨_, _, rfl, rfl⟩, fun h => h rfl⟩
    by_cases h20 : 20 < l.length
    rotate_left
    ·have e1 : decide ((20 : Int) < (l.length : Int)) = false := decide_eq_false (by omega)
     have hTd : T = d := by
      rw [hT2]
      rcases hqv with ⟨h1, h2⟩ | ⟨h1, h2⟩
      ·rw [if_pos h1, h2]
      ·rw [if_neg (by omega), if_neg h20, h2]
     rw [hTd]
     simp -dsimp only [go_sem, e1, Bool.false_eq_true, hml, conv_cells hcaps _ 6, conv_cells hcaps _ 7, List.set_cons_zero, List.length_cons, List.length_nil, List.getElem?_cons_zero, List.flatMap_cons, List.flatMap_nil, cellN, topN, nestN, List.getD_cons_zero, List.append_nil, List.nil_append, List.cons_append]
     exact ⟨⟨_, _, rfl, rfl⟩, fun h => h rfl⟩
    have hd2 : d = r2 := by rcases hqv with ⟨h1, _⟩ | ⟨_, h2⟩ <;> first | omega | exact h2
    have hTd : smg (ltf cf) 40 0 20 l.length d = T := by rw [hT2, if_neg (by omega), if_pos h20, hd2]
    have hTl : T.length = l.length := by rw [← hTd, smg_length]; exact hqn
    have e1 : decide ((20 : Int) < (l.length : Int)) = true := decide_eq_true (by omega)
    have CS := hS d hqn hqD l.length h20 (Nat.le_refl _)
    rw [hTd] at CS
    have CS' : Vs.Fn Tryz.prog F.symMerge_int64_ [.arr 1 (E cI d) false] [.loc (.b 0) 0 l.length, .v (.int .i64 0), .v (.int .i64 20), .v (.int .i64 (l.length : Nat)), .fn g caps] (.tup []) [some (.arr 1 (E cI T) false)] := CS
    have hTn : (E cI T).length = l.length := by rw [E_len]; exact hTl
    simp -dsimp only [go_sem, e1, Bool.false_eq_true, hml, conv_cells hcaps _ 6, conv_cells hcaps _ 7, List.set_cons_zero, List.length_cons, List.length_nil, List.getElem?_cons_zero, List.flatMap_cons, List.flatMap_nil, cellN, topN, nestN, List.getD_cons_zero, List.append_nil, List.nil_append, List.cons_append]
    refine LoopK.at dM (X := { zz : Bool × List Int // (zz.1 = false ∧ zz.2 = d) ∨ (zz.1 = true ∧ zz.2 = T ∧ l.length = 40) }) (fun zz => [(7, .v (.int .i64 (if zz.1.1 then 40 else 0))), (8, .v (.int .i64 (if zz.1.1 then 80 else 40)))]) (fun zz => [(.b 0, .arr 1 (E cI zz.1.2) false)]) (fun zz => if zz.1.1 then 0 else 1) ⟨(false, d), .inl ⟨rfl, rfl⟩⟩ ?_ ?_
    ·simp [Vs.LeL, Vs.look, Vs.hlook, Vs.sput, Vs.sputs, Vs.hset, Vs.hputs] <;> decide
    ·rintro ⟨⟨fl, d2⟩, hf⟩
     dsimp only at hf
     rcases hf with ⟨rfl, rfl⟩ | ⟨rfl, rfl, h40⟩
     ·by_cases h40 : l.length = 40
      ·have e2 : decide ((40 : Int) ≤ (l.length : Int)) = true := decide_eq_true (by omega)
       have CS2 : Vs.Fn Tryz.prog F.symMerge_int64_ [.arr 1 (E cI d2) false] [.loc (.b 0) 0 l.length, .v (.int .i64 0), .v (.int .i64 20), .v (.int .i64 40), .fn g caps] (.tup []) [some (.arr 1 (E cI T) false)] := by
        have h := CS'
        rw [show ((l.length : Nat) : Int) = 40 by omega] at h
        exact h
       simp -dsimp only [go_sem, e1, e2, Bool.false_eq_true, hql, hTn, W20, W40, W60, W80, hml, conv_cells hcaps _ 6, conv_cells hcaps _ 7, List.set_cons_zero, List.length_cons, List.length_nil, List.getElem?_cons_zero, List.flatMap_cons, List.flatMap_nil, cellN, topN, nestN, List.getD_cons_zero, List.append_nil, List.nil_append, List.cons_append]
       refine ⟨rfl, CallK.bor CS2 rfl ?_⟩
       simp -dsimp only [go_sem, e1, e2, Bool.false_eq_true, hql, hTn, W20, W40, W60, W80, hml, conv_cells hcaps _ 6, conv_cells hcaps _ 7, List.set_cons_zero, List.length_cons, List.length_nil, List.getElem?_cons_zero, List.flatMap_cons, List.flatMap_nil, cellN, topN, nestN, List.getD_cons_zero, List.append_nil, List.nil_append, List.cons_append]
       exact ⟨⟨(true, T), .inr ⟨rfl, rfl, h40⟩⟩, by simp [Vs.LeL, Vs.look, Vs.hlook, Vs.sput, Vs.sputs, Vs.hset, Vs.hputs] <;> decide, by simp⟩
      ·have e2 : decide ((40 : Int) ≤ (l.length : Int)) = false := decide_eq_false (by omega)
       simp -dsimp only [go_sem, e1, e2, Bool.false_eq_true, hql, hTn, W20, W40, W60, W80, hml, conv_cells hcaps _ 6, conv_cells hcaps _ 7, List.set_cons_zero, List.length_cons, List.length_nil, List.getElem?_cons_zero, List.flatMap_cons, List.flatMap_nil, cellN, topN, nestN, List.getD_cons_zero, List.append_nil, List.nil_append, List.cons_append]
       refine ⟨⟨rfl, CallK.bor CS' rfl ?_⟩, fun h1 h2 => absurd rfl h1⟩
       simp -dsimp only [go_sem, e1, e2, Bool.false_eq_true, hql, hTn, W20, W40, W60, W80, hml, conv_cells hcaps _ 6, conv_cells hcaps _ 7, List.set_cons_zero, List.length_cons, List.length_nil, List.getElem?_cons_zero, List.flatMap_cons, List.flatMap_nil, cellN, topN, nestN, List.getD_cons_zero, List.append_nil, List.nil_append, List.cons_append]
       exact ⟨⟨(true, T), .inr ⟨rfl, rfl⟩⟩, by simp [Vs.LeL, Vs.look, Vs.hlook, Vs.sput, Vs.sputs, Vs.hset, Vs.hputs] <;> decide, by simp⟩
     ·have e2 : decide ((80 : Int) ≤ (l.length : Int)) = false := decide_eq_false (by omega)
      have e3 : decide ((60 : Int) < (l.length : Int)) = false := decide_eq_false (by omega)
      simp -dsimp only [go_sem, e1, e2, e3, Bool.false_eq_true, hql, hTn, W20, W40, W60, W80, hml, conv_cells hcaps _ 6, conv_cells hcaps _ 7, List.set_cons_zero, List.length_cons, List.length_nil, List.getElem?_cons_zero, List.flatMap_cons, List.flatMap_nil, cellN, topN, nestN, List.getD_cons_zero, List.append_nil, List.nil_append, List.cons_append]
      exact ⟨⟨⟨(true, d2), .inr ⟨rfl, rfl⟩⟩, by simp [Vs.LeL, Vs.look, Vs.hlook, Vs.sput, Vs.sputs, Vs.hset, Vs.hputs] <;> decide, by simp⟩, fun h1 h2 => absurd rfl h1⟩
end
section
variable [Vs.Tab 0 Vs.powP]
attribute [local irreducible] Vs.Fn
structure Off where
 trays : List (List (List Int))
 totals : List (List Tot)
def smallC (l : List (List Int)) : Prop := l.length ≤ 1048576 ∧ ∀ c, c ∈ l → c.length ≤ 1048576
end
end Go.Proofs.YtidbcoagjbbjdaaGreatDoor
