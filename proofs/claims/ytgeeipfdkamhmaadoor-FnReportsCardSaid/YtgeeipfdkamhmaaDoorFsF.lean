/- Building: struct and array values; cells of values. -/
import Derived.Test.YtgeeipfdkamhmaaDoorFsE
namespace Go.Vs
variable {P : Program} {C : Ctx} {σ : FSt} {a : Act} {w : World} {S : Nat → Prop} {ρ : Name → Option Nat} {κ : Name → Nat} {K : AV → Prop} {h : Name → Option Blk}

theorem one_val {x : AV} {v : Value} (hx : RV S w ρ κ h x v) (h1 : oneB h x = true) : v.oneCell' = true := by
  cases x with
  | v y => obtain rfl := inv_v hx; exact h1
  | sl k l => cases inv_sl hx; rfl
  | ro c => cases inv_ro hx; rfl
  | fn f c => obtain ⟨vs, rfl, _⟩ := inv_fn hx; rfl
  | loc n off len =>
    simp only [oneB] at h1
    split at h1
    · rename_i hb; obtain ⟨_, base, cap, rfl, _⟩ := inv_loc hx _ _ _ hb; rfl
    · cases h1
  | ptr n e c =>
    simp only [oneB] at h1
    obtain ⟨b, hb⟩ := Option.isSome_iff_exists.1 h1
    obtain ⟨y, _, rfl⟩ := inv_ptr hx _ hb; rfl
  | agg c => simp [oneB] at h1
  | tup c => simp [oneB] at h1
  | junk => simp [oneB] at h1

/-- Abstract cells beside the cells of a value. -/
def Cells (S : Nat → Prop) (w : World) (ρ : Name → Option Nat) (κ : Name → Nat) (h : Name → Option Blk) (c : List AV) (vs : Array Value) : Prop :=
  c.length = vs.size ∧ ∀ j, j < c.length → RV S w ρ κ h (c.getD j .junk) (vs.getD j undef)

theorem cells_of {x : AV} {v : Value} (hx : RV S w ρ κ h x v) {c : List AV} (hc : cellsO h x = some c) :
    Cells S w ρ κ h c v.cells ∧ (∀ j, j < c.length → (v.cells.getD j undef).oneCell' = true) := by
  have single : ∀ x : AV, (oneB h x = true) → RV S w ρ κ h x v → Cells S w ρ κ h [x] v.cells ∧ (∀ j, j < [x].length → (v.cells.getD j undef).oneCell' = true) := by
    intro x h1 hx
    have ho := one_val hx h1
    have e : v.cells = #[v] := by cases v <;> simp_all [Value.cells, Value.oneCell']
    rw [e]
    refine ⟨⟨rfl, fun j hj => ?_⟩, fun j hj => ?_⟩
    · simp only [List.length_singleton] at hj
      obtain rfl : j = 0 := by omega
      exact hx
    · simp only [List.length_singleton] at hj
      obtain rfl : j = 0 := by omega
      exact ho
  cases x with
  | agg c' =>
    simp only [cellsO] at hc
    split at hc
    · rename_i hall
      obtain rfl := Option.some.inj hc
      obtain ⟨vs, rfl, hl, hr⟩ := inv_agg hx
      refine ⟨⟨hl, hr⟩, fun j hj => one_val (hr j hj) ?_⟩
      have := List.all_eq_true.1 hall (c'.getD j .junk) (by simp [List.getD, hj])
      exact this
    · cases hc
  | _ =>
    simp only [cellsO] at hc
    split at hc
    · rename_i h1
      obtain rfl := Option.some.inj hc
      exact single _ h1 hx
    · cases hc

theorem length_lay : ∀ (xs cs : List AV) (o : Nat), (lay cs o xs).length = cs.length
  | [], _, _ => rfl
  | x :: r, cs, o => by rw [lay, length_lay r]; simp

theorem getD_lay : ∀ (xs cs : List AV) (o j : Nat), o + xs.length ≤ cs.length → (lay cs o xs).getD j .junk = if o ≤ j ∧ j < o + xs.length then xs.getD (j - o) .junk else cs.getD j .junk
  | [], cs, o, j, _ => by
    have : ¬ (o ≤ j ∧ j < o + ([] : List AV).length) := by simp
    rw [lay, if_neg this]
  | x :: r, cs, o, j, h => by
    rw [lay, getD_lay r _ _ _ (by simp at h ⊢; omega)]
    simp only [List.length_cons] at h ⊢
    by_cases h1 : o + 1 ≤ j ∧ j < o + 1 + r.length
    · rw [if_pos h1, if_pos (by omega)]
      have : j - o = (j - (o + 1)) + 1 := by omega
      rw [this]; simp
    · rw [if_neg h1]
      by_cases h2 : j = o
      · subst h2
        rw [if_pos (by omega)]
        have : j < cs.length := by omega
        simp [List.getD, this]
      · rw [if_neg (by omega)]
        simp [List.getD, List.getElem?_set_ne (Ne.symm h2)]

/-- what 'fill' does with one part -/
theorem fold_cells : ∀ (l : List Value) (i o : Nat) (cs : Array Value), o + i + l.length ≤ cs.size →
    ((l.zipIdx i).foldl (fun cs (p : Value × Nat) => cs.setIfInBounds (o + p.2) p.1) cs).size = cs.size ∧
    ∀ j, ((l.zipIdx i).foldl (fun cs (p : Value × Nat) => cs.setIfInBounds (o + p.2) p.1) cs).getD j undef = if o + i ≤ j ∧ j < o + i + l.length then l.getD (j - (o + i)) undef else cs.getD j undef
  | [], i, o, cs, _ => ⟨rfl, fun j => by
      have : ¬ (o + i ≤ j ∧ j < o + i + ([] : List Value).length) := by simp
      rw [if_neg this]; rfl⟩
  | x :: r, i, o, cs, h => by
    simp only [List.length_cons] at h
    obtain ⟨h1, h2⟩ := fold_cells r (i + 1) o (cs.setIfInBounds (o + i) x) (by simp; omega)
    simp only [List.zipIdx_cons, List.foldl_cons]
    refine ⟨by rw [h1]; simp, fun j => ?_⟩
    rw [h2 j]
    simp only [List.length_cons]
    by_cases h3 : o + (i + 1) ≤ j ∧ j < o + (i + 1) + r.length
    · rw [if_pos h3, if_pos (by omega)]
      have : j - (o + i) = (j - (o + (i + 1))) + 1 := by omega
      rw [this]; simp
    · rw [if_neg h3]
      by_cases h4 : j = o + i
      · subst h4
        rw [if_pos (by omega)]
        simp [show o + i < cs.size by omega]
      · rw [if_neg (by omega)]
        simp [Array.getElem?_setIfInBounds_ne (Ne.symm h4)]

theorem getD_toList (vs : Array Value) (j : Nat) : vs.toList.getD j undef = vs.getD j undef := by
  simp [List.getD]

theorem fill_of (hok : OK C σ a w S ρ κ) (place : Nat → Option (Nat × Nat)) : ∀ (parts : List (Nat × Operand)) (rp : List (Nat × Nat × Operand)) (cs : List AV) (vs : Array Value) {K : List AV → Prop},
    parts.map (fun p => (place p.1).map fun q => (q.1, q.2, p.2)) = rp.map some → Cells S w ρ κ σ.h cs vs → layAll (evO σ.s) σ.h cs rp K →
    ∃ cs' vs', K cs' ∧ Instr.fill place vs (parts.map fun p => (p.1, a.eval p.2)) = some vs' ∧ Cells S w ρ κ σ.h cs' vs' ∧
      ((∀ j, j < vs.size → (vs.getD j undef).oneCell' = true) → ∀ j, j < vs'.size → (vs'.getD j undef).oneCell' = true)
  | [], [], cs, vs, K, _, hc, hK => ⟨cs, vs, hK, rfl, hc, fun h => h⟩
  | [], _ :: _, _, _, _, h, _, _ => by simp at h
  | _ :: _, [], _, _, _, h, _, _ => by simp at h
  | (i, x) :: parts, (o, n, y) :: rp, cs, vs, K, h, hc, hK => by
    simp only [List.map_cons, List.cons.injEq] at h
    obtain ⟨h1, h2⟩ := h
    cases hp : place i with
    | none => rw [hp] at h1; simp at h1
    | some q =>
      rw [hp] at h1
      simp only [Option.map_some, Option.some.injEq, Prod.mk.injEq] at h1
      obtain ⟨rfl, rfl, rfl⟩ := h1
      simp only [layAll] at hK
      split at hK
      · rename_i c hcx
        obtain ⟨⟨hn, hle⟩, hK⟩ := hK
        obtain ⟨⟨hcl, hcr⟩, hone⟩ := cells_of (hok.ev x) hcx
        obtain ⟨hl, hr⟩ := hc
        have hf := fold_cells (a.eval x).cells.toList 0 q.1 vs (by simp; omega)
        simp only [Nat.add_zero, Array.length_toList, ← hcl] at hf
        have hcells : Cells S w ρ κ σ.h (lay cs q.1 c) (((a.eval x).cells.toList.zipIdx 0).foldl (fun cs (p : Value × Nat) => cs.setIfInBounds (q.1 + p.2) p.1) vs) := by
          refine ⟨by rw [length_lay, hf.1]; exact hl, fun j hj => ?_⟩
          rw [length_lay] at hj
          rw [getD_lay _ _ _ _ (by omega), hf.2 j]
          by_cases hj2 : q.1 ≤ j ∧ j < q.1 + c.length
          · rw [if_pos hj2, if_pos hj2, getD_toList]
            exact hcr _ (by omega)
          · rw [if_neg hj2, if_neg hj2]
            exact hr j hj
        obtain ⟨cs', vs', hK', hfill, hc', ho'⟩ := fill_of hok place parts rp _ _ h2 hcells hK
        refine ⟨cs', vs', hK', ?_, hc', fun hv => ho' fun j hj => ?_⟩
        · have hz : (a.eval x).cells.zipIdx.foldl (fun cs (p : Value × Nat) => cs.setIfInBounds (q.1 + p.2) p.1) vs = ((a.eval x).cells.toList.zipIdx 0).foldl (fun cs (p : Value × Nat) => cs.setIfInBounds (q.1 + p.2) p.1) vs := by
            rw [← Array.foldl_toList, Array.toList_zipIdx]
          simp only [List.map_cons, Instr.fill, hp]
          rw [if_neg (by simp; omega)]
          rw [← hfill, ← hz]
        · rw [hf.1] at hj
          rw [hf.2 j]
          by_cases hj2 : q.1 ≤ j ∧ j < q.1 + c.length
          · rw [if_pos hj2, getD_toList]; exact hone _ (by omega)
          · rw [if_neg hj2]; exact hv j hj
      · exact hK.elim
end Go.Vs
