/- The operations that make memory. -/
import Derived.Test.YtpdmjalhahblmaaDoorVsE
import Derived.Laws.World
import Derived.Laws.MakeOwn
namespace Go.Vs
set_option linter.unusedSectionVars false
variable [Envs]
variable {P : Program} {C : Ctx} {σ : FSt} {a : Act} {w : World} {S : Nat → Prop} {ρ : Name → Option Nat} {κ : Name → Nat} {K : AV → Prop} {h : Name → Option Blk}

theorem one_val {x : AV} {v : Value} (hx : RV S w ρ κ h x v) (h1 : oneB h x = true) : v.oneCell' = true := by
  cases x with
  | v y => obtain rfl := inv_v hx; exact h1
  | sl k l => cases inv_sl hx; rfl
  | ro c => cases inv_ro hx; rfl
  | fn f c => obtain ⟨vs, rfl, _⟩ := inv_fn hx; rfl
  | loc n off len =>
    simp only [oneB] at h1
    split at h1
    · rename_i hb; obtain ⟨_, base, cap, rfl, _⟩ := inv_loc hx _ _ _ hb; rfl
    · cases h1
  | ptr n e c =>
    simp only [oneB] at h1
    obtain ⟨b, hb⟩ := Option.isSome_iff_exists.1 h1
    obtain ⟨y, _, rfl⟩ := inv_ptr hx _ hb; rfl
  | agg c => simp [oneB] at h1
  | tup c => simp [oneB] at h1
  | junk => simp [oneB] at h1

/-- Abstract cells beside the cells of a value. -/
def Cells (S : Nat → Prop) (w : World) (ρ : Name → Option Nat) (κ : Name → Nat) (h : Name → Option Blk) (c : List AV) (vs : Array Value) : Prop :=
  c.length = vs.size ∧ ∀ j, j < c.length → RV S w ρ κ h (c.getD j .junk) (vs.getD j undef)

theorem cells_of {x : AV} {v : Value} (hx : RV S w ρ κ h x v) {c : List AV} (hc : cellsO h x = some c) :
    Cells S w ρ κ h c v.cells ∧ (∀ j, j < c.length → (v.cells.getD j undef).oneCell' = true) := by
  have single : ∀ x : AV, (oneB h x = true) → RV S w ρ κ h x v → Cells S w ρ κ h [x] v.cells ∧ (∀ j, j < [x].length → (v.cells.getD j undef).oneCell' = true) := by
    intro x h1 hx
    have ho := one_val hx h1
    have e : v.cells = #[v] := by cases v <;> simp_all [Value.cells, Value.oneCell']
    rw [e]
    refine ⟨⟨rfl, fun j hj => ?_⟩, fun j hj => ?_⟩
    · simp only [List.length_singleton] at hj
      obtain rfl : j = 0 := by omega
      exact hx
    · simp only [List.length_singleton] at hj
      obtain rfl : j = 0 := by omega
      exact ho
  cases x with
  | agg c' =>
    simp only [cellsO] at hc
    split at hc
    · rename_i hall
      obtain rfl := Option.some.inj hc
      obtain ⟨vs, rfl, hl, hr⟩ := inv_agg hx
      refine ⟨⟨hl, hr⟩, fun j hj => one_val (hr j hj) ?_⟩
      have := List.all_eq_true.1 hall (c'.getD j .junk) (by simp [List.getD, hj])
      exact this
    · cases hc
  | _ =>
    simp only [cellsO] at hc
    split at hc
    · rename_i h1
      obtain rfl := Option.some.inj hc
      exact single _ h1 hx
    · cases hc

theorem length_lay : ∀ (xs cs : List AV) (o : Nat), (lay cs o xs).length = cs.length
  | [], _, _ => rfl
  | x :: r, cs, o => by rw [lay, length_lay r]; simp

theorem getD_lay : ∀ (xs cs : List AV) (o j : Nat), o + xs.length ≤ cs.length → (lay cs o xs).getD j .junk = if o ≤ j ∧ j < o + xs.length then xs.getD (j - o) .junk else cs.getD j .junk
  | [], cs, o, j, _ => by
    have : ¬ (o ≤ j ∧ j < o + ([] : List AV).length) := by simp
    rw [lay, if_neg this]
  | x :: r, cs, o, j, h => by
    rw [lay, getD_lay r _ _ _ (by simp at h ⊢; omega)]
    simp only [List.length_cons] at h ⊢
    by_cases h1 : o + 1 ≤ j ∧ j < o + 1 + r.length
    · rw [if_pos h1, if_pos (by omega)]
      have : j - o = (j - (o + 1)) + 1 := by omega
      rw [this]; simp
    · rw [if_neg h1]
      by_cases h2 : j = o
      · subst h2
        rw [if_pos (by omega)]
        have : j < cs.length := by omega
        simp [List.getD, this]
      · rw [if_neg (by omega)]
        simp [List.getD, List.getElem?_set_ne (Ne.symm h2)]

/-- what 'fill' does with one part -/
theorem fold_cells : ∀ (l : List Value) (i o : Nat) (cs : Array Value), o + i + l.length ≤ cs.size →
    ((l.zipIdx i).foldl (fun cs (p : Value × Nat) => cs.setIfInBounds (o + p.2) p.1) cs).size = cs.size ∧
    ∀ j, ((l.zipIdx i).foldl (fun cs (p : Value × Nat) => cs.setIfInBounds (o + p.2) p.1) cs).getD j undef = if o + i ≤ j ∧ j < o + i + l.length then l.getD (j - (o + i)) undef else cs.getD j undef
  | [], i, o, cs, _ => ⟨rfl, fun j => by
      have : ¬ (o + i ≤ j ∧ j < o + i + ([] : List Value).length) := by simp
      rw [if_neg this]; rfl⟩
  | x :: r, i, o, cs, h => by
    simp only [List.length_cons] at h
    obtain ⟨h1, h2⟩ := fold_cells r (i + 1) o (cs.setIfInBounds (o + i) x) (by simp; omega)
    simp only [List.zipIdx_cons, List.foldl_cons]
    refine ⟨by rw [h1]; simp, fun j => ?_⟩
    rw [h2 j]
    simp only [List.length_cons]
    by_cases h3 : o + (i + 1) ≤ j ∧ j < o + (i + 1) + r.length
    · rw [if_pos h3, if_pos (by omega)]
      have : j - (o + i) = (j - (o + (i + 1))) + 1 := by omega
      rw [this]; simp
    · rw [if_neg h3]
      by_cases h4 : j = o + i
      · subst h4
        rw [if_pos (by omega)]
        simp [show o + i < cs.size by omega]
      · rw [if_neg (by omega)]
        simp [Array.getElem?_setIfInBounds_ne (Ne.symm h4)]

theorem getD_toList (vs : Array Value) (j : Nat) : vs.toList.getD j undef = vs.getD j undef := by
  simp [List.getD]

theorem fill_of (hok : OK C σ a w S ρ κ) (place : Nat → Option (Nat × Nat)) : ∀ (parts : List (Nat × Operand)) (rp : List (Nat × Nat × Operand)) (cs : List AV) (vs : Array Value) {K : List AV → Prop},
    parts.map (fun p => (place p.1).map fun q => (q.1, q.2, p.2)) = rp.map some → Cells S w ρ κ σ.h cs vs → layAll (evO σ.s) σ.h cs rp K →
    ∃ cs' vs', K cs' ∧ Instr.fill place vs (parts.map fun p => (p.1, a.eval p.2)) = some vs' ∧ Cells S w ρ κ σ.h cs' vs' ∧
      ((∀ j, j < vs.size → (vs.getD j undef).oneCell' = true) → ∀ j, j < vs'.size → (vs'.getD j undef).oneCell' = true)
  | [], [], cs, vs, K, _, hc, hK => ⟨cs, vs, hK, rfl, hc, fun h => h⟩
  | [], _ :: _, _, _, _, h, _, _ => by simp at h
  | _ :: _, [], _, _, _, h, _, _ => by simp at h
  | (i, x) :: parts, (o, n, y) :: rp, cs, vs, K, h, hc, hK => by
    simp only [List.map_cons, List.cons.injEq] at h
    obtain ⟨h1, h2⟩ := h
    cases hp : place i with
    | none => rw [hp] at h1; simp at h1
    | some q =>
      rw [hp] at h1
      simp only [Option.map_some, Option.some.injEq, Prod.mk.injEq] at h1
      obtain ⟨rfl, rfl, rfl⟩ := h1
      simp only [layAll] at hK
      split at hK
      · rename_i c hcx
        obtain ⟨⟨hn, hle⟩, hK⟩ := hK
        obtain ⟨⟨hcl, hcr⟩, hone⟩ := cells_of (hok.ev x) hcx
        obtain ⟨hl, hr⟩ := hc
        have hf := fold_cells (a.eval x).cells.toList 0 q.1 vs (by simp; omega)
        simp only [Nat.add_zero, Array.length_toList, ← hcl] at hf
        have hcells : Cells S w ρ κ σ.h (lay cs q.1 c) (((a.eval x).cells.toList.zipIdx 0).foldl (fun cs (p : Value × Nat) => cs.setIfInBounds (q.1 + p.2) p.1) vs) := by
          refine ⟨by rw [length_lay, hf.1]; exact hl, fun j hj => ?_⟩
          rw [length_lay] at hj
          rw [getD_lay _ _ _ _ (by omega), hf.2 j]
          by_cases hj2 : q.1 ≤ j ∧ j < q.1 + c.length
          · rw [if_pos hj2, if_pos hj2, getD_toList]
            exact hcr _ (by omega)
          · rw [if_neg hj2, if_neg hj2]
            exact hr j hj
        obtain ⟨cs', vs', hK', hfill, hc', ho'⟩ := fill_of hok place parts rp _ _ h2 hcells hK
        refine ⟨cs', vs', hK', ?_, hc', fun hv => ho' fun j hj => ?_⟩
        · have hz : (a.eval x).cells.zipIdx.foldl (fun cs (p : Value × Nat) => cs.setIfInBounds (q.1 + p.2) p.1) vs = ((a.eval x).cells.toList.zipIdx 0).foldl (fun cs (p : Value × Nat) => cs.setIfInBounds (q.1 + p.2) p.1) vs := by
            rw [← Array.foldl_toList, Array.toList_zipIdx]
          simp only [List.map_cons, Instr.fill, hp]
          rw [if_neg (by simp; omega)]
          rw [← hfill, ← hz]
        · rw [hf.1] at hj
          rw [hf.2 j]
          by_cases hj2 : q.1 ≤ j ∧ j < q.1 + c.length
          · rw [if_pos hj2, getD_toList]; exact hone _ (by omega)
          · rw [if_neg hj2]; exact hv j hj
      · exact hK.elim
end Go.Vs

namespace Go.Vs
set_option linter.unusedSectionVars false
variable [Envs]

mutual
def isClo : AV → Bool
  | .v _ => true
  | .sl _ _ => true
  | .ro _ => true
  | .fn _ c => isCloL c
  | .agg c => isCloL c
  | .tup c => isCloL c
  | _ => false
def isCloL : List AV → Bool
  | [] => true
  | x :: r => isClo x && isCloL r
end

theorem isCloL_getD : ∀ {c : List AV} {j : Nat}, isCloL c = true → j < c.length → isClo (c.getD j .junk) = true
  | [], _, _, hj => by simp at hj
  | x :: r, 0, h, _ => by simp [isCloL] at h; simpa using h.1
  | x :: r, j + 1, h, hj => by simp [isCloL] at h; simpa using isCloL_getD (c := r) (j := j) h.2 (by simpa using hj)

variable {P : Program} {C : Ctx} {σ : FSt} {a : Act} {w : World} {S : Nat → Prop} {ρ : Name → Option Nat} {κ : Name → Nat} {h : Name → Option Blk}

theorem RV.closed {x : AV} {v : Value} (hx : RV S w ρ κ h x v) (hc : isClo x = true) : RC S w x v := by
  induction hx with
  | junk v => simp [isClo] at hc
  | clo hx => exact hx
  | loc n off len v hv => simp [isClo] at hc
  | ptr n e c v hv => simp [isClo] at hc
  | fn f c vs hl hr ih => simp only [isClo] at hc; exact .fn f c vs hl fun j hj => ih j hj (isCloL_getD hc hj)
  | agg c vs hl hr ih => simp only [isClo] at hc; exact .agg c vs hl fun j hj => ih j hj (isCloL_getD hc hj)
  | tup c vs hl hr ih => simp only [isClo] at hc; exact .tup c vs hl fun j hj => ih j hj (isCloL_getD hc hj)

def rowsOf (k : Nat) : Nat → List AV → List (List AV)
  | 0, _ => []
  | m + 1, cs => cs.take k :: rowsOf k m (cs.drop k)

def al (ev : Operand → AV) (h : Name → Option Blk) (n : Name) (K : AV → Blk → Prop) : AOp → Prop
  | .box x => match cellsO h (ev x) with
    | some c => K (.ptr n 0 0) (.var c false)
    | none => False
  | .alloc z => z.all (fun x => oneB h x && isClo x) = true ∧ K (.ptr n 0 0) (.var z false)
  | .bslice k m z parts => (z.length = k ∧ m * k ≤ 2 ^ 24 ∧ m ≤ 2 ^ 24 ∧ z.all (oneB h) = true) ∧ layAll ev h (List.flatten (List.replicate m z)) (parts.map fun (i, x) => (i * k, k, x)) fun cs =>
      isCloL cs = true ∧ K (.loc n 0 m) (.arr k (rowsOf k m cs) false)
  | .mk k bytes z x => match ev x with
    | .v (.int .i64 i) => (0 ≤ i ∧ i * bytes ≤ 2 ^ 47 ∧ i < 2 ^ 63 ∧ z.length = k ∧ z.all (fun x => oneB h x && isClo x) = true) ∧ K (.loc n 0 i.toNat) (.arr k (List.replicate i.toNat z) false)
    | _ => False
  | _ => False

theorem heap_push (w : World) (o : Obj) : ({ w with heap := w.heap.push o } : World).heap[w.heap.size]? = some o := by simp

/-- One block more, written under a name that nothing bears: a variable. -/
theorem OK.addVar (hok : OK C σ a w S ρ κ) {n : Name} (hf : FreshF n σ) {c : List AV} {cs : Array Value} {T : TypeId} (hc : Cells S w ρ κ σ.h c cs) (h1 : ∀ j, j < c.length → (cs.getD j undef).oneCell' = true) (hn : hasL n c = false) :
    ∃ ρ' κ', OK C ⟨σ.s, hput σ.h n (some (.var c false))⟩ a { w with heap := w.heap.push (.cells cs T) } S ρ' κ' ∧
      RV S { w with heap := w.heap.push (.cells cs T) } ρ' κ' (hput σ.h n (some (.var c false))) (.ptr n 0 0) (.pointer (some ⟨w.heap.size, 0, none⟩)) := by
  have hex := Ext.push w (.cells cs T)
  refine ⟨_, _, hok.add hex hf (b := .var c false) (ox := some w.heap.size) (kn := cs.size) (fun x hx => by rw [← Option.some.inj hx]; exact Nat.le_refl _) ?_, ?_⟩
  · intro ρ' κ' h' e1 e2 hm
    refine ⟨w.heap.size, cs, T, (0, 0), e1, heap_push _ _, fun j _ hj => by omega, fun _ hs => ?_, by simp, e2.symm, by rw [hc.1]; exact Nat.le_refl _, fun j hj => ⟨h1 j hj, (hc.2 j hj).mono (fun _ h => h) (fun b hb => hex.2.1 b (hok.hok.dom b hb)) fun m hh => hm m ?_⟩⟩
    · exact absurd (hok.hok.dom _ hs) (Nat.lt_irrefl _)
    · rintro rfl
      rw [hasL_getD hn] at hh; cases hh
  · refine .ptr _ _ _ _ fun b hb => ?_
    simp only [hput, if_true] at hb
    obtain rfl := Option.some.inj hb
    exact ⟨w.heap.size, by simp, by simp [Blk.k]⟩

/-- One block more: a row of elements. -/
theorem OK.addArr (hok : OK C σ a w S ρ κ) {w' : World} (hex : Ext w w') {n : Name} (hf : FreshF n σ) {k : Nat} {l : List (List AV)} {cs : Array Value} {T : TypeId} {fr : Nat × Nat} {x : Nat} (hxs : w.heap.size ≤ x) (hx : w'.heap[x]? = some (.cells cs T fr)) (hth : Thaw fr cs.size)
    (hk : ∀ i, i < l.length → (l.getD i []).length = k) (hsz : l.length * k ≤ cs.size)
    (hr : ∀ i j, i < l.length → j < k → (cs.getD (i * k + j) undef).oneCell' = true ∧ RC S w ((l.getD i []).getD j .junk) (cs.getD (i * k + j) undef)) {cap : Nat} (hcap : l.length ≤ cap ∧ cap < 2 ^ 63 ∧ cap * k ≤ cs.size) :
    ∃ ρ' κ', OK C ⟨σ.s, hput σ.h n (some (.arr k l false))⟩ a w' S ρ' κ' ∧
      RV S w' ρ' κ' (hput σ.h n (some (.arr k l false))) (.loc n 0 l.length) (.slice (some ⟨x, 0, none⟩) l.length cap) := by
  refine ⟨_, _, hok.add hex hf (b := .arr k l false) (ox := some x) (kn := cs.size) (fun y hy => by rw [← Option.some.inj hy]; exact hxs) ?_, ?_⟩
  · intro ρ' κ' h' e1 e2 hm
    refine ⟨hk, .inr ⟨x, cs, T, fr, e1, hx, hth, fun _ hs => ?_, by simp, e2.symm, hsz, fun i j hi hj => ⟨(hr i j hi hj).1, (hr i j hi hj).2.mono (fun _ h => h) fun b hb => hex.2.1 b (hok.hok.dom b hb)⟩⟩⟩
    have := hok.hok.dom _ hs; omega
  · refine .loc _ _ _ _ fun k' l' z hb => ?_
    simp only [hput, if_true, Option.some.injEq, Blk.arr.injEq] at hb
    obtain ⟨rfl, rfl, rfl⟩ := hb
    exact ⟨by omega, _, _, rfl, hcap.1, hcap.2.1, fun _ => ⟨x, by simp, by simp⟩, fun _ _ => .inr ⟨x, by simp, rfl, by simpa using hcap.2.2⟩⟩

/-- What an operation that makes one block leaves. -/
def Made (P : Program) (C : Ctx) (σ : FSt) (a : Act) (w : World) (S : Nat → Prop) (n : Name) (K : AV → Blk → Prop) (s : Sem Value) : Prop :=
  ∃ x b v w', K x b ∧ s.run P w = .ok v w' ∧ (FreshF n σ → b.has n = false → ∃ ρ' κ', OK C ⟨σ.s, hput σ.h n (some b)⟩ a w' S ρ' κ' ∧ RV S w' ρ' κ' (hput σ.h n (some b)) x v)

variable {K : AV → Blk → Prop} {n : Name}

theorem al_box (hok : OK C σ a w S ρ κ) {T : TypeId} {x : Operand} (hv : al (evO σ.s) σ.h n K (.box x)) : Made P C σ a w S n K (Instr.box T (a.eval x)) := by
  have hx := hok.ev x
  generalize a.eval x = va at hx ⊢
  simp only [al] at hv
  split at hv
  · rename_i c hc
    obtain ⟨hcs, h1⟩ := cells_of hx hc
    refine ⟨_, _, .pointer (some ⟨w.heap.size, 0, none⟩), { w with heap := w.heap.push (.cells va.cells T) }, hv, ?_, fun hf hn => ?_⟩
    · simp [Instr.box, newVar, newRow]
    · exact hok.addVar hf hcs h1 (by simpa [Blk.has] using hn)
  · exact hv.elim

/-- the zero of a type as abstract cells -/
def zOf (P : Program) (t : TypeId) : Option (Array Value) := match P.info? t with | some i => i.zero.map (·.cells) | none => none

theorem run_zero {t : TypeId} {z : Array Value} (h : zOf P t = some z) (w : World) : ∃ v, (zeroValue t).run P w = .ok v w ∧ v.cells = z := by
  unfold zOf at h
  cases hi : P.info? t with
  | none => simp [hi] at h
  | some i =>
    simp only [hi] at h
    cases hz : i.zero with
    | none => simp [hz] at h
    | some v => exact ⟨v, by simp [zeroValue, typeInfo, hi, hz], by simpa [hz] using h⟩

theorem cells_v (cs : Array Value) : Cells S w ρ κ h (cs.toList.map fun x => .v x) cs := by
  refine ⟨by simp, fun j hj => ?_⟩
  simp only [List.length_map, Array.length_toList] at hj
  simp [List.getD, hj]
  exact .clo (.v _)

theorem all_getD {p : AV → Bool} {l : List AV} (h : l.all p = true) {j : Nat} (hj : j < l.length) : p (l.getD j .junk) = true :=
  List.all_eq_true.1 h _ (by simp [List.getD, hj])

theorem al_alloc (hok : OK C σ a w S ρ κ) {T : TypeId} {z : Array Value} (hz : zOf P T = some z) (hv : al (evO σ.s) σ.h n K (.alloc (z.toList.map fun x => .v x))) : Made P C σ a w S n K (Instr.alloc T true (.tuple #[])) := by
  obtain ⟨v, hrun, rfl⟩ := run_zero hz w
  simp only [al] at hv
  obtain ⟨hall, hK⟩ := hv
  refine ⟨_, _, .pointer (some ⟨w.heap.size, 0, none⟩), { w with heap := w.heap.push (.cells v.cells T) }, hK, ?_, fun hf hn => ?_⟩
  · simp [Instr.alloc, newVar, newRow, hrun]
  · refine hok.addVar hf (cells_v _) (fun j hj => ?_) (by simpa [Blk.has] using hn)
    have := all_getD hall hj
    have h2 := (cells_v (S := S) (w := w) (ρ := ρ) (κ := κ) (h := σ.h) v.cells).2 j hj
    exact one_val h2 (by simp only [Bool.and_eq_true] at this; exact this.1)

theorem flat_getD {z : List AV} {k : Nat} (hz : z.length = k) : ∀ (m i : Nat), i < m * k → (List.flatten (List.replicate m z)).getD i .junk = z.getD (i % k) .junk
  | 0, i, h => by omega
  | m + 1, i, h => by
    rw [List.replicate_succ, List.flatten_cons]
    by_cases hi : i < k
    · rw [Nat.mod_eq_of_lt hi]
      simp [List.getD, List.getElem?_append_left (show i < z.length by omega)]
    · have hk : 0 < k := by
        rcases Nat.eq_zero_or_pos k with h0 | h0
        · subst h0; omega
        · exact h0
      have : i % k = (i - k) % k := by rw [Nat.mod_eq_sub_mod (by omega)]
      rw [this, ← flat_getD hz m (i - k) (by rw [Nat.succ_mul] at h; omega)]
      simp [List.getD, List.getElem?_append_right (show z.length ≤ i by omega), hz]

theorem flat_length {z : List AV} {k : Nat} (hz : z.length = k) (m : Nat) : (List.flatten (List.replicate m z)).length = m * k := by
  simp [hz]

theorem length_rowsOf (k : Nat) : ∀ (m : Nat) (cs : List AV), (rowsOf k m cs).length = m
  | 0, _ => rfl
  | m + 1, cs => by simp [rowsOf, length_rowsOf k m]

theorem rowsOf_getD (k : Nat) : ∀ (m : Nat) (cs : List AV), cs.length = m * k → ∀ i, i < m → (((rowsOf k m cs).getD i []).length = k ∧ ∀ j, j < k → ((rowsOf k m cs).getD i []).getD j .junk = cs.getD (i * k + j) .junk)
  | 0, _, _, i, h => by omega
  | m + 1, cs, hl, 0, _ => by
    rw [Nat.succ_mul] at hl
    refine ⟨by simp [rowsOf]; omega, fun j hj => ?_⟩
    simp [rowsOf, List.getD, hj]
  | m + 1, cs, hl, i + 1, h => by
    rw [Nat.succ_mul] at hl
    obtain ⟨h1, h2⟩ := rowsOf_getD k m (cs.drop k) (by simp; omega) i (by omega)
    refine ⟨by simpa [rowsOf] using h1, fun j hj => ?_⟩
    have := h2 j hj
    simp only [rowsOf, List.getD_cons_succ, this]
    simp only [List.getD, List.getElem?_drop]
    congr 2
    rw [Nat.succ_mul]; omega

theorem range_cells (z : Array Value) (m k : Nat) (hz : z.size = k) (j : Nat) (hj : j < m * k) : ((Array.range (m * k)).map (z[· % z.size]!)).getD j undef = z.getD (j % k) undef := by
  have hk : 0 < k := by
    rcases Nat.eq_zero_or_pos k with h0 | h0
    · subst h0; omega
    · exact h0
  have h1 : j % k < z.size := by rw [hz]; exact Nat.mod_lt _ hk
  simp [hj, hz, getElem!_pos z (j % k) h1, getElem?_pos z (j % k) h1]

theorem al_bslice (hok : OK C σ a w S ρ κ) {t e : TypeId} {k m : Nat} {z : Array Value} (hu : P.underlying t = some (.slice e)) (hk : szOf P e = some k) (hz : zOf P e = some z) {parts : List (Nat × Operand)}
    (hv : al (evO σ.s) σ.h n K (.bslice k m (z.toList.map fun x => .v x) parts)) : Made P C σ a w S n K (Instr.buildSlice t m (parts.map fun p => (p.1, a.eval p.2)).toArray) := by
  obtain ⟨zv, hrun, rfl⟩ := run_zero hz w
  simp only [al] at hv
  obtain ⟨⟨hzk, hmk, hm, hzo⟩, hv⟩ := hv
  have hzs : zv.cells.size = k := by simpa using hzk
  have hc0 : Cells S w ρ κ σ.h (List.flatten (List.replicate m (zv.cells.toList.map fun x => .v x))) ((Array.range (m * k)).map (zv.cells[· % zv.cells.size]!)) := by
    refine ⟨by rw [flat_length hzk]; simp, fun j hj => ?_⟩
    rw [flat_length hzk] at hj
    rw [flat_getD hzk m j hj, range_cells _ _ _ hzs _ hj]
    have hk0 : 0 < k := by
      rcases Nat.eq_zero_or_pos k with h0 | h0
      · subst h0; omega
      · exact h0
    exact (cells_v zv.cells).2 _ (by rw [hzk]; exact Nat.mod_lt _ hk0)
  obtain ⟨cs, vs, ⟨hclo, hK⟩, hfill, hcs, hone⟩ := fill_of hok (fun i => some (i * k, k)) parts _ _ _ (by simp) hc0 hv
  have hlen : cs.length = m * k := by
    have hfl : ∀ (parts : List (Nat × Value)) (c c' : Array Value), Instr.fill (fun i => some (i * k, k)) c parts = some c' → c'.size = c.size := by
      intro parts
      induction parts with
      | nil => intro c c' h; simp [Instr.fill] at h; rw [h]
      | cons p r ih =>
        intro c c' h
        simp only [Instr.fill] at h
        split at h
        · cases h
        · rename_i hcond
          have := ih _ _ h
          rw [this]
          have hz2 : p.2.cells.zipIdx.foldl (fun cs (q : Value × Nat) => cs.setIfInBounds (p.1 * k + q.2) q.1) c = ((p.2.cells.toList.zipIdx 0).foldl (fun cs (q : Value × Nat) => cs.setIfInBounds (p.1 * k + q.2) q.1) c) := by
            rw [← Array.foldl_toList, Array.toList_zipIdx]
          have := (fold_cells p.2.cells.toList 0 (p.1 * k) c (by simp at hcond ⊢; omega)).1
          rw [← hz2] at this
          exact this
    have := hfl _ _ _ hfill
    rw [hcs.1, this]; simp
  have hone' := hone (fun j hj => by
    simp only [Array.size_map, Array.size_range] at hj
    rw [range_cells _ _ _ hzs _ hj]
    have hk0 : 0 < k := by
      rcases Nat.eq_zero_or_pos k with h0 | h0
      · subst h0; omega
      · exact h0
    have h2 := (cells_v (S := S) (w := w) (ρ := ρ) (κ := κ) (h := σ.h) zv.cells).2 (j % k) (by rw [hzk]; exact Nat.mod_lt _ hk0)
    exact one_val h2 (all_getD hzo (by rw [hzk]; exact Nat.mod_lt _ hk0)))
  refine ⟨_, _, .slice (some ⟨w.heap.size, 0, none⟩) m m, { w with heap := w.heap.push (.cells vs e) }, hK, ?_, fun hf _ => ?_⟩
  · have hfill' : Instr.fill (fun i => some (i * k, k)) ((Array.range (m * k)).map (fun i => (if m * k = 0 then #[] else zv.cells)[i % (if m * k = 0 then (#[] : Array Value) else zv.cells).size]!)) (parts.map fun p => (p.1, a.eval p.2)) = some vs := by
      have hr0 : Array.range 0 = #[] := rfl
      by_cases h0 : m * k = 0
      · rw [← hfill]; simp [h0, hr0]
      · rw [← hfill]; simp [h0]
    have hn : ¬ (2 ^ 24 < m * k) := by omega
    by_cases h0 : m * k = 0
    · simp only [h0, if_true] at hfill'
      simp [Instr.buildSlice, run_underlying hu, run_sizeOf hk, h0, newRow]
      simp at hfill'
      rw [hfill']; simp
    · simp only [h0, if_false] at hfill'
      have : ¬ 16777216 < m * k := by omega
      simp [Instr.buildSlice, run_underlying hu, run_sizeOf hk, newRow, hrun, this]
      rw [if_neg h0, hfill']; simp
  · have key := hok.addArr (w' := { w with heap := w.heap.push (.cells vs e) }) (Ext.push w _) hf (k := k) (l := rowsOf k m cs) (cs := vs) (T := e) (fr := (0, 0)) (x := w.heap.size) (cap := m) (Nat.le_refl _) (heap_push _ _) (fun j _ hj => by omega)
      (fun i hi => (rowsOf_getD k m cs hlen i (by rwa [length_rowsOf] at hi)).1) (by rw [length_rowsOf, ← hcs.1, hlen]; exact Nat.le_refl _) (fun i j hi hj => ?_) ⟨by rw [length_rowsOf]; exact Nat.le_refl _, by omega, by rw [← hcs.1, hlen]; exact Nat.le_refl _⟩
    · rw [length_rowsOf] at key; exact key
    · rw [length_rowsOf] at hi
      have hlt : i * k + j < m * k := by
        have : (i + 1) * k ≤ m * k := Nat.mul_le_mul_right k hi
        rw [Nat.succ_mul] at this; omega
      refine ⟨hone' _ (by rw [← hcs.1, hlen]; exact hlt), ?_⟩
      rw [(rowsOf_getD k m cs hlen i hi).2 j hj]
      exact (hcs.2 _ (by rw [hlen]; exact hlt)).closed (isCloL_getD hclo (by rw [hlen]; exact hlt))

theorem al_mk (hok : OK C σ a w S ρ κ) {t e : TypeId} {i : TypeInfo} {zv : Value} (hu : P.underlying t = some (.slice e)) (hi : P.info? e = some i) (hz : i.zero = some zv) {x : Operand}
    (hv : al (evO σ.s) σ.h n K (.mk i.size i.bytes (zv.cells.toList.map fun x => .v x) x)) : Made P C σ a w S n K (Instr.makeSlice t (a.eval x) (a.eval x)) := by
  have hx := hok.ev x
  generalize a.eval x = va at hx ⊢
  simp only [al] at hv
  split at hv
  · rename_i m hc
    rw [hc] at hx
    obtain rfl := inv_v hx
    obtain ⟨⟨h0, h1, h2, h3, hall⟩, hK⟩ := hv
    have hzs : zv.cells.size = i.size := by simpa using h3
    have hrun := run_make (P := P) w t e i zv hu hi hz .i64 .i64 m m h0 (by omega) (by rw [Int.mul_comm]; omega) (by omega)
    refine ⟨_, _, _, _, hK, hrun, fun hf _ => ?_⟩
    have hmc : ∀ j, j < m.toNat * i.size → (madeCells zv.cells (m.toNat * i.size)).getD j undef = zv.cells.getD (j % i.size) undef := fun j hj => range_cells _ _ _ hzs _ hj
    have hlen : (List.replicate m.toNat (zv.cells.toList.map fun x => AV.v x)).length = m.toNat := by simp
    have hget : ∀ j, j < m.toNat → (List.replicate m.toNat (zv.cells.toList.map fun x => AV.v x)).getD j [] = (zv.cells.toList.map fun x => AV.v x) := by
      intro j hj; simp [List.getD, hj]
    have key := hok.addArr (w' := w.alloc (.cells (madeCells zv.cells (m.toNat * i.size)) e)) (Ext.push w _) hf (k := i.size) (l := List.replicate m.toNat (zv.cells.toList.map fun x => .v x)) (cs := madeCells zv.cells (m.toNat * i.size)) (T := e) (fr := (0, 0)) (x := w.heap.size) (cap := m.toNat) (Nat.le_refl _) (heap_push _ _) (fun j _ hj => by omega)
      (fun j hj => by rw [hlen] at hj; rw [hget j hj]; exact h3) (by rw [hlen, size_madeCells]; exact Nat.le_refl _) (fun p j hp hj => ?_) ⟨by rw [hlen]; exact Nat.le_refl _, by omega, by rw [size_madeCells]; exact Nat.le_refl _⟩
    · rw [hlen] at key; exact key
    · rw [hlen] at hp
      have hlt : p * i.size + j < m.toNat * i.size := by
        have : (p + 1) * i.size ≤ m.toNat * i.size := Nat.mul_le_mul_right _ hp
        rw [Nat.succ_mul] at this; omega
      rw [hmc _ hlt, hget p hp]
      have e1 : (p * i.size + j) % i.size = j := by rw [Nat.mul_comm, Nat.mul_add_mod, Nat.mod_eq_of_lt hj]
      rw [e1]
      have hjl : j < (zv.cells.toList.map fun x => AV.v x).length := by rw [h3]; exact hj
      have h4 := (cells_v (S := S) (w := w) (ρ := ρ) (κ := κ) (h := σ.h) zv.cells).2 j hjl
      have h5 := all_getD hall hjl
      simp only [Bool.and_eq_true] at h5
      exact ⟨one_val h4 h5.1, h4.closed h5.2⟩
  · exact hv.elim
end Go.Vs
