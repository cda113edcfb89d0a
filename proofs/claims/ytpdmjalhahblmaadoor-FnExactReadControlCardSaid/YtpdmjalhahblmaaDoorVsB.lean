/- The state of a walk without worlds, what it says of a frame and a world, and how it goes on. -/
import Derived.Calls
import Derived.Orders
import Derived.Still
import Derived.Laws.Sem
import Derived.Lib.ItoaNum
namespace Go.Vs
class Envs where
  l : List (Nat × (Option Obj → Prop))
def envs [Envs] : List (Nat × (Option Obj → Prop)) := Envs.l
end Go.Vs

namespace Go.Vs
set_option linter.unusedSectionVars false
variable [Envs]

/-- A name of a block that a call may write: handed in, or made at a slot. -/
inductive Name where
  | b (j : Nat)
  | t (slot j : Nat)
  deriving DecidableEq

inductive AV where
  | v (x : Value)
  | sl (k : Nat) (l : List (List AV))
  | ro (c : List AV)
  | loc (n : Name) (off len : Nat)
  | ptr (n : Name) (e c : Nat)
  | fn (f : FuncId) (caps : List AV)
  | agg (c : List AV)
  | tup (c : List AV)
  | junk
  deriving Inhabited

inductive Blk where
  | var (c : List AV) (fz : Bool)
  | arr (k : Nat) (l : List (List AV)) (fz : Bool)

def Blk.k : Blk → Nat
  | .var _ _ => 0
  | .arr k _ _ => k

def Blk.fz : Blk → Bool
  | .var _ z => z
  | .arr _ _ z => z

def Blk.same : Blk → Blk → Prop
  | .var c _, .var c' _ => c.length = c'.length
  | .arr k l _, .arr k' l' _ => k = k' ∧ l.length = l'.length
  | _, _ => False

theorem Blk.same_refl (b : Blk) : b.same b := by cases b <;> simp [Blk.same]
theorem Blk.same_trans {a b c : Blk} (h : a.same b) (h' : b.same c) : a.same c := by
  cases a <;> cases b <;> cases c <;> simp_all [Blk.same]
theorem Blk.same_k {a b : Blk} (h : a.same b) : a.k = b.k := by
  cases a <;> cases b <;> simp_all [Blk.same, Blk.k]

/-- What a closed value reads as: memory that stays. -/
inductive RC (S : Nat → Prop) (w : World) : AV → Value → Prop
  | v (x : Value) : RC S w (.v x) x
  | sl (k : Nat) (l : List (List AV)) (base : Option Addr) (cap x off : Nat) (xs : Nat → Value)
      (hb : l ≠ [] → base = some ⟨x, off, none⟩ ∧ S x)
      (hc : ∀ i j, i < l.length → j < k → w.cell? ⟨x, off + (i * k + j), none⟩ = some (xs (i * k + j)))
      (ho : ∀ i j, i < l.length → j < k → (xs (i * k + j)).oneCell' = true)
      (hr : ∀ i j, i < l.length → j < k → RC S w ((l.getD i []).getD j .junk) (xs (i * k + j)))
      (hk : ∀ i, i < l.length → (l.getD i []).length = k)
      (hcap : l.length ≤ cap ∧ cap < 2 ^ 63) : RC S w (.sl k l) (.slice base l.length cap)
  | ro (c : List AV) (x off : Nat) (xs : Nat → Value) (hS : S x)
      (hc : ∀ j, j < c.length → w.cell? ⟨x, off + j, none⟩ = some (xs j))
      (ho : ∀ j, j < c.length → (xs j).oneCell' = true)
      (hr : ∀ j, j < c.length → RC S w (c.getD j .junk) (xs j)) : RC S w (.ro c) (.pointer (some ⟨x, off, none⟩))
  | fn (f : FuncId) (c : List AV) (vs : Array Value) (hl : c.length = vs.size)
      (hr : ∀ j, j < c.length → RC S w (c.getD j .junk) (vs.getD j undef)) : RC S w (.fn f c) (.func (.func f) #[] vs)
  | agg (c : List AV) (vs : Array Value) (hl : c.length = vs.size)
      (hr : ∀ j, j < c.length → RC S w (c.getD j .junk) (vs.getD j undef)) : RC S w (.agg c) (.agg vs)
  | tup (c : List AV) (vs : Array Value) (hl : c.length = vs.size)
      (hr : ∀ j, j < c.length → RC S w (c.getD j .junk) (vs.getD j undef)) : RC S w (.tup c) (.tuple vs)

theorem cell?_of_block {w w' : World} {b off : Nat} (h : w'.heap[b]? = w.heap[b]?) : w'.cell? ⟨b, off, none⟩ = w.cell? ⟨b, off, none⟩ := by
  simp [World.cell?, h]

theorem RC.mono {S S' : Nat → Prop} {w w' : World} (hS : ∀ b, S b → S' b) (hw : ∀ b, S b → w'.heap[b]? = w.heap[b]?) {x : AV} {v : Value} (h : RC S w x v) : RC S' w' x v := by
  induction h with
  | v x => exact .v x
  | sl k l base cap x off xs hb hc ho hr hk hcap ih =>
    by_cases hl : l = []
    · subst hl
      exact .sl k [] base cap x off xs (by simp) (by simp) (by simp) (by simp) (by simp) hcap
    · refine .sl k l base cap x off xs (fun h => ⟨(hb h).1, hS _ (hb h).2⟩) (fun i j hi hj => ?_) ho ih hk hcap
      rw [cell?_of_block (hw _ (hb hl).2)]; exact hc i j hi hj
  | ro c x off xs hx hc ho hr ih =>
    refine .ro c x off xs (hS _ hx) (fun j hj => ?_) ho ih
    rw [cell?_of_block (hw _ hx)]; exact hc j hj
  | fn f c vs hl hr ih => exact .fn f c vs hl ih
  | agg c vs hl hr ih => exact .agg c vs hl ih
  | tup c vs hl hr ih => exact .tup c vs hl ih

mutual
def AV.has (n : Name) : AV → Bool
  | .loc m _ _ => decide (m = n)
  | .ptr m _ _ => decide (m = n)
  | .fn _ c => hasL n c
  | .agg c => hasL n c
  | .tup c => hasL n c
  | _ => false
def hasL (n : Name) : List AV → Bool
  | [] => false
  | x :: r => x.has n || hasL n r
end

theorem hasL_getD {n : Name} : ∀ {c : List AV} {j : Nat}, hasL n c = false → (c.getD j .junk).has n = false
  | [], j, _ => by simp [AV.has]
  | x :: r, 0, h => by simp [hasL] at h; simpa using h.1
  | x :: r, j + 1, h => by simp [hasL] at h; simpa using hasL_getD (c := r) (j := j) h.2

def Blk.has (n : Name) : Blk → Bool
  | .var c _ => hasL n c
  | .arr _ _ _ => false

/-! ## the open reading -/
def LocOK (ρ : Name → Option Nat) (κ : Name → Nat) (h : Name → Option Blk) (n : Name) (off len : Nat) (v : Value) : Prop :=
  ∀ k l z, h n = some (.arr k l z) → off + len ≤ l.length ∧ ∃ base cap, v = .slice base len cap ∧ len ≤ cap ∧ cap < 2 ^ 63 ∧
    (0 < len → ∃ x, ρ n = some x ∧ base = some ⟨x, off * k, none⟩) ∧
    (off = 0 → len = l.length → (ρ n = none ∧ base = none ∧ cap = 0) ∨ ∃ x, ρ n = some x ∧ base = some ⟨x, 0, none⟩ ∧ cap * k ≤ κ n)

def PtrOK (ρ : Name → Option Nat) (h : Name → Option Blk) (n : Name) (e c : Nat) (v : Value) : Prop :=
  ∀ b, h n = some b → ∃ x, ρ n = some x ∧ v = .pointer (some ⟨x, e * b.k + c, none⟩)

inductive RV (S : Nat → Prop) (w : World) (ρ : Name → Option Nat) (κ : Name → Nat) (h : Name → Option Blk) : AV → Value → Prop
  | junk (v : Value) : RV S w ρ κ h .junk v
  | clo {x : AV} {v : Value} (hx : RC S w x v) : RV S w ρ κ h x v
  | loc (n : Name) (off len : Nat) (v : Value) (hv : LocOK ρ κ h n off len v) : RV S w ρ κ h (.loc n off len) v
  | ptr (n : Name) (e c : Nat) (v : Value) (hv : PtrOK ρ h n e c v) : RV S w ρ κ h (.ptr n e c) v
  | fn (f : FuncId) (c : List AV) (vs : Array Value) (hl : c.length = vs.size)
      (hr : ∀ j, j < c.length → RV S w ρ κ h (c.getD j .junk) (vs.getD j undef)) : RV S w ρ κ h (.fn f c) (.func (.func f) #[] vs)
  | agg (c : List AV) (vs : Array Value) (hl : c.length = vs.size)
      (hr : ∀ j, j < c.length → RV S w ρ κ h (c.getD j .junk) (vs.getD j undef)) : RV S w ρ κ h (.agg c) (.agg vs)
  | tup (c : List AV) (vs : Array Value) (hl : c.length = vs.size)
      (hr : ∀ j, j < c.length → RV S w ρ κ h (c.getD j .junk) (vs.getD j undef)) : RV S w ρ κ h (.tup c) (.tuple vs)

/-- The name is unchanged, but for what its block holds. -/
def NameOK (ρ ρ' : Name → Option Nat) (κ κ' : Name → Nat) (h h' : Name → Option Blk) (n : Name) : Prop :=
  ∀ b', h' n = some b' → ρ' n = ρ n ∧ κ' n = κ n ∧ ∃ b, h n = some b ∧ b.same b'

theorem LocOK.mono {ρ ρ' : Name → Option Nat} {κ κ' : Name → Nat} {h h' : Name → Option Blk} {n : Name} {off len : Nat} {v : Value}
    (hn : NameOK ρ ρ' κ κ' h h' n) (hv : LocOK ρ κ h n off len v) : LocOK ρ' κ' h' n off len v := by
  intro k l z hl
  obtain ⟨e1, e2, b, hb, hs⟩ := hn _ hl
  cases b with
  | var c z' => simp [Blk.same] at hs
  | arr k' l' z' =>
    simp only [Blk.same] at hs
    obtain ⟨rfl, hll⟩ := hs
    have := hv _ _ _ hb
    rw [e1, e2, ← hll]
    exact this

theorem PtrOK.mono {ρ ρ' : Name → Option Nat} {κ κ' : Name → Nat} {h h' : Name → Option Blk} {n : Name} {e c : Nat} {v : Value}
    (hn : NameOK ρ ρ' κ κ' h h' n) (hv : PtrOK ρ h n e c v) : PtrOK ρ' h' n e c v := by
  intro b' hb'
  obtain ⟨e1, e2, b, hb, hs⟩ := hn _ hb'
  obtain ⟨x, hx, hv⟩ := hv _ hb
  exact ⟨x, by rw [e1]; exact hx, by rw [← Blk.same_k hs]; exact hv⟩

theorem RV.mono {S S' : Nat → Prop} {w w' : World} {ρ ρ' : Name → Option Nat} {κ κ' : Name → Nat} {h h' : Name → Option Blk}
    (hS : ∀ b, S b → S' b) (hw : ∀ b, S b → w'.heap[b]? = w.heap[b]?) {x : AV} {v : Value}
    (hx : RV S w ρ κ h x v) (hn : ∀ n, x.has n = true → NameOK ρ ρ' κ κ' h h' n) : RV S' w' ρ' κ' h' x v := by
  have key : ∀ c : List AV, ∀ j, j < c.length → ∀ n, (c.getD j .junk).has n = true → hasL n c = true := by
    intro c j hj n hh
    cases hc : hasL n c with
    | true => rfl
    | false => rw [hasL_getD hc] at hh; cases hh
  induction hx with
  | junk v => exact .junk v
  | clo hx => exact .clo (hx.mono hS hw)
  | loc n off len v hv => exact .loc n off len v (hv.mono (hn n (by simp [AV.has])))
  | ptr n e c v hv => exact .ptr n e c v (hv.mono (hn n (by simp [AV.has])))
  | fn f c vs hl hr ih => exact .fn f c vs hl fun j hj => ih j hj fun n hh => hn n (by simpa [AV.has] using key c j hj n hh)
  | agg c vs hl hr ih => exact .agg c vs hl fun j hj => ih j hj fun n hh => hn n (by simpa [AV.has] using key c j hj n hh)
  | tup c vs hl hr ih => exact .tup c vs hl fun j hj => ih j hj fun n hh => hn n (by simpa [AV.has] using key c j hj n hh)

/-! ## the blocks -/
def Thaw (fr : Nat × Nat) (n : Nat) : Prop := ∀ j, j < n → ¬ (fr.1 ≤ j ∧ j < fr.2)

def BlkOK (S : Nat → Prop) (w : World) (ρ : Name → Option Nat) (κ : Name → Nat) (h : Name → Option Blk) (n : Name) : Blk → Prop
  | .var c z => ∃ x cs T fr, ρ n = some x ∧ w.heap[x]? = some (.cells cs T fr) ∧ Thaw fr cs.size ∧ (z = false → ¬ S x) ∧ (z = true → S x) ∧ cs.size = κ n ∧
      c.length ≤ cs.size ∧ ∀ j, j < c.length → (cs.getD j undef).oneCell' = true ∧ RV S w ρ κ h (c.getD j .junk) (cs.getD j undef)
  | .arr k l z => (∀ i, i < l.length → (l.getD i []).length = k) ∧ ((ρ n = none ∧ l = []) ∨ ∃ x cs T fr, ρ n = some x ∧ w.heap[x]? = some (.cells cs T fr) ∧ Thaw fr cs.size ∧
      (z = false → ¬ S x) ∧ (z = true → S x) ∧ cs.size = κ n ∧ l.length * k ≤ cs.size ∧
      ∀ i j, i < l.length → j < k → (cs.getD (i * k + j) undef).oneCell' = true ∧ RC S w ((l.getD i []).getD j .junk) (cs.getD (i * k + j) undef))

/-- The tables that are laid lie there still. -/
def Env (S : Nat → Prop) (w : World) : Prop := ∀ p, p ∈ envs → S p.1 ∧ p.2 w.heap[p.1]?
/-- tables among which block g holds what p says -/
class Tab (g : Nat) (p : Option Obj → Prop) extends Envs where
  has : ∀ S w, @Env toEnvs S w → S g ∧ p w.heap[g]?

theorem Env.mono {S S' : Nat → Prop} {w w' : World} (h : Env S w) (hS : ∀ b, S b → S' b) (hw : ∀ b, S b → w'.heap[b]? = w.heap[b]?) : Env S' w' :=
  fun p hp => ⟨hS _ (h p hp).1, by rw [hw _ (h p hp).1]; exact (h p hp).2⟩

structure HOK (S : Nat → Prop) (w : World) (ρ : Name → Option Nat) (κ : Name → Nat) (h : Name → Option Blk) : Prop where
  blk : ∀ n b, h n = some b → BlkOK S w ρ κ h n b
  inj : ∀ n m x, (h n).isSome → (h m).isSome → ρ n = some x → ρ m = some x → n = m
  dom : ∀ b, S b → b < w.heap.size
  env : Env S w

theorem BlkOK.mono {S S' : Nat → Prop} {w w' : World} {ρ ρ' : Name → Option Nat} {κ κ' : Name → Nat} {h h' : Name → Option Blk} {n : Name} {b : Blk}
    (hS : ∀ b, S b → S' b) (hS' : ∀ x, ρ n = some x → S' x → S x) (hw : ∀ b, S b → w'.heap[b]? = w.heap[b]?)
    (hb : BlkOK S w ρ κ h n b) (hx : ∀ x, ρ n = some x → w'.heap[x]? = w.heap[x]?) (e1 : ρ' n = ρ n) (e2 : κ' n = κ n)
    (hn : ∀ m, b.has m = true → NameOK ρ ρ' κ κ' h h' m) : BlkOK S' w' ρ' κ' h' n b := by
  cases b with
  | var c z =>
    obtain ⟨x, cs, T, fr, h1, h2, h3, h4, h4', h5, h6, h7⟩ := hb
    refine ⟨x, cs, T, fr, by rw [e1]; exact h1, by rw [hx x h1]; exact h2, h3, fun hz hs => h4 hz (hS' _ h1 hs), fun hz => hS _ (h4' hz), by rw [e2]; exact h5, h6, fun j hj => ⟨(h7 j hj).1, (h7 j hj).2.mono hS hw fun m hm => hn m ?_⟩⟩
    cases hc : hasL m c with
    | true => simp [Blk.has, hc]
    | false => rw [hasL_getD hc] at hm; cases hm
  | arr k l z =>
    obtain ⟨h0, h⟩ := hb
    refine ⟨h0, ?_⟩
    rcases h with ⟨h1, h2⟩ | ⟨x, cs, T, fr, h1, h2, h3, h4, h4', h5, h6, h7⟩
    · exact .inl ⟨by rw [e1]; exact h1, h2⟩
    · exact .inr ⟨x, cs, T, fr, by rw [e1]; exact h1, by rw [hx x h1]; exact h2, h3, fun hz hs => h4 hz (hS' _ h1 hs), fun hz => hS _ (h4' hz), by rw [e2]; exact h5, h6, fun i j hi hj => ⟨(h7 i j hi hj).1, (h7 i j hi hj).2.mono hS hw⟩⟩

end Go.Vs

namespace Go.Vs
def powP : Option Obj → Prop := fun o => ∃ T fr, o = some (.cells (Lib.pow10Tab.map fun z => Value.int .u64 z).toArray T fr)
theorem Tab.at {g : Nat} {p : Option Obj → Prop} [h : Tab g p] {S : Nat → Prop} {w : World} (he : Env S w) : S g ∧ p w.heap[g]? := h.has S w he
end Go.Vs

namespace Go.Vs
set_option linter.unusedSectionVars false
variable [Envs]

structure FSt where
  s : Nat → AV
  h : Name → Option Blk

structure Ctx where
  nt : Nat
  w0 : World
  S0 : Nat → Prop
  Mut : Nat → Prop
  ρ0 : Nat → Option Nat := fun _ => none
  κ0 : Nat → Nat := fun _ => 0
  h0 : Nat → Option Blk := fun _ => none

structure OK (C : Ctx) (σ : FSt) (a : Act) (w : World) (S : Nat → Prop) (ρ : Name → Option Nat) (κ : Name → Nat) : Prop where
  nt : a.tmps.size = C.nt
  defers : a.defers = []
  slots : ∀ t, RV S w ρ κ σ.h (σ.s t) (a.tmps.getD t undef)
  hok : HOK S w ρ κ σ.h
  size : C.w0.heap.size ≤ w.heap.size
  old : ∀ b, b < C.w0.heap.size → ¬ C.Mut b → w.heap[b]? = C.w0.heap[b]?
  mine : ∀ n x, (σ.h n).isSome → ρ n = some x → C.w0.heap.size ≤ x ∨ C.Mut x
  S0 : ∀ b, C.S0 b → S b
  Snew : ∀ b, S b → C.S0 b ∨ C.w0.heap.size ≤ b ∨ C.Mut b
  out : w.os = C.w0.os ∧ w.output = C.w0.output
  keep : ∀ j b, σ.h (.b j) = some b → ρ (.b j) = C.ρ0 j ∧ κ (.b j) = C.κ0 j ∧ ∃ b0, C.h0 j = some b0 ∧ b0.same b

def Good (C : Ctx) (K : FSt → Prop) (a : Act) (w : World) : Prop := ∃ σ S ρ κ, K σ ∧ OK C σ a w S ρ κ

theorem Good.mono {C : Ctx} {K K' : FSt → Prop} {a : Act} {w : World} (hk : ∀ σ, K σ → K' σ) (h : Good C K a w) : Good C K' a w :=
  let ⟨σ, S, ρ, κ, h1, h2⟩ := h; ⟨σ, S, ρ, κ, hk _ h1, h2⟩

def upd (s : Nat → AV) (d : Option Nat) (x : AV) : Nat → AV :=
  match d with
  | some d => fun t => if t = d then x else s t
  | none => s

def hput (h : Name → Option Blk) (n : Name) (b : Option Blk) : Name → Option Blk := fun m => if m = n then b else h m

theorem OK.put {C : Ctx} {σ : FSt} {a : Act} {w : World} {S : Nat → Prop} {ρ : Name → Option Nat} {κ : Name → Nat} (hok : OK C σ a w S ρ κ) {x : AV} {v : Value}
    (hx : RV S w ρ κ σ.h x v) {d : Option Nat} (hd : ∀ d', d = some d' → d' < C.nt) : OK C ⟨upd σ.s d x, σ.h⟩ (a.put d v) w S ρ κ := by
  cases d with
  | none => exact hok
  | some d =>
    have hd := hd d rfl
    refine { hok with nt := by simp [Act.put, hok.nt], defers := by simp [Act.put, hok.defers], slots := fun t => ?_ }
    simp only [upd, Act.put]
    by_cases ht : t = d
    · subst ht
      have : t < a.tmps.size := by rw [hok.nt]; exact hd
      simp only [if_true]
      have e : (a.tmps.setIfInBounds t v).getD t undef = v := by simp [this]
      rw [e]; exact hx
    · simp only [ht, if_false]
      have e : (a.tmps.setIfInBounds d v).getD t undef = a.tmps.getD t undef := by
        simp [Array.getElem?_setIfInBounds_ne (Ne.symm ht)]
      rw [e]; exact hok.slots t

/-- All that was there is as it was. -/
def Ext (w w' : World) : Prop := w.heap.size ≤ w'.heap.size ∧ (∀ b, b < w.heap.size → w'.heap[b]? = w.heap[b]?) ∧ w'.os = w.os ∧ w'.output = w.output

theorem Ext.refl (w : World) : Ext w w := ⟨Nat.le_refl _, fun _ _ => rfl, rfl, rfl⟩
theorem Ext.of_heap {w w' : World} (h : w'.heap = w.heap) (h1 : w'.os = w.os) (h2 : w'.output = w.output) : Ext w w' := ⟨by rw [h]; exact Nat.le_refl _, fun _ _ => by rw [h], h1, h2⟩
theorem Ext.push (w : World) (o : Obj) : Ext w { w with heap := w.heap.push o } :=
  ⟨by simp, fun b hb => by simp [Array.getElem?_push, Nat.ne_of_lt hb], rfl, rfl⟩
theorem Ext.trans {w w1 w2 : World} (h : Ext w w1) (h' : Ext w1 w2) : Ext w w2 :=
  ⟨Nat.le_trans h.1 h'.1, fun b hb => by rw [h'.2.1 b (Nat.lt_of_lt_of_le hb h.1), h.2.1 b hb], h'.2.2.1.trans h.2.2.1, h'.2.2.2.trans h.2.2.2⟩

theorem NameOK.refl (ρ : Name → Option Nat) (κ : Name → Nat) (h : Name → Option Blk) (n : Name) : NameOK ρ ρ κ κ h h n :=
  fun b' hb => ⟨rfl, rfl, b', hb, b'.same_refl⟩

theorem HOK.lt {S : Nat → Prop} {w : World} {ρ : Name → Option Nat} {κ : Name → Nat} {h : Name → Option Blk} (hok : HOK S w ρ κ h) {n : Name} {x : Nat}
    (hn : (h n).isSome) (hx : ρ n = some x) : x < w.heap.size := by
  obtain ⟨b, hb⟩ := Option.isSome_iff_exists.1 hn
  have := hok.blk n b hb
  have key : ∀ {x : Nat} {cs : Array Value} {T : TypeId} {fr : Nat × Nat}, w.heap[x]? = some (.cells cs T fr) → x < w.heap.size := by
    intro x cs T fr h
    rcases Nat.lt_or_ge x w.heap.size with h' | h'
    · exact h'
    · simp [Array.getElem?_eq_none h'] at h
  cases b with
  | var c z =>
    obtain ⟨y, cs, T, fr, h1, h2, _⟩ := this
    obtain rfl := Option.some.inj (h1.symm.trans hx)
    exact key h2
  | arr k l z =>
    obtain ⟨_, ⟨h1, _⟩ | ⟨y, cs, T, fr, h1, h2, _⟩⟩ := this
    · rw [h1] at hx; cases hx
    · obtain rfl := Option.some.inj (h1.symm.trans hx)
      exact key h2

theorem HOK.ext {S : Nat → Prop} {w w' : World} {ρ : Name → Option Nat} {κ : Name → Nat} {h : Name → Option Blk} (hok : HOK S w ρ κ h) (he : Ext w w') : HOK S w' ρ κ h where
  blk n b hb := (hok.blk n b hb).mono (fun _ h => h) (fun _ _ h => h) (fun b hb => he.2.1 b (hok.dom b hb)) (fun x hx => he.2.1 x (hok.lt (by simp [hb]) hx)) rfl rfl (fun m _ => NameOK.refl _ _ _ _)
  inj := hok.inj
  dom b hb := Nat.lt_of_lt_of_le (hok.dom b hb) he.1
  env := hok.env.mono (fun _ h => h) fun b hb => he.2.1 b (hok.dom b hb)

theorem OK.ext {C : Ctx} {σ : FSt} {a : Act} {w w' : World} {S : Nat → Prop} {ρ : Name → Option Nat} {κ : Name → Nat} (hok : OK C σ a w S ρ κ) (he : Ext w w') : OK C σ a w' S ρ κ where
  nt := hok.nt
  defers := hok.defers
  slots t := (hok.slots t).mono (fun _ h => h) (fun b hb => he.2.1 b (hok.hok.dom b hb)) (fun n _ => NameOK.refl _ _ _ _)
  hok := hok.hok.ext he
  size := Nat.le_trans hok.size he.1
  old b hb hm := by rw [he.2.1 b (Nat.lt_of_lt_of_le hb hok.size)]; exact hok.old b hb hm
  mine := hok.mine
  S0 := hok.S0
  Snew := hok.Snew
  out := ⟨he.2.2.1.trans hok.out.1, he.2.2.2.trans hok.out.2⟩
  keep := hok.keep

def FreshF (n : Name) (σ : FSt) : Prop := (σ.h n = none ∧ ∀ j, n ≠ .b j) ∧ (∀ t, (σ.s t).has n = false) ∧ ∀ m b, σ.h m = some b → b.has n = false

/-- A block that is new, under a name that nothing bears. -/
theorem OK.add {C : Ctx} {σ : FSt} {a : Act} {w w' : World} {S : Nat → Prop} {ρ : Name → Option Nat} {κ : Name → Nat} (hok : OK C σ a w S ρ κ) (he : Ext w w')
    {n : Name} (hf : FreshF n σ) {b : Blk} {ox : Option Nat} {kn : Nat} (hox : ∀ x, ox = some x → w.heap.size ≤ x)
    (hb : ∀ ρ' κ' h', ρ' n = ox → κ' n = kn → (∀ m, m ≠ n → NameOK ρ ρ' κ κ' σ.h h' m) → BlkOK S w' ρ' κ' h' n b) :
    OK C ⟨σ.s, hput σ.h n (some b)⟩ a w' S (fun m => if m = n then ox else ρ m) (fun m => if m = n then kn else κ m) := by
  have hn : ∀ m, m ≠ n → NameOK ρ (fun m => if m = n then ox else ρ m) κ (fun m => if m = n then kn else κ m) σ.h (hput σ.h n (some b)) m := by
    intro m hm b' hb'
    simp only [hput, hm, if_false] at hb' ⊢
    exact ⟨trivial, trivial, b', hb', b'.same_refl⟩
  have hok' := hok.ext he
  have hkeep : ∀ j c, hput σ.h n (some b) (.b j) = some c → (if Name.b j = n then ox else ρ (.b j)) = C.ρ0 j ∧ (if Name.b j = n then kn else κ (.b j)) = C.κ0 j ∧ ∃ b0, C.h0 j = some b0 ∧ b0.same c := by
    intro j c hc
    have e : Name.b j ≠ n := fun e => hf.1.2 j e.symm
    simp only [hput, e, if_false] at hc ⊢
    exact hok.keep j c hc
  refine { hok' with slots := fun t => ?_, hok := ⟨fun m c hc => ?_, fun m m' x h1 h2 h3 h4 => ?_, hok'.hok.dom, hok'.hok.env⟩, mine := fun m x h1 h2 => ?_, keep := hkeep }
  · refine (hok'.slots t).mono (fun _ h => h) (fun _ _ => rfl) fun m hm => hn m ?_
    rintro rfl
    rw [hf.2.1 t] at hm; cases hm
  · by_cases hmn : m = n
    · subst hmn
      simp only [hput, if_true] at hc
      obtain rfl := Option.some.inj hc
      exact hb _ _ _ (by simp) (by simp) hn
    · simp only [hput, hmn, if_false] at hc
      refine (hok'.hok.blk m c hc).mono (fun _ h => h) (fun _ _ h => h) (fun _ _ => rfl) (fun _ _ => rfl) (by simp [hmn]) (by simp [hmn]) fun m' hm' => hn m' ?_
      rintro rfl
      rw [hf.2.2 m c hc] at hm'; cases hm'
  · have old : ∀ m x, m ≠ n → (hput σ.h n (some b) m).isSome → (if m = n then ox else ρ m) = some x → x < w.heap.size := by
      intro m x hm h1 h2
      simp only [hput, hm, if_false] at h1 h2
      exact hok.hok.lt h1 h2
    by_cases e1 : m = n <;> by_cases e2 : m' = n
    · rw [e1, e2]
    · have := old m' x e2 h2 h4
      simp only [e1, if_true] at h3
      have := hox _ h3; omega
    · have := old m x e1 h1 h3
      simp only [e2, if_true] at h4
      have := hox _ h4; omega
    · simp only [hput, e1, e2, if_false] at h1 h2 h3 h4
      exact hok.hok.inj m m' x h1 h2 h3 h4
  · by_cases e : m = n
    · simp only [e, if_true] at h2
      exact .inl (Nat.le_trans hok.size (hox _ h2))
    · simp only [hput, e, if_false] at h1 h2
      exact hok.mine m x h1 h2

/-! ## operands -/
def AV.ofValue : Value → AV
  | .agg cs => .agg (cs.toList.map fun x => .v x)
  | x => .v x

def evO (s : Nat → AV) : Operand → AV
  | .tmp t => s t
  | .const v => .ofValue v
  | .global _ => .junk
  | .func f => .fn f []

theorem rc_cells {S : Nat → Prop} {w : World} (cs : Array Value) : RC S w (.agg (cs.toList.map fun x => .v x)) (.agg cs) := by
  refine .agg _ _ (by simp) fun j hj => ?_
  simp only [List.length_map, Array.length_toList] at hj
  simp [List.getD, hj]
  exact .v _

theorem OK.ev {C : Ctx} {σ : FSt} {a : Act} {w : World} {S : Nat → Prop} {ρ : Name → Option Nat} {κ : Name → Nat} (hok : OK C σ a w S ρ κ) (x : Operand) :
    RV S w ρ κ σ.h (evO σ.s x) (a.eval x) := by
  cases x with
  | tmp t => exact hok.slots t
  | const v => cases v <;> first | exact .clo (rc_cells _) | exact .clo (.v _)
  | global g => exact .junk _
  | func f => exact .fn f [] #[] rfl (by simp)

end Go.Vs
