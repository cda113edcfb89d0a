/- The abstract values of a walk without worlds: their reading in a world, and what keeps a reading. -/
import Derived.Calls
import Derived.Lib.ItoaNum
import Derived.Orders
import Derived.Still
import Derived.Laws.Sem
namespace Go.Vs
def envs : List (Nat × (Option Obj → Prop)) := [(5, fun o => ∃ T fr, o = some (.cells (Lib.pow10Tab.map fun z => Value.int .u64 z).toArray T fr))]
end Go.Vs

namespace Go.Vs

/-- A name of a block that a call may write: handed in, or made at a slot. -/
inductive Name where
  | b (j : Nat)
  | t (slot j : Nat)
  deriving DecidableEq

inductive AV where
  | v (x : Value)
  | sl (k : Nat) (l : List (List AV))
  | ro (c : List AV)
  | loc (n : Name) (off len : Nat)
  | ptr (n : Name) (e c : Nat)
  | fn (f : FuncId) (caps : List AV)
  | agg (c : List AV)
  | tup (c : List AV)
  | junk
  deriving Inhabited

inductive Blk where
  | var (c : List AV) (fz : Bool)
  | arr (k : Nat) (l : List (List AV)) (fz : Bool)

def Blk.k : Blk → Nat
  | .var _ _ => 0
  | .arr k _ _ => k

def Blk.fz : Blk → Bool
  | .var _ z => z
  | .arr _ _ z => z

def Blk.same : Blk → Blk → Prop
  | .var c _, .var c' _ => c.length = c'.length
  | .arr k l _, .arr k' l' _ => k = k' ∧ l.length = l'.length
  | _, _ => False

theorem Blk.same_refl (b : Blk) : b.same b := by cases b <;> simp [Blk.same]
theorem Blk.same_trans {a b c : Blk} (h : a.same b) (h' : b.same c) : a.same c := by
  cases a <;> cases b <;> cases c <;> simp_all [Blk.same]
theorem Blk.same_k {a b : Blk} (h : a.same b) : a.k = b.k := by
  cases a <;> cases b <;> simp_all [Blk.same, Blk.k]

/-- What a closed value reads as: memory that stays. -/
inductive RC (S : Nat → Prop) (w : World) : AV → Value → Prop
  | v (x : Value) : RC S w (.v x) x
  | sl (k : Nat) (l : List (List AV)) (base : Option Addr) (cap x off : Nat) (xs : Nat → Value)
      (hb : l ≠ [] → base = some ⟨x, off, none⟩ ∧ S x)
      (hc : ∀ i j, i < l.length → j < k → w.cell? ⟨x, off + (i * k + j), none⟩ = some (xs (i * k + j)))
      (ho : ∀ i j, i < l.length → j < k → (xs (i * k + j)).oneCell' = true)
      (hr : ∀ i j, i < l.length → j < k → RC S w ((l.getD i []).getD j .junk) (xs (i * k + j)))
      (hk : ∀ i, i < l.length → (l.getD i []).length = k)
      (hcap : l.length ≤ cap ∧ cap < 2 ^ 63) : RC S w (.sl k l) (.slice base l.length cap)
  | ro (c : List AV) (x off : Nat) (xs : Nat → Value) (hS : S x)
      (hc : ∀ j, j < c.length → w.cell? ⟨x, off + j, none⟩ = some (xs j))
      (ho : ∀ j, j < c.length → (xs j).oneCell' = true)
      (hr : ∀ j, j < c.length → RC S w (c.getD j .junk) (xs j)) : RC S w (.ro c) (.pointer (some ⟨x, off, none⟩))
  | fn (f : FuncId) (c : List AV) (vs : Array Value) (hl : c.length = vs.size)
      (hr : ∀ j, j < c.length → RC S w (c.getD j .junk) (vs.getD j undef)) : RC S w (.fn f c) (.func (.func f) #[] vs)
  | agg (c : List AV) (vs : Array Value) (hl : c.length = vs.size)
      (hr : ∀ j, j < c.length → RC S w (c.getD j .junk) (vs.getD j undef)) : RC S w (.agg c) (.agg vs)
  | tup (c : List AV) (vs : Array Value) (hl : c.length = vs.size)
      (hr : ∀ j, j < c.length → RC S w (c.getD j .junk) (vs.getD j undef)) : RC S w (.tup c) (.tuple vs)

theorem cell?_of_block {w w' : World} {b off : Nat} (h : w'.heap[b]? = w.heap[b]?) : w'.cell? ⟨b, off, none⟩ = w.cell? ⟨b, off, none⟩ := by
  simp [World.cell?, h]

theorem RC.mono {S S' : Nat → Prop} {w w' : World} (hS : ∀ b, S b → S' b) (hw : ∀ b, S b → w'.heap[b]? = w.heap[b]?) {x : AV} {v : Value} (h : RC S w x v) : RC S' w' x v := by
  induction h with
  | v x => exact .v x
  | sl k l base cap x off xs hb hc ho hr hk hcap ih =>
    by_cases hl : l = []
    · subst hl
      exact .sl k [] base cap x off xs (by simp) (by simp) (by simp) (by simp) (by simp) hcap
    · refine .sl k l base cap x off xs (fun h => ⟨(hb h).1, hS _ (hb h).2⟩) (fun i j hi hj => ?_) ho ih hk hcap
      rw [cell?_of_block (hw _ (hb hl).2)]; exact hc i j hi hj
  | ro c x off xs hx hc ho hr ih =>
    refine .ro c x off xs (hS _ hx) (fun j hj => ?_) ho ih
    rw [cell?_of_block (hw _ hx)]; exact hc j hj
  | fn f c vs hl hr ih => exact .fn f c vs hl ih
  | agg c vs hl hr ih => exact .agg c vs hl ih
  | tup c vs hl hr ih => exact .tup c vs hl ih

mutual
def AV.has (n : Name) : AV → Bool
  | .loc m _ _ => decide (m = n)
  | .ptr m _ _ => decide (m = n)
  | .fn _ c => hasL n c
  | .agg c => hasL n c
  | .tup c => hasL n c
  | _ => false
def hasL (n : Name) : List AV → Bool
  | [] => false
  | x :: r => x.has n || hasL n r
end

theorem hasL_getD {n : Name} : ∀ {c : List AV} {j : Nat}, hasL n c = false → (c.getD j .junk).has n = false
  | [], j, _ => by simp [AV.has]
  | x :: r, 0, h => by simp [hasL] at h; simpa using h.1
  | x :: r, j + 1, h => by simp [hasL] at h; simpa using hasL_getD (c := r) (j := j) h.2

def Blk.has (n : Name) : Blk → Bool
  | .var c _ => hasL n c
  | .arr _ _ _ => false

/-! ## the open reading -/
def LocOK (ρ : Name → Option Nat) (κ : Name → Nat) (h : Name → Option Blk) (n : Name) (off len : Nat) (v : Value) : Prop :=
  ∀ k l z, h n = some (.arr k l z) → off + len ≤ l.length ∧ ∃ base cap, v = .slice base len cap ∧ len ≤ cap ∧ cap < 2 ^ 63 ∧
    (0 < len → ∃ x, ρ n = some x ∧ base = some ⟨x, off * k, none⟩) ∧
    (off = 0 → len = l.length → (ρ n = none ∧ base = none ∧ cap = 0) ∨ ∃ x, ρ n = some x ∧ base = some ⟨x, 0, none⟩ ∧ cap * k ≤ κ n)

def PtrOK (ρ : Name → Option Nat) (h : Name → Option Blk) (n : Name) (e c : Nat) (v : Value) : Prop :=
  ∀ b, h n = some b → ∃ x, ρ n = some x ∧ v = .pointer (some ⟨x, e * b.k + c, none⟩)

inductive RV (S : Nat → Prop) (w : World) (ρ : Name → Option Nat) (κ : Name → Nat) (h : Name → Option Blk) : AV → Value → Prop
  | junk (v : Value) : RV S w ρ κ h .junk v
  | clo {x : AV} {v : Value} (hx : RC S w x v) : RV S w ρ κ h x v
  | loc (n : Name) (off len : Nat) (v : Value) (hv : LocOK ρ κ h n off len v) : RV S w ρ κ h (.loc n off len) v
  | ptr (n : Name) (e c : Nat) (v : Value) (hv : PtrOK ρ h n e c v) : RV S w ρ κ h (.ptr n e c) v
  | fn (f : FuncId) (c : List AV) (vs : Array Value) (hl : c.length = vs.size)
      (hr : ∀ j, j < c.length → RV S w ρ κ h (c.getD j .junk) (vs.getD j undef)) : RV S w ρ κ h (.fn f c) (.func (.func f) #[] vs)
  | agg (c : List AV) (vs : Array Value) (hl : c.length = vs.size)
      (hr : ∀ j, j < c.length → RV S w ρ κ h (c.getD j .junk) (vs.getD j undef)) : RV S w ρ κ h (.agg c) (.agg vs)
  | tup (c : List AV) (vs : Array Value) (hl : c.length = vs.size)
      (hr : ∀ j, j < c.length → RV S w ρ κ h (c.getD j .junk) (vs.getD j undef)) : RV S w ρ κ h (.tup c) (.tuple vs)

/-- The name is unchanged, but for what its block holds. -/
def NameOK (ρ ρ' : Name → Option Nat) (κ κ' : Name → Nat) (h h' : Name → Option Blk) (n : Name) : Prop :=
  ∀ b', h' n = some b' → ρ' n = ρ n ∧ κ' n = κ n ∧ ∃ b, h n = some b ∧ b.same b'

theorem LocOK.mono {ρ ρ' : Name → Option Nat} {κ κ' : Name → Nat} {h h' : Name → Option Blk} {n : Name} {off len : Nat} {v : Value}
    (hn : NameOK ρ ρ' κ κ' h h' n) (hv : LocOK ρ κ h n off len v) : LocOK ρ' κ' h' n off len v := by
  intro k l z hl
  obtain ⟨e1, e2, b, hb, hs⟩ := hn _ hl
  cases b with
  | var c z' => simp [Blk.same] at hs
  | arr k' l' z' =>
    simp only [Blk.same] at hs
    obtain ⟨rfl, hll⟩ := hs
    have := hv _ _ _ hb
    rw [e1, e2, ← hll]
    exact this

theorem PtrOK.mono {ρ ρ' : Name → Option Nat} {κ κ' : Name → Nat} {h h' : Name → Option Blk} {n : Name} {e c : Nat} {v : Value}
    (hn : NameOK ρ ρ' κ κ' h h' n) (hv : PtrOK ρ h n e c v) : PtrOK ρ' h' n e c v := by
  intro b' hb'
  obtain ⟨e1, e2, b, hb, hs⟩ := hn _ hb'
  obtain ⟨x, hx, hv⟩ := hv _ hb
  exact ⟨x, by rw [e1]; exact hx, by rw [← Blk.same_k hs]; exact hv⟩

theorem RV.mono {S S' : Nat → Prop} {w w' : World} {ρ ρ' : Name → Option Nat} {κ κ' : Name → Nat} {h h' : Name → Option Blk}
    (hS : ∀ b, S b → S' b) (hw : ∀ b, S b → w'.heap[b]? = w.heap[b]?) {x : AV} {v : Value}
    (hx : RV S w ρ κ h x v) (hn : ∀ n, x.has n = true → NameOK ρ ρ' κ κ' h h' n) : RV S' w' ρ' κ' h' x v := by
  have key : ∀ c : List AV, ∀ j, j < c.length → ∀ n, (c.getD j .junk).has n = true → hasL n c = true := by
    intro c j hj n hh
    cases hc : hasL n c with
    | true => rfl
    | false => rw [hasL_getD hc] at hh; cases hh
  induction hx with
  | junk v => exact .junk v
  | clo hx => exact .clo (hx.mono hS hw)
  | loc n off len v hv => exact .loc n off len v (hv.mono (hn n (by simp [AV.has])))
  | ptr n e c v hv => exact .ptr n e c v (hv.mono (hn n (by simp [AV.has])))
  | fn f c vs hl hr ih => exact .fn f c vs hl fun j hj => ih j hj fun n hh => hn n (by simpa [AV.has] using key c j hj n hh)
  | agg c vs hl hr ih => exact .agg c vs hl fun j hj => ih j hj fun n hh => hn n (by simpa [AV.has] using key c j hj n hh)
  | tup c vs hl hr ih => exact .tup c vs hl fun j hj => ih j hj fun n hh => hn n (by simpa [AV.has] using key c j hj n hh)

/-! ## the blocks -/
def Thaw (fr : Nat × Nat) (n : Nat) : Prop := ∀ j, j < n → ¬ (fr.1 ≤ j ∧ j < fr.2)

def BlkOK (S : Nat → Prop) (w : World) (ρ : Name → Option Nat) (κ : Name → Nat) (h : Name → Option Blk) (n : Name) : Blk → Prop
  | .var c z => ∃ x cs T fr, ρ n = some x ∧ w.heap[x]? = some (.cells cs T fr) ∧ Thaw fr cs.size ∧ (z = false → ¬ S x) ∧ (z = true → S x) ∧ cs.size = κ n ∧
      c.length ≤ cs.size ∧ ∀ j, j < c.length → (cs.getD j undef).oneCell' = true ∧ RV S w ρ κ h (c.getD j .junk) (cs.getD j undef)
  | .arr k l z => (∀ i, i < l.length → (l.getD i []).length = k) ∧ ((ρ n = none ∧ l = []) ∨ ∃ x cs T fr, ρ n = some x ∧ w.heap[x]? = some (.cells cs T fr) ∧ Thaw fr cs.size ∧
      (z = false → ¬ S x) ∧ (z = true → S x) ∧ cs.size = κ n ∧ l.length * k ≤ cs.size ∧
      ∀ i j, i < l.length → j < k → (cs.getD (i * k + j) undef).oneCell' = true ∧ RC S w ((l.getD i []).getD j .junk) (cs.getD (i * k + j) undef))

/-- The tables that are laid lie there still. -/
def Env (S : Nat → Prop) (w : World) : Prop := ∀ p, p ∈ envs → S p.1 ∧ p.2 w.heap[p.1]?

theorem Env.mono {S S' : Nat → Prop} {w w' : World} (h : Env S w) (hS : ∀ b, S b → S' b) (hw : ∀ b, S b → w'.heap[b]? = w.heap[b]?) : Env S' w' :=
  fun p hp => ⟨hS _ (h p hp).1, by rw [hw _ (h p hp).1]; exact (h p hp).2⟩

structure HOK (S : Nat → Prop) (w : World) (ρ : Name → Option Nat) (κ : Name → Nat) (h : Name → Option Blk) : Prop where
  blk : ∀ n b, h n = some b → BlkOK S w ρ κ h n b
  inj : ∀ n m x, (h n).isSome → (h m).isSome → ρ n = some x → ρ m = some x → n = m
  dom : ∀ b, S b → b < w.heap.size
  env : Env S w

theorem BlkOK.mono {S S' : Nat → Prop} {w w' : World} {ρ ρ' : Name → Option Nat} {κ κ' : Name → Nat} {h h' : Name → Option Blk} {n : Name} {b : Blk}
    (hS : ∀ b, S b → S' b) (hS' : ∀ x, ρ n = some x → S' x → S x) (hw : ∀ b, S b → w'.heap[b]? = w.heap[b]?)
    (hb : BlkOK S w ρ κ h n b) (hx : ∀ x, ρ n = some x → w'.heap[x]? = w.heap[x]?) (e1 : ρ' n = ρ n) (e2 : κ' n = κ n)
    (hn : ∀ m, b.has m = true → NameOK ρ ρ' κ κ' h h' m) : BlkOK S' w' ρ' κ' h' n b := by
  cases b with
  | var c z =>
    obtain ⟨x, cs, T, fr, h1, h2, h3, h4, h4', h5, h6, h7⟩ := hb
    refine ⟨x, cs, T, fr, by rw [e1]; exact h1, by rw [hx x h1]; exact h2, h3, fun hz hs => h4 hz (hS' _ h1 hs), fun hz => hS _ (h4' hz), by rw [e2]; exact h5, h6, fun j hj => ⟨(h7 j hj).1, (h7 j hj).2.mono hS hw fun m hm => hn m ?_⟩⟩
    cases hc : hasL m c with
    | true => simp [Blk.has, hc]
    | false => rw [hasL_getD hc] at hm; cases hm
  | arr k l z =>
    obtain ⟨h0, h⟩ := hb
    refine ⟨h0, ?_⟩
    rcases h with ⟨h1, h2⟩ | ⟨x, cs, T, fr, h1, h2, h3, h4, h4', h5, h6, h7⟩
    · exact .inl ⟨by rw [e1]; exact h1, h2⟩
    · exact .inr ⟨x, cs, T, fr, by rw [e1]; exact h1, by rw [hx x h1]; exact h2, h3, fun hz hs => h4 hz (hS' _ h1 hs), fun hz => hS _ (h4' hz), by rw [e2]; exact h5, h6, fun i j hi hj => ⟨(h7 i j hi hj).1, (h7 i j hi hj).2.mono hS hw⟩⟩

end Go.Vs
