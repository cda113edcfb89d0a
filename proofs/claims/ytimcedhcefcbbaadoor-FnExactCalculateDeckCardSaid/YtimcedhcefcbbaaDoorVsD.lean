/- What reads is what the machine reads. -/
import Derived.Calls
import Derived.Orders
import Derived.Still
import Derived.Laws.Sem
import Derived.Lib.ItoaNum
import Derived.Laws.Cells
import Derived.Laws.Slices
set_option linter.all false
set_option maxHeartbeats 8000000
namespace Go.Vs
section
class Envs where
 l : List (Nat × (Option Obj → Prop))
def envs [Envs] : List (Nat × (Option Obj → Prop)) := Envs.l
end
section
variable [Envs]
inductive Name where
 | b (j : Nat)
 | t (slot j : Nat)
 deriving DecidableEq
inductive AV where
 | v (x : Value)
 | sl (k : Nat) (l : List (List AV))
 | ro (c : List AV)
 | loc (n : Name) (off len : Nat)
 | ptr (n : Name) (e c : Nat)
 | fn (f : FuncId) (caps : List AV)
 | agg (c : List AV)
 | tup (c : List AV)
 | junk
 deriving Inhabited
inductive Blk where
 | var (c : List AV) (fz : Bool)
 | arr (k : Nat) (l : List (List AV)) (fz : Bool)
def Blk.k : Blk → Nat
 | .var _ _ => 0
 | .arr k _ _ => k
def Blk.fz : Blk → Bool
 | .var _ z => z
 | .arr _ _ z => z
def Blk.same : Blk → Blk → Prop
 | .var c _, .var c' _ => c.length = c'.length
 | .arr k l _, .arr k' l' _ => k = k' ∧ l.length = l'.length
 | _, _ => False
theorem Blk.same_refl (b : Blk) : b.same b := by cases b <;> simp [Blk.same]
theorem Blk.same_trans {a b c : Blk} (h : a.same b) (h' : b.same c) : a.same c := by
 cases a <;> cases b <;> cases c <;> simp_all [Blk.same]
theorem Blk.same_k {a b : Blk} (h : a.same b) : a.k = b.k := by
 cases a <;> cases b <;> simp_all [Blk.same, Blk.k]
inductive RC (S : Nat → Prop) (w : World) : AV → Value → Prop
 | v (x : Value) : RC S w (.v x) x
 | sl (k : Nat) (l : List (List AV)) (base : Option Addr) (cap x off : Nat) (xs : Nat → Value)
   (hb : l ≠ [] → base = some ⟨x, off, none⟩ ∧ S x)
   (hc : ∀ i j, i < l.length → j < k → w.cell? ⟨x, off + (i * k + j), none⟩ = some (xs (i * k + j)))
   (ho : ∀ i j, i < l.length → j < k → (xs (i * k + j)).oneCell' = true)
   (hr : ∀ i j, i < l.length → j < k → RC S w ((l.getD i []).getD j .junk) (xs (i * k + j)))
   (hk : ∀ i, i < l.length → (l.getD i []).length = k)
   (hcap : l.length ≤ cap ∧ cap < 2 ^ 63) : RC S w (.sl k l) (.slice base l.length cap)
 | ro (c : List AV) (x off : Nat) (xs : Nat → Value) (hS : S x)
   (hc : ∀ j, j < c.length → w.cell? ⟨x, off + j, none⟩ = some (xs j))
   (ho : ∀ j, j < c.length → (xs j).oneCell' = true)
   (hr : ∀ j, j < c.length → RC S w (c.getD j .junk) (xs j)) : RC S w (.ro c) (.pointer (some ⟨x, off, none⟩))
 | fn (f : FuncId) (c : List AV) (vs : Array Value) (hl : c.length = vs.size)
   (hr : ∀ j, j < c.length → RC S w (c.getD j .junk) (vs.getD j undef)) : RC S w (.fn f c) (.func (.func f) #[] vs)
 | agg (c : List AV) (vs : Array Value) (hl : c.length = vs.size)
   (hr : ∀ j, j < c.length → RC S w (c.getD j .junk) (vs.getD j undef)) : RC S w (.agg c) (.agg vs)
 | tup (c : List AV) (vs : Array Value) (hl : c.length = vs.size)
   (hr : ∀ j, j < c.length → RC S w (c.getD j .junk) (vs.getD j undef)) : RC S w (.tup c) (.tuple vs)
theorem cell?_of_block {w w' : World} {b off : Nat} (h : w'.heap[b]? = w.heap[b]?) : w'.cell? ⟨b, off, none⟩ = w.cell? ⟨b, off, none⟩ := by
 simp [World.cell?, h]
theorem RC.mono {S S' : Nat → Prop} {w w' : World} (hS : ∀ b, S b → S' b) (hw : ∀ b, S b → w'.heap[b]? = w.heap[b]?) {x : AV} {v : Value} (h : RC S w x v) : RC S' w' x v := by
 induction h with
 | v x => exact .v x
 | sl k l base cap x off xs hb hc ho hr hk hcap ih =>
  by_cases hl : l = []
  ·subst hl
   exact .sl k [] base cap x off xs (by simp) (by simp) (by simp) (by simp) (by simp) hcap
  ·refine .sl k l base cap x off xs (fun h => ⟨(hb h).1, hS _ (hb h).2⟩) (fun i j hi hj => ?_) ho ih hk hcap
   rw [cell?_of_block (hw _ (hb hl).2)]; exact hc i j hi hj
 | ro c x off xs hx hc ho hr ih =>
  refine .ro c x off xs (hS _ hx) (fun j hj => ?_) ho ih
  rw [cell?_of_block (hw _ hx)]; exact hc j hj
 | fn f c vs hl hr ih => exact .fn f c vs hl ih
 | agg c vs hl hr ih => exact .agg c vs hl ih
 | tup c vs hl hr ih => exact .tup c vs hl ih
mutual
def AV.has (n : Name) : AV → Bool
 | .loc m _ _ => decide (m = n)
 | .ptr m _ _ => decide (m = n)
 | .fn _ c => hasL n c
 | .agg c => hasL n c
 | .tup c => hasL n c
 | _ => false
def hasL (n : Name) : List AV → Bool
 | [] => false
 | x :: r => x.has n || hasL n r
end
theorem hasL_getD {n : Name} : ∀ {c : List AV} {j : Nat}, hasL n c = false → (c.getD j .junk).has n = false
 | [], j, _ => by simp [AV.has]
 | x :: r, 0, h => by simp [hasL] at h; simpa using h.1
 | x :: r, j + 1, h => by simp [hasL] at h; simpa using hasL_getD (c := r) (j := j) h.2
def Blk.has (n : Name) : Blk → Bool
 | .var c _ => hasL n c
 | .arr _ _ _ => false
/-! ## the open reading -/
def LocOK (ρ : Name → Option Nat) (κ : Name → Nat) (h : Name → Option Blk) (n : Name) (off len : Nat) (v : Value) : Prop :=
 ∀ k l z, h n = some (.arr k l z) → off + len ≤ l.length ∧ ∃ base cap, v = .slice base len cap ∧ len ≤ cap ∧ cap < 2 ^ 63 ∧
  (0 < len → ∃ x, ρ n = some x ∧ base = some ⟨x, off * k, none⟩) ∧
  (off = 0 → len = l.length → (ρ n = none ∧ base = none ∧ cap = 0) ∨ ∃ x, ρ n = some x ∧ base = some ⟨x, 0, none⟩ ∧ cap * k ≤ κ n)
def PtrOK (ρ : Name → Option Nat) (h : Name → Option Blk) (n : Name) (e c : Nat) (v : Value) : Prop :=
 ∀ b, h n = some b → ∃ x, ρ n = some x ∧ v = .pointer (some ⟨x, e * b.k + c, none⟩)
inductive RV (S : Nat → Prop) (w : World) (ρ : Name → Option Nat) (κ : Name → Nat) (h : Name → Option Blk) : AV → Value → Prop
 | junk (v : Value) : RV S w ρ κ h .junk v
 | clo {x : AV} {v : Value} (hx : RC S w x v) : RV S w ρ κ h x v
 | loc (n : Name) (off len : Nat) (v : Value) (hv : LocOK ρ κ h n off len v) : RV S w ρ κ h (.loc n off len) v
 | ptr (n : Name) (e c : Nat) (v : Value) (hv : PtrOK ρ h n e c v) : RV S w ρ κ h (.ptr n e c) v
 | fn (f : FuncId) (c : List AV) (vs : Array Value) (hl : c.length = vs.size)
   (hr : ∀ j, j < c.length → RV S w ρ κ h (c.getD j .junk) (vs.getD j undef)) : RV S w ρ κ h (.fn f c) (.func (.func f) #[] vs)
 | agg (c : List AV) (vs : Array Value) (hl : c.length = vs.size)
   (hr : ∀ j, j < c.length → RV S w ρ κ h (c.getD j .junk) (vs.getD j undef)) : RV S w ρ κ h (.agg c) (.agg vs)
 | tup (c : List AV) (vs : Array Value) (hl : c.length = vs.size)
   (hr : ∀ j, j < c.length → RV S w ρ κ h (c.getD j .junk) (vs.getD j undef)) : RV S w ρ κ h (.tup c) (.tuple vs)
def NameOK (ρ ρ' : Name → Option Nat) (κ κ' : Name → Nat) (h h' : Name → Option Blk) (n : Name) : Prop :=
 ∀ b', h' n = some b' → ρ' n = ρ n ∧ κ' n = κ n ∧ ∃ b, h n = some b ∧ b.same b'
theorem LocOK.mono {ρ ρ' : Name → Option Nat} {κ κ' : Name → Nat} {h h' : Name → Option Blk} {n : Name} {off len : Nat} {v : Value}
  (hn : NameOK ρ ρ' κ κ' h h' n) (hv : LocOK ρ κ h n off len v) : LocOK ρ' κ' h' n off len v := by
 intro k l z hl
 obtain ⟨e1, e2, b, hb, hs⟩ := hn _ hl
 cases b with
 | var c z' => simp [Blk.same] at hs
 | arr k' l' z' =>
  simp only [Blk.same] at hs
  obtain ⟨rfl, hll⟩ := hs
  have := hv _ _ _ hb
  rw [e1, e2, ← hll]
  exact this
theorem PtrOK.mono {ρ ρ' : Name → Option Nat} {κ κ' : Name → Nat} {h h' : Name → Option Blk} {n : Name} {e c : Nat} {v : Value}
  (hn : NameOK ρ ρ' κ κ' h h' n) (hv : PtrOK ρ h n e c v) : PtrOK ρ' h' n e c v := by
 intro b' hb'
 obtain ⟨e1, e2, b, hb, hs⟩ := hn _ hb'
 obtain ⟨x, hx, hv⟩ := hv _ hb
 exact ⟨x, by rw [e1]; exact hx, by rw [← Blk.same_k hs]; exact hv⟩
theorem RV.mono {S S' : Nat → Prop} {w w' : World} {ρ ρ' : Name → Option Nat} {κ κ' : Name → Nat} {h h' : Name → Option Blk}
  (hS : ∀ b, S b → S' b) (hw : ∀ b, S b → w'.heap[b]? = w.heap[b]?) {x : AV} {v : Value}
  (hx : RV S w ρ κ h x v) (hn : ∀ n, x.has n = true → NameOK ρ ρ' κ κ' h h' n) : RV S' w' ρ' κ' h' x v := by
 have key : ∀ c : List AV, ∀ j, j < c.length → ∀ n, (c.getD j .junk).has n = true → hasL n c = true := by
  intro c j hj n hh
  cases hc : hasL n c with
  | true => rfl
  | false => rw [hasL_getD hc] at hh; cases hh
 induction hx with
 | junk v => exact .junk v
 | clo hx => exact .clo (hx.mono hS hw)
 | loc n off len v hv => exact .loc n off len v (hv.mono (hn n (by simp [AV.has])))
 | ptr n e c v hv => exact .ptr n e c v (hv.mono (hn n (by simp [AV.has])))
 | fn f c vs hl hr ih => exact .fn f c vs hl fun j hj => ih j hj fun n hh => hn n (by simpa [AV.has] using key c j hj n hh)
 | agg c vs hl hr ih => exact .agg c vs hl fun j hj => ih j hj fun n hh => hn n (by simpa [AV.has] using key c j hj n hh)
 | tup c vs hl hr ih => exact .tup c vs hl fun j hj => ih j hj fun n hh => hn n (by simpa [AV.has] using key c j hj n hh)
/-! ## the blocks -/
def Thaw (fr : Nat × Nat) (n : Nat) : Prop := ∀ j, j < n → ¬ (fr.1 ≤ j ∧ j < fr.2)
def BlkOK (S : Nat → Prop) (w : World) (ρ : Name → Option Nat) (κ : Name → Nat) (h : Name → Option Blk) (n : Name) : Blk → Prop
 | .var c z => ∃ x cs T fr, ρ n = some x ∧ w.heap[x]? = some (.cells cs T fr) ∧ Thaw fr cs.size ∧ (z = false → ¬ S x) ∧ (z = true → S x) ∧ cs.size = κ n ∧
   c.length ≤ cs.size ∧ ∀ j, j < c.length → (cs.getD j undef).oneCell' = true ∧ RV S w ρ κ h (c.getD j .junk) (cs.getD j undef)
 | .arr k l z => (∀ i, i < l.length → (l.getD i []).length = k) ∧ ((ρ n = none ∧ l = []) ∨ ∃ x cs T fr, ρ n = some x ∧ w.heap[x]? = some (.cells cs T fr) ∧ Thaw fr cs.size ∧
     (z = false → ¬ S x) ∧ (z = true → S x) ∧ cs.size = κ n ∧ l.length * k ≤ cs.size ∧
     ∀ i j, i < l.length → j < k → (cs.getD (i * k + j) undef).oneCell' = true ∧ RC S w ((l.getD i []).getD j .junk) (cs.getD (i * k + j) undef))
def Env (S : Nat → Prop) (w : World) : Prop := ∀ p, p ∈ envs → S p.1 ∧ p.2 w.heap[p.1]?
class Tab (g : Nat) (p : Option Obj → Prop) extends Envs where
 has : ∀ S w, @Env toEnvs S w → S g ∧ p w.heap[g]?
theorem Env.mono {S S' : Nat → Prop} {w w' : World} (h : Env S w) (hS : ∀ b, S b → S' b) (hw : ∀ b, S b → w'.heap[b]? = w.heap[b]?) : Env S' w' :=
 fun p hp => ⟨hS _ (h p hp).1, by rw [hw _ (h p hp).1]; exact (h p hp).2⟩
structure HOK (S : Nat → Prop) (w : World) (ρ : Name → Option Nat) (κ : Name → Nat) (h : Name → Option Blk) : Prop where
 blk : ∀ n b, h n = some b → BlkOK S w ρ κ h n b
 inj : ∀ n m x, (h n).isSome → (h m).isSome → ρ n = some x → ρ m = some x → n = m
 dom : ∀ b, S b → b < w.heap.size
 env : Env S w
theorem BlkOK.mono {S S' : Nat → Prop} {w w' : World} {ρ ρ' : Name → Option Nat} {κ κ' : Name → Nat} {h h' : Name → Option Blk} {n : Name} {b : Blk}
  (hS : ∀ b, S b → S' b) (hS' : ∀ x, ρ n = some x → S' x → S x) (hw : ∀ b, S b → w'.heap[b]? = w.heap[b]?)
  (hb : BlkOK S w ρ κ h n b) (hx : ∀ x, ρ n = some x → w'.heap[x]? = w.heap[x]?) (e1 : ρ' n = ρ n) (e2 : κ' n = κ n)
  (hn : ∀ m, b.has m = true → NameOK ρ ρ' κ κ' h h' m) : BlkOK S' w' ρ' κ' h' n b := by
 cases b with
 | var c z =>
  obtain ⟨x, cs, T, fr, h1, h2, h3, h4, h4', h5, h6, h7⟩ := hb
  refine ⟨x, cs, T, fr, by rw [e1]; exact h1, by rw [hx x h1]; exact h2, h3, fun hz hs => h4 hz (hS' _ h1 hs), fun hz => hS _ (h4' hz), by rw [e2]; exact h5, h6, fun j hj => ⟨(h7 j hj).1, (h7 j hj).2.mono hS hw fun m hm => hn m ?_⟩⟩
  cases hc : hasL m c with
  | true => simp [Blk.has, hc]
  | false => rw [hasL_getD hc] at hm; cases hm
 | arr k l z =>
  obtain ⟨h0, h⟩ := hb
  refine ⟨h0, ?_⟩
  rcases h with ⟨h1, h2⟩ | ⟨x, cs, T, fr, h1, h2, h3, h4, h4', h5, h6, h7⟩
  ·exact .inl ⟨by rw [e1]; exact h1, h2⟩
  ·exact .inr ⟨x, cs, T, fr, by rw [e1]; exact h1, by rw [hx x h1]; exact h2, h3, fun hz hs => h4 hz (hS' _ h1 hs), fun hz => hS _ (h4' hz), by rw [e2]; exact h5, h6, fun i j hi hj => ⟨(h7 i j hi hj).1, (h7 i j hi hj).2.mono hS hw⟩⟩
end
section
def powP : Option Obj → Prop := fun o => ∃ T fr, o = some (.cells (Lib.pow10Tab.map fun z => Value.int .u64 z).toArray T fr)
theorem Tab.at {g : Nat} {p : Option Obj → Prop} [h : Tab g p] {S : Nat → Prop} {w : World} (he : Env S w) : S g ∧ p w.heap[g]? := h.has S w he
end
section
variable [Envs]
structure FSt where
 s : Nat → AV
 h : Name → Option Blk
structure Ctx where
 nt : Nat
 w0 : World
 S0 : Nat → Prop
 Mut : Nat → Prop
 ρ0 : Nat → Option Nat := fun _ => none
 κ0 : Nat → Nat := fun _ => 0
 h0 : Nat → Option Blk := fun _ => none
structure OK (C : Ctx) (σ : FSt) (a : Act) (w : World) (S : Nat → Prop) (ρ : Name → Option Nat) (κ : Name → Nat) : Prop where
 nt : a.tmps.size = C.nt
 defers : a.defers = []
 slots : ∀ t, RV S w ρ κ σ.h (σ.s t) (a.tmps.getD t undef)
 hok : HOK S w ρ κ σ.h
 size : C.w0.heap.size ≤ w.heap.size
 old : ∀ b, b < C.w0.heap.size → ¬ C.Mut b → w.heap[b]? = C.w0.heap[b]?
 mine : ∀ n x, (σ.h n).isSome → ρ n = some x → C.w0.heap.size ≤ x ∨ C.Mut x
 S0 : ∀ b, C.S0 b → S b
 Snew : ∀ b, S b → C.S0 b ∨ C.w0.heap.size ≤ b ∨ C.Mut b
 out : w.os = C.w0.os ∧ w.output = C.w0.output
 keep : ∀ j b, σ.h (.b j) = some b → ρ (.b j) = C.ρ0 j ∧ κ (.b j) = C.κ0 j ∧ ∃ b0, C.h0 j = some b0 ∧ b0.same b
def Good (C : Ctx) (K : FSt → Prop) (a : Act) (w : World) : Prop := ∃ σ S ρ κ, K σ ∧ OK C σ a w S ρ κ
theorem Good.mono {C : Ctx} {K K' : FSt → Prop} {a : Act} {w : World} (hk : ∀ σ, K σ → K' σ) (h : Good C K a w) : Good C K' a w :=
 let ⟨σ, S, ρ, κ, h1, h2⟩ := h; ⟨σ, S, ρ, κ, hk _ h1, h2⟩
def upd (s : Nat → AV) (d : Option Nat) (x : AV) : Nat → AV :=
 match d with
 | some d => fun t => if t = d then x else s t
 | none => s
def hput (h : Name → Option Blk) (n : Name) (b : Option Blk) : Name → Option Blk := fun m => if m = n then b else h m
theorem OK.put {C : Ctx} {σ : FSt} {a : Act} {w : World} {S : Nat → Prop} {ρ : Name → Option Nat} {κ : Name → Nat} (hok : OK C σ a w S ρ κ) {x : AV} {v : Value}
  (hx : RV S w ρ κ σ.h x v) {d : Option Nat} (hd : ∀ d', d = some d' → d' < C.nt) : OK C ⟨upd σ.s d x, σ.h⟩ (a.put d v) w S ρ κ := by
 cases d with
 | none => exact hok
 | some d =>
  have hd := hd d rfl
  refine { hok with nt := by simp [Act.put, hok.nt], defers := by simp [Act.put, hok.defers], slots := fun t => ?_ }
  simp only [upd, Act.put]
  by_cases ht : t = d
  ·subst ht
   have : t < a.tmps.size := by rw [hok.nt]; exact hd
   simp only [if_true]
   have e : (a.tmps.setIfInBounds t v).getD t undef = v := by simp [this]
   rw [e]; exact hx
  ·simp only [ht, if_false]
   have e : (a.tmps.setIfInBounds d v).getD t undef = a.tmps.getD t undef := by
    simp [Array.getElem?_setIfInBounds_ne (Ne.symm ht)]
   rw [e]; exact hok.slots t
def Ext (w w' : World) : Prop := w.heap.size ≤ w'.heap.size ∧ (∀ b, b < w.heap.size → w'.heap[b]? = w.heap[b]?) ∧ w'.os = w.os ∧ w'.output = w.output
theorem Ext.refl (w : World) : Ext w w := ⟨Nat.le_refl _, fun _ _ => rfl, rfl, rfl⟩
theorem Ext.of_heap {w w' : World} (h : w'.heap = w.heap) (h1 : w'.os = w.os) (h2 : w'.output = w.output) : Ext w w' := ⟨by rw [h]; exact Nat.le_refl _, fun _ _ => by rw [h], h1, h2⟩
theorem Ext.push (w : World) (o : Obj) : Ext w { w with heap := w.heap.push o } :=
 ⟨by simp, fun b hb => by simp [Array.getElem?_push, Nat.ne_of_lt hb], rfl, rfl⟩
theorem Ext.trans {w w1 w2 : World} (h : Ext w w1) (h' : Ext w1 w2) : Ext w w2 :=
 ⟨Nat.le_trans h.1 h'.1, fun b hb => by rw [h'.2.1 b (Nat.lt_of_lt_of_le hb h.1), h.2.1 b hb], h'.2.2.1.trans h.2.2.1, h'.2.2.2.trans h.2.2.2⟩
theorem NameOK.refl (ρ : Name → Option Nat) (κ : Name → Nat) (h : Name → Option Blk) (n : Name) : NameOK ρ ρ κ κ h h n :=
 fun b' hb => ⟨rfl, rfl, b', hb, b'.same_refl⟩
theorem HOK.lt {S : Nat → Prop} {w : World} {ρ : Name → Option Nat} {κ : Name → Nat} {h : Name → Option Blk} (hok : HOK S w ρ κ h) {n : Name} {x : Nat}
  (hn : (h n).isSome) (hx : ρ n = some x) : x < w.heap.size := by
 obtain ⟨b, hb⟩ := Option.isSome_iff_exists.1 hn
 have := hok.blk n b hb
 have key : ∀ {x : Nat} {cs : Array Value} {T : TypeId} {fr : Nat × Nat}, w.heap[x]? = some (.cells cs T fr) → x < w.heap.size := by
  intro x cs T fr h
  rcases Nat.lt_or_ge x w.heap.size with h' | h'
  ·exact h'
  ·simp [Array.getElem?_eq_none h'] at h
 cases b with
 | var c z =>
  obtain ⟨y, cs, T, fr, h1, h2, _⟩ := this
  obtain rfl := Option.some.inj (h1.symm.trans hx)
  exact key h2
 | arr k l z =>
  obtain ⟨_, ⟨h1, _⟩ | ⟨y, cs, T, fr, h1, h2, _⟩⟩ := this
  ·rw [h1] at hx; cases hx
  ·obtain rfl := Option.some.inj (h1.symm.trans hx)
   exact key h2
theorem HOK.ext {S : Nat → Prop} {w w' : World} {ρ : Name → Option Nat} {κ : Name → Nat} {h : Name → Option Blk} (hok : HOK S w ρ κ h) (he : Ext w w') : HOK S w' ρ κ h where
 blk n b hb := (hok.blk n b hb).mono (fun _ h => h) (fun _ _ h => h) (fun b hb => he.2.1 b (hok.dom b hb)) (fun x hx => he.2.1 x (hok.lt (by simp [hb]) hx)) rfl rfl (fun m _ => NameOK.refl _ _ _ _)
 inj := hok.inj
 dom b hb := Nat.lt_of_lt_of_le (hok.dom b hb) he.1
 env := hok.env.mono (fun _ h => h) fun b hb => he.2.1 b (hok.dom b hb)
theorem OK.ext {C : Ctx} {σ : FSt} {a : Act} {w w' : World} {S : Nat → Prop} {ρ : Name → Option Nat} {κ : Name → Nat} (hok : OK C σ a w S ρ κ) (he : Ext w w') : OK C σ a w' S ρ κ where
 nt := hok.nt
 defers := hok.defers
 slots t := (hok.slots t).mono (fun _ h => h) (fun b hb => he.2.1 b (hok.hok.dom b hb)) (fun n _ => NameOK.refl _ _ _ _)
 hok := hok.hok.ext he
 size := Nat.le_trans hok.size he.1
 old b hb hm := by rw [he.2.1 b (Nat.lt_of_lt_of_le hb hok.size)]; exact hok.old b hb hm
 mine := hok.mine
 S0 := hok.S0
 Snew := hok.Snew
 out := ⟨he.2.2.1.trans hok.out.1, he.2.2.2.trans hok.out.2⟩
 keep := hok.keep
def FreshF (n : Name) (σ : FSt) : Prop := (σ.h n = none ∧ ∀ j, n ≠ .b j) ∧ (∀ t, (σ.s t).has n = false) ∧ ∀ m b, σ.h m = some b → b.has n = false
theorem OK.add {C : Ctx} {σ : FSt} {a : Act} {w w' : World} {S : Nat → Prop} {ρ : Name → Option Nat} {κ : Name → Nat} (hok : OK C σ a w S ρ κ) (he : Ext w w')
  {n : Name} (hf : FreshF n σ) {b : Blk} {ox : Option Nat} {kn : Nat} (hox : ∀ x, ox = some x → w.heap.size ≤ x)
  (hb : ∀ ρ' κ' h', ρ' n = ox → κ' n = kn → (∀ m, m ≠ n → NameOK ρ ρ' κ κ' σ.h h' m) → BlkOK S w' ρ' κ' h' n b) :
  OK C ⟨σ.s, hput σ.h n (some b)⟩ a w' S (fun m => if m = n then ox else ρ m) (fun m => if m = n then kn else κ m) := by
 have hn : ∀ m, m ≠ n → NameOK ρ (fun m => if m = n then ox else ρ m) κ (fun m => if m = n then kn else κ m) σ.h (hput σ.h n (some b)) m := by
  intro m hm b' hb'
  simp only [hput, hm, if_false] at hb' ⊢
  exact ⟨trivial, trivial, b', hb', b'.same_refl⟩
 have hok' := hok.ext he
 have hkeep : ∀ j c, hput σ.h n (some b) (.b j) = some c → (if Name.b j = n then ox else ρ (.b j)) = C.ρ0 j ∧ (if Name.b j = n then kn else κ (.b j)) = C.κ0 j ∧ ∃ b0, C.h0 j = some b0 ∧ b0.same c := by
  intro j c hc
  have e : Name.b j ≠ n := fun e => hf.1.2 j e.symm
  simp only [hput, e, if_false] at hc ⊢
  exact hok.keep j c hc
 refine { hok' with slots := fun t => ?_, hok := ⟨fun m c hc => ?_, fun m m' x h1 h2 h3 h4 => ?_, hok'.hok.dom, hok'.hok.env⟩, mine := fun m x h1 h2 => ?_, keep := hkeep }
 ·refine (hok'.slots t).mono (fun _ h => h) (fun _ _ => rfl) fun m hm => hn m ?_
  rintro rfl
  rw [hf.2.1 t] at hm; cases hm
 ·by_cases hmn : m = n
  ·subst hmn
   simp only [hput, if_true] at hc
   obtain rfl := Option.some.inj hc
   exact hb _ _ _ (by simp) (by simp) hn
  ·simp only [hput, hmn, if_false] at hc
   refine (hok'.hok.blk m c hc).mono (fun _ h => h) (fun _ _ h => h) (fun _ _ => rfl) (fun _ _ => rfl) (by simp [hmn]) (by simp [hmn]) fun m' hm' => hn m' ?_
   rintro rfl
   rw [hf.2.2 m c hc] at hm'; cases hm'
 ·have old : ∀ m x, m ≠ n → (hput σ.h n (some b) m).isSome → (if m = n then ox else ρ m) = some x → x < w.heap.size := by
   intro m x hm h1 h2
   simp only [hput, hm, if_false] at h1 h2
   exact hok.hok.lt h1 h2
  by_cases e1 : m = n <;> by_cases e2 : m' = n
  ·rw [e1, e2]
  ·have := old m' x e2 h2 h4
   simp only [e1, if_true] at h3
   have := hox _ h3; omega
  ·have := old m x e1 h1 h3
   simp only [e2, if_true] at h4
   have := hox _ h4; omega
  ·simp only [hput, e1, e2, if_false] at h1 h2 h3 h4
   exact hok.hok.inj m m' x h1 h2 h3 h4
 ·by_cases e : m = n
  ·simp only [e, if_true] at h2
   exact .inl (Nat.le_trans hok.size (hox _ h2))
  ·simp only [hput, e, if_false] at h1 h2
   exact hok.mine m x h1 h2
/-! ## operands -/
def AV.ofValue : Value → AV
 | .agg cs => .agg (cs.toList.map fun x => .v x)
 | x => .v x
def evO (s : Nat → AV) : Operand → AV
 | .tmp t => s t
 | .const v => .ofValue v
 | .global _ => .junk
 | .func f => .fn f []
theorem rc_cells {S : Nat → Prop} {w : World} (cs : Array Value) : RC S w (.agg (cs.toList.map fun x => .v x)) (.agg cs) := by
 refine .agg _ _ (by simp) fun j hj => ?_
 simp only [List.length_map, Array.length_toList] at hj
 simp [List.getD, hj]
 exact .v _
theorem OK.ev {C : Ctx} {σ : FSt} {a : Act} {w : World} {S : Nat → Prop} {ρ : Name → Option Nat} {κ : Name → Nat} (hok : OK C σ a w S ρ κ) (x : Operand) :
  RV S w ρ κ σ.h (evO σ.s x) (a.eval x) := by
 cases x with
 | tmp t => exact hok.slots t
 | const v => cases v <;> first | exact .clo (rc_cells _) | exact .clo (.v _)
 | global g => exact .junk _
 | func f => exact .fn f [] #[] rfl (by simp)
end
section
variable [Envs]
inductive AOp where
 | mv (x : Operand)
 | pick (c a b : Operand)
 | load (g : Bool) (k : Nat) (a : Operand)
 | fieldAddr (off : Nat) (x : Operand)
 | loadV (g : Bool) (k : Nat) (a : Operand)
 | fieldV (off : Nat) (x : Operand)
 | field (g : Bool) (off k : Nat) (x : Operand)
 | idxSl (k : Nat) (x i : Operand)
 | idxArr (n k : Nat) (x i : Operand)
 | idxAgg (g : Bool) (n k : Nat) (x i : Operand)
 | idxStr (x i : Operand)
 | bin (op : BinOp) (x y : Operand)
 | binS (op : BinOp) (x y : Operand)
 | binB (op : BinOp) (x y : Operand)
 | un (op : UnOp) (x : Operand)
 | conv (k : IntKind) (x : Operand)
 | b2s (x : Operand)
 | eqA (neg : Bool) (ks : List Nat) (x y : Operand)
 | idxB (x y : Operand)
 | len (x : Operand)
 | lenS (x : Operand)
 | lenC (n : Nat)
 | slc (k : Nat) (x : Operand) (lo hi : Option Operand)
 | sstr (x : Operand) (lo hi : Option Operand)
 | nilc (x : Operand)
 | extract (x : Operand) (i : Nat)
 | build (z : List AV) (parts : List (Nat × Nat × Operand))
 | mkfn (f : FuncId) (caps : List Operand)
 | mm (mx : Bool) (x y : Operand)
 | box (x : Operand)
 | alloc (z : List AV)
 | bslice (k n : Nat) (z : List AV) (parts : List (Nat × Operand))
 | mk (k bytes : Nat) (z : List AV) (n : Operand)
 | call (f : Operand) (args : List Operand) (bor : List Nat)
 | store (k : Nat) (a x : Operand)
 | append (k bytes : Nat) (a x : Operand)
 | appendC (k bytes : Nat) (a x : Operand)
 | bsliceC (k n : Nat) (z : List AV) (parts : List (Nat × Operand))
 | clr (k : Nat) (z : List AV) (x : Operand)
 deriving Inhabited
def oneB (h : Name → Option Blk) : AV → Bool
 | .v x => x.oneCell'
 | .sl _ _ => true
 | .ro _ => true
 | .fn _ _ => true
 | .loc n _ _ => match h n with | some (.arr _ _ _) => true | _ => false
 | .ptr n _ _ => (h n).isSome
 | _ => false
def cellsO (h : Name → Option Blk) : AV → Option (List AV)
 | .agg c => if c.all (oneB h) then some c else none
 | x => if oneB h x then some [x] else none
def AV.mk (g : Bool) (c : List AV) : AV := if g then .agg c else c.headD .junk
def Blk.row : Blk → Nat → List AV
 | .var c _, 0 => c
 | .var _ _, _ + 1 => []
 | .arr _ l _, e => l.getD e []
def bitsOp (op : BinOp) (k : IntKind) (a b : Int) : Int :=
 let x := BitVec.ofInt k.bits a
 let y := BitVec.ofInt k.bits b
 k.wrap (match op with | .and => x &&& y | .or => x ||| y | .xor => x ^^^ y | _ => x &&& ~~~y).toNat
def binI (op : BinOp) (k k' : IntKind) (a b : Int) (K : AV → Prop) : Prop :=
 match op with
 | .add => k = k' ∧ K (.v (.int k (k.wrap (a + b))))
 | .sub => k = k' ∧ K (.v (.int k (k.wrap (a - b))))
 | .mul => k = k' ∧ K (.v (.int k (k.wrap (a * b))))
 | .quo => (k = k' ∧ b ≠ 0) ∧ K (.v (.int k (k.wrap (a.tdiv b))))
 | .rem => (k = k' ∧ b ≠ 0) ∧ K (.v (.int k (a.tmod b)))
 | .eql => k = k' ∧ K (.v (.bool (a == b)))
 | .neq => k = k' ∧ K (.v (.bool (a != b)))
 | .lss => k = k' ∧ K (.v (.bool (a < b)))
 | .leq => k = k' ∧ K (.v (.bool (a ≤ b)))
 | .gtr => k = k' ∧ K (.v (.bool (a > b)))
 | .geq => k = k' ∧ K (.v (.bool (a ≥ b)))
 | .shl => 0 ≤ b ∧ K (.v (.int k (k.wrap (a * 2 ^ (min b.toNat k.bits)))))
 | .shr => 0 ≤ b ∧ K (.v (.int k (a.fdiv (2 ^ (min b.toNat k.bits)))))
 | .and => k = k' ∧ K (.v (.int k (bitsOp .and k a b)))
 | .or => k = k' ∧ K (.v (.int k (bitsOp .or k a b)))
 | .xor => k = k' ∧ K (.v (.int k (bitsOp .xor k a b)))
 | .andNot => k = k' ∧ K (.v (.int k (bitsOp .andNot k a b)))
def binStr (op : BinOp) (x y : ByteArray) (K : AV → Prop) : Prop :=
 match op with
 | .add => x.size + y.size ≤ 9223372036854775807 ∧ K (.v (.string (x ++ y)))
 | .eql => K (.v (.bool (x.toList == y.toList)))
 | .neq => K (.v (.bool (!(x.toList == y.toList))))
 | _ => False
def binBool (op : BinOp) (x y : Bool) (K : AV → Prop) : Prop :=
 match op with
 | .eql => K (.v (.bool (x == y)))
 | .neq => K (.v (.bool (!(x == y))))
 | _ => False
def lay : List AV → Nat → List AV → List AV
 | cs, _, [] => cs
 | cs, o, x :: r => lay (cs.set o x) (o + 1) r
def layAll (ev : Operand → AV) (h : Name → Option Blk) : List AV → List (Nat × Nat × Operand) → (List AV → Prop) → Prop
 | cs, [], K => K cs
 | cs, (o, n, x) :: r, K => match cellsO h (ev x) with
  | some c => (c.length = n ∧ o + n ≤ cs.length) ∧ layAll ev h (lay cs o c) r K
  | none => False
def eqV : Nat → Value → Value → Option Bool
 | 0, .int k a, .int k' b => if k = k' then some (a == b) else none
 | 1, .bool a, .bool b => some (a == b)
 | 2, .string a, .string b => some (a.toList == b.toList)
 | _, _, _ => none
def eqC : List Nat → List AV → List AV → Option Bool
 | [], [], [] => some true
 | k :: ks, .v x :: r, .v y :: s => match eqV k x y, eqC ks r s with
  | some a, some b => some (a && b)
  | _, _ => none
 | _, _, _ => none
def rowsO (k : Nat) (h : Name → Option Blk) : AV → Option (List (List AV))
 | .sl k' l => if k' = k then some l else none
 | .loc n off len => match h n with
  | some (.arr k' l _) => if k' = k then some ((l.drop off).take len) else none
  | _ => none
 | .v (.slice none 0 0) => some []
 | _ => none
inductive Tag {α : Type} (a : α) : Type where
 | x
 | y
def Br (b : Bool) (A B : Prop) (_ : Tag (A, B)) : Prop := (b = true → A) ∧ (b = false → B)
theorem Br_true {A B : Prop} {t : Tag (A, B)} : Br true A B t ↔ A := ⟨fun h => h.1 rfl, fun h => ⟨fun _ => h, fun h => (by cases h)⟩⟩
theorem Br_false {A B : Prop} {t : Tag (A, B)} : Br false A B t ↔ B := ⟨fun h => h.2 rfl, fun h => ⟨fun h => (by cases h), fun _ => h⟩⟩
theorem Br.mk {b : Bool} {A B : Prop} {t : Tag (A, B)} (h1 : b = true → A) (h2 : b = false → B) : Br b A B t := ⟨h1, h2⟩
theorem Br.get {b : Bool} {A B : Prop} {t : Tag (A, B)} (h : Br b A B t) : (b = true → A) ∧ (b = false → B) := h
def BrW (b want : Bool) (A B : Prop) : Prop := match want with
 | true => Br b A B .x
 | false => Br b B A .x
theorem BrW_iff {b want : Bool} {A B : Prop} : BrW b want A B ↔ (b = want → A) ∧ (b = !want → B) := by
 cases want
 ·exact ⟨fun h => ⟨h.2, h.1⟩, fun h => ⟨h.2, h.1⟩⟩
 ·exact ⟨fun h => ⟨h.1, h.2⟩, fun h => ⟨h.1, h.2⟩⟩
def numsO : List (List AV) → Option (List Int)
 | [] => some []
 | [.v (.int .u8 n)] :: r => match numsO r with
  | some l => some (n :: l)
  | none => none
 | _ => none
def idxByte (s : ByteArray) (c : Int) : Int := match (List.range s.size).find? fun i => s[i]! == c.toNat.toUInt8 with
 | some i => i
 | none => -1
def strB (ns : List Int) : ByteArray := ⟨(ns.map fun n => UInt8.ofNat n.toNat).toArray⟩
def plainV : AV → Bool
 | .v _ => true
 | _ => false
def rd (ev : Operand → AV) (h : Name → Option Blk) (K : AV → Prop) : AOp → Prop
 | .mv x => K (ev x)
 | .pick c a b => match ev c with
  | .v (.bool t) => Br t (K (ev a)) (K (ev b)) .x
  | _ => False
 | .load g k a => match ev a with
  | .ro c => k ≤ c.length ∧ K (.mk g (c.take k))
  | .ptr n e c => match h n with
   | some b => c + k ≤ (b.row e).length ∧ K (.mk g (((b.row e).drop c).take k))
   | none => False
  | _ => False
 | .fieldAddr off x => match ev x with
  | .ptr n e c => match h n with
   | some _ => K (.ptr n e (c + off))
   | none => False
  | .ro c => off ≤ c.length ∧ K (.ro (c.drop off))
  | _ => False
 | .loadV g k a => match ev a with
  | .ptr n e c => match h n with
   | some (.var cs z) => (c + k ≤ ((Blk.var cs z).row e).length ∧ (!g || ((((Blk.var cs z).row e).drop c).take k).all plainV) = true) ∧ K (.mk g ((((Blk.var cs z).row e).drop c).take k))
   | _ => False
  | _ => False
 | .fieldV off x => match ev x with
  | .ptr n e c => match h n with
   | some (.var _ _) => K (.ptr n e (c + off))
   | _ => False
  | _ => False
 | .field g off k x => match ev x with
  | .agg c => off + k ≤ c.length ∧ K (.mk g ((c.drop off).take k))
  | _ => False
 | .idxSl k x i => match ev x, ev i with
  | .sl k' l, .v (.int _ i) => (k' = k ∧ 0 ≤ i ∧ i < l.length) ∧ K (.ro (l.getD i.toNat []))
  | .loc n off len, .v (.int _ i) => match h n with
   | some (.arr k' _ _) => (k' = k ∧ 0 ≤ i ∧ i < len) ∧ K (.ptr n (off + i.toNat) 0)
   | _ => False
  | _, _ => False
 | .idxArr n k x i => match ev x, ev i with
  | .ro c, .v (.int _ i) => (0 ≤ i ∧ i < n ∧ i.toNat * k ≤ c.length) ∧ K (.ro (c.drop (i.toNat * k)))
  | .ptr m e c, .v (.int _ i) => match h m with
   | some _ => (0 ≤ i ∧ i < n) ∧ K (.ptr m e (c + i.toNat * k))
   | none => False
  | _, _ => False
 | .idxAgg g n k x i => match ev x, ev i with
  | .agg c, .v (.int _ i) => (0 ≤ i ∧ i < n ∧ i.toNat * k + k ≤ c.length) ∧ K (.mk g ((c.drop (i.toNat * k)).take k))
  | _, _ => False
 | .idxStr x i => match ev x, ev i with
  | .v (.string s), .v (.int _ i) => (0 ≤ i ∧ i < s.size) ∧ K (.v (.int .u8 (s.data.toList.getD i.toNat 0).toNat))
  | _, _ => False
 | .bin op x y => match ev x, ev y with
  | .v (.int k a), .v (.int k' b) => binI op k k' a b K
  | _, _ => False
 | .binS op x y => match ev x, ev y with
  | .v (.string a), .v (.string b) => binStr op a b K
  | _, _ => False
 | .binB op x y => match ev x, ev y with
  | .v (.bool a), .v (.bool b) => binBool op a b K
  | _, _ => False
 | .un op x => match op, ev x with
  | .not, .v (.bool b) => K (.v (.bool (!b)))
  | .neg, .v (.int k n) => K (.v (.int k (k.wrap (0 - n))))
  | .xor, .v (.int k n) => K (.v (.int k (bitsOp .xor k (if k.signed then -1 else k.max) n)))
  | _, _ => False
 | .conv k x => match ev x with
  | .v (.int _ n) => K (.v (.int k (k.wrap n)))
  | _ => False
 | .len x => match ev x with
  | .sl _ l => K (.v (.int .i64 l.length))
  | .loc n _ len => match h n with
   | some (.arr _ _ _) => K (.v (.int .i64 len))
   | _ => False
  | .v (.slice _ n _) => K (.v (.int .i64 n))
  | _ => False
 | .lenS x => match ev x with
  | .v (.string s) => K (.v (.int .i64 s.size))
  | _ => False
 | .lenC n => K (.v (.int .i64 n))
 | .slc k x lo hi => match ev x with
  | .sl k' l =>
   let f : Int → Int → Prop := fun lo hi => (k' = k ∧ 0 ≤ lo ∧ lo ≤ hi ∧ hi ≤ l.length) ∧ K (.sl k ((l.take hi.toNat).drop lo.toNat))
   match lo.map ev, hi.map ev with
   | none, none => f 0 l.length
   | some (.v (.int _ lo)), none => f lo l.length
   | none, some (.v (.int _ hi)) => f 0 hi
   | some (.v (.int _ lo)), some (.v (.int _ hi)) => f lo hi
   | _, _ => False
  | .loc n off len => match h n with
   | some (.arr k' _ _) =>
    let f : Int → Int → Prop := fun lo hi => (k' = k ∧ 0 ≤ lo ∧ lo ≤ hi ∧ hi ≤ len) ∧ K (.loc n (off + lo.toNat) (hi - lo).toNat)
    match lo.map ev, hi.map ev with
    | none, none => f 0 len
    | some (.v (.int _ lo)), none => f lo len
    | none, some (.v (.int _ hi)) => f 0 hi
    | some (.v (.int _ lo)), some (.v (.int _ hi)) => f lo hi
    | _, _ => False
   | _ => False
  | _ => False
 | .sstr x lo hi => match ev x with
  | .v (.string s) =>
   let f : Int → Int → Prop := fun lo hi => (0 ≤ lo ∧ lo ≤ hi ∧ hi ≤ s.size) ∧ K (.v (.string (s.extract lo.toNat hi.toNat)))
   match lo.map ev, hi.map ev with
   | none, none => f 0 s.size
   | some (.v (.int _ lo)), none => f lo s.size
   | none, some (.v (.int _ hi)) => f 0 hi
   | some (.v (.int _ lo)), some (.v (.int _ hi)) => f lo hi
   | _, _ => False
  | _ => False
 | .nilc x => match ev x with
  | .ro c => K (.ro c)
  | .ptr n e c => match h n with
   | some _ => K (.ptr n e c)
   | none => False
  | .fn f c => K (.fn f c)
  | _ => False
 | .extract x i => match ev x with
  | .tup c => i < c.length ∧ K (c.getD i .junk)
  | _ => False
 | .build z parts => layAll ev h z parts fun cs => K (.agg cs)
 | .mkfn f caps => K (.fn f (caps.map ev))
 | .mm mx x y => match ev x, ev y with
  | .v (.int k a), .v (.int _ b) => K (.v (.int k (if mx then (if b > a then b else a) else (if b < a then b else a))))
  | _, _ => False
 | .b2s x => match rowsO 1 h (ev x) with
  | some l => match numsO l with
   | some ns => K (.v (.string (strB ns)))
   | none => False
  | none => False
 | .eqA neg ks x y => match ev x, ev y with
  | .agg c, .agg c' => match eqC ks c c' with
   | some b => K (.v (.bool (if neg then !b else b)))
   | none => False
  | _, _ => False
 | .idxB x y => match ev x, ev y with
  | .v (.string s), .v (.int .u8 c) => K (.v (.int .i64 (idxByte s c)))
  | _, _ => False
 | .box _ | .alloc _ | .bslice .. | .mk .. | .call .. | .store .. | .append .. | .appendC .. | .bsliceC .. | .clr .. => False
theorem rd_loadV {ev : Operand → AV} {h : Name → Option Blk} {K : AV → Prop} {g : Bool} {k : Nat} {a : Operand} (hv : rd ev h K (.loadV g k a)) : rd ev h K (.load g k a) := by
 simp only [rd] at hv
 split at hv
 ·rename_i n e c hx
  split at hv
  ·rename_i cs z hb
   simp only [rd, hx, hb]; exact ⟨hv.1.1, hv.2⟩
  ·exact hv.elim
 ·exact hv.elim
theorem rd_fieldV {ev : Operand → AV} {h : Name → Option Blk} {K : AV → Prop} {off : Nat} {x : Operand} (hv : rd ev h K (.fieldV off x)) : rd ev h K (.fieldAddr off x) := by
 simp only [rd] at hv
 split at hv
 ·rename_i n e c hx
  split at hv
  ·rename_i cs z hb
   simp only [rd, hx, hb]; exact hv
  ·exact hv.elim
 ·exact hv.elim
/-! ## resolving -/
def szOf (P : Program) (t : TypeId) : Option Nat := (P.info? t).map (·.size)
def isAggT (P : Program) (t : TypeId) : Option Bool :=
 match P.underlying t with
 | some (.struct _) | some (.array _ _) => some true
 | some _ => some false
 | none => none
def ldOf (P : Program) (t : TypeId) : Option (Bool × Nat) :=
 match isAggT P t, szOf P t with
 | some true, some n => some (true, n)
 | some false, some _ => some (false, 1)
 | _, _ => none
theorem run_isAgg {P : Program} {t : TypeId} {b : Bool} (h : isAggT P t = some b) (w : World) : (isAgg t).run P w = .ok b w := by
 unfold isAggT at h
 unfold isAgg underlying
 cases hu : P.underlying t with
 | none => simp [hu] at h
 | some d => cases d <;> simp_all
theorem run_sizeOf {P : Program} {t : TypeId} {n : Nat} (h : szOf P t = some n) (w : World) : (sizeOf t).run P w = .ok n w := by
 unfold szOf at h
 unfold sizeOf typeInfo
 cases hi : P.info? t with
 | none => simp [hi] at h
 | some i => simp_all
theorem run_underlying {P : Program} {t : TypeId} {d : TypeDesc} (h : P.underlying t = some d) (w : World) : (underlying t).run P w = .ok d w := by
 unfold underlying; simp [h]
end
section
variable [Envs]
section inv
variable {S : Nat → Prop} {w : World} {ρ : Name → Option Nat} {κ : Name → Nat} {h : Name → Option Blk} {v : Value}
theorem inv_v {x : Value} (hx : RV S w ρ κ h (.v x) v) : v = x := by
 cases hx with | clo hx => cases hx; rfl
theorem inv_ro {c : List AV} (hx : RV S w ρ κ h (.ro c) v) : RC S w (.ro c) v := by
 cases hx with | clo hx => exact hx
theorem inv_sl {k : Nat} {l : List (List AV)} (hx : RV S w ρ κ h (.sl k l) v) : RC S w (.sl k l) v := by
 cases hx with | clo hx => exact hx
theorem inv_loc {n : Name} {off len : Nat} (hx : RV S w ρ κ h (.loc n off len) v) : LocOK ρ κ h n off len v := by
 cases hx with
 | clo hx => cases hx
 | loc _ _ _ _ hv => exact hv
theorem inv_ptr {n : Name} {e c : Nat} (hx : RV S w ρ κ h (.ptr n e c) v) : PtrOK ρ h n e c v := by
 cases hx with
 | clo hx => cases hx
 | ptr _ _ _ _ hv => exact hv
theorem inv_agg {c : List AV} (hx : RV S w ρ κ h (.agg c) v) : ∃ vs, v = .agg vs ∧ c.length = vs.size ∧ ∀ j, j < c.length → RV S w ρ κ h (c.getD j .junk) (vs.getD j undef) := by
 cases hx with
 | clo hx => cases hx with | agg _ vs hl hr => exact ⟨vs, rfl, hl, fun j hj => .clo (hr j hj)⟩
 | agg _ vs hl hr => exact ⟨vs, rfl, hl, hr⟩
theorem inv_tup {c : List AV} (hx : RV S w ρ κ h (.tup c) v) : ∃ vs, v = .tuple vs ∧ c.length = vs.size ∧ ∀ j, j < c.length → RV S w ρ κ h (c.getD j .junk) (vs.getD j undef) := by
 cases hx with
 | clo hx => cases hx with | tup _ vs hl hr => exact ⟨vs, rfl, hl, fun j hj => .clo (hr j hj)⟩
 | tup _ vs hl hr => exact ⟨vs, rfl, hl, hr⟩
theorem inv_fn {f : FuncId} {c : List AV} (hx : RV S w ρ κ h (.fn f c) v) : ∃ vs, v = .func (.func f) #[] vs ∧ c.length = vs.size ∧ ∀ j, j < c.length → RV S w ρ κ h (c.getD j .junk) (vs.getD j undef) := by
 cases hx with
 | clo hx => cases hx with | fn _ _ vs hl hr => exact ⟨vs, rfl, hl, fun j hj => .clo (hr j hj)⟩
 | fn _ _ vs hl hr => exact ⟨vs, rfl, hl, hr⟩
end inv
theorem cell_of_row {w : World} {x off : Nat} {cs : Array Value} {T : TypeId} {fr : Nat × Nat} (hx : w.heap[x]? = some (.cells cs T fr)) (ho : off < cs.size) :
  w.cell? ⟨x, off, none⟩ = some (cs.getD off undef) := by
 simp [World.cell?, hx, ho]
theorem addr_add (x off j : Nat) : (⟨x, off, none⟩ : Addr).add j = ⟨x, off + j, none⟩ := by
 unfold Addr.add; split
 ·subst_vars; rfl
 ·rfl
theorem HOK.cells {S : Nat → Prop} {w : World} {ρ : Name → Option Nat} {κ : Name → Nat} {h : Name → Option Blk} (hok : HOK S w ρ κ h) {n : Name} {b : Blk} (hb : h n = some b)
  {x : Nat} (hx : ρ n = some x) {e j : Nat} (hj : j < (b.row e).length) :
  ∃ u, w.cell? ⟨x, e * b.k + j, none⟩ = some u ∧ u.oneCell' = true ∧ RV S w ρ κ h ((b.row e).getD j .junk) u := by
 have hk := hok.blk n b hb
 cases b with
 | var c z =>
  obtain ⟨y, cs, T, fr, h1, h2, _, _, _, _, h6, h7⟩ := hk
  obtain rfl := Option.some.inj (h1.symm.trans hx)
  cases e with
  | zero =>
   simp only [Blk.row, Blk.k, Nat.mul_zero, Nat.zero_add] at hj ⊢
   exact ⟨_, cell_of_row h2 (by omega), (h7 j hj).1, (h7 j hj).2⟩
  | succ e => simp [Blk.row] at hj
 | arr k l z =>
  obtain ⟨h0, ⟨h1, h2⟩ | ⟨y, cs, T, fr, h1, h2, _, _, _, _, h6, h7⟩⟩ := hk
  ·rw [h1] at hx; cases hx
  ·obtain rfl := Option.some.inj (h1.symm.trans hx)
   simp only [Blk.row, Blk.k] at hj ⊢
   have he : e < l.length := by
    rcases Nat.lt_or_ge e l.length with h' | h'
    ·exact h'
    ·simp [List.getD, List.getElem?_eq_none h'] at hj
   have hjk : j < k := by rw [← h0 e he]; exact hj
   have : e * k + j < cs.size := by
    have : (e + 1) * k ≤ l.length * k := Nat.mul_le_mul_right k he
    rw [Nat.succ_mul] at this; omega
   exact ⟨_, cell_of_row h2 this, (h7 e j he hjk).1, .clo (h7 e j he hjk).2⟩
theorem ldOf_one {P : Program} {T : TypeId} {k : Nat} (h : ldOf P T = some (false, k)) : k = 1 := by
 unfold ldOf at h; split at h <;> simp_all
theorem run_loadVar {P : Program} {T : TypeId} {g : Bool} {k : Nat} (hl : ldOf P T = some (g, k)) {w : World} {x off : Nat} (f : Nat → Value)
  (hf : ∀ j, j < k → w.cell? ⟨x, off + j, none⟩ = some (f j)) :
  (loadVar T ⟨x, off, none⟩).run P w = .ok (if g then .agg ((List.range k).map f).toArray else f 0) w := by
 unfold ldOf at hl
 split at hl
 ·rename_i n h1 h2
  simp only [Option.some.injEq, Prod.mk.injEq] at hl
  obtain ⟨rfl, rfl⟩ := hl
  simp [loadVar, run_isAgg h1, run_sizeOf h2, run_loadCells w ⟨x, off, none⟩ n f (fun j hj => by rw [addr_add]; exact hf j hj)]
 ·rename_i n h1 h2
  simp only [Option.some.injEq, Prod.mk.injEq] at hl
  obtain ⟨rfl, rfl⟩ := hl
  have := hf 0 (by omega)
  simp only [Nat.add_zero] at this
  simp [loadVar, run_isAgg h1, this]
 ·cases hl
theorem rv_mk {S : Nat → Prop} {w : World} {ρ : Name → Option Nat} {κ : Name → Nat} {h : Name → Option Blk} {g : Bool} {k : Nat} {c : List AV} {f : Nat → Value} (hk : g = false → k = 1)
  (hc : c.length = k) (hr : ∀ j, j < k → RV S w ρ κ h (c.getD j .junk) (f j)) : RV S w ρ κ h (.mk g c) (if g then .agg ((List.range k).map f).toArray else f 0) := by
 cases g with
 | true =>
  simp only [AV.mk, if_true]
  refine .agg _ _ (by simp [hc]) fun j hj => ?_
  have : ((List.range k).map f).toArray.getD j undef = f j := by
   have : j < k := by omega
   simp [this]
  rw [this]
  exact hr j (by omega)
 | false =>
  obtain rfl := hk rfl
  have := hr 0 (by omega)
  match c, hc with
  | [x], _ => simpa [AV.mk] using this
def Ans (P : Program) (S : Nat → Prop) (w : World) (ρ : Name → Option Nat) (κ : Name → Nat) (h : Name → Option Blk) (K : AV → Prop) (s : Sem Value) : Prop :=
 ∃ x v, K x ∧ s.run P w = .ok v w ∧ RV S w ρ κ h x v
variable {P : Program} {C : Ctx} {σ : FSt} {a : Act} {w : World} {S : Nat → Prop} {ρ : Name → Option Nat} {κ : Name → Nat} {K : AV → Prop}
theorem rd_load (hok : OK C σ a w S ρ κ) {T : TypeId} {g : Bool} {k : Nat} (hl : ldOf P T = some (g, k)) {x : Operand} (hv : rd (evO σ.s) σ.h K (.load g k x)) :
  Ans P S w ρ κ σ.h K (Instr.loadAt T (a.eval x)) := by
 have hx := hok.ev x
 generalize a.eval x = va at hx ⊢
 simp only [rd] at hv
 split at hv
 ·rename_i c hc
  rw [hc] at hx
  obtain ⟨hk, hK⟩ := hv
  cases inv_ro hx with
  | ro _ b off xs hS hcell ho hr =>
   refine ⟨_, _, hK, by simp only [Instr.loadAt, Instr.sureAddr, Sem.run_bind, Sem.run_pure, Result.andThen_ok]; exact run_loadVar hl xs (fun j hj => hcell j (by omega)), ?_⟩
   refine rv_mk (fun hg => ldOf_one (hg ▸ hl)) (by simp; omega) fun j hj => ?_
   have e : (c.take k).getD j .junk = c.getD j .junk := by simp [List.getD, hj]
   rw [e]
   exact .clo (hr j (by omega))
 ·rename_i n e c hc
  rw [hc] at hx
  split at hv
  ·rename_i b hb
   obtain ⟨hk, hK⟩ := hv
   obtain ⟨y, hy, hva⟩ := inv_ptr hx b hb
   have hcells := fun j (hj : j < (b.row e).length) => hok.hok.cells hb hy (e := e) (j := j) hj
   let f : Nat → Value := fun j => (w.cell? ⟨y, e * b.k + c + j, none⟩).getD undef
   have hf : ∀ j, j < k → w.cell? ⟨y, e * b.k + c + j, none⟩ = some (f j) := fun j hj => by
    obtain ⟨u, hu, _⟩ := hcells (c + j) (by omega)
    have hu' : w.cell? ⟨y, e * b.k + c + j, none⟩ = some u := by rw [← hu, Nat.add_assoc]
    simp only [f, hu', Option.getD_some]
   refine ⟨_, _, hK, by subst hva; simp only [Instr.loadAt, Instr.sureAddr, Sem.run_bind, Sem.run_pure, Result.andThen_ok]; exact run_loadVar hl f hf, ?_⟩
   refine rv_mk (fun hg => ldOf_one (hg ▸ hl)) (by simp; omega) fun j hj => ?_
   obtain ⟨u, hu, _, hr⟩ := hcells (c + j) (by omega)
   have e2 : (((b.row e).drop c).take k).getD j .junk = (b.row e).getD (c + j) .junk := by simp [List.getD, hj]
   have e3 : f j = u := by
    have := hf j hj
    rw [Nat.add_assoc] at this
    exact Option.some.inj (this.symm.trans hu)
   rw [e2, e3]; exact hr
  ·exact hv.elim
 ·exact hv.elim
theorem ro_drop {c : List AV} {v : Value} {off : Nat} (ho : off ≤ c.length) (h : RC S w (.ro c) v) : ∃ x o, v = .pointer (some ⟨x, o, none⟩) ∧ RC S w (.ro (c.drop off)) (.pointer (some ⟨x, o + off, none⟩)) := by
 cases h with
 | ro _ x o xs hS hc hone hr =>
  refine ⟨x, o, rfl, .ro _ x (o + off) (fun j => xs (off + j)) hS (fun j hj => ?_) (fun j hj => hone _ (by simp at hj; omega)) fun j hj => ?_⟩
  ·rw [Nat.add_assoc]; exact hc _ (by simp at hj; omega)
  ·have := hr (off + j) (by simp at hj; omega)
   simpa [List.getD] using this
def fieldOf (P : Program) (s : TypeId) (i : Nat) : Option Field :=
 match P.underlying s with
 | some (.struct fs) => fs[i]?
 | _ => none
theorem rd_fieldAddr (hok : OK C σ a w S ρ κ) {s : TypeId} {i : Nat} {f : Field} {n : Nat} (hf : fieldOf P s i = some f) (hn : szOf P f.type = some n) (h0 : n ≠ 0) {x : Operand}
  (hv : rd (evO σ.s) σ.h K (.fieldAddr f.offset x)) : Ans P S w ρ κ σ.h K (Instr.fieldAt s (a.eval x) i) := by
 have hx := hok.ev x
 have hrun : ∀ b o, (Instr.fieldAt s (.pointer (some ⟨b, o, none⟩)) i).run P w = .ok (.pointer (some ⟨b, o + f.offset, none⟩)) w := by
  intro b o
  unfold fieldOf at hf
  split at hf
  ·rename_i fs hu
   simp [Instr.fieldAt, run_underlying hu, hf, Instr.sureAddr, fieldPlace, run_sizeOf hn, h0, addr_add]
  ·cases hf
 generalize a.eval x = va at hx ⊢
 simp only [rd] at hv
 split at hv
 ·rename_i m e c hc
  rw [hc] at hx
  split at hv
  ·rename_i b hb
   obtain ⟨y, hy, rfl⟩ := inv_ptr hx b hb
   refine ⟨_, _, hv, hrun _ _, .ptr _ _ _ _ fun b' hb' => ?_⟩
   rw [hb] at hb'; obtain rfl := Option.some.inj hb'
   exact ⟨y, hy, by rw [Nat.add_assoc]⟩
  ·exact hv.elim
 ·rename_i c hc
  rw [hc] at hx
  obtain ⟨y, o, rfl, hr⟩ := ro_drop hv.1 (inv_ro hx)
  exact ⟨_, _, hv.2, hrun _ _, .clo hr⟩
 ·exact hv.elim
theorem rd_field (hok : OK C σ a w S ρ κ) {s : TypeId} {i : Nat} {f : Field} {n : Nat} {g : Bool} (hf : fieldOf P s i = some f) (hn : szOf P f.type = some n) (hg : isAggT P f.type = some g) (h1 : g = false → n = 1)
  {x : Operand} (hv : rd (evO σ.s) σ.h K (.field g f.offset n x)) : Ans P S w ρ κ σ.h K (Instr.field s (a.eval x) i) := by
 have hx := hok.ev x
 generalize a.eval x = va at hx ⊢
 simp only [rd] at hv
 split at hv
 ·rename_i c hc
  rw [hc] at hx
  obtain ⟨vs, rfl, hl, hr⟩ := inv_agg hx
  unfold fieldOf at hf
  split at hf
  ·rename_i fs hu
   obtain ⟨hk, hK⟩ := hv
   refine ⟨_, (if g then .agg ((List.range n).map fun j => vs.getD (f.offset + j) undef).toArray else vs.getD (f.offset + 0) undef), hK, ?_, ?_⟩
   ·cases g with
    | true =>
     simp only [Instr.field, Sem.run_bind, run_underlying hu, Result.andThen_ok, hf, asAgg, Sem.run_pure, part, run_isAgg hg, if_true, run_sizeOf hn]
     congr 2
     apply Array.ext (by simp; omega)
     intro j h1 h2
     simp at h1 h2
     simp [show f.offset + j < vs.size by omega]
    | false =>
     have := h1 rfl
     simp [Instr.field, run_underlying hu, hf, asAgg, part, run_isAgg hg, show f.offset < vs.size by omega]
   ·refine rv_mk h1 (by simp; omega) fun j hj => ?_
    have := hr (f.offset + j) (by omega)
    have e : ((c.drop f.offset).take n).getD j .junk = c.getD (f.offset + j) .junk := by simp [List.getD, hj]
    rw [e]; exact this
  ·cases hf
 ·exact hv.elim
theorem rc_row {k : Nat} {l : List (List AV)} {v : Value} (h : RC S w (.sl k l) v) {i : Nat} (hi : i < l.length) :
  ∃ x off cap, v = .slice (some ⟨x, off, none⟩) l.length cap ∧ RC S w (.ro (l.getD i [])) (.pointer (some ⟨x, off + i * k, none⟩)) := by
 cases h with
 | sl _ _ base cap x off xs hb hc ho hr hk hcap =>
  have hne : l ≠ [] := by rintro rfl; simp at hi
  obtain ⟨rfl, hS⟩ := hb hne
  refine ⟨x, off, cap, rfl, .ro _ x _ (fun j => xs (i * k + j)) hS (fun j hj => ?_) (fun j hj => ho i j hi (by rw [← hk i hi]; exact hj)) fun j hj => hr i j hi (by rw [← hk i hi]; exact hj)⟩
  rw [Nat.add_assoc]
  exact hc i j hi (by rw [← hk i hi]; exact hj)
theorem rd_idxSl (hok : OK C σ a w S ρ κ) {t e : TypeId} {k : Nat} (hu : P.underlying t = some (.slice e)) (hk : szOf P e = some k) {x i : Operand}
  (hv : rd (evO σ.s) σ.h K (.idxSl k x i)) : Ans P S w ρ κ σ.h K (Instr.indexAt t (a.eval x) (a.eval i)) := by
 have hx := hok.ev x
 have hi := hok.ev i
 generalize a.eval x = va at hx ⊢
 generalize a.eval i = vi at hi ⊢
 simp only [rd] at hv
 split at hv
 ·rename_i k' l kk n hc hn
  rw [hc] at hx; rw [hn] at hi
  obtain rfl := inv_v hi
  obtain ⟨⟨rfl, h0, h1⟩, hK⟩ := hv
  obtain ⟨y, off, cap, rfl, hr⟩ := rc_row (inv_sl hx) (i := n.toNat) (by omega)
  refine ⟨_, _, hK, ?_, .clo hr⟩
  simp [Instr.indexAt, asIntOf, run_underlying hu, run_sizeOf hk, h0, h1, addr_add]
 ·rename_i m off len kk n hc hn
  rw [hc] at hx; rw [hn] at hi
  obtain rfl := inv_v hi
  split at hv
  ·rename_i k' l z hb
   obtain ⟨⟨rfl, h0, h1⟩, hK⟩ := hv
   obtain ⟨hle, base, cap, rfl, _, _, hbase, _⟩ := inv_loc hx _ _ _ hb
   obtain ⟨y, hy, rfl⟩ := hbase (by omega)
   refine ⟨_, .pointer (some ⟨y, off * k' + n.toNat * k', none⟩), hK, ?_, .ptr _ _ _ _ fun b' hb' => ?_⟩
   ·simp [Instr.indexAt, asIntOf, run_underlying hu, run_sizeOf hk, h0, h1, addr_add]
   ·rw [hb] at hb'; obtain rfl := Option.some.inj hb'
    exact ⟨y, hy, by simp [Blk.k, Nat.add_mul]⟩
  ·exact hv.elim
 ·exact hv.elim
theorem rd_idxArr (hok : OK C σ a w S ρ κ) {t e : TypeId} {n k : Nat} (hu : P.underlying t = some (.array n e)) (hk : szOf P e = some k) {x i : Operand}
  (hv : rd (evO σ.s) σ.h K (.idxArr n k x i)) : Ans P S w ρ κ σ.h K (Instr.indexAt t (a.eval x) (a.eval i)) := by
 have hx := hok.ev x
 have hi := hok.ev i
 generalize a.eval x = va at hx ⊢
 generalize a.eval i = vi at hi ⊢
 simp only [rd] at hv
 split at hv
 ·rename_i c kk m hc hn
  rw [hc] at hx; rw [hn] at hi
  obtain rfl := inv_v hi
  obtain ⟨⟨h0, h1, h2⟩, hK⟩ := hv
  obtain ⟨y, o, rfl, hr⟩ := ro_drop h2 (inv_ro hx)
  refine ⟨_, _, hK, ?_, .clo hr⟩
  simp [Instr.indexAt, asIntOf, run_underlying hu, run_sizeOf hk, h0, h1, addr_add, Instr.sureAddr]
 ·rename_i nm e' c kk m hc hn
  rw [hc] at hx; rw [hn] at hi
  obtain rfl := inv_v hi
  split at hv
  ·rename_i b hb
   obtain ⟨⟨h0, h1⟩, hK⟩ := hv
   obtain ⟨y, hy, rfl⟩ := inv_ptr hx b hb
   refine ⟨_, .pointer (some ⟨y, e' * b.k + c + m.toNat * k, none⟩), hK, ?_, .ptr _ _ _ _ fun b' hb' => ?_⟩
   ·simp [Instr.indexAt, asIntOf, run_underlying hu, run_sizeOf hk, h0, h1, addr_add, Instr.sureAddr]
   ·rw [hb] at hb'; obtain rfl := Option.some.inj hb'
    exact ⟨y, hy, by rw [Nat.add_assoc]⟩
  ·exact hv.elim
 ·exact hv.elim
theorem rd_idxAgg (hok : OK C σ a w S ρ κ) {t e : TypeId} {n k : Nat} {g : Bool} (hu : P.underlying t = some (.array n e)) (hk : szOf P e = some k) (hg : isAggT P e = some g) (hg1 : g = false → k = 1) {x i : Operand}
  (hv : rd (evO σ.s) σ.h K (.idxAgg g n k x i)) : Ans P S w ρ κ σ.h K (Instr.index t (a.eval x) (a.eval i)) := by
 have hx := hok.ev x
 have hi := hok.ev i
 generalize a.eval x = va at hx ⊢
 generalize a.eval i = vi at hi ⊢
 simp only [rd] at hv
 split at hv
 ·rename_i c kk m hc hn
  rw [hc] at hx; rw [hn] at hi
  obtain rfl := inv_v hi
  obtain ⟨⟨h0, h1, h2⟩, hK⟩ := hv
  obtain ⟨vs, rfl, hl, hr⟩ := inv_agg hx
  refine ⟨_, (if g then .agg ((List.range k).map fun j => vs.getD (m.toNat * k + j) undef).toArray else vs.getD (m.toNat * k + 0) undef), hK, ?_, ?_⟩
  ·cases g with
   | true =>
    simp only [Instr.index, asIntOf, Sem.run_bind, Sem.run_pure, run_underlying hu, Result.andThen_ok, h0, h1, and_self, if_true, run_sizeOf hk, part, run_isAgg hg]
    congr 2
    apply Array.ext (by simp; omega)
    intro j h1 h2
    simp at h1 h2
    simp [show m.toNat * k + j < vs.size by omega]
   | false =>
    have := hg1 rfl
    subst this
    have : vs[m.toNat]? = some (vs.getD m.toNat undef) := by simp [show m.toNat < vs.size by omega]
    simp [Instr.index, asIntOf, run_underlying hu, h0, h1, run_sizeOf hk, part, run_isAgg hg, show m.toNat < vs.size by omega]
  ·refine rv_mk hg1 (by simp; omega) fun j hj => ?_
   have := hr (m.toNat * k + j) (by omega)
   have e : ((c.drop (m.toNat * k)).take k).getD j .junk = c.getD (m.toNat * k + j) .junk := by simp [List.getD, hj]
   rw [e]; exact this
 ·exact hv.elim
theorem rd_idxStr (hok : OK C σ a w S ρ κ) {t : TypeId} (hu : P.underlying t = some .string) {x i : Operand}
  (hv : rd (evO σ.s) σ.h K (.idxStr x i)) : Ans P S w ρ κ σ.h K (Instr.index t (a.eval x) (a.eval i)) := by
 have hx := hok.ev x
 have hi := hok.ev i
 generalize a.eval x = va at hx ⊢
 generalize a.eval i = vi at hi ⊢
 simp only [rd] at hv
 split at hv
 ·rename_i s kk m hc hn
  rw [hc] at hx; rw [hn] at hi
  obtain rfl := inv_v hi
  obtain rfl := inv_v hx
  obtain ⟨⟨h0, h1⟩, hK⟩ := hv
  refine ⟨_, _, hK, ?_, .clo (.v _)⟩
  have hlt : m.toNat < s.size := by omega
  have e : s[m.toNat]? = some (s.data.toList.getD m.toNat 0) := by
   have : m.toNat < s.data.size := hlt
   rw [getElem?_pos s m.toNat hlt]
   simp
   rw [getElem?_pos s.data m.toNat this]
   rfl
  simp [Instr.index, asIntOf, run_underlying hu, h0, e]
 ·exact hv.elim
end
end Go.Vs
