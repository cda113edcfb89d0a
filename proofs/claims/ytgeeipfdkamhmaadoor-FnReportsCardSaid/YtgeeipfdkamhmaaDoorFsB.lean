/- The state of a walk without worlds, what it says of a frame and a world, and how it goes on. -/
import Derived.Test.YtgeeipfdkamhmaaDoorFsA
namespace Go.Vs

structure FSt where
  s : Nat → AV
  h : Name → Option Blk

structure Ctx where
  nt : Nat
  w0 : World
  S0 : Nat → Prop
  Mut : Nat → Prop
  ρ0 : Nat → Option Nat := fun _ => none
  κ0 : Nat → Nat := fun _ => 0
  h0 : Nat → Option Blk := fun _ => none

structure OK (C : Ctx) (σ : FSt) (a : Act) (w : World) (S : Nat → Prop) (ρ : Name → Option Nat) (κ : Name → Nat) : Prop where
  nt : a.tmps.size = C.nt
  defers : a.defers = []
  slots : ∀ t, RV S w ρ κ σ.h (σ.s t) (a.tmps.getD t undef)
  hok : HOK S w ρ κ σ.h
  size : C.w0.heap.size ≤ w.heap.size
  old : ∀ b, b < C.w0.heap.size → ¬ C.Mut b → w.heap[b]? = C.w0.heap[b]?
  mine : ∀ n x, (σ.h n).isSome → ρ n = some x → C.w0.heap.size ≤ x ∨ C.Mut x
  S0 : ∀ b, C.S0 b → S b
  Snew : ∀ b, S b → C.S0 b ∨ C.w0.heap.size ≤ b ∨ C.Mut b
  out : w.os = C.w0.os ∧ w.output = C.w0.output
  keep : ∀ j b, σ.h (.b j) = some b → ρ (.b j) = C.ρ0 j ∧ κ (.b j) = C.κ0 j ∧ ∃ b0, C.h0 j = some b0 ∧ b0.same b

def Good (C : Ctx) (K : FSt → Prop) (a : Act) (w : World) : Prop := ∃ σ S ρ κ, K σ ∧ OK C σ a w S ρ κ

theorem Good.mono {C : Ctx} {K K' : FSt → Prop} {a : Act} {w : World} (hk : ∀ σ, K σ → K' σ) (h : Good C K a w) : Good C K' a w :=
  let ⟨σ, S, ρ, κ, h1, h2⟩ := h; ⟨σ, S, ρ, κ, hk _ h1, h2⟩

def upd (s : Nat → AV) (d : Option Nat) (x : AV) : Nat → AV :=
  match d with
  | some d => fun t => if t = d then x else s t
  | none => s

def hput (h : Name → Option Blk) (n : Name) (b : Option Blk) : Name → Option Blk := fun m => if m = n then b else h m

theorem OK.put {C : Ctx} {σ : FSt} {a : Act} {w : World} {S : Nat → Prop} {ρ : Name → Option Nat} {κ : Name → Nat} (hok : OK C σ a w S ρ κ) {x : AV} {v : Value}
    (hx : RV S w ρ κ σ.h x v) {d : Option Nat} (hd : ∀ d', d = some d' → d' < C.nt) : OK C ⟨upd σ.s d x, σ.h⟩ (a.put d v) w S ρ κ := by
  cases d with
  | none => exact hok
  | some d =>
    have hd := hd d rfl
    refine { hok with nt := by simp [Act.put, hok.nt], defers := by simp [Act.put, hok.defers], slots := fun t => ?_ }
    simp only [upd, Act.put]
    by_cases ht : t = d
    · subst ht
      have : t < a.tmps.size := by rw [hok.nt]; exact hd
      simp only [if_true]
      have e : (a.tmps.setIfInBounds t v).getD t undef = v := by simp [this]
      rw [e]; exact hx
    · simp only [ht, if_false]
      have e : (a.tmps.setIfInBounds d v).getD t undef = a.tmps.getD t undef := by
        simp [Array.getElem?_setIfInBounds_ne (Ne.symm ht)]
      rw [e]; exact hok.slots t

/-- All that was there is as it was. -/
def Ext (w w' : World) : Prop := w.heap.size ≤ w'.heap.size ∧ (∀ b, b < w.heap.size → w'.heap[b]? = w.heap[b]?) ∧ w'.os = w.os ∧ w'.output = w.output

theorem Ext.refl (w : World) : Ext w w := ⟨Nat.le_refl _, fun _ _ => rfl, rfl, rfl⟩
theorem Ext.of_heap {w w' : World} (h : w'.heap = w.heap) (h1 : w'.os = w.os) (h2 : w'.output = w.output) : Ext w w' := ⟨by rw [h]; exact Nat.le_refl _, fun _ _ => by rw [h], h1, h2⟩
theorem Ext.push (w : World) (o : Obj) : Ext w { w with heap := w.heap.push o } :=
  ⟨by simp, fun b hb => by simp [Array.getElem?_push, Nat.ne_of_lt hb], rfl, rfl⟩
theorem Ext.trans {w w1 w2 : World} (h : Ext w w1) (h' : Ext w1 w2) : Ext w w2 :=
  ⟨Nat.le_trans h.1 h'.1, fun b hb => by rw [h'.2.1 b (Nat.lt_of_lt_of_le hb h.1), h.2.1 b hb], h'.2.2.1.trans h.2.2.1, h'.2.2.2.trans h.2.2.2⟩

theorem NameOK.refl (ρ : Name → Option Nat) (κ : Name → Nat) (h : Name → Option Blk) (n : Name) : NameOK ρ ρ κ κ h h n :=
  fun b' hb => ⟨rfl, rfl, b', hb, b'.same_refl⟩

theorem HOK.lt {S : Nat → Prop} {w : World} {ρ : Name → Option Nat} {κ : Name → Nat} {h : Name → Option Blk} (hok : HOK S w ρ κ h) {n : Name} {x : Nat}
    (hn : (h n).isSome) (hx : ρ n = some x) : x < w.heap.size := by
  obtain ⟨b, hb⟩ := Option.isSome_iff_exists.1 hn
  have := hok.blk n b hb
  have key : ∀ {x : Nat} {cs : Array Value} {T : TypeId} {fr : Nat × Nat}, w.heap[x]? = some (.cells cs T fr) → x < w.heap.size := by
    intro x cs T fr h
    rcases Nat.lt_or_ge x w.heap.size with h' | h'
    · exact h'
    · simp [Array.getElem?_eq_none h'] at h
  cases b with
  | var c z =>
    obtain ⟨y, cs, T, fr, h1, h2, _⟩ := this
    obtain rfl := Option.some.inj (h1.symm.trans hx)
    exact key h2
  | arr k l z =>
    obtain ⟨_, ⟨h1, _⟩ | ⟨y, cs, T, fr, h1, h2, _⟩⟩ := this
    · rw [h1] at hx; cases hx
    · obtain rfl := Option.some.inj (h1.symm.trans hx)
      exact key h2

theorem HOK.ext {S : Nat → Prop} {w w' : World} {ρ : Name → Option Nat} {κ : Name → Nat} {h : Name → Option Blk} (hok : HOK S w ρ κ h) (he : Ext w w') : HOK S w' ρ κ h where
  blk n b hb := (hok.blk n b hb).mono (fun _ h => h) (fun _ _ h => h) (fun b hb => he.2.1 b (hok.dom b hb)) (fun x hx => he.2.1 x (hok.lt (by simp [hb]) hx)) rfl rfl (fun m _ => NameOK.refl _ _ _ _)
  inj := hok.inj
  dom b hb := Nat.lt_of_lt_of_le (hok.dom b hb) he.1
  env := hok.env.mono (fun _ h => h) fun b hb => he.2.1 b (hok.dom b hb)

theorem OK.ext {C : Ctx} {σ : FSt} {a : Act} {w w' : World} {S : Nat → Prop} {ρ : Name → Option Nat} {κ : Name → Nat} (hok : OK C σ a w S ρ κ) (he : Ext w w') : OK C σ a w' S ρ κ where
  nt := hok.nt
  defers := hok.defers
  slots t := (hok.slots t).mono (fun _ h => h) (fun b hb => he.2.1 b (hok.hok.dom b hb)) (fun n _ => NameOK.refl _ _ _ _)
  hok := hok.hok.ext he
  size := Nat.le_trans hok.size he.1
  old b hb hm := by rw [he.2.1 b (Nat.lt_of_lt_of_le hb hok.size)]; exact hok.old b hb hm
  mine := hok.mine
  S0 := hok.S0
  Snew := hok.Snew
  out := ⟨he.2.2.1.trans hok.out.1, he.2.2.2.trans hok.out.2⟩
  keep := hok.keep

def FreshF (n : Name) (σ : FSt) : Prop := (σ.h n = none ∧ ∀ j, n ≠ .b j) ∧ (∀ t, (σ.s t).has n = false) ∧ ∀ m b, σ.h m = some b → b.has n = false

/-- A block that is new, under a name that nothing bears. -/
theorem OK.add {C : Ctx} {σ : FSt} {a : Act} {w w' : World} {S : Nat → Prop} {ρ : Name → Option Nat} {κ : Name → Nat} (hok : OK C σ a w S ρ κ) (he : Ext w w')
    {n : Name} (hf : FreshF n σ) {b : Blk} {ox : Option Nat} {kn : Nat} (hox : ∀ x, ox = some x → w.heap.size ≤ x)
    (hb : ∀ ρ' κ' h', ρ' n = ox → κ' n = kn → (∀ m, m ≠ n → NameOK ρ ρ' κ κ' σ.h h' m) → BlkOK S w' ρ' κ' h' n b) :
    OK C ⟨σ.s, hput σ.h n (some b)⟩ a w' S (fun m => if m = n then ox else ρ m) (fun m => if m = n then kn else κ m) := by
  have hn : ∀ m, m ≠ n → NameOK ρ (fun m => if m = n then ox else ρ m) κ (fun m => if m = n then kn else κ m) σ.h (hput σ.h n (some b)) m := by
    intro m hm b' hb'
    simp only [hput, hm, if_false] at hb' ⊢
    exact ⟨trivial, trivial, b', hb', b'.same_refl⟩
  have hok' := hok.ext he
  have hkeep : ∀ j c, hput σ.h n (some b) (.b j) = some c → (if Name.b j = n then ox else ρ (.b j)) = C.ρ0 j ∧ (if Name.b j = n then kn else κ (.b j)) = C.κ0 j ∧ ∃ b0, C.h0 j = some b0 ∧ b0.same c := by
    intro j c hc
    have e : Name.b j ≠ n := fun e => hf.1.2 j e.symm
    simp only [hput, e, if_false] at hc ⊢
    exact hok.keep j c hc
  refine { hok' with slots := fun t => ?_, hok := ⟨fun m c hc => ?_, fun m m' x h1 h2 h3 h4 => ?_, hok'.hok.dom, hok'.hok.env⟩, mine := fun m x h1 h2 => ?_, keep := hkeep }
  · refine (hok'.slots t).mono (fun _ h => h) (fun _ _ => rfl) fun m hm => hn m ?_
    rintro rfl
    rw [hf.2.1 t] at hm; cases hm
  · by_cases hmn : m = n
    · subst hmn
      simp only [hput, if_true] at hc
      obtain rfl := Option.some.inj hc
      exact hb _ _ _ (by simp) (by simp) hn
    · simp only [hput, hmn, if_false] at hc
      refine (hok'.hok.blk m c hc).mono (fun _ h => h) (fun _ _ h => h) (fun _ _ => rfl) (fun _ _ => rfl) (by simp [hmn]) (by simp [hmn]) fun m' hm' => hn m' ?_
      rintro rfl
      rw [hf.2.2 m c hc] at hm'; cases hm'
  · have old : ∀ m x, m ≠ n → (hput σ.h n (some b) m).isSome → (if m = n then ox else ρ m) = some x → x < w.heap.size := by
      intro m x hm h1 h2
      simp only [hput, hm, if_false] at h1 h2
      exact hok.hok.lt h1 h2
    by_cases e1 : m = n <;> by_cases e2 : m' = n
    · rw [e1, e2]
    · have := old m' x e2 h2 h4
      simp only [e1, if_true] at h3
      have := hox _ h3; omega
    · have := old m x e1 h1 h3
      simp only [e2, if_true] at h4
      have := hox _ h4; omega
    · simp only [hput, e1, e2, if_false] at h1 h2 h3 h4
      exact hok.hok.inj m m' x h1 h2 h3 h4
  · by_cases e : m = n
    · simp only [e, if_true] at h2
      exact .inl (Nat.le_trans hok.size (hox _ h2))
    · simp only [hput, e, if_false] at h1 h2
      exact hok.mine m x h1 h2

/-! ## operands -/
def AV.ofValue : Value → AV
  | .agg cs => .agg (cs.toList.map fun x => .v x)
  | x => .v x

def evO (s : Nat → AV) : Operand → AV
  | .tmp t => s t
  | .const v => .ofValue v
  | .global _ => .junk
  | .func f => .fn f []

theorem rc_cells {S : Nat → Prop} {w : World} (cs : Array Value) : RC S w (.agg (cs.toList.map fun x => .v x)) (.agg cs) := by
  refine .agg _ _ (by simp) fun j hj => ?_
  simp only [List.length_map, Array.length_toList] at hj
  simp [List.getD, hj]
  exact .v _

theorem OK.ev {C : Ctx} {σ : FSt} {a : Act} {w : World} {S : Nat → Prop} {ρ : Name → Option Nat} {κ : Name → Nat} (hok : OK C σ a w S ρ κ) (x : Operand) :
    RV S w ρ κ σ.h (evO σ.s x) (a.eval x) := by
  cases x with
  | tmp t => exact hok.slots t
  | const v => cases v <;> first | exact .clo (rc_cells _) | exact .clo (.v _)
  | global g => exact .junk _
  | func f => exact .fn f [] #[] rfl (by simp)

end Go.Vs
