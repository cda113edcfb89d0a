/- What reads is what the machine reads. -/
import Derived.Test.YtpdmjalhahblmaaDoorVsC
import Derived.Laws.Cells
import Derived.Laws.Slices
namespace Go.Vs
set_option linter.unusedSectionVars false
variable [Envs]

section inv
variable {S : Nat → Prop} {w : World} {ρ : Name → Option Nat} {κ : Name → Nat} {h : Name → Option Blk} {v : Value}
theorem inv_v {x : Value} (hx : RV S w ρ κ h (.v x) v) : v = x := by
  cases hx with | clo hx => cases hx; rfl
theorem inv_ro {c : List AV} (hx : RV S w ρ κ h (.ro c) v) : RC S w (.ro c) v := by
  cases hx with | clo hx => exact hx
theorem inv_sl {k : Nat} {l : List (List AV)} (hx : RV S w ρ κ h (.sl k l) v) : RC S w (.sl k l) v := by
  cases hx with | clo hx => exact hx
theorem inv_loc {n : Name} {off len : Nat} (hx : RV S w ρ κ h (.loc n off len) v) : LocOK ρ κ h n off len v := by
  cases hx with
  | clo hx => cases hx
  | loc _ _ _ _ hv => exact hv
theorem inv_ptr {n : Name} {e c : Nat} (hx : RV S w ρ κ h (.ptr n e c) v) : PtrOK ρ h n e c v := by
  cases hx with
  | clo hx => cases hx
  | ptr _ _ _ _ hv => exact hv
theorem inv_agg {c : List AV} (hx : RV S w ρ κ h (.agg c) v) : ∃ vs, v = .agg vs ∧ c.length = vs.size ∧ ∀ j, j < c.length → RV S w ρ κ h (c.getD j .junk) (vs.getD j undef) := by
  cases hx with
  | clo hx => cases hx with | agg _ vs hl hr => exact ⟨vs, rfl, hl, fun j hj => .clo (hr j hj)⟩
  | agg _ vs hl hr => exact ⟨vs, rfl, hl, hr⟩
theorem inv_tup {c : List AV} (hx : RV S w ρ κ h (.tup c) v) : ∃ vs, v = .tuple vs ∧ c.length = vs.size ∧ ∀ j, j < c.length → RV S w ρ κ h (c.getD j .junk) (vs.getD j undef) := by
  cases hx with
  | clo hx => cases hx with | tup _ vs hl hr => exact ⟨vs, rfl, hl, fun j hj => .clo (hr j hj)⟩
  | tup _ vs hl hr => exact ⟨vs, rfl, hl, hr⟩
theorem inv_fn {f : FuncId} {c : List AV} (hx : RV S w ρ κ h (.fn f c) v) : ∃ vs, v = .func (.func f) #[] vs ∧ c.length = vs.size ∧ ∀ j, j < c.length → RV S w ρ κ h (c.getD j .junk) (vs.getD j undef) := by
  cases hx with
  | clo hx => cases hx with | fn _ _ vs hl hr => exact ⟨vs, rfl, hl, fun j hj => .clo (hr j hj)⟩
  | fn _ _ vs hl hr => exact ⟨vs, rfl, hl, hr⟩
end inv

theorem cell_of_row {w : World} {x off : Nat} {cs : Array Value} {T : TypeId} {fr : Nat × Nat} (hx : w.heap[x]? = some (.cells cs T fr)) (ho : off < cs.size) :
    w.cell? ⟨x, off, none⟩ = some (cs.getD off undef) := by
  simp [World.cell?, hx, ho]

theorem addr_add (x off j : Nat) : (⟨x, off, none⟩ : Addr).add j = ⟨x, off + j, none⟩ := by
  unfold Addr.add; split
  · subst_vars; rfl
  · rfl

/-- The cells behind a name. -/
theorem HOK.cells {S : Nat → Prop} {w : World} {ρ : Name → Option Nat} {κ : Name → Nat} {h : Name → Option Blk} (hok : HOK S w ρ κ h) {n : Name} {b : Blk} (hb : h n = some b)
    {x : Nat} (hx : ρ n = some x) {e j : Nat} (hj : j < (b.row e).length) :
    ∃ u, w.cell? ⟨x, e * b.k + j, none⟩ = some u ∧ u.oneCell' = true ∧ RV S w ρ κ h ((b.row e).getD j .junk) u := by
  have hk := hok.blk n b hb
  cases b with
  | var c z =>
    obtain ⟨y, cs, T, fr, h1, h2, _, _, _, _, h6, h7⟩ := hk
    obtain rfl := Option.some.inj (h1.symm.trans hx)
    cases e with
    | zero =>
      simp only [Blk.row, Blk.k, Nat.mul_zero, Nat.zero_add] at hj ⊢
      exact ⟨_, cell_of_row h2 (by omega), (h7 j hj).1, (h7 j hj).2⟩
    | succ e => simp [Blk.row] at hj
  | arr k l z =>
    obtain ⟨h0, ⟨h1, h2⟩ | ⟨y, cs, T, fr, h1, h2, _, _, _, _, h6, h7⟩⟩ := hk
    · rw [h1] at hx; cases hx
    · obtain rfl := Option.some.inj (h1.symm.trans hx)
      simp only [Blk.row, Blk.k] at hj ⊢
      have he : e < l.length := by
        rcases Nat.lt_or_ge e l.length with h' | h'
        · exact h'
        · simp [List.getD, List.getElem?_eq_none h'] at hj
      have hjk : j < k := by rw [← h0 e he]; exact hj
      have : e * k + j < cs.size := by
        have : (e + 1) * k ≤ l.length * k := Nat.mul_le_mul_right k he
        rw [Nat.succ_mul] at this; omega
      exact ⟨_, cell_of_row h2 this, (h7 e j he hjk).1, .clo (h7 e j he hjk).2⟩

theorem ldOf_one {P : Program} {T : TypeId} {k : Nat} (h : ldOf P T = some (false, k)) : k = 1 := by
  unfold ldOf at h; split at h <;> simp_all

theorem run_loadVar {P : Program} {T : TypeId} {g : Bool} {k : Nat} (hl : ldOf P T = some (g, k)) {w : World} {x off : Nat} (f : Nat → Value)
    (hf : ∀ j, j < k → w.cell? ⟨x, off + j, none⟩ = some (f j)) :
    (loadVar T ⟨x, off, none⟩).run P w = .ok (if g then .agg ((List.range k).map f).toArray else f 0) w := by
  unfold ldOf at hl
  split at hl
  · rename_i n h1 h2
    simp only [Option.some.injEq, Prod.mk.injEq] at hl
    obtain ⟨rfl, rfl⟩ := hl
    simp [loadVar, run_isAgg h1, run_sizeOf h2, run_loadCells w ⟨x, off, none⟩ n f (fun j hj => by rw [addr_add]; exact hf j hj)]
  · rename_i n h1 h2
    simp only [Option.some.injEq, Prod.mk.injEq] at hl
    obtain ⟨rfl, rfl⟩ := hl
    have := hf 0 (by omega)
    simp only [Nat.add_zero] at this
    simp [loadVar, run_isAgg h1, this]
  · cases hl

theorem rv_mk {S : Nat → Prop} {w : World} {ρ : Name → Option Nat} {κ : Name → Nat} {h : Name → Option Blk} {g : Bool} {k : Nat} {c : List AV} {f : Nat → Value} (hk : g = false → k = 1)
    (hc : c.length = k) (hr : ∀ j, j < k → RV S w ρ κ h (c.getD j .junk) (f j)) : RV S w ρ κ h (.mk g c) (if g then .agg ((List.range k).map f).toArray else f 0) := by
  cases g with
  | true =>
    simp only [AV.mk, if_true]
    refine .agg _ _ (by simp [hc]) fun j hj => ?_
    have : ((List.range k).map f).toArray.getD j undef = f j := by
      have : j < k := by omega
      simp [this]
    rw [this]
    exact hr j (by omega)
  | false =>
    obtain rfl := hk rfl
    have := hr 0 (by omega)
    match c, hc with
    | [x], _ => simpa [AV.mk] using this

/-- The answer of an operation that leaves the world alone. -/
def Ans (P : Program) (S : Nat → Prop) (w : World) (ρ : Name → Option Nat) (κ : Name → Nat) (h : Name → Option Blk) (K : AV → Prop) (s : Sem Value) : Prop :=
  ∃ x v, K x ∧ s.run P w = .ok v w ∧ RV S w ρ κ h x v

variable {P : Program} {C : Ctx} {σ : FSt} {a : Act} {w : World} {S : Nat → Prop} {ρ : Name → Option Nat} {κ : Name → Nat} {K : AV → Prop}

theorem rd_load (hok : OK C σ a w S ρ κ) {T : TypeId} {g : Bool} {k : Nat} (hl : ldOf P T = some (g, k)) {x : Operand} (hv : rd (evO σ.s) σ.h K (.load g k x)) :
    Ans P S w ρ κ σ.h K (Instr.loadAt T (a.eval x)) := by
  have hx := hok.ev x
  generalize a.eval x = va at hx ⊢
  simp only [rd] at hv
  split at hv
  · rename_i c hc
    rw [hc] at hx
    obtain ⟨hk, hK⟩ := hv
    cases inv_ro hx with
    | ro _ b off xs hS hcell ho hr =>
      refine ⟨_, _, hK, by simp only [Instr.loadAt, Instr.sureAddr, Sem.run_bind, Sem.run_pure, Result.andThen_ok]; exact run_loadVar hl xs (fun j hj => hcell j (by omega)), ?_⟩
      refine rv_mk (fun hg => ldOf_one (hg ▸ hl)) (by simp; omega) fun j hj => ?_
      have e : (c.take k).getD j .junk = c.getD j .junk := by simp [List.getD, hj]
      rw [e]
      exact .clo (hr j (by omega))
  · rename_i n e c hc
    rw [hc] at hx
    split at hv
    · rename_i b hb
      obtain ⟨hk, hK⟩ := hv
      obtain ⟨y, hy, hva⟩ := inv_ptr hx b hb
      have hcells := fun j (hj : j < (b.row e).length) => hok.hok.cells hb hy (e := e) (j := j) hj
      let f : Nat → Value := fun j => (w.cell? ⟨y, e * b.k + c + j, none⟩).getD undef
      have hf : ∀ j, j < k → w.cell? ⟨y, e * b.k + c + j, none⟩ = some (f j) := fun j hj => by
        obtain ⟨u, hu, _⟩ := hcells (c + j) (by omega)
        have hu' : w.cell? ⟨y, e * b.k + c + j, none⟩ = some u := by rw [← hu, Nat.add_assoc]
        simp only [f, hu', Option.getD_some]
      refine ⟨_, _, hK, by subst hva; simp only [Instr.loadAt, Instr.sureAddr, Sem.run_bind, Sem.run_pure, Result.andThen_ok]; exact run_loadVar hl f hf, ?_⟩
      refine rv_mk (fun hg => ldOf_one (hg ▸ hl)) (by simp; omega) fun j hj => ?_
      obtain ⟨u, hu, _, hr⟩ := hcells (c + j) (by omega)
      have e2 : (((b.row e).drop c).take k).getD j .junk = (b.row e).getD (c + j) .junk := by simp [List.getD, hj]
      have e3 : f j = u := by
        have := hf j hj
        rw [Nat.add_assoc] at this
        exact Option.some.inj (this.symm.trans hu)
      rw [e2, e3]; exact hr
    · exact hv.elim
  · exact hv.elim

theorem ro_drop {c : List AV} {v : Value} {off : Nat} (ho : off ≤ c.length) (h : RC S w (.ro c) v) : ∃ x o, v = .pointer (some ⟨x, o, none⟩) ∧ RC S w (.ro (c.drop off)) (.pointer (some ⟨x, o + off, none⟩)) := by
  cases h with
  | ro _ x o xs hS hc hone hr =>
    refine ⟨x, o, rfl, .ro _ x (o + off) (fun j => xs (off + j)) hS (fun j hj => ?_) (fun j hj => hone _ (by simp at hj; omega)) fun j hj => ?_⟩
    · rw [Nat.add_assoc]; exact hc _ (by simp at hj; omega)
    · have := hr (off + j) (by simp at hj; omega)
      simpa [List.getD] using this

/-- a field's place: its offset; the field's type is no empty one -/
def fieldOf (P : Program) (s : TypeId) (i : Nat) : Option Field :=
  match P.underlying s with
  | some (.struct fs) => fs[i]?
  | _ => none

theorem rd_fieldAddr (hok : OK C σ a w S ρ κ) {s : TypeId} {i : Nat} {f : Field} {n : Nat} (hf : fieldOf P s i = some f) (hn : szOf P f.type = some n) (h0 : n ≠ 0) {x : Operand}
    (hv : rd (evO σ.s) σ.h K (.fieldAddr f.offset x)) : Ans P S w ρ κ σ.h K (Instr.fieldAt s (a.eval x) i) := by
  have hx := hok.ev x
  have hrun : ∀ b o, (Instr.fieldAt s (.pointer (some ⟨b, o, none⟩)) i).run P w = .ok (.pointer (some ⟨b, o + f.offset, none⟩)) w := by
    intro b o
    unfold fieldOf at hf
    split at hf
    · rename_i fs hu
      simp [Instr.fieldAt, run_underlying hu, hf, Instr.sureAddr, fieldPlace, run_sizeOf hn, h0, addr_add]
    · cases hf
  generalize a.eval x = va at hx ⊢
  simp only [rd] at hv
  split at hv
  · rename_i m e c hc
    rw [hc] at hx
    split at hv
    · rename_i b hb
      obtain ⟨y, hy, rfl⟩ := inv_ptr hx b hb
      refine ⟨_, _, hv, hrun _ _, .ptr _ _ _ _ fun b' hb' => ?_⟩
      rw [hb] at hb'; obtain rfl := Option.some.inj hb'
      exact ⟨y, hy, by rw [Nat.add_assoc]⟩
    · exact hv.elim
  · rename_i c hc
    rw [hc] at hx
    obtain ⟨y, o, rfl, hr⟩ := ro_drop hv.1 (inv_ro hx)
    exact ⟨_, _, hv.2, hrun _ _, .clo hr⟩
  · exact hv.elim

theorem rd_field (hok : OK C σ a w S ρ κ) {s : TypeId} {i : Nat} {f : Field} {n : Nat} {g : Bool} (hf : fieldOf P s i = some f) (hn : szOf P f.type = some n) (hg : isAggT P f.type = some g) (h1 : g = false → n = 1)
    {x : Operand} (hv : rd (evO σ.s) σ.h K (.field g f.offset n x)) : Ans P S w ρ κ σ.h K (Instr.field s (a.eval x) i) := by
  have hx := hok.ev x
  generalize a.eval x = va at hx ⊢
  simp only [rd] at hv
  split at hv
  · rename_i c hc
    rw [hc] at hx
    obtain ⟨vs, rfl, hl, hr⟩ := inv_agg hx
    unfold fieldOf at hf
    split at hf
    · rename_i fs hu
      obtain ⟨hk, hK⟩ := hv
      refine ⟨_, (if g then .agg ((List.range n).map fun j => vs.getD (f.offset + j) undef).toArray else vs.getD (f.offset + 0) undef), hK, ?_, ?_⟩
      · cases g with
        | true =>
          simp only [Instr.field, Sem.run_bind, run_underlying hu, Result.andThen_ok, hf, asAgg, Sem.run_pure, part, run_isAgg hg, if_true, run_sizeOf hn]
          congr 2
          apply Array.ext (by simp; omega)
          intro j h1 h2
          simp at h1 h2
          simp [show f.offset + j < vs.size by omega]
        | false =>
          have := h1 rfl
          simp [Instr.field, run_underlying hu, hf, asAgg, part, run_isAgg hg, show f.offset < vs.size by omega]
      · refine rv_mk h1 (by simp; omega) fun j hj => ?_
        have := hr (f.offset + j) (by omega)
        have e : ((c.drop f.offset).take n).getD j .junk = c.getD (f.offset + j) .junk := by simp [List.getD, hj]
        rw [e]; exact this
    · cases hf
  · exact hv.elim

theorem rc_row {k : Nat} {l : List (List AV)} {v : Value} (h : RC S w (.sl k l) v) {i : Nat} (hi : i < l.length) :
    ∃ x off cap, v = .slice (some ⟨x, off, none⟩) l.length cap ∧ RC S w (.ro (l.getD i [])) (.pointer (some ⟨x, off + i * k, none⟩)) := by
  cases h with
  | sl _ _ base cap x off xs hb hc ho hr hk hcap =>
    have hne : l ≠ [] := by rintro rfl; simp at hi
    obtain ⟨rfl, hS⟩ := hb hne
    refine ⟨x, off, cap, rfl, .ro _ x _ (fun j => xs (i * k + j)) hS (fun j hj => ?_) (fun j hj => ho i j hi (by rw [← hk i hi]; exact hj)) fun j hj => hr i j hi (by rw [← hk i hi]; exact hj)⟩
    rw [Nat.add_assoc]
    exact hc i j hi (by rw [← hk i hi]; exact hj)

theorem rd_idxSl (hok : OK C σ a w S ρ κ) {t e : TypeId} {k : Nat} (hu : P.underlying t = some (.slice e)) (hk : szOf P e = some k) {x i : Operand}
    (hv : rd (evO σ.s) σ.h K (.idxSl k x i)) : Ans P S w ρ κ σ.h K (Instr.indexAt t (a.eval x) (a.eval i)) := by
  have hx := hok.ev x
  have hi := hok.ev i
  generalize a.eval x = va at hx ⊢
  generalize a.eval i = vi at hi ⊢
  simp only [rd] at hv
  split at hv
  · rename_i k' l kk n hc hn
    rw [hc] at hx; rw [hn] at hi
    obtain rfl := inv_v hi
    obtain ⟨⟨rfl, h0, h1⟩, hK⟩ := hv
    obtain ⟨y, off, cap, rfl, hr⟩ := rc_row (inv_sl hx) (i := n.toNat) (by omega)
    refine ⟨_, _, hK, ?_, .clo hr⟩
    simp [Instr.indexAt, asIntOf, run_underlying hu, run_sizeOf hk, h0, h1, addr_add]
  · rename_i m off len kk n hc hn
    rw [hc] at hx; rw [hn] at hi
    obtain rfl := inv_v hi
    split at hv
    · rename_i k' l z hb
      obtain ⟨⟨rfl, h0, h1⟩, hK⟩ := hv
      obtain ⟨hle, base, cap, rfl, _, _, hbase, _⟩ := inv_loc hx _ _ _ hb
      obtain ⟨y, hy, rfl⟩ := hbase (by omega)
      refine ⟨_, .pointer (some ⟨y, off * k' + n.toNat * k', none⟩), hK, ?_, .ptr _ _ _ _ fun b' hb' => ?_⟩
      · simp [Instr.indexAt, asIntOf, run_underlying hu, run_sizeOf hk, h0, h1, addr_add]
      · rw [hb] at hb'; obtain rfl := Option.some.inj hb'
        exact ⟨y, hy, by simp [Blk.k, Nat.add_mul]⟩
    · exact hv.elim
  · exact hv.elim

theorem rd_idxArr (hok : OK C σ a w S ρ κ) {t e : TypeId} {n k : Nat} (hu : P.underlying t = some (.array n e)) (hk : szOf P e = some k) {x i : Operand}
    (hv : rd (evO σ.s) σ.h K (.idxArr n k x i)) : Ans P S w ρ κ σ.h K (Instr.indexAt t (a.eval x) (a.eval i)) := by
  have hx := hok.ev x
  have hi := hok.ev i
  generalize a.eval x = va at hx ⊢
  generalize a.eval i = vi at hi ⊢
  simp only [rd] at hv
  split at hv
  · rename_i c kk m hc hn
    rw [hc] at hx; rw [hn] at hi
    obtain rfl := inv_v hi
    obtain ⟨⟨h0, h1, h2⟩, hK⟩ := hv
    obtain ⟨y, o, rfl, hr⟩ := ro_drop h2 (inv_ro hx)
    refine ⟨_, _, hK, ?_, .clo hr⟩
    simp [Instr.indexAt, asIntOf, run_underlying hu, run_sizeOf hk, h0, h1, addr_add, Instr.sureAddr]
  · rename_i nm e' c kk m hc hn
    rw [hc] at hx; rw [hn] at hi
    obtain rfl := inv_v hi
    split at hv
    · rename_i b hb
      obtain ⟨⟨h0, h1⟩, hK⟩ := hv
      obtain ⟨y, hy, rfl⟩ := inv_ptr hx b hb
      refine ⟨_, .pointer (some ⟨y, e' * b.k + c + m.toNat * k, none⟩), hK, ?_, .ptr _ _ _ _ fun b' hb' => ?_⟩
      · simp [Instr.indexAt, asIntOf, run_underlying hu, run_sizeOf hk, h0, h1, addr_add, Instr.sureAddr]
      · rw [hb] at hb'; obtain rfl := Option.some.inj hb'
        exact ⟨y, hy, by rw [Nat.add_assoc]⟩
    · exact hv.elim
  · exact hv.elim

theorem rd_idxAgg (hok : OK C σ a w S ρ κ) {t e : TypeId} {n k : Nat} {g : Bool} (hu : P.underlying t = some (.array n e)) (hk : szOf P e = some k) (hg : isAggT P e = some g) (hg1 : g = false → k = 1) {x i : Operand}
    (hv : rd (evO σ.s) σ.h K (.idxAgg g n k x i)) : Ans P S w ρ κ σ.h K (Instr.index t (a.eval x) (a.eval i)) := by
  have hx := hok.ev x
  have hi := hok.ev i
  generalize a.eval x = va at hx ⊢
  generalize a.eval i = vi at hi ⊢
  simp only [rd] at hv
  split at hv
  · rename_i c kk m hc hn
    rw [hc] at hx; rw [hn] at hi
    obtain rfl := inv_v hi
    obtain ⟨⟨h0, h1, h2⟩, hK⟩ := hv
    obtain ⟨vs, rfl, hl, hr⟩ := inv_agg hx
    refine ⟨_, (if g then .agg ((List.range k).map fun j => vs.getD (m.toNat * k + j) undef).toArray else vs.getD (m.toNat * k + 0) undef), hK, ?_, ?_⟩
    · cases g with
      | true =>
        simp only [Instr.index, asIntOf, Sem.run_bind, Sem.run_pure, run_underlying hu, Result.andThen_ok, h0, h1, and_self, if_true, run_sizeOf hk, part, run_isAgg hg]
        congr 2
        apply Array.ext (by simp; omega)
        intro j h1 h2
        simp at h1 h2
        simp [show m.toNat * k + j < vs.size by omega]
      | false =>
        have := hg1 rfl
        subst this
        have : vs[m.toNat]? = some (vs.getD m.toNat undef) := by simp [show m.toNat < vs.size by omega]
        simp [Instr.index, asIntOf, run_underlying hu, h0, h1, run_sizeOf hk, part, run_isAgg hg, show m.toNat < vs.size by omega]
    · refine rv_mk hg1 (by simp; omega) fun j hj => ?_
      have := hr (m.toNat * k + j) (by omega)
      have e : ((c.drop (m.toNat * k)).take k).getD j .junk = c.getD (m.toNat * k + j) .junk := by simp [List.getD, hj]
      rw [e]; exact this
  · exact hv.elim

theorem rd_idxStr (hok : OK C σ a w S ρ κ) {t : TypeId} (hu : P.underlying t = some .string) {x i : Operand}
    (hv : rd (evO σ.s) σ.h K (.idxStr x i)) : Ans P S w ρ κ σ.h K (Instr.index t (a.eval x) (a.eval i)) := by
  have hx := hok.ev x
  have hi := hok.ev i
  generalize a.eval x = va at hx ⊢
  generalize a.eval i = vi at hi ⊢
  simp only [rd] at hv
  split at hv
  · rename_i s kk m hc hn
    rw [hc] at hx; rw [hn] at hi
    obtain rfl := inv_v hi
    obtain rfl := inv_v hx
    obtain ⟨⟨h0, h1⟩, hK⟩ := hv
    refine ⟨_, _, hK, ?_, .clo (.v _)⟩
    have hlt : m.toNat < s.size := by omega
    have e : s[m.toNat]? = some (s.data.toList.getD m.toNat 0) := by
      have : m.toNat < s.data.size := hlt
      rw [getElem?_pos s m.toNat hlt]
      simp
      rw [getElem?_pos s.data m.toNat this]
      rfl
    simp [Instr.index, asIntOf, run_underlying hu, h0, e]
  · exact hv.elim

end Go.Vs
