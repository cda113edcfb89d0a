/- Data of a struct type, field by field. -/
import Derived.Test.YtclfhgcngodljaaDoorDtC
import Derived.Test.YtclfhgcngodljaaDoorDsQ
namespace Go.Vs
open Go.ChangeShapes Go.RowKit
variable {P : Program}

/-- the fields from one cell on -/
def OpensF (P : Program) (fs : List Field) (o : Nat) {α : Type} (k : Nat) (e : α → List AV) : Prop :=
  (∀ a, (e a).length = k) ∧ ∀ (H : Type) (enc : TypeId × Value → H) (w : World) (sp : Nat → Bool) (fuel : Nat) (cs : List Value),
    (∀ (i : Nat) (f : Field), fs[i]? = some f → ∃ x, DataW.trod enc P w 0 sp true fuel f.type ((cs.drop f.offset).take (P.cellsOf f.type)) = some x) →
    ∃ a, ∀ j, j < k → (cs.getD (o + j) undef).oneCell' = true ∧ RC (fun b => b < w.heap.size) w ((e a).getD j .junk) (cs.getD (o + j) undef)

theorem Opens.at {t : TypeId} {α : Type} {k : Nat} {e : α → List AV} (h : Opens P t k e) {H : Type} {enc : TypeId × Value → H} {w : World} {sp : Nat → Bool} {fuel : Nat} {cs : List Value} {o : Nat} {x : DataW H × List MemPlace}
    (hx : DataW.trod enc P w 0 sp true fuel t ((cs.drop o).take (P.cellsOf t)) = some x) :
    ∃ a, ∀ j, j < k → (cs.getD (o + j) undef).oneCell' = true ∧ RC (fun b => b < w.heap.size) w ((e a).getD j .junk) (cs.getD (o + j) undef) := by
  obtain ⟨a, _, h2⟩ := h.2.2 H enc w sp fuel _ _ hx
  refine ⟨a, fun j hj => ?_⟩
  have := h2 j hj
  have e1 : ((cs.drop o).take (P.cellsOf t)).getD j undef = cs.getD (o + j) undef := by
    rw [h.1]
    simp [List.getD, hj]
  rwa [e1] at this

theorem OpensF.one {f : Field} {o : Nat} {α : Type} {k : Nat} {e : α → List AV} (h : Opens P f.type k e) (ho : f.offset = o) : OpensF P [f] o k e := by
  refine ⟨h.2.1, fun H enc w sp fuel cs hf => ?_⟩
  obtain ⟨x, hx⟩ := hf 0 f rfl
  rw [ho] at hx
  exact h.at hx

theorem OpensF.cons {f : Field} {fs : List Field} {o : Nat} {α β : Type} {k k' : Nat} {e : α → List AV} {e' : β → List AV} (h : Opens P f.type k e) (ho : f.offset = o) (hs : OpensF P fs (o + k) k' e') :
    OpensF P (f :: fs) o (k + k') (fun p : α × β => e p.1 ++ e' p.2) := by
  refine ⟨fun p => by simp [h.2.1, hs.1], fun H enc w sp fuel cs hf => ?_⟩
  obtain ⟨x, hx⟩ := hf 0 f rfl
  rw [ho] at hx
  obtain ⟨a, ha⟩ := h.at hx
  obtain ⟨b, hb⟩ := hs.2 H enc w sp fuel cs fun i g hg => hf (i + 1) g (by simpa using hg)
  refine ⟨(a, b), fun j hj => ?_⟩
  by_cases hjk : j < k
  · have e1 : (e a ++ e' b).getD j .junk = (e a).getD j .junk := by
      simp [List.getD, List.getElem?_append_left (show j < (e a).length by rw [h.2.1]; exact hjk)]
    rw [e1]; exact ha j hjk
  · have e1 : (e a ++ e' b).getD j .junk = (e' b).getD (j - k) .junk := by
      simp [List.getD, List.getElem?_append_right (show (e a).length ≤ j by rw [h.2.1]; omega), h.2.1]
    have := hb (j - k) (by omega)
    rw [show o + k + (j - k) = o + j by omega] at this
    rw [e1]; exact this

theorem OpensF.one' {L : List Field} {f : Field} {o K : Nat} {α : Type} {k : Nat} {e EE : α → List AV} (hL : L = [f]) (h : Opens P f.type k e) (ho : f.offset = o) (hk : K = k) (hE : EE = e) : OpensF P L o K EE := by
  subst hL; subst hk; subst hE; exact OpensF.one h ho
theorem OpensF.cons' {L : List Field} {f : Field} {fs : List Field} {o K : Nat} {α β : Type} {k k' : Nat} {e : α → List AV} {e' : β → List AV} {EE : α × β → List AV} (hL : L = f :: fs) (h : Opens P f.type k e) (ho : f.offset = o) (hs : OpensF P fs (o + k) k' e')
    (hk : K = k + k') (hE : EE = fun p : α × β => e p.1 ++ e' p.2) : OpensF P L o K EE := by
  subst hL; subst hk; subst hE; exact OpensF.cons h ho hs

theorem Opens.struct {t : TypeId} {fs : Array Field} {α : Type} {k : Nat} {e : α → List AV} (h : P.underlying t = some (.struct fs)) (hc : P.cellsOf t = k) (hs : OpensF P fs.toList 0 k e) : Opens P t k e := by
  refine ⟨hc, hs.1, fun H enc w sp fuel cs x hx => ?_⟩
  obtain ⟨xs, n, rfl, rfl, hl, hn, hf⟩ := DataW.trod_struct h hx
  obtain ⟨a, ha⟩ := hs.2 H enc w sp n cs fun i f hif => by
    have hif' : fs[i]? = some f := by simpa using hif
    have := hf i f hif'
    have hi : i < fs.size := (Array.getElem?_eq_some_iff.1 hif').1
    rw [List.getElem?_eq_getElem (by omega)] at this
    exact ⟨_, this⟩
  exact ⟨a, by rw [hl, hc], fun j hj => by simpa using ha j hj⟩

abbrev I64 := { n : Int // (Lit.int .i64 n).wf = true }
theorem I64.range (n : I64) : -9223372036854775808 ≤ n.1 ∧ n.1 ≤ 9223372036854775807 := by
  have h := n.2
  simp only [Lit.wf, Bool.and_eq_true, decide_eq_true_eq] at h
  exact h
end Go.Vs
