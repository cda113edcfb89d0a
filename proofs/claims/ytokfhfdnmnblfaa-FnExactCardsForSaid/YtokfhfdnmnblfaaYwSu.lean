/- A field of a card and a text are compared. -/
import Derived.Test.YtokfhfdnmnblfaaYuB
import Derived.Test.YtokfhfdnmnblfaaYwSb
import Derived.Test.YtokfhfdnmnblfaaVtR
import Derived.Test.YtokfhfdnmnblfaaVtN
import Derived.Test.YtokfhfdnmnblfaaYwQf
import Derived.Test.YtokfhfdnmnblfaaYwC
import Derived.Test.YtokfhfdnmnblfaaYwA
namespace Go.Proofs.Ytokfhfdnmnblfaa
open Go.Vs
set_option linter.unusedSectionVars false
variable [Vs.Envs]
set_option linter.unusedSimpArgs false
set_option linter.unusedVariables false
attribute [local irreducible] Vs.Fn
end Go.Proofs.Ytokfhfdnmnblfaa

namespace Go.Proofs.Ytokfhfdnmnblfaa
open Go.Vs
set_option linter.unusedSectionVars false
variable [Vs.Envs]
set_option linter.unusedSimpArgs false
set_option linter.unusedVariables false
attribute [local irreducible] Vs.Fn
end Go.Proofs.Ytokfhfdnmnblfaa

namespace Go.Proofs.Ytokfhfdnmnblfaa
open Go.Vs
set_option linter.unusedSectionVars false
variable [Vs.Envs]
set_option linter.unusedSimpArgs false
set_option linter.unusedVariables false
attribute [local irreducible] Vs.Fn
end Go.Proofs.Ytokfhfdnmnblfaa

namespace Go.Proofs.Ytokfhfdnmnblfaa
open Go.Vs
set_option linter.unusedSectionVars false
variable [Vs.Envs]
set_option linter.unusedSimpArgs false
set_option linter.unusedVariables false
attribute [local irreducible] Vs.Fn
end Go.Proofs.Ytokfhfdnmnblfaa

namespace Go.Proofs.Ytokfhfdnmnblfaa
open Go.Vs
set_option linter.unusedSectionVars false
variable [Vs.Envs]
set_option linter.unusedSimpArgs false
set_option linter.unusedVariables false
attribute [local irreducible] Vs.Fn chOK areCh chTo chAt l03 chB rk cd3 chI stp stpTo flt idxP zR clrL
attribute [local irreducible] keyC
theorem CallK.borL {P : Program} {f : FuncId} {b : Blk} {ys : List AV} {L : List Vs.Name} {d : Option Nat} {σ : St} {n : Vs.Name} {K : St → Prop} {t : Tag K} {r : AV} {hout : List (Option Blk)} (hfn : Vs.Fn P f [b] ys r hout) (hfr : freshAll (d.getD 0) 1 hout.length σ = true)
    (hK : K ⟨put d (rn (phi [n] (d.getD 0) hout.length) r) σ.s, aftL σ.h [n] (d.getD 0) hout true L⟩) : CallK P f [b] ys L d σ [n] K t :=
  ⟨r, hout, true, hfn, fun h => (by cases h), hfr, hK⟩
theorem row_take (m : List (List Int)) (k : Nat) : (E cC m ++ zR k).take m.length = E cC m := by
  have : m.length = (E cC m).length := (E_len ..).symm
  rw [this, List.take_left']
  rfl
end Go.Proofs.Ytokfhfdnmnblfaa

namespace Go.Proofs.Ytokfhfdnmnblfaa
open Go.Vs
set_option linter.unusedSectionVars false
variable [Vs.Envs]
set_option linter.unusedSimpArgs false
set_option linter.unusedVariables false
attribute [local irreducible] Vs.Fn chOK areCh chTo chAt l03 chB rk cd3 chI stp stpTo
end Go.Proofs.Ytokfhfdnmnblfaa

namespace Go.Proofs.Ytokfhfdnmnblfaa
open Go.Vs
set_option linter.unusedSectionVars false
variable [Vs.Envs]
set_option linter.unusedSimpArgs false
set_option linter.unusedVariables false
attribute [local irreducible] Vs.Fn chOK areCh chTo chAt l03 chB rk cd3 chI stp stpTo
section
variable {fr to : Int} {l : List (List Int)} (ho : ∀ c, c ∈ l → okF fr to c)
include ho
end
end Go.Proofs.Ytokfhfdnmnblfaa

namespace Go.Proofs.Ytokfhfdnmnblfaa
open Go.Vs
set_option linter.unusedSectionVars false
variable [Vs.Envs]
set_option linter.unusedSimpArgs false
set_option linter.unusedVariables false
attribute [local irreducible] Vs.Fn chOK areCh chTo chAt l03 chB rk cd3 chI stp stpTo flt idxP zR clrL
theorem cmpR_eq : ∀ {a b : List Int}, a.length = b.length → hasCh a = true → hasCh b = true → (cmpR a b = 0 ↔ a = b)
  | [], [], _, _, _ => by simp [cmpR]
  | [], y :: b, h, _, _ => by simp at h
  | x :: a, [], h, _, _ => by simp at h
  | x :: a, y :: b, h, ha, hb => by
    simp only [hasCh, List.all_cons, Bool.and_eq_true, decide_eq_true_eq] at ha hb
    have ih := cmpR_eq (a := a) (b := b) (by simpa using h) (by simpa [hasCh] using ha.2) (by simpa [hasCh] using hb.2)
    rw [cmpR]
    by_cases h1 : rk x < rk y
    · rw [if_pos h1]
      refine ⟨fun h => by simp at h, fun h => ?_⟩
      simp only [List.cons.injEq] at h
      rw [h.1] at h1; omega
    · rw [if_neg h1]
      by_cases h2 : rk x > rk y
      · rw [if_pos h2]
        refine ⟨fun h => by simp at h, fun h => ?_⟩
        simp only [List.cons.injEq] at h
        rw [h.1] at h2; omega
      · rw [if_neg h2, ih]
        have hxy : x = y := rk_inj ha.1 (by omega)
        simp [hxy]
theorem txt_inj {a b : List Int} (hl : a.length = b.length) (ha : hasCh a = true) (hb : hasCh b = true) (h : (txt a).data.toList = (txt b).data.toList) : a = b := by
  apply List.ext_getElem hl
  intro i h1 h2
  have e1 := txt_at ha h1
  have e2 := txt_at hb h2
  rw [h, e2] at e1
  have r1 := rk_in a[i]
  have r2 := rk_in b[i]
  have g1 := hasCh_get ha h1
  have g2 := hasCh_get hb h2
  have := chB_inj (rk b[i]).toNat (by omega) (rk a[i]).toNat (by omega) e1
  exact rk_inj g1 (by omega)
theorem txt_beq {a b : List Int} (hl : a.length = b.length) (ha : hasCh a = true) (hb : hasCh b = true) : ((txt a).toList == (txt b).toList) = (cmpR a b == 0) := by
  rw [ByteArray.toList_eq, ByteArray.toList_eq]
  have h := cmpR_eq hl ha hb
  by_cases e : a = b
  · subst e
    have : cmpR a a = 0 := h.2 rfl
    simp [this]
  · have h1 : ¬ cmpR a b = 0 := fun h' => e (h.1 h')
    have h2 : ¬ (txt a).data.toList = (txt b).data.toList := fun h' => e (txt_inj hl ha hb h')
    have e1 : ((txt a).data.toList == (txt b).data.toList) = false := beq_eq_false_iff_ne.2 h2
    have e2 : (cmpR a b == 0) = false := beq_eq_false_iff_ne.2 h1
    rw [e1, e2]
theorem l00Own (l : List Int) (hl : l.length ≤ 1048576) : Vs.Fn Try.prog F.spec_l00Own [] [.sl 1 (E cI l)] (.sl 1 (E cI l)) [] := by
  refine Cd.spec_l00Own_ok.fn0 Try.mixed Cd.spec_l00Own_nt Cd.spec_l00Own_rs rfl fun X => ?_
  unfold Cd.spec_l00Own
  simp -dsimp only [go_sem, reduceIte, reduceCtorEq, Nat.reduceEqDiff, Nat.reduceLT, Nat.reduceLeDiff, Nat.reduceAdd, Nat.reduceMul, Nat.reduceSub, Int.reduceToNat, Int.reduceNeg]
  first
    | exact ⟨by omega, rfl, ⟨rfl, by omega, by omega⟩, _, _, rfl, rfl⟩
    | exact ⟨by omega, rfl, ⟨by omega, by omega⟩, _, _, rfl, rfl⟩
    | exact ⟨⟨by omega, by omega⟩, ⟨by omega, by omega⟩, _, _, rfl, rfl⟩

theorem l02Own (c : List Int) (hc : c.length ≤ 1048576) : Vs.Fn Try.prog F.spec_l02Own [] [.ro (cC c)] (.agg (cC c)) [] := by
  refine Cd.spec_l02Own_ok.fn0 Try.mixed Cd.spec_l02Own_nt Cd.spec_l02Own_rs rfl fun X => ?_
  unfold Cd.spec_l02Own
  simp -dsimp only [go_sem, reduceIte, reduceCtorEq, Nat.reduceEqDiff, Nat.reduceLT, Nat.reduceLeDiff, Nat.reduceAdd, Nat.reduceMul, Nat.reduceSub, Int.reduceToNat, Int.reduceNeg, cC, cFd, List.replicate_succ, List.replicate_zero, List.flatten_cons, List.flatten_nil, List.cons_append, List.nil_append, List.set_cons_zero, List.set_cons_succ, List.length_cons, List.length_nil, List.length_set]
  repeat' (first
    | (refine RgK.mk rfl ?_; simp -dsimp only [go_sem, reduceIte, reduceCtorEq, Nat.reduceEqDiff, Nat.reduceLT, Nat.reduceLeDiff, Nat.reduceAdd, Nat.reduceMul, Nat.reduceSub, Int.reduceToNat, Int.reduceNeg, cC, cFd, List.replicate_succ, List.replicate_zero, List.flatten_cons, List.flatten_nil, List.cons_append, List.nil_append, List.set_cons_zero, List.set_cons_succ, List.length_cons, List.length_nil, List.length_set])
    | (refine Br.mk (fun h => ?_) (fun h => ?_) <;> simp -dsimp only [go_sem, reduceIte, reduceCtorEq, Nat.reduceEqDiff, Nat.reduceLT, Nat.reduceLeDiff, Nat.reduceAdd, Nat.reduceMul, Nat.reduceSub, Int.reduceToNat, Int.reduceNeg, h, cC, cFd, List.replicate_succ, List.replicate_zero, List.flatten_cons, List.flatten_nil, List.cons_append, List.nil_append, List.set_cons_zero, List.set_cons_succ, List.length_cons, List.length_nil, List.length_set])
    | (refine CallK.flat (by first | exact l00Own c hc) rfl ?_; simp -dsimp only [go_sem, reduceIte, reduceCtorEq, Nat.reduceEqDiff, Nat.reduceLT, Nat.reduceLeDiff, Nat.reduceAdd, Nat.reduceMul, Nat.reduceSub, Int.reduceToNat, Int.reduceNeg, cC, cFd, List.replicate_succ, List.replicate_zero, List.flatten_cons, List.flatten_nil, List.cons_append, List.nil_append, List.set_cons_zero, List.set_cons_succ, List.length_cons, List.length_nil, List.length_set])
    | (refine CallK.pure (by first | exact l00Own c hc) ?_; simp -dsimp only [go_sem, reduceIte, reduceCtorEq, Nat.reduceEqDiff, Nat.reduceLT, Nat.reduceLeDiff, Nat.reduceAdd, Nat.reduceMul, Nat.reduceSub, Int.reduceToNat, Int.reduceNeg, cC, cFd, List.replicate_succ, List.replicate_zero, List.flatten_cons, List.flatten_nil, List.cons_append, List.nil_append, List.set_cons_zero, List.set_cons_succ, List.length_cons, List.length_nil, List.length_set])
    | (refine And.intro (by first | rfl | omega | decide | (refine ⟨?_, ?_⟩ <;> (first | rfl | omega | decide)) | (refine ⟨?_, ?_, ?_⟩ <;> (first | rfl | omega | decide)) | (refine ⟨?_, ?_, ?_, ?_⟩ <;> (first | rfl | omega | decide))) ?_)
    | fail)
  all_goals (exact ⟨_, _, rfl, rfl⟩)

theorem keyL_len (fr to : Int) (l : List (List Int)) : (keyL fr to l).length = l.length := by simp [keyL]
end Go.Proofs.Ytokfhfdnmnblfaa

namespace Go.Proofs.Ytokfhfdnmnblfaa
open Go.Vs
set_option linter.unusedSectionVars false
variable [Vs.Envs]
set_option linter.unusedSimpArgs false
set_option linter.unusedVariables false
attribute [local irreducible] Vs.Fn chOK areCh chTo chAt l03 chB rk cd3 chI stp stpTo
end Go.Proofs.Ytokfhfdnmnblfaa

namespace Go.Proofs.Ytokfhfdnmnblfaa
open Go.Vs
set_option linter.unusedSectionVars false
variable [Vs.Envs]
set_option linter.unusedSimpArgs false
set_option linter.unusedVariables false
attribute [local irreducible] Vs.Fn chOK areCh chTo chAt l03 chB rk cd3 chI stp stpTo
end Go.Proofs.Ytokfhfdnmnblfaa

namespace Go.Proofs.Ytokfhfdnmnblfaa
open Go.Vs
set_option linter.unusedSectionVars false
variable [Vs.Envs]
set_option linter.unusedSimpArgs false
set_option linter.unusedVariables false
attribute [local irreducible] Vs.Fn chOK areCh chTo chAt l03 chB rk cd3 chI stp stpTo
end Go.Proofs.Ytokfhfdnmnblfaa

namespace Go.Proofs.Ytokfhfdnmnblfaa
open Go.Vs
set_option linter.unusedSectionVars false
variable [Vs.Envs]
set_option linter.unusedSimpArgs false
set_option linter.unusedVariables false
attribute [local irreducible] Vs.Fn chOK areCh chTo chAt l03 chB rk cd3 chI stp stpTo
theorem deck_40 {l : List (List Int)} (h : deckB l = true) : l.length ≤ 40 := by
  simp only [deckB, Bool.and_eq_true, decide_eq_true_eq] at h
  exact h.2
end Go.Proofs.Ytokfhfdnmnblfaa

namespace Go.Proofs.Ytokfhfdnmnblfaa
open Go.Vs
set_option linter.unusedSectionVars false
variable [Vs.Envs]
set_option linter.unusedSimpArgs false
set_option linter.unusedVariables false
attribute [local irreducible] Vs.Fn chOK areCh chTo chAt l03 chB rk cd3 chI stp stpTo
end Go.Proofs.Ytokfhfdnmnblfaa

namespace Go.Proofs.Ytokfhfdnmnblfaa
open Go.Vs
set_option linter.unusedSectionVars false
variable [Vs.Envs]
set_option linter.unusedSimpArgs false
set_option linter.unusedVariables false
attribute [local irreducible] Vs.Fn chOK areCh chTo chAt l03 chB rk cd3 chI stp stpTo
end Go.Proofs.Ytokfhfdnmnblfaa

namespace Go.Proofs.Ytokfhfdnmnblfaa
open Go.Vs
set_option linter.unusedSectionVars false
variable [Vs.Envs]
set_option linter.unusedSimpArgs false
set_option linter.unusedVariables false
attribute [local irreducible] Vs.Fn chOK areCh chTo chAt l03 chB rk cd3 chI stp stpTo
end Go.Proofs.Ytokfhfdnmnblfaa

namespace Go.Proofs.Ytokfhfdnmnblfaa
open Go.Vs
set_option linter.unusedSectionVars false
variable [Vs.Envs]
set_option linter.unusedSimpArgs false
set_option linter.unusedVariables false
attribute [local irreducible] Vs.Fn chOK areCh chTo chAt l03 chB rk cd3 chI stp stpTo
end Go.Proofs.Ytokfhfdnmnblfaa

namespace Go.Proofs.Ytokfhfdnmnblfaa
open Go.Vs
set_option linter.unusedSectionVars false
variable [Vs.Envs]
set_option linter.unusedSimpArgs false
set_option linter.unusedVariables false
attribute [local irreducible] Vs.Fn chOK areCh chTo chAt l03 chB rk cd3 chI stp stpTo
theorem blankO (w : Nat) (hw : w ≤ 1000) : Vs.Fn Try.prog F.impl_blank [] [.v (.int .i64 w)] (.agg [.loc (.b 0) 0 w]) [some (.arr 1 (List.replicate w [.v (.int .i64 0)]) false)] := by
  have hz : ((w : Int)).toNat = w := by omega
  refine Cd.impl_blank_ok.fn Try.mixed (hin := []) _ _ [.t 4 0] [.arr 1 (List.replicate w [.v (.int .i64 0)]) false] Cd.impl_blank_nt Cd.impl_blank_rs rfl (by simp) rfl (by simp) fun X => ?_
  unfold Cd.impl_blank
  simp -dsimp only [go_sem, reduceIte, reduceCtorEq, Nat.reduceEqDiff, Nat.reduceLT, Nat.reduceLeDiff, Nat.reduceAdd, Nat.reduceMul, Nat.reduceSub, Int.reduceToNat, Int.reduceNeg, E_len, List.set_cons_zero, List.set_cons_succ, List.length_cons, List.length_nil, List.length_set, List.length_replicate, List.flatMap_cons, List.flatMap_nil, cellN, topN, nestN, List.getD_cons_zero, List.append_nil, List.nil_append, List.cons_append, hz]
  repeat' (first
    | (refine RgK.mk rfl ?_; simp -dsimp only [go_sem, reduceIte, reduceCtorEq, Nat.reduceEqDiff, Nat.reduceLT, Nat.reduceLeDiff, Nat.reduceAdd, Nat.reduceMul, Nat.reduceSub, Int.reduceToNat, Int.reduceNeg, E_len, List.set_cons_zero, List.set_cons_succ, List.length_cons, List.length_nil, List.length_set, List.length_replicate, List.flatMap_cons, List.flatMap_nil, cellN, topN, nestN, List.getD_cons_zero, List.append_nil, List.nil_append, List.cons_append, hz])
    | (refine Br.mk (fun h => ?_) (fun h => ?_) <;> simp -dsimp only [go_sem, reduceIte, reduceCtorEq, Nat.reduceEqDiff, Nat.reduceLT, Nat.reduceLeDiff, Nat.reduceAdd, Nat.reduceMul, Nat.reduceSub, Int.reduceToNat, Int.reduceNeg, h, E_len, List.set_cons_zero, List.set_cons_succ, List.length_cons, List.length_nil, List.length_set, List.length_replicate, List.flatMap_cons, List.flatMap_nil, cellN, topN, nestN, List.getD_cons_zero, List.append_nil, List.nil_append, List.cons_append, hz])
    | (refine And.intro (by first | rfl | omega | decide | exact ⟨by omega, by omega⟩ | exact ⟨rfl, by omega, by omega⟩ | (refine ⟨?_, ?_⟩ <;> (first | rfl | omega | decide | exact ⟨by omega, by omega⟩ | exact ⟨rfl, by omega, by omega⟩)) | (refine ⟨?_, ?_, ?_⟩ <;> (first | rfl | omega | decide | exact ⟨by omega, by omega⟩ | exact ⟨rfl, by omega, by omega⟩)) | (refine ⟨?_, ?_, ?_, ?_⟩ <;> (first | rfl | omega | decide | exact ⟨by omega, by omega⟩ | exact ⟨rfl, by omega, by omega⟩))) ?_; try simp -dsimp only [go_sem, reduceIte, reduceCtorEq, Nat.reduceEqDiff, Nat.reduceLT, Nat.reduceLeDiff, Nat.reduceAdd, Nat.reduceMul, Nat.reduceSub, Int.reduceToNat, Int.reduceNeg, E_len, List.set_cons_zero, List.set_cons_succ, List.length_cons, List.length_nil, List.length_set, List.length_replicate, List.flatMap_cons, List.flatMap_nil, cellN, topN, nestN, List.getD_cons_zero, List.append_nil, List.nil_append, List.cons_append, hz])
    | fail)
  all_goals first | exact ⟨_, _, rfl, rfl⟩ | trace_state

/-- the columns of a text -/
def bcd (s : ByteArray) : List Int := s.data.toList.map fun b => cd3 (b.toNat : Int)
def punTo (s : ByteArray) (w i : Nat) : List Int := (bcd s).take i ++ List.replicate (w - i) 0
def pun (s : ByteArray) (w : Nat) : List Int := bcd s ++ List.replicate (w - s.size) 0
theorem bcd_len (s : ByteArray) : (bcd s).length = s.size := by simp [bcd]
theorem punTo_zero (s : ByteArray) (w : Nat) : E cI (punTo s w 0) = List.replicate w [.v (.int .i64 0)] := by simp [punTo, E, cI]
theorem punTo_full (s : ByteArray) (w : Nat) : punTo s w s.size = pun s w := by
  unfold punTo pun
  rw [List.take_of_length_le (by rw [bcd_len]; exact Nat.le_refl _)]
theorem punTo_len {s : ByteArray} {w i : Nat} (h : i ≤ s.size) (hw : s.size ≤ w) : (punTo s w i).length = w := by
  have := bcd_len s
  simp [punTo]; omega
theorem punTo_set {s : ByteArray} {w i : Nat} (h : i < s.size) (hw : s.size ≤ w) : (E cI (punTo s w i)).set i [.v (.int .i64 (cd3 ((s.data.toList.getD i 0).toNat : Int)))] = E cI (punTo s w (i + 1)) := by
  have hl := bcd_len s
  have hib : i < (bcd s).length := by omega
  have hA : ((bcd s).take i).length = i := by simp; omega
  have hb : (bcd s)[i] = cd3 ((s.data.toList.getD i 0).toNat : Int) := by
    have hi2 : i < s.data.toList.length := by simpa [bcd] using hib
    have e2 : s.data.toList.getD i 0 = s.data.toList[i] := by rw [List.getD_eq_getElem?_getD, List.getElem?_eq_getElem hi2]; rfl
    rw [e2]; simp [bcd]
  have e : (punTo s w i).set i (cd3 ((s.data.toList.getD i 0).toNat : Int)) = punTo s w (i + 1) := by
    unfold punTo
    rw [show w - i = (w - (i + 1)) + 1 by omega, List.replicate_succ, List.set_append, if_neg (by omega), hA, Nat.sub_self, List.set_cons_zero, take_succ hib, hb]
    simp
  rw [← e]
  simp [E, List.map_set, cI]
attribute [local irreducible] punTo
theorem punchText (s : ByteArray) (w : Nat) (hw : w ≤ 1000) (hs : s.size ≤ w) : Vs.Fn Try.prog F.impl_punchText [] [.v (.string s), .v (.int .i64 w)] (.agg [.sl 1 (E cI (pun s w))]) [] := by
  have BL := blankO w hw
  refine Cd.impl_punchText_ok.fn0 Try.mixed Cd.impl_punchText_nt Cd.impl_punchText_rs rfl fun X => ?_
  unfold Cd.impl_punchText
  simp -dsimp only [go_sem, reduceIte, reduceCtorEq, Nat.reduceEqDiff, Nat.reduceLT, Nat.reduceLeDiff, Nat.reduceAdd, Nat.reduceMul, Nat.reduceSub, Int.reduceToNat, Int.reduceNeg, E_len, List.set_cons_zero, List.set_cons_succ, List.length_cons, List.length_nil, List.length_set, List.length_replicate, List.flatMap_cons, List.flatMap_nil, cellN, topN, nestN, List.getD_cons_zero, List.append_nil, List.nil_append, List.cons_append]
  refine CallK.own BL rfl ?_
  simp -dsimp only [go_sem, reduceIte, reduceCtorEq, Nat.reduceEqDiff, Nat.reduceLT, Nat.reduceLeDiff, Nat.reduceAdd, Nat.reduceMul, Nat.reduceSub, Int.reduceToNat, Int.reduceNeg, E_len, List.set_cons_zero, List.set_cons_succ, List.length_cons, List.length_nil, List.length_set, List.length_replicate, List.flatMap_cons, List.flatMap_nil, cellN, topN, nestN, List.getD_cons_zero, List.append_nil, List.nil_append, List.cons_append]
  repeat' (first
    | (refine RgK.mk rfl ?_; simp -dsimp only [go_sem, reduceIte, reduceCtorEq, Nat.reduceEqDiff, Nat.reduceLT, Nat.reduceLeDiff, Nat.reduceAdd, Nat.reduceMul, Nat.reduceSub, Int.reduceToNat, Int.reduceNeg, E_len, List.set_cons_zero, List.set_cons_succ, List.length_cons, List.length_nil, List.length_set, List.length_replicate, List.flatMap_cons, List.flatMap_nil, cellN, topN, nestN, List.getD_cons_zero, List.append_nil, List.nil_append, List.cons_append])
    | (refine Br.mk (fun h => ?_) (fun h => ?_) <;> simp -dsimp only [go_sem, reduceIte, reduceCtorEq, Nat.reduceEqDiff, Nat.reduceLT, Nat.reduceLeDiff, Nat.reduceAdd, Nat.reduceMul, Nat.reduceSub, Int.reduceToNat, Int.reduceNeg, h, E_len, List.set_cons_zero, List.set_cons_succ, List.length_cons, List.length_nil, List.length_set, List.length_replicate, List.flatMap_cons, List.flatMap_nil, cellN, topN, nestN, List.getD_cons_zero, List.append_nil, List.nil_append, List.cons_append])
    | (refine And.intro (by first | rfl | omega | decide | exact ⟨by omega, by omega⟩ | (refine ⟨?_, ?_⟩ <;> (first | rfl | omega | decide | exact ⟨by omega, by omega⟩)) | (refine ⟨?_, ?_, ?_⟩ <;> (first | rfl | omega | decide | exact ⟨by omega, by omega⟩)) | (refine ⟨?_, ?_, ?_, ?_⟩ <;> (first | rfl | omega | decide | exact ⟨by omega, by omega⟩))) ?_; try simp -dsimp only [go_sem, reduceIte, reduceCtorEq, Nat.reduceEqDiff, Nat.reduceLT, Nat.reduceLeDiff, Nat.reduceAdd, Nat.reduceMul, Nat.reduceSub, Int.reduceToNat, Int.reduceNeg, E_len, List.set_cons_zero, List.set_cons_succ, List.length_cons, List.length_nil, List.length_set, List.length_replicate, List.flatMap_cons, List.flatMap_nil, cellN, topN, nestN, List.getD_cons_zero, List.append_nil, List.nil_append, List.cons_append])
    | fail)
  refine LoopK.at (drawn_ok Try.mixed) (X := { zz : Nat × (Unit) // zz.1 ≤ s.size ∧ True }) (fun zz => [(6, .v (.int .i64 zz.1.1))]) (fun zz => [(.t 8 0, .arr 1 (E cI (punTo s w zz.1.1)) false)]) (fun zz => s.size - zz.1.1) ⟨(0, ()), by omega, trivial⟩ ?_ ?_
  · simp [Vs.LeL, Vs.look, Vs.hlook, Vs.sput, Vs.sputs, Vs.hset, Vs.hputs, punTo_zero]
  · rintro ⟨⟨i, _⟩, hi, hg⟩
    dsimp only at hi hg
    simp -dsimp only [go_sem, reduceIte, reduceCtorEq, Nat.reduceEqDiff, Nat.reduceLT, Nat.reduceLeDiff, Nat.reduceAdd, Nat.reduceMul, Nat.reduceSub, Int.reduceToNat, Int.reduceNeg, E_len, List.set_cons_zero, List.set_cons_succ, List.length_cons, List.length_nil, List.length_set, List.length_replicate, List.flatMap_cons, List.flatMap_nil, cellN, topN, nestN, List.getD_cons_zero, List.append_nil, List.nil_append, List.cons_append]
    refine Br.mk (fun hc => ?_) fun hc => ?_
    · have hlt : i < s.size := by first | (simpa using hc) | (simp at hc; omega)
      have hw := wrap_succ hlt (by omega)
      have hps := punTo_set (w := w) hlt hs
      have hpl : (E cI (punTo s w i)).length = w := by rw [E_len]; exact punTo_len (by omega) hs
      have CO := codeOf ((s.data.toList.getD i 0).toNat : Int)
      have hrow : ∃ y, (E cI (punTo s w i)).getD i [] = [y] := by
        have hil : i < (punTo s w i).length := by rw [punTo_len (by omega) hs]; omega
        exact ⟨.v (.int .i64 (punTo s w i)[i]), by rw [E_get hil]; rfl⟩
      obtain ⟨y, hy⟩ := hrow
      simp -dsimp only [go_sem, reduceIte, reduceCtorEq, Nat.reduceEqDiff, Nat.reduceLT, Nat.reduceLeDiff, Nat.reduceAdd, Nat.reduceMul, Nat.reduceSub, Int.reduceToNat, Int.reduceNeg, hw, hps, hpl, hy, E_len, List.set_cons_zero, List.set_cons_succ, List.length_cons, List.length_nil, List.length_set, List.length_replicate, List.flatMap_cons, List.flatMap_nil, cellN, topN, nestN, List.getD_cons_zero, List.append_nil, List.nil_append, List.cons_append]
      repeat' (first
        | (refine RgK.mk rfl ?_; simp -dsimp only [go_sem, reduceIte, reduceCtorEq, Nat.reduceEqDiff, Nat.reduceLT, Nat.reduceLeDiff, Nat.reduceAdd, Nat.reduceMul, Nat.reduceSub, Int.reduceToNat, Int.reduceNeg, hw, hps, hpl, hy, E_len, List.set_cons_zero, List.set_cons_succ, List.length_cons, List.length_nil, List.length_set, List.length_replicate, List.flatMap_cons, List.flatMap_nil, cellN, topN, nestN, List.getD_cons_zero, List.append_nil, List.nil_append, List.cons_append])
        | (refine Br.mk (fun h => ?_) (fun h => ?_) <;> simp -dsimp only [go_sem, reduceIte, reduceCtorEq, Nat.reduceEqDiff, Nat.reduceLT, Nat.reduceLeDiff, Nat.reduceAdd, Nat.reduceMul, Nat.reduceSub, Int.reduceToNat, Int.reduceNeg, h, hw, hps, hpl, hy, E_len, List.set_cons_zero, List.set_cons_succ, List.length_cons, List.length_nil, List.length_set, List.length_replicate, List.flatMap_cons, List.flatMap_nil, cellN, topN, nestN, List.getD_cons_zero, List.append_nil, List.nil_append, List.cons_append])
        | (refine CallK.flat (by first | exact CO) rfl ?_; simp -dsimp only [go_sem, reduceIte, reduceCtorEq, Nat.reduceEqDiff, Nat.reduceLT, Nat.reduceLeDiff, Nat.reduceAdd, Nat.reduceMul, Nat.reduceSub, Int.reduceToNat, Int.reduceNeg, hw, hps, hpl, hy, E_len, List.set_cons_zero, List.set_cons_succ, List.length_cons, List.length_nil, List.length_set, List.length_replicate, List.flatMap_cons, List.flatMap_nil, cellN, topN, nestN, List.getD_cons_zero, List.append_nil, List.nil_append, List.cons_append])
        | (refine CallK.pure (by first | exact CO) ?_; simp -dsimp only [go_sem, reduceIte, reduceCtorEq, Nat.reduceEqDiff, Nat.reduceLT, Nat.reduceLeDiff, Nat.reduceAdd, Nat.reduceMul, Nat.reduceSub, Int.reduceToNat, Int.reduceNeg, hw, hps, hpl, hy, E_len, List.set_cons_zero, List.set_cons_succ, List.length_cons, List.length_nil, List.length_set, List.length_replicate, List.flatMap_cons, List.flatMap_nil, cellN, topN, nestN, List.getD_cons_zero, List.append_nil, List.nil_append, List.cons_append])
        | (refine And.intro (by first | rfl | omega | decide | exact ⟨by omega, by omega⟩ | exact ⟨rfl, by omega, by omega⟩ | (refine ⟨?_, ?_⟩ <;> (first | rfl | omega | decide | exact ⟨by omega, by omega⟩ | exact ⟨rfl, by omega, by omega⟩)) | (refine ⟨?_, ?_, ?_⟩ <;> (first | rfl | omega | decide | exact ⟨by omega, by omega⟩ | exact ⟨rfl, by omega, by omega⟩)) | (refine ⟨?_, ?_, ?_, ?_⟩ <;> (first | rfl | omega | decide | exact ⟨by omega, by omega⟩ | exact ⟨rfl, by omega, by omega⟩))) ?_; try simp -dsimp only [go_sem, reduceIte, reduceCtorEq, Nat.reduceEqDiff, Nat.reduceLT, Nat.reduceLeDiff, Nat.reduceAdd, Nat.reduceMul, Nat.reduceSub, Int.reduceToNat, Int.reduceNeg, hw, hps, hpl, hy, E_len, List.set_cons_zero, List.set_cons_succ, List.length_cons, List.length_nil, List.length_set, List.length_replicate, List.flatMap_cons, List.flatMap_nil, cellN, topN, nestN, List.getD_cons_zero, List.append_nil, List.nil_append, List.cons_append])
        | fail)

      all_goals first | omega | (exact ⟨⟨(i + 1, ()), by first | omega | simp | exact ⟨by omega, by omega⟩, trivial⟩, by simp [Vs.LeL, Vs.look, Vs.hlook, Vs.sput, Vs.sputs, Vs.hset, Vs.hputs, hps], by simp only; omega⟩) | trace_state
    · have hge : i = s.size := by
        have : ¬ i < s.size := by first | (simpa using hc) | (simp at hc; omega)
        omega
      subst hge
      simp -dsimp only [go_sem, reduceIte, reduceCtorEq, Nat.reduceEqDiff, Nat.reduceLT, Nat.reduceLeDiff, Nat.reduceAdd, Nat.reduceMul, Nat.reduceSub, Int.reduceToNat, Int.reduceNeg, E_len, List.set_cons_zero, List.set_cons_succ, List.length_cons, List.length_nil, List.length_set, List.length_replicate, List.flatMap_cons, List.flatMap_nil, cellN, topN, nestN, List.getD_cons_zero, List.append_nil, List.nil_append, List.cons_append]
      have hpf := punTo_full s w
      have hpl : (E cI (pun s w)).length = w := by rw [E_len, ← hpf]; exact punTo_len (Nat.le_refl _) hs
      have htk : (E cI (pun s w)).take w = E cI (pun s w) := List.take_of_length_le (by omega)
      first | (rw [hpf, htk]; exact ⟨⟨_, _, rfl, rfl⟩, fun h => h rfl⟩) | (simp [hpf, htk]; done) | trace_state
end Go.Proofs.Ytokfhfdnmnblfaa

namespace Go.Proofs.Ytokfhfdnmnblfaa
open Go.Vs
set_option linter.unusedSectionVars false
variable [Vs.Envs]
set_option linter.unusedSimpArgs false
set_option linter.unusedVariables false
attribute [local irreducible] Vs.Fn pun chOK areCh chTo chAt l03 chB rk cd3 chI stp stpTo
theorem pun_len {s : ByteArray} {w : Nat} (h : s.size ≤ w) : (pun s w).length = w := by rw [← punTo_full]; exact punTo_len (Nat.le_refl _) h
/-- a field and a text are compared -/
def cmT (fr to : Int) (c : List Int) (s : ByteArray) : Int := cmpR (fH fr to c) (pun s (to.toNat - fr.toNat))
theorem compareText (a : List Int) (fr to : Int) (s : ByteArray) (ha : okF fr to a) (hs : s.size ≤ to.toNat - fr.toNat) : Vs.Fn Try.prog F.impl_compareText [] [.agg (cC a), .agg (cFd fr to), .v (.string s)] (.v (.int .i64 (cmT fr to a s))) [] := by
  have hf := fH_len ha
  have h3 := ha
  obtain ⟨h0, h1, h2, h20⟩ := h3
  have PT := punchText s (to.toNat - fr.toNat) (by omega) hs
  have hw : IntKind.i64.wrap (to - fr) = ((to.toNat - fr.toNat : Nat) : Int) := by rw [wrap_in (by omega) (by omega)]; omega
  have CH := compareHoles (fH fr to a) (pun s (to.toNat - fr.toNat)) (fH_le ha) (by rw [hf, pun_len hs])
  rw [show cmpR (fH fr to a) (pun s (to.toNat - fr.toNat)) = cmT fr to a s from rfl] at CH
  refine Cd.impl_compareText_ok.fn0 Try.mixed Cd.impl_compareText_nt Cd.impl_compareText_rs rfl fun X => ?_
  unfold Cd.impl_compareText
  simp -dsimp only [go_sem, reduceIte, reduceCtorEq, Nat.reduceEqDiff, Nat.reduceLT, Nat.reduceLeDiff, Nat.reduceAdd, Nat.reduceMul, Nat.reduceSub, Int.reduceToNat, Int.reduceNeg, cC, cFd, fH_E, List.set_cons_zero, List.set_cons_succ, List.length_cons, List.length_nil, hw]
  repeat' (first
    | (refine RgK.mk rfl ?_; simp -dsimp only [go_sem, reduceIte, reduceCtorEq, Nat.reduceEqDiff, Nat.reduceLT, Nat.reduceLeDiff, Nat.reduceAdd, Nat.reduceMul, Nat.reduceSub, Int.reduceToNat, Int.reduceNeg, cC, cFd, fH_E, List.set_cons_zero, List.set_cons_succ, List.length_cons, List.length_nil, hw])
    | (refine Br.mk (fun h => ?_) (fun h => ?_) <;> simp -dsimp only [go_sem, reduceIte, reduceCtorEq, Nat.reduceEqDiff, Nat.reduceLT, Nat.reduceLeDiff, Nat.reduceAdd, Nat.reduceMul, Nat.reduceSub, Int.reduceToNat, Int.reduceNeg, h, cC, cFd, fH_E, List.set_cons_zero, List.set_cons_succ, List.length_cons, List.length_nil, hw])
    | (refine CallK.flat (by first | exact PT | exact CH) rfl ?_; simp -dsimp only [go_sem, reduceIte, reduceCtorEq, Nat.reduceEqDiff, Nat.reduceLT, Nat.reduceLeDiff, Nat.reduceAdd, Nat.reduceMul, Nat.reduceSub, Int.reduceToNat, Int.reduceNeg, cC, cFd, fH_E, List.set_cons_zero, List.set_cons_succ, List.length_cons, List.length_nil, hw])
    | (refine CallK.pure (by first | exact PT | exact CH) ?_; simp -dsimp only [go_sem, reduceIte, reduceCtorEq, Nat.reduceEqDiff, Nat.reduceLT, Nat.reduceLeDiff, Nat.reduceAdd, Nat.reduceMul, Nat.reduceSub, Int.reduceToNat, Int.reduceNeg, cC, cFd, fH_E, List.set_cons_zero, List.set_cons_succ, List.length_cons, List.length_nil, hw])
    | (refine And.intro (by first | rfl | omega | decide | exact okF_b ha | exact ⟨rfl, okF_b ha⟩ | exact okF_b2 ha | exact ⟨rfl, okF_b2 ha⟩ | (refine ⟨?_, ?_⟩ <;> (first | rfl | omega | decide | exact okF_b ha | exact ⟨rfl, okF_b ha⟩ | exact okF_b2 ha | exact ⟨rfl, okF_b2 ha⟩)) | (refine ⟨?_, ?_, ?_⟩ <;> (first | rfl | omega | decide | exact okF_b ha | exact ⟨rfl, okF_b ha⟩ | exact okF_b2 ha | exact ⟨rfl, okF_b2 ha⟩)) | (refine ⟨?_, ?_, ?_, ?_⟩ <;> (first | rfl | omega | decide | exact okF_b ha | exact ⟨rfl, okF_b ha⟩ | exact okF_b2 ha | exact ⟨rfl, okF_b2 ha⟩))) ?_; try simp -dsimp only [go_sem, reduceIte, reduceCtorEq, Nat.reduceEqDiff, Nat.reduceLT, Nat.reduceLeDiff, Nat.reduceAdd, Nat.reduceMul, Nat.reduceSub, Int.reduceToNat, Int.reduceNeg, cC, cFd, fH_E, List.set_cons_zero, List.set_cons_succ, List.length_cons, List.length_nil, hw])
    | fail)
  all_goals first | exact ⟨_, _, rfl, rfl⟩ | simp | trace_state
end Go.Proofs.Ytokfhfdnmnblfaa
