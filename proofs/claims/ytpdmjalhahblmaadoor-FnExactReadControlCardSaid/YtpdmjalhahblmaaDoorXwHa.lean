/- What the library's functions give that ReadControl calls, and ReadDecimal. -/
import Derived.Test.YtpdmjalhahblmaaDoorVsB
import Derived.Test.YtpdmjalhahblmaaDoorXwZd
import Derived.Test.YtpdmjalhahblmaaDoorVuJ
import Derived.Test.YtpdmjalhahblmaaDoorVuK
import Derived.Test.YtpdmjalhahblmaaDoorTrydShelf
import Derived.WalkKit
import Derived.BigCall
import Derived.Lib.AtoiErrMem
namespace Go.Proofs.YtpdmjalhahblmaaDoor
open Go.Vs
set_option linter.unusedSectionVars false
set_option linter.unusedSimpArgs false
set_option linter.unusedVariables false
attribute [local irreducible] Vs.Fn
open Go.RowKit
/-- a cell of a number -/
def pI : Option Obj → Prop := fun o => ∃ (cs : Array Value) (T : TypeId) (fr : Nat × Nat) (m : Int), o = some (.cells cs T fr) ∧ cs[0]? = some (.int .i64 m)
/-- a cell of an interface -/
def pE : Option Obj → Prop := fun o => ∃ (cs : Array Value) (T : TypeId) (fr : Nat × Nat) (te : TypeId) (pe : Value), o = some (.cells cs T fr) ∧ cs[0]? = some (.iface te pe)
theorem cell_of {w : World} {g : Nat} {cs : Array Value} {T : TypeId} {fr : Nat × Nat} {v : Value} (h : w.heap[g]? = some (.cells cs T fr)) (hc : cs[0]? = some v) : w.cell? ⟨g, 0, none⟩ = some v := by
  simp [World.cell?, h, hc]
class Rd extends Vs.Tab 5 Vs.powP where
  mx : ∀ S w, @Vs.Env toTab.toEnvs S w → S 0 ∧ pI w.heap[0]?
  syn : ∀ S w, @Vs.Env toTab.toEnvs S w → S 1 ∧ pE w.heap[1]?
  rng : ∀ S w, @Vs.Env toTab.toEnvs S w → S 2 ∧ pE w.heap[2]?
variable [Rd]
def cW (b : ByteArray) : List AV := [.v (.string b)]
theorem arr2 {vs : Array Value} {a b : Value} (hs : vs.size = 2) (h0 : vs.getD 0 undef = a) (h1 : vs.getD 1 undef = b) : vs = #[a, b] := by
  apply Array.ext (by simpa using hs)
  intro i hi hi2
  simp at hi2
  have hi3 : i = 0 ∨ i = 1 := by omega
  rcases hi3 with rfl | rfl
  · simpa [Array.getD, hs] using h0
  · simpa [Array.getD, hs] using h1
theorem arr1 {vs : Array Value} {a : Value} (hs : vs.size = 1) (h0 : vs.getD 0 undef = a) : vs = #[a] := by
  apply Array.ext (by simpa using hs)
  intro i hi hi2
  simp at hi2
  subst hi2
  simpa [Array.getD, hs] using h0
theorem splitF (s : ByteArray) (hs : s.size ≤ 1048576) : Vs.Fn Tryd.prog F.strings_Split [] [.v (.string s), .v (.string ⟨#[32]⟩)] (.sl 1 (E cW (wdS s))) [] := by
  refine Vs.Fn.of_grew ⟨Tryd.f10, _, Tryd.func10, rfl, by decide⟩ (by intro y hy; simp only [List.mem_cons, List.not_mem_nil, or_false] at hy; rcases hy with rfl | rfl <;> rfl) fun S w vs hS he hvs hargs => ?_
  obtain rfl := arr2 hvs (Vs.rc_v (hargs 0 (by show 0 < 2; omega))) (Vs.rc_v (hargs 1 (by show 1 < 2; omega)))
  obtain ⟨_, cs, T, fr, m, hh, hc⟩ := Rd.mx S w he
  refine (Tryd.strings_Split s ⟨#[32]⟩ m w (by omega) (cell_of hh hc) (by decide)).mono ?_
  rintro e w' ⟨rfl, rfl⟩
  refine ⟨_, fun b => b = w.heap.size, rfl, Vs.Grew.alloc _ _, ?_, ?_⟩
  · rintro b rfl
    exact ⟨Nat.le_refl _, by show _ < (w.heap.push _).size; simp⟩
  · have hl : (E cW (wdS s)).length = Lib.countB s ⟨#[32]⟩ + 1 := by rw [E_len, wdS_len]
    rw [← hl]
    have hcb : Lib.countB s ⟨#[32]⟩ ≤ s.size := Lib.countB_le _ (by decide) _ s (Nat.le_refl _)
    refine .sl 1 _ _ _ w.heap.size 0 (fun i => .string ((wdS s).getD i ⟨#[]⟩)) (fun _ => ⟨rfl, rfl⟩) (fun i j hi hj => ?_) (fun i j hi hj => rfl) (fun i j hi hj => ?_) (fun i hi => ?_) ⟨Nat.le_refl _, by omega⟩
    · have hi' : i < (wdS s).length := by rw [wdS_len, ← hl]; exact hi
      obtain rfl : j = 0 := by omega
      rw [wdS_split]
      have hcell : (w.alloc (.cells ((wdS s).map Value.string).toArray 9)).heap[w.heap.size]? = some (.cells ((wdS s).map Value.string).toArray 9) := by
        show (w.heap.push _)[w.heap.size]? = _
        simp
      simp only [World.cell?, hcell, Nat.zero_add, Nat.mul_one, Nat.add_zero]
      simp [hi']
    · have hi' : i < (wdS s).length := by rw [wdS_len, ← hl]; exact hi
      obtain rfl : j = 0 := by omega
      rw [E_get hi']
      simp only [cW, Nat.mul_one, Nat.add_zero, List.getD_cons_zero]
      rw [show (wdS s).getD i ⟨#[]⟩ = (wdS s)[i] by simp [hi']]
      exact .v _
    · have hi' : i < (wdS s).length := by rw [wdS_len, ← hl]; exact hi
      rw [E_get hi']; rfl
/-- what ReadDecimal gives -/
def rdI (s : ByteArray) : Int × Bool := rdIL s.data.toList
theorem dcl_eq {v : Int} {s : ByteArray} : (Lib.itoa v == s.data.toList) = decide (dcl v = s) := by
  rw [Bool.eq_iff_iff, beq_iff_eq, decide_eq_true_eq]
  constructor
  · intro h
    obtain ⟨⟨l⟩⟩ := s
    simp only [dcl]
    have h : Lib.itoa v = l := h
    rw [h]
  · rintro rfl
    simp [dcl]
theorem bext {a b : ByteArray} (h : a.toList = b.toList) : a = b := by
  rw [ByteArray.toList_eq, ByteArray.toList_eq] at h
  obtain ⟨⟨l⟩⟩ := a
  obtain ⟨⟨m⟩⟩ := b
  have h : l = m := h
  rw [h]
theorem parse_rng {s : ByteArray} {v : Int} (h : Lib.parseIntB 64 s.data.toList = .ok v) : -9223372036854775808 ≤ v ∧ v ≤ 9223372036854775807 := by
  generalize s.data.toList = l at h
  unfold Lib.parseIntB at h
  split at h
  · cases h
  · rename_i c r
    simp only at h
    split at h
    · cases h
    · cases h
    · rename_i u hu
      split at h
      · cases h
      · rename_i h1
        split at h
        · cases h
        · rename_i h2
          cases h
          have e1 : (2 : Nat) ^ (64 - 1) = 9223372036854775808 := by decide
          rw [e1] at h1 h2
          split <;> omega

set_option maxRecDepth 100000 in
set_option maxHeartbeats 2000000 in
theorem readDec (s : ByteArray) (hs : s.size ≤ 1048576) (w : World) (ev0 ev1 : Value) (hv0 : w.cell? ⟨1, 0, none⟩ = some ev0) (he0 : ev0 = .nilIface ∨ ∃ te pe, ev0 = .iface te pe) (hv1 : w.cell? ⟨2, 0, none⟩ = some ev1) (he1 : ev1 = .nilIface ∨ ∃ te pe, ev1 = .iface te pe)
    (hdec : ∀ (v : Int) (w1 : World), -9223372036854775808 ≤ v → v ≤ 9223372036854775807 → Below w.heap.size w w1 → Calls Tryd.prog 19 #[.int .i64 v] w1 fun e w' => e = .returned (.string (dcl v)) ∧ Vs.Grew w1 w') :
    Calls Tryd.prog 11 #[.string s] w fun e w' => e = .returned (.tuple #[.int .i64 (rdI s).1, .bool (rdI s).2]) ∧ Vs.Grew w w' := by
  cases h : Lib.parseIntB 64 s.data.toList
  case ok v =>
    obtain ⟨r0, r1⟩ := parse_rng h
    have hb : ∀ w', (w' = w ∨ ∃ t, w' = Lib.bytesWorld w 5 t) → Below w.heap.size w w' := fun w' hw => by
      rcases hw with rfl | ⟨t, rfl⟩
      · exact Below.refl _ _
      · exact Lib.bytesWorld_below _ _ _
    by_cases h1 : dcl v = s
    · by_cases h2 : (Lib.trimPrefix s.data.toList [45]).length ≤ 18
      · have hr : rdI s = (v, true) := by simp only [rdI, rdIL, h, dcl_eq, h1, h2, decide_true, Bool.and_self, if_true]
        rw [hr]
        go_enter Tryd.func11, Tryd.ntmps11
        go_wp2_with (first | (go_at_call 18; refine (Tryd.strconv_ParseInt_10_at64_ok s (by omega) v h _).mono ?_; rintro e w' ⟨rfl, hw⟩; have hb1 := hb _ hw) | (go_at_call 19; refine (hdec v _ r0 r1 hb1).mono ?_; rintro e w2 ⟨rfl, hg2⟩) | (go_at_call 20; refine (Tryd.strings_TrimPrefix s _ _).mono ?_; rintro e w3 ⟨rfl, rfl⟩))
        all_goals first | (go_ret2; exact ⟨rfl, (Vs.Grew.of_below hb1).trans hg2⟩) | (exfalso; omega) | exact absurd (by assumption) hne | trace_state
      · have hr : rdI s = (0, false) := by simp only [rdI, rdIL, h, dcl_eq, h1, h2, decide_true, decide_false, Bool.and_false, Bool.false_eq_true, if_false]
        rw [hr]
        go_enter Tryd.func11, Tryd.ntmps11
        go_wp2_with (first | (go_at_call 18; refine (Tryd.strconv_ParseInt_10_at64_ok s (by omega) v h _).mono ?_; rintro e w' ⟨rfl, hw⟩; have hb1 := hb _ hw) | (go_at_call 19; refine (hdec v _ r0 r1 hb1).mono ?_; rintro e w2 ⟨rfl, hg2⟩) | (go_at_call 20; refine (Tryd.strings_TrimPrefix s _ _).mono ?_; rintro e w3 ⟨rfl, rfl⟩))
        all_goals first | (go_ret2; exact ⟨rfl, (Vs.Grew.of_below hb1).trans hg2⟩) | (exfalso; omega) | exact absurd (by assumption) hne | trace_state
    · have hr : rdI s = (0, false) := by simp only [rdI, rdIL, h, dcl_eq, h1, decide_false, Bool.false_and, Bool.false_eq_true, if_false]
      have hne : ¬ (dcl v).toList = s.toList := fun e => h1 (bext e)
      rw [hr]
      go_enter Tryd.func11, Tryd.ntmps11
      go_wp2_with (first | (go_at_call 18; refine (Tryd.strconv_ParseInt_10_at64_ok s (by omega) v h _).mono ?_; rintro e w' ⟨rfl, hw⟩; have hb1 := hb _ hw) | (go_at_call 19; refine (hdec v _ r0 r1 hb1).mono ?_; rintro e w2 ⟨rfl, hg2⟩) | (go_at_call 20; refine (Tryd.strings_TrimPrefix s _ _).mono ?_; rintro e w3 ⟨rfl, rfl⟩))
      all_goals first | (go_ret2; exact ⟨rfl, (Vs.Grew.of_below hb1).trans hg2⟩) | (exfalso; omega) | exact absurd (by assumption) hne | trace_state
  case range =>
    have hr : rdI s = (0, false) := by simp only [rdI, rdIL, h]
    rw [hr]
    go_enter Tryd.func11, Tryd.ntmps11
    go_wp2_with (go_at_call 18; refine (Tryd.strconv_ParseInt_10_at64_range s (by omega) h ev1 _ ?_ he1).mono ?_)
    · exact hv1
    rintro e W1 ⟨N, rfl, -, -, hb⟩
    go_wp2
    go_ret2
    exact ⟨rfl, Vs.Grew.of_below hb⟩
  · have hr : rdI s = (0, false) := by simp only [rdI, rdIL, h]
    rw [hr]
    go_enter Tryd.func11, Tryd.ntmps11
    go_wp2_with (go_at_call 18; refine (Tryd.strconv_ParseInt_10_at64_syntax s (by omega) h ev0 _ ?_ he0).mono ?_)
    · exact hv0
    rintro e W1 ⟨N, rfl, -, -, hb⟩
    go_wp2
    go_ret2
    exact ⟨rfl, Vs.Grew.of_below hb⟩

theorem readDecF (s : ByteArray) (hs : s.size ≤ 1048576) : Vs.Fn Tryd.prog F.impl_ReadDecimal [] [.v (.string s)] (.tup [.v (.int .i64 (rdI s).1), .v (.bool (rdI s).2)]) [] := by
  refine Vs.Fn.of_grew ⟨Tryd.f11, _, Tryd.func11, rfl, by decide⟩ (by intro y hy; rw [List.mem_singleton] at hy; subst hy; rfl) fun S w vs hS he hvs hargs => ?_
  obtain rfl := arr1 hvs (Vs.rc_v (hargs 0 (by show 0 < 1; omega)))
  obtain ⟨_, cs, T, fr, te, pe, hh, hc⟩ := Rd.syn S w he
  obtain ⟨_, cs2, T2, fr2, te2, pe2, hh2, hc2⟩ := Rd.rng S w he
  refine (readDec s hs w _ _ (cell_of hh hc) (.inr ⟨_, _, rfl⟩) (cell_of hh2 hc2) (.inr ⟨_, _, rfl⟩) fun v w1 r0 r1 hb => ?_).mono ?_
  · refine ((decimalA v r0 r1).calls0 rfl (S := S) (fun b hb' => Nat.lt_of_lt_of_le (hS b hb') hb.size) (he.mono (fun _ h => h) fun b hb' => hb.block b (hS b hb')) (vs := #[.int .i64 v]) rfl fun j hj => ?_).mono ?_
    · match j, hj with
      | 0, _ => exact .v _
    · rintro e w' ⟨u, S', rfl, hg, hu⟩
      rw [Vs.rc_v hu]
      exact ⟨rfl, hg⟩
  · rintro e w' ⟨rfl, hg⟩
    refine ⟨_, fun _ => False, rfl, hg, fun b hb => hb.elim, .tup _ _ rfl fun j hj => ?_⟩
    match j, hj with
    | 0, _ => exact .v _
    | 1, _ => exact .v _
end Go.Proofs.YtpdmjalhahblmaaDoor
