/- The law FnExactReadControl returns true for every input, and its argument reads behind the call as it read before. Conditions: the table of the powers of ten and two variables of strconv, which the library's text lays and the card ties; the library's own variable of a number holds some number, by the world's shape. -/
import Derived.Test.YtpdmjalhahblmaaDoorVsB
import Derived.Test.YtpdmjalhahblmaaDoorXwHd
import Derived.Test.YtpdmjalhahblmaaDoorXuO
import Derived.Test.YtpdmjalhahblmaaDoorVuL
import Derived.Test.YtpdmjalhahblmaaDoorCards
import Derived.Test.YtpdmjalhahblmaaDoorTie
import Derived.SevenTiedAt
import Derived.Shelf.Vars
import Derived.Lay
import Derived.Stop.LaidErr
namespace Go.Proofs.YtpdmjalhahblmaaDoor
open Go.Vs Go.ChangeShapes Go.WideShapes Go.ChangeAt Go.RowKit
set_option linter.unusedSectionVars false
set_option linter.unusedSimpArgs false
set_option linter.unusedVariables false
@[reducible] def RDI : Vs.Envs := ⟨[(5, Vs.powP), (0, pI), (1, pE), (2, pE)]⟩
local instance rdInst : Rd := { toTab := { toEnvs := RDI, has := fun S w h => h (5, Vs.powP) (List.Mem.head _) }, mx := fun S w h => h (0, pI) (.tail _ (.head _)), syn := fun S w h => h (1, pE) (.tail _ (.tail _ (.head _))), rng := fun S w h => h (2, pE) (.tail _ (.tail _ (.tail _ (.head _)))) }
attribute [local irreducible] Vs.Fn

theorem law_ReadControl (s : ByteArray) (hs0 : s.size < 2 ^ 63) : Vs.Fn Tryd.prog F.laws_FnExactReadControl [] [.v (.string s)] (.v (.bool true)) [] := by
  by_cases hs : s.size ≤ 1048576
  · have h1 : decide ((s.size : Int) > 1048576) = false := decide_eq_false (by omega)
    have SP := spec_ReadControl s hs
    have IM := impl_ReadControl s hs
    generalize rcV s = V at *
    obtain ⟨⟨x, y, z⟩, b⟩ := V
    dsimp only at SP IM
    have EQ := eqControl x y z x y z
    have hbb : (b != b) = false := by cases b <;> rfl
    refine Cd.laws_FnExactReadControl_ok.fn0 Tryd.mixed Cd.laws_FnExactReadControl_nt Cd.laws_FnExactReadControl_rs rfl fun X => ?_
    unfold Cd.laws_FnExactReadControl
    simp -dsimp only [go_sem, reduceIte, reduceCtorEq, Nat.reduceEqDiff, Nat.reduceLT, Nat.reduceLeDiff, Nat.reduceAdd, Nat.reduceMul, Nat.reduceSub, Int.reduceToNat, Int.reduceNeg, h1]
    repeat' (first
      | (refine RgK.mk rfl ?_; simp -dsimp only [go_sem, reduceIte, reduceCtorEq, Nat.reduceEqDiff, Nat.reduceLT, Nat.reduceLeDiff, Nat.reduceAdd, Nat.reduceMul, Nat.reduceSub, Int.reduceToNat, Int.reduceNeg, h1, hbb])
      | (refine Br.mk (fun h => ?_) (fun h => ?_) <;> simp -dsimp only [go_sem, reduceIte, reduceCtorEq, Nat.reduceEqDiff, Nat.reduceLT, Nat.reduceLeDiff, Nat.reduceAdd, Nat.reduceMul, Nat.reduceSub, Int.reduceToNat, Int.reduceNeg, h, h1, hbb])
      | (refine CallK.flat (by first | exact SP | exact IM | exact EQ) rfl ?_; simp -dsimp only [go_sem, reduceIte, reduceCtorEq, Nat.reduceEqDiff, Nat.reduceLT, Nat.reduceLeDiff, Nat.reduceAdd, Nat.reduceMul, Nat.reduceSub, Int.reduceToNat, Int.reduceNeg, h1, hbb])
      | (refine CallK.pure (by first | exact SP | exact IM | exact EQ) ?_; simp -dsimp only [go_sem, reduceIte, reduceCtorEq, Nat.reduceEqDiff, Nat.reduceLT, Nat.reduceLeDiff, Nat.reduceAdd, Nat.reduceMul, Nat.reduceSub, Int.reduceToNat, Int.reduceNeg, h1, hbb])
      | (refine And.intro (by first | rfl | omega | decide | (refine ⟨?_, ?_⟩ <;> (first | rfl | omega | decide)) | (refine ⟨?_, ?_, ?_⟩ <;> (first | rfl | omega | decide)) | (refine ⟨?_, ?_, ?_, ?_⟩ <;> (first | rfl | omega | decide))) ?_)
      | fail)
    all_goals simp_all
  · have h1 : decide ((s.size : Int) > 1048576) = true := decide_eq_true (by omega)
    refine Cd.laws_FnExactReadControl_ok.fn0 Tryd.mixed Cd.laws_FnExactReadControl_nt Cd.laws_FnExactReadControl_rs rfl fun X => ?_
    unfold Cd.laws_FnExactReadControl
    simp -dsimp only [go_sem, reduceIte, reduceCtorEq, Nat.reduceEqDiff, Nat.reduceLT, Nat.reduceLeDiff, Nat.reduceAdd, Nat.reduceMul, Nat.reduceSub, Int.reduceToNat, Int.reduceNeg, h1]
    repeat' (first
      | (refine RgK.mk rfl ?_; simp -dsimp only [go_sem, reduceIte, reduceCtorEq, Nat.reduceEqDiff, Nat.reduceLT, Nat.reduceLeDiff, Nat.reduceAdd, Nat.reduceMul, Nat.reduceSub, Int.reduceToNat, Int.reduceNeg, h1])
      | (refine Br.mk (fun h => ?_) (fun h => ?_) <;> simp -dsimp only [go_sem, reduceIte, reduceCtorEq, Nat.reduceEqDiff, Nat.reduceLT, Nat.reduceLeDiff, Nat.reduceAdd, Nat.reduceMul, Nat.reduceSub, Int.reduceToNat, Int.reduceNeg, h, h1])
      | (refine And.intro (by first | rfl | omega | decide | (refine ⟨?_, ?_⟩ <;> (first | rfl | omega | decide)) | (refine ⟨?_, ?_, ?_⟩ <;> (first | rfl | omega | decide)) | (refine ⟨?_, ?_, ?_, ?_⟩ <;> (first | rfl | omega | decide))) ?_)
      | fail)
    all_goals simp_all

theorem row82 (u : TypeId) (h : Tryd.prog.typeName? 3 u = some "*errors.errorString") : u = 82 :=
  have hs : "*" ++ "errors.errorString" = "*errors.errorString" := by decide
  typeName_ptr_named (nm := "errors.errorString") (by rw [hs]; kernel_rfl) (by kernel_rfl) (by decide) u (by rw [hs]; exact h)
theorem pE_of {W : World} {n : String} {g : Nat} {tp : TypeId} {a : Addr} (hg : Tryd.prog.globalNamed n = some g) (h : W.var? Tryd.prog n = some #[.iface tp (.pointer (some a))]) : g < W.heap.size ∧ pE W.heap[g]? := by
  unfold World.var? at h
  rw [hg] at h
  simp only [Option.bind_some] at h
  split at h
  · rename_i cs T fr hcs
    obtain rfl := Option.some.inj h
    refine ⟨?_, _, T, fr, tp, _, hcs, rfl⟩
    rcases Nat.lt_or_ge g W.heap.size with hlt | hge
    · exact hlt
    · rw [Array.getElem?_eq_none hge] at hcs; cases hcs
  · cases h
set_option maxRecDepth 100000 in
theorem env_of_laid {W : World} (h0 : laidMetH Tryd.prog Rows.fnExactReadControlRow.laid W) (hsh : W.ShapedOpen Tryd.prog) : @Vs.Env RDI (fun b => b < W.heap.size) W := by
  have h : laidMet Tryd.prog Rows.fnExactReadControlRow.laid W := by
    rw [← MakeChecks.laidMetH_plain _ _ _ (by kernel_rfl)]
    exact h0
  have ht := laidMet.tail (laidMet.tail h)
  have he1 := laidMet.tail (laidMet.tail ht)
  have he2 := laidMet.tail he1
  have hi := Lib.tabIs_of_head (k := .u64) (zs := Lib.pow10Tab) (g := 5) (t := 86) (e := 54) (n := 20) (by kernel_rfl) (by kernel_rfl) Tryd.underlying86 Tryd.underlying54 (by kernel_rfl) (by kernel_rfl) ht
  obtain ⟨a1, s1, q1, _⟩ := laid_sentinel (g := 2) (ti := 40) (tp := 82) (te := 84) (ts := 9) he1 (by kernel_rfl) (by kernel_rfl) Tryd.underlying40 row82 Tryd.underlying82 Tryd.underlying84 (by kernel_rfl) (by kernel_rfl) Tryd.underlying9 (by kernel_rfl) (by kernel_rfl)
  obtain ⟨a2, s2, q2, _⟩ := laid_sentinel (g := 1) (ti := 40) (tp := 82) (te := 84) (ts := 9) he2 (by kernel_rfl) (by kernel_rfl) Tryd.underlying40 row82 Tryd.underlying82 Tryd.underlying84 (by kernel_rfl) (by kernel_rfl) Tryd.underlying9 (by kernel_rfl) (by kernel_rfl)
  have hr := pE_of (g := 2) (by kernel_rfl) q1
  have hs := pE_of (g := 1) (by kernel_rfl) q2
  obtain ⟨m, hm⟩ := Go.Proofs.cell_of_shapedOpen_int (g := 0) (t := 3) (k := .i64) hsh (of_decide_eq_true (by kernel_rfl)) (zero := #[.int .i64 0]) (by kernel_rfl) rfl (by kernel_rfl) (by kernel_rfl) Tryd.underlying3
  intro p hp
  have hp : p ∈ [((5 : Nat), Vs.powP), (0, pI), (1, pE), (2, pE)] := hp
  simp only [List.mem_cons, List.not_mem_nil, or_false] at hp
  rcases hp with rfl | rfl | rfl | rfl
  · unfold Lib.TabIs World.var? at hi
    have hi2 := (congrArg (fun o => Option.bind o _) (by kernel_rfl : Tryd.prog.globalNamed _ = some 5)).symm.trans hi
    simp only [Option.bind_some] at hi2
    split at hi2
    · rename_i cs T fr hcs
      obtain rfl := Option.some.inj hi2
      refine ⟨?_, T, fr, hcs⟩
      rcases Nat.lt_or_ge 5 W.heap.size with hlt | hge
      · exact hlt
      · rw [Array.getElem?_eq_none hge] at hcs; cases hcs
    · cases hi2
  · unfold World.cell? at hm
    split at hm
    · rename_i cs T fr hcs
      refine ⟨?_, cs, T, fr, m, hcs, by simpa using hm⟩
      rcases Nat.lt_or_ge 0 W.heap.size with hlt | hge
      · exact hlt
      · rw [Array.getElem?_eq_none hge] at hcs; cases hcs
    · cases hm
  · exact hs
  · exact hr

set_option maxRecDepth 100000 in
theorem readcontrol_door (os : Os) (args : Array Value) : laidMetH Tryd.prog Rows.fnExactReadControlRow.laid ((World.laidAll Tryd.prog os Rows.fnExactReadControlRow.laid).forCall (fun _ _ => 0) ⟨#[], args, []⟩).memory := by
  rw [MakeChecks.laidMetH_plain _ _ _ (by kernel_rfl)]
  exact laidMet_laidAll _ (by kernel_rfl) (by kernel_rfl)

set_option maxRecDepth 100000 in
theorem readcontrol_lifted (os : Os) (started : os.Started) (H : Type) (enc : TypeId × Value → H) :
    ReturnsInHanded {} Tryd.checked os F.laws_FnExactReadControl .any (fun w args => (Rows.fnExactReadControlSpec.pre enc Tryd.prog Tryd.f3 Rows.fnExactReadControlRow.domain false w args ∧ laidMetH Tryd.prog Rows.fnExactReadControlRow.laid w) ∧ sizedMet enc Tryd.prog Tryd.f3 (OpenSpec.ofChange Rows.fnExactReadControlSpec) false w args)
      (Rows.fnExactReadControlSpec.post enc Tryd.prog Tryd.f3 false true false false) :=
  law_returns_sh (C := Tryd.checked) (X := fun w _ => laidMetH Tryd.prog Rows.fnExactReadControlRow.laid w) (fun _ _ _ hh h => h.of_heap hh) (fun W args h hsh => env_of_laid h hsh) Tryd.own started (by kernel_rfl) Tryd.func3
    (ChangeSpec.witness_shaped (enc := enc) (C := Tryd.checked) (os := os) (X := fun w _ => laidMetH Tryd.prog Rows.fnExactReadControlRow.laid w) false (World.laidAll Tryd.prog os Rows.fnExactReadControlRow.laid) #[.string ⟨#[]⟩] 8 (World.laidAll_os _ _ _) (World.shaped_of_ZipB (by kernel_rfl) (by kernel_rfl)) (by kernel_rfl) (by kernel_rfl) (by kernel_rfl) (readcontrol_door os _))
    Tryd.laidOut (by kernel_rfl) rfl Tryd.underlying4 rfl (fun ds h => by match ds, h with | [_], _ => exact ⟨rfl, rfl, rfl⟩)
    (Args.cons (Arg.string Tryd.underlying9 (by kernel_rfl)) Args.nil) (fun a => law_ReadControl a.1.1 a.1.2)

theorem readcontrol_row : Rows.FnExactReadControlSaid :=
  OpenClaim.holds_of_wide 3 Tryd.f3 rfl rfl rfl rfl rfl rfl rfl ⟨rfl, rfl, rfl, rfl, rfl⟩ rfl rfl rfl rfl rfl (by kernel_rfl) Tryd.func3 (by kernel_rfl)
    (of_decide_eq_true (by kernel_rfl)) (by unfold Func.isWrapper; first | (rw [if_pos (by decide +kernel)]; kernel_rfl) | (rw [if_neg (by decide +kernel)]; exact ⟨rfl, rfl⟩))
    (fun os started H enc _ => readcontrol_lifted os started H enc)

theorem readcontrol_holds : Rows.FnExactReadControlCardSaid :=
  Claim7.holds_tied_plain_at .later [] [.data, .data, .data, .data, .sentinel, .sentinel, .pinned] true _ true readcontrol_row (fun _ h => by cases h) (by kernel_rfl) (fun _ h => by cases h) fnExactReadControl_row_tie rfl ⟨rfl, rfl⟩ (by kernel_rfl) rfl
    (fun f fn hf hfn => by
      obtain rfl : f = 3 := Option.some.inj ((by kernel_rfl : Tryd.prog.funcNamed Rows.fnExactReadControlRow.func = some 3).symm.trans hf) |>.symm
      obtain rfl : fn = Tryd.f3 := (Option.some.inj (Tryd.func3.symm.trans hfn)).symm
      exact ⟨by kernel_rfl, fun j t ht => by
        rw [show Tryd.f3.params = #[9] from rfl] at ht
        have hm : t ∈ [9] := by simpa using Array.mem_of_getElem? ht
        have hall : ([9].all fun u => !Tryd.prog.wantsStandIn u) = true := by kernel_rfl
        exact (show Tryd.prog.wantsStandIn t = false by simpa using List.all_eq_true.1 hall t hm)⟩)
    (by kernel_rfl)
#print axioms readcontrol_holds
end Go.Proofs.YtpdmjalhahblmaaDoor
