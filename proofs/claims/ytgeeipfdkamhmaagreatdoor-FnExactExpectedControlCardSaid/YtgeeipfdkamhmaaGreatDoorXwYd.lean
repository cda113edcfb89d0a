/- The law FnExactExpectedControl returns true for every input, and its arguments read behind the call as they read before. Conditions: the table of the powers of ten, which the library's text lays and the card ties. -/
import Derived.Test.YtgeeipfdkamhmaaGreatDoorXwYc
import Derived.Test.YtgeeipfdkamhmaaGreatDoorXwE
import Derived.Test.YtgeeipfdkamhmaaGreatDoorXuO
import Derived.Test.YtgeeipfdkamhmaaGreatDoorEtQ
import Derived.Test.YtgeeipfdkamhmaaGreatDoorCards
import Derived.Test.YtgeeipfdkamhmaaGreatDoorTie
import Derived.SevenTiedAt
namespace Go.Proofs.YtgeeipfdkamhmaaGreatDoor
open Go.Vs Go.ChangeShapes Go.WideShapes Go.ChangeAt Go.RowKit
set_option linter.unusedSimpArgs false
set_option linter.unusedVariables false
attribute [local irreducible] Vs.Fn
theorem law_ExpectedControl (o : Off) (x : Stp) (fr to : Int) (hb : bigO o) (hs0 : x.text.size < 2 ^ 63) : Vs.Fn Tryz.prog F.laws_FnExactExpectedControl [] [.agg (cO o), .agg (cS x), .agg (cFd fr to)] (.v (.bool true)) [] := by
  refine Cd.laws_FnExactExpectedControl_ok.fn0 Tryz.mixed Cd.laws_FnExactExpectedControl_nt Cd.laws_FnExactExpectedControl_rs rfl fun X => ?_
  unfold Cd.laws_FnExactExpectedControl
  simp -dsimp only [go_sem, reduceIte, reduceCtorEq, Nat.reduceEqDiff, Nat.reduceLT, Nat.reduceLeDiff, Nat.reduceAdd, Nat.reduceMul, Nat.reduceSub, Int.reduceToNat, Int.reduceNeg, cFd, cO, cS]
  refine CallK.flat (szOffice o 1048576 hb (by omega)) rfl ?_
  simp -dsimp only [go_sem, reduceIte, reduceCtorEq, Nat.reduceEqDiff, Nat.reduceLT, Nat.reduceLeDiff, Nat.reduceAdd, Nat.reduceMul, Nat.reduceSub, Int.reduceToNat, Int.reduceNeg, cFd, cO, cS]
  refine Br.mk (fun h1 => by simp -dsimp only [go_sem, reduceIte, reduceCtorEq, Nat.reduceEqDiff, Nat.reduceLT, Nat.reduceLeDiff, Nat.reduceAdd, Nat.reduceMul, Nat.reduceSub, Int.reduceToNat, Int.reduceNeg, cFd, cO, cS]; simp) (fun h1 => ?_)
  simp only [decide_eq_false_iff_not] at h1
  obtain ⟨hn, ho⟩ := szOff_spec hb (by omega) (by omega) (by omega : 0 ≤ szOff o 1048576)
  simp -dsimp only [go_sem, reduceIte, reduceCtorEq, Nat.reduceEqDiff, Nat.reduceLT, Nat.reduceLeDiff, Nat.reduceAdd, Nat.reduceMul, Nat.reduceSub, Int.reduceToNat, Int.reduceNeg, cFd, cO, cS]
  refine CallK.flat (szStep x _) rfl ?_
  simp -dsimp only [go_sem, reduceIte, reduceCtorEq, Nat.reduceEqDiff, Nat.reduceLT, Nat.reduceLeDiff, Nat.reduceAdd, Nat.reduceMul, Nat.reduceSub, Int.reduceToNat, Int.reduceNeg, cFd, cO, cS]
  refine Br.mk (fun h1 => by simp -dsimp only [go_sem, reduceIte, reduceCtorEq, Nat.reduceEqDiff, Nat.reduceLT, Nat.reduceLeDiff, Nat.reduceAdd, Nat.reduceMul, Nat.reduceSub, Int.reduceToNat, Int.reduceNeg, cFd, cO, cS]; simp) (fun h3 => ?_)
  simp -dsimp only [go_sem, reduceIte, reduceCtorEq, Nat.reduceEqDiff, Nat.reduceLT, Nat.reduceLeDiff, Nat.reduceAdd, Nat.reduceMul, Nat.reduceSub, Int.reduceToNat, Int.reduceNeg, cFd, cO, cS]
  have hs : x.text.size ≤ 1048576 := by
    have h2 : ¬ szT x.text (szOff o 1048576) < 0 := of_decide_eq_false h3
    have := (szT_le hs0 (n := szOff o 1048576) (by omega) (by omega) (by omega)).2
    omega
  repeat' (first
    | (refine RgK.mk rfl ?_; simp -dsimp only [go_sem, reduceIte, reduceCtorEq, Nat.reduceEqDiff, Nat.reduceLT, Nat.reduceLeDiff, Nat.reduceAdd, Nat.reduceMul, Nat.reduceSub, Int.reduceToNat, Int.reduceNeg, cFd, cO, cS, cCt])
    | (refine Br.mk (fun h => ?_) (fun h => ?_) <;> simp -dsimp only [go_sem, reduceIte, reduceCtorEq, Nat.reduceEqDiff, Nat.reduceLT, Nat.reduceLeDiff, Nat.reduceAdd, Nat.reduceMul, Nat.reduceSub, Int.reduceToNat, Int.reduceNeg, h, cFd, cO, cS, cCt])
    | (refine CallK.flat (by first | exact toOffice o ho | exact toStep x | exact toField fr to | exact spec_ExpectedControl o x fr to ho hs | exact impl_ExpectedControl o x fr to ho hs | exact eqControl _ _ _ _ _ _ | exact eqOffice o ho) rfl ?_; simp -dsimp only [go_sem, reduceIte, reduceCtorEq, Nat.reduceEqDiff, Nat.reduceLT, Nat.reduceLeDiff, Nat.reduceAdd, Nat.reduceMul, Nat.reduceSub, Int.reduceToNat, Int.reduceNeg, cFd, cO, cS, cCt])
    | (refine CallK.pure (by first | exact toOffice o ho | exact toStep x | exact toField fr to | exact spec_ExpectedControl o x fr to ho hs | exact impl_ExpectedControl o x fr to ho hs | exact eqControl _ _ _ _ _ _ | exact eqOffice o ho) ?_; simp -dsimp only [go_sem, reduceIte, reduceCtorEq, Nat.reduceEqDiff, Nat.reduceLT, Nat.reduceLeDiff, Nat.reduceAdd, Nat.reduceMul, Nat.reduceSub, Int.reduceToNat, Int.reduceNeg, cFd, cO, cS, cCt])
    | (refine And.intro (by first | rfl | omega | decide | (refine ⟨?_, ?_⟩ <;> (first | rfl | omega | decide)) | (refine ⟨?_, ?_, ?_⟩ <;> (first | rfl | omega | decide)) | (refine ⟨?_, ?_, ?_, ?_⟩ <;> (first | rfl | omega | decide))) ?_)
    | fail)
  all_goals simp_all

def gStpX (p : I64 × I64 × I64 × I64 × (I64 × I64) × (I64 × I64) × S63) : Stp := ⟨p.1.1, p.2.1.1, p.2.2.1.1, p.2.2.2.1.1, p.2.2.2.2.1.1.1, p.2.2.2.2.1.2.1, p.2.2.2.2.2.1.1.1, p.2.2.2.2.2.1.2.1, p.2.2.2.2.2.2.1⟩

set_option maxRecDepth 100000 in
theorem env_of_laid {W : World} (h0 : laidMetH Tryz.prog Rows.fnExactExpectedControlRow.laid W) : Env (fun b => b < W.heap.size) W := by
  have h : laidMet Tryz.prog Rows.fnExactExpectedControlRow.laid W := by
    rw [← MakeChecks.laidMetH_plain _ _ _ (by kernel_rfl)]
    exact h0
  have ht := laidMet.tail (laidMet.tail h)
  have hi := Lib.tabIs_of_head (k := .u64) (zs := Lib.pow10Tab) (g := 1) (t := 176) (e := 169) (n := 20) (by kernel_rfl) (by kernel_rfl) Tryz.underlying176 Tryz.underlying169 (by kernel_rfl) (by kernel_rfl) ht
  intro p hp
  simp only [envs, List.mem_singleton] at hp
  subst hp
  unfold Lib.TabIs World.var? at hi
  have hi2 := (congrArg (fun o => Option.bind o _) (by kernel_rfl : Tryz.prog.globalNamed _ = some 1)).symm.trans hi
  simp only [Option.bind_some] at hi2
  split at hi2
  · rename_i cs T fr hcs
    obtain rfl := Option.some.inj hi2
    refine ⟨?_, T, fr, hcs⟩
    rcases Nat.lt_or_ge 1 W.heap.size with hlt | hge
    · exact hlt
    · rw [Array.getElem?_eq_none hge] at hcs; cases hcs
  · cases hi2

set_option maxRecDepth 100000 in
theorem expectedcontrol_door (os : Os) (args : Array Value) : laidMetH Tryz.prog Rows.fnExactExpectedControlRow.laid ((World.doorLaid Tryz.prog 24 os).forCall (fun _ _ => 0) ⟨#[], args, []⟩).memory :=
  laidMetH_of_parts3 (fuel := 8) (laidMet_of_run' 8 (by kernel_rfl) (by kernel_rfl)) (by kernel_rfl) (by kernel_rfl)

set_option maxRecDepth 100000 in
theorem expectedcontrol_lifted (os : Os) (started : os.Started) (H : Type) (enc : TypeId × Value → H) :
    ReturnsInHanded {} Tryz.checked os F.laws_FnExactExpectedControl .any (fun w args => (Rows.fnExactExpectedControlSpec.pre enc Tryz.prog Tryz.f3 Rows.fnExactExpectedControlRow.domain false w args ∧ laidMetH Tryz.prog Rows.fnExactExpectedControlRow.laid w) ∧ sizedMet enc Tryz.prog Tryz.f3 (OpenSpec.ofChange Rows.fnExactExpectedControlSpec) false w args)
      (Rows.fnExactExpectedControlSpec.post enc Tryz.prog Tryz.f3 false true false false) :=
  law_returns_and (C := Tryz.checked) (X := fun w _ => laidMetH Tryz.prog Rows.fnExactExpectedControlRow.laid w) (fun _ _ _ hh h => h.of_heap hh) (fun W args h => env_of_laid h) Tryz.own started (by kernel_rfl) Tryz.func3
    (ChangeSpec.witness_shaped (enc := enc) (C := Tryz.checked) (os := os) (X := fun w _ => laidMetH Tryz.prog Rows.fnExactExpectedControlRow.laid w) false (World.doorLaid Tryz.prog 24 os) #[.agg #[.slice none 0 0, .slice none 0 0], .agg #[.int .i64 0, .int .i64 0, .int .i64 0, .int .i64 0, .int .i64 0, .int .i64 0, .int .i64 0, .int .i64 0, .string ⟨#[]⟩], .agg #[.int .i64 0, .int .i64 0]] 8 rfl (World.shaped_of_RefB (by kernel_rfl) (by kernel_rfl)) (by kernel_rfl) (by kernel_rfl) (by kernel_rfl) (expectedcontrol_door os _))
    Tryz.laidOut (by kernel_rfl) rfl Tryz.underlying4 rfl (fun ds h => by match ds, h with | [_, _, _], _ => exact ⟨rfl, rfl, rfl⟩)
    (Args.cons (Arg.struct Tryz.underlying25 oOffice) (Args.cons (Arg.struct Tryz.underlying29 oStep) (Args.cons (Arg.struct Tryz.underlying27 oField) Args.nil))) (fun a => by
      have h := law_ExpectedControl (gOff a.1) (gStpX a.2.1) a.2.2.1.1.1 a.2.2.1.2.1 (gOff_big a.1) a.2.1.2.2.2.2.2.2.2
      rw [gOff_enc] at h
      exact h)

theorem expectedcontrol_row : Rows.FnExactExpectedControlSaid :=
  OpenClaim.holds_of_wide 3 Tryz.f3 rfl rfl rfl rfl rfl rfl rfl ⟨rfl, rfl, rfl, rfl, rfl⟩ rfl rfl rfl rfl rfl (by kernel_rfl) Tryz.func3 (by kernel_rfl)
    (of_decide_eq_true (by kernel_rfl)) (by unfold Func.isWrapper; first | (rw [if_pos (by decide +kernel)]; kernel_rfl) | (rw [if_neg (by decide +kernel)]; exact ⟨rfl, rfl⟩))
    (fun os started H enc _ => expectedcontrol_lifted os started H enc)

theorem expectedcontrol_holds : Rows.FnExactExpectedControlCardSaid :=
  Claim7.holds_tied_plain_at .later [] [.data, .data, .data] true _ false expectedcontrol_row (fun _ h => by cases h) (by kernel_rfl) (fun _ h => by cases h) fnExactExpectedControl_row_tie rfl ⟨rfl, rfl⟩ (by kernel_rfl) rfl
    (fun f fn hf hfn => by
      obtain rfl : f = 3 := Option.some.inj ((by kernel_rfl : Tryz.prog.funcNamed Rows.fnExactExpectedControlRow.func = some 3).symm.trans hf) |>.symm
      obtain rfl : fn = Tryz.f3 := (Option.some.inj (Tryz.func3.symm.trans hfn)).symm
      exact ⟨by kernel_rfl, fun j t ht => by
        rw [show Tryz.f3.params = #[25, 29, 27] from rfl] at ht
        have hm : t ∈ [25, 29, 27] := by simpa using Array.mem_of_getElem? ht
        have hall : ([25, 29, 27].all fun u => !Tryz.prog.wantsStandIn u) = true := by kernel_rfl
        exact (show Tryz.prog.wantsStandIn t = false by simpa using List.all_eq_true.1 hall t hm)⟩)
    (by kernel_rfl)
#print axioms expectedcontrol_holds
end Go.Proofs.YtgeeipfdkamhmaaGreatDoor
