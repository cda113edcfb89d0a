/- The law FnSteps returns true for every input, and its arguments read behind the call as they read before. Conditions: the tables of the library, which its text lays and the card ties. -/
import Derived.Test.YtidbcoagjbbjdaaGreatDoorVsI
import Derived.Test.YtidbcoagjbbjdaaGreatDoorXwPr
import Derived.Test.YtidbcoagjbbjdaaGreatDoorXuO
import Derived.Test.YtidbcoagjbbjdaaGreatDoorVtR
import Derived.Test.YtidbcoagjbbjdaaGreatDoorCards
import Derived.Test.YtidbcoagjbbjdaaGreatDoorTie
import Derived.SevenTiedAt
set_option linter.all false
set_option maxHeartbeats 8000000
namespace Go.Proofs.YtidbcoagjbbjdaaGreatDoor
open Go.Vs Go.ChangeShapes Go.WideShapes Go.ChangeAt Go.RowKit
local instance tabI : Vs.Tab 0 Vs.powP := { l := [(0, Vs.powP)], has := fun S w h => h _ (List.mem_singleton.2 rfl) }
attribute [local irreducible] Vs.Fn
set_option maxRecDepth 100000 in
theorem env_of_laid {W : World} (h0 : laidMetH Tryz.prog Rows.fnStepsRow.laid W) : Env (fun b => b < W.heap.size) W := by
 have h : laidMet Tryz.prog Rows.fnStepsRow.laid W := by
  rw [← MakeChecks.laidMetH_plain _ _ _ (by kernel_rfl)]
  exact h0
 have ht := laidMet.tail (laidMet.tail h)
 have hi := Lib.tabIs_of_head (k := .u64) (zs := Lib.pow10Tab) (g := 0) (t := 188) (e := 96) (n := 20) (by kernel_rfl) (by kernel_rfl) Tryz.underlying188 Tryz.underlying96 (by kernel_rfl) (by kernel_rfl) ht
 intro p hp
 obtain rfl : p = (0, Vs.powP) := List.mem_singleton.1 (show p ∈ [(0, Vs.powP)] from hp)
 unfold Lib.TabIs World.var? at hi
 have hi2 := (congrArg (fun o => Option.bind o _) (by kernel_rfl : Tryz.prog.globalNamed _ = some 0)).symm.trans hi
 simp only [Option.bind_some] at hi2
 split at hi2
 ·rename_i cs T fr hcs
  obtain rfl := Option.some.inj hi2
  refine ⟨?_, T, fr, hcs⟩
  rcases Nat.lt_or_ge 0 W.heap.size with hlt | hge
  ·exact hlt
  ·rw [Array.getElem?_eq_none hge] at hcs; cases hcs
 ·cases hi2
abbrev U8 := { n : Int // (Lit.int .u8 n).wf = true }
theorem U8_in (n : U8) : 0 ≤ n.1 ∧ n.1 ≤ 255 := by
 have h := n.2
 simp only [Lit.wf, Bool.and_eq_true, decide_eq_true_eq] at h
 have e1 : IntKind.u8.min = 0 := by decide
 have e2 : IntKind.u8.max = 255 := by decide
 omega
theorem oU8 : Opens Tryz.prog 5 1 (fun n : U8 => [.v (.int .u8 n.1)]) := Opens.int Tryz.underlying5 (by kernel_rfl)
theorem oBytes : Opens Tryz.prog 22 1 (fun l : { l : List U8 // l.length < 2 ^ 63 } => [.sl 1 (l.1.map (fun n : U8 => [.v (.int .u8 n.1)]))]) := Opens.slice Tryz.underlying22 (by kernel_rfl) (by decide) oU8
set_option maxRecDepth 100000 in
theorem steps_door (os : Os) (args : Array Value) : laidMetH Tryz.prog Rows.fnStepsRow.laid ((World.doorLaid Tryz.prog 24 os).forCall (fun _ _ => 0) ⟨#[], args, []⟩).memory :=
 laidMetH_of_parts3 (fuel := 8) (laidMet_of_run' 8 (by kernel_rfl) (by kernel_rfl)) (by kernel_rfl) (by kernel_rfl)
set_option maxRecDepth 100000 in
theorem steps_lifted (os : Os) (started : os.Started) (H : Type) (enc : TypeId × Value → H) :
  ReturnsInHanded {} Tryz.checked os F.l_FnSteps .any (fun w args => (Rows.fnStepsSpec.pre enc Tryz.prog Tryz.f4 Rows.fnStepsRow.domain false w args ∧ laidMetH Tryz.prog Rows.fnStepsRow.laid w) ∧ sizedMet enc Tryz.prog Tryz.f4 (OpenSpec.ofChange Rows.fnStepsSpec) false w args)
   (Rows.fnStepsSpec.post enc Tryz.prog Tryz.f4 false true false false) :=
 law_returns_and (C := Tryz.checked) (X := fun w _ => laidMetH Tryz.prog Rows.fnStepsRow.laid w) (fun _ _ _ hh h => h.of_heap hh) (fun W args h => env_of_laid h) Tryz.own started (by kernel_rfl) Tryz.func4
  (ChangeSpec.witness_shaped (enc := enc) (C := Tryz.checked) (os := os) (X := fun w _ => laidMetH Tryz.prog Rows.fnStepsRow.laid w) false (World.doorLaid Tryz.prog 24 os) #[.slice none 0 0, .slice none 0 0] 8 rfl (World.shaped_of_RefB (by kernel_rfl) (by kernel_rfl)) (by kernel_rfl) (by kernel_rfl) (by kernel_rfl) (steps_door os _))
  Tryz.laidOut (by kernel_rfl) rfl Tryz.underlying4 rfl (fun ds h => by match ds, h with | [_, _], _ => exact ⟨rfl, rfl, rfl⟩)
  (Args.cons (Arg.slice Tryz.underlying22 oBytes) (Args.cons (Arg.slice Tryz.underlying22 oBytes) Args.nil)) (fun a => by
    have h := law_FnSteps (a.1.1.map fun n => n.1) (a.2.1.1.map fun n => n.1) (fun x hx => by obtain ⟨n, _, rfl⟩ := List.mem_map.1 hx; exact U8_in n) (fun x hx => by obtain ⟨n, _, rfl⟩ := List.mem_map.1 hx; exact U8_in n)
    rw [E_map, E_map] at h
    exact h)
theorem steps_row : Rows.FnStepsSaid :=
 OpenClaim.holds_of_wide 4 Tryz.f4 rfl rfl rfl rfl rfl rfl rfl ⟨rfl, rfl, rfl, rfl, rfl⟩ rfl rfl rfl rfl rfl (by kernel_rfl) Tryz.func4 (by kernel_rfl)
  (of_decide_eq_true (by kernel_rfl)) (by unfold Func.isWrapper; first | (rw [if_pos (by decide +kernel)]; kernel_rfl) | (rw [if_neg (by decide +kernel)]; exact ⟨rfl, rfl⟩))
  (fun os started H enc _ => steps_lifted os started H enc)
theorem steps_holds : Rows.FnStepsCardSaid :=
 Claim7.holds_tied_plain_at .later [] [.data, .data, .data] true _ false steps_row (fun _ h => by cases h) (by kernel_rfl) (fun _ h => by cases h) fnSteps_row_tie rfl ⟨rfl, rfl⟩ (by kernel_rfl) rfl
  (fun f fn hf hfn => by
    obtain rfl : f = 4 := Option.some.inj ((by kernel_rfl : Tryz.prog.funcNamed Rows.fnStepsRow.func = some 4).symm.trans hf) |>.symm
    obtain rfl : fn = Tryz.f4 := (Option.some.inj (Tryz.func4.symm.trans hfn)).symm
    exact ⟨by kernel_rfl, fun j t ht => by
      rw [show Tryz.f4.params = #[22, 22] from rfl] at ht
      have hm : t ∈ [22, 22] := by simpa using Array.mem_of_getElem? ht
      have hall : ([22, 22].all fun u => !Tryz.prog.wantsStandIn u) = true := by kernel_rfl
      exact (show Tryz.prog.wantsStandIn t = false by simpa using List.all_eq_true.1 hall t hm)⟩)
  (by kernel_rfl)
#print axioms steps_holds
end Go.Proofs.YtidbcoagjbbjdaaGreatDoor
