/- The law FnExactCalculateDeck returns true for every input, and its arguments read behind the call as they read before. Conditions: the table of the powers of ten, which the library's text lays and the card ties. -/
import Derived.Test.YtimcedhcefcbbaaDoorVsD
import Derived.Test.YtimcedhcefcbbaaDoorTwCf
import Derived.Test.YtimcedhcefcbbaaDoorTuO
import Derived.Test.YtimcedhcefcbbaaDoorVtR
import Derived.Test.YtimcedhcefcbbaaDoorCards
import Derived.Test.YtimcedhcefcbbaaDoorTie
import Derived.SevenTiedAt
set_option linter.all false
set_option maxHeartbeats 8000000
namespace Go.Proofs.YtimcedhcefcbbaaDoor
open Go.Vs Go.ChangeShapes Go.WideShapes Go.ChangeAt Go.RowKit
local instance tabI : Vs.Tab 0 Vs.powP := { l := [(0, Vs.powP)], has := fun S w h => h _ (List.mem_singleton.2 rfl) }
attribute [local irreducible] Vs.Fn
set_option maxRecDepth 100000 in
theorem env_of_laid {W : World} (h0 : laidMetH Tryd.prog Rows.fnExactCalculateDeckRow.laid W) : Env (fun b => b < W.heap.size) W := by
 have h : laidMet Tryd.prog Rows.fnExactCalculateDeckRow.laid W := by
  rw [← MakeChecks.laidMetH_plain _ _ _ (by kernel_rfl)]
  exact h0
 have ht := laidMet.tail (laidMet.tail h)
 have hi := Lib.tabIs_of_head (k := .u64) (zs := Lib.pow10Tab) (g := 0) (t := 106) (e := 98) (n := 20) (by kernel_rfl) (by kernel_rfl) Tryd.underlying106 Tryd.underlying98 (by kernel_rfl) (by kernel_rfl) ht
 intro p hp
 obtain rfl : p = (0, Vs.powP) := List.mem_singleton.1 (show p ∈ [(0, Vs.powP)] from hp)
 unfold Lib.TabIs World.var? at hi
 have hi2 := (congrArg (fun o => Option.bind o _) (by kernel_rfl : Tryd.prog.globalNamed _ = some 0)).symm.trans hi
 simp only [Option.bind_some] at hi2
 split at hi2
 ·rename_i cs T fr hcs
  obtain rfl := Option.some.inj hi2
  refine ⟨?_, T, fr, hcs⟩
  rcases Nat.lt_or_ge 0 W.heap.size with hlt | hge
  ·exact hlt
  ·rw [Array.getElem?_eq_none hge] at hcs; cases hcs
 ·cases hi2
set_option maxRecDepth 100000 in
theorem calculatedeck_door (os : Os) (args : Array Value) : laidMetH Tryd.prog Rows.fnExactCalculateDeckRow.laid ((World.doorLaid Tryd.prog 24 os).forCall (fun _ _ => 0) ⟨#[], args, []⟩).memory :=
 laidMetH_of_parts3 (fuel := 8) (laidMet_of_run' 8 (by kernel_rfl) (by kernel_rfl)) (by kernel_rfl) (by kernel_rfl)
set_option maxRecDepth 100000 in
theorem calculatedeck_lifted (os : Os) (started : os.Started) (H : Type) (enc : TypeId × Value → H) :
  ReturnsInHanded {} Tryd.checked os F.lawCalculateDeck .any (fun w args => (Rows.fnExactCalculateDeckSpec.pre enc Tryd.prog Tryd.f3 Rows.fnExactCalculateDeckRow.domain false w args ∧ laidMetH Tryd.prog Rows.fnExactCalculateDeckRow.laid w) ∧ sizedMet enc Tryd.prog Tryd.f3 (OpenSpec.ofChange Rows.fnExactCalculateDeckSpec) false w args)
   (Rows.fnExactCalculateDeckSpec.post enc Tryd.prog Tryd.f3 false true false false) :=
 law_returns_and (C := Tryd.checked) (X := fun w _ => laidMetH Tryd.prog Rows.fnExactCalculateDeckRow.laid w) (fun _ _ _ hh h => h.of_heap hh) (fun W args h => env_of_laid h) Tryd.own started (by kernel_rfl) Tryd.func3
  (ChangeSpec.witness_shaped (enc := enc) (C := Tryd.checked) (os := os) (X := fun w _ => laidMetH Tryd.prog Rows.fnExactCalculateDeckRow.laid w) false (World.doorLaid Tryd.prog 24 os) #[.int .i64 0, .slice none 0 0, .agg #[.int .i64 0, .int .i64 0], .agg #[.int .i64 0, .int .i64 0], .agg #[.int .i64 0, .int .i64 0]] 8 rfl (World.shaped_of_RefB (by kernel_rfl) (by kernel_rfl)) (by kernel_rfl) (by kernel_rfl) (by kernel_rfl) (calculatedeck_door os _))
  Tryd.laidOut (by kernel_rfl) rfl Tryd.underlying4 rfl (fun ds h => by match ds, h with | [_, _, _, _, _], _ => exact ⟨rfl, rfl, rfl⟩)
  (Args.cons (Arg.int Tryd.underlying2 (by kernel_rfl)) (Args.cons (Arg.slice Tryd.underlying22 oCards) (Args.cons (Arg.struct Tryd.underlying24 oField) (Args.cons (Arg.struct Tryd.underlying24 oField) (Args.cons (Arg.struct Tryd.underlying24 oField) Args.nil))))) (fun a => by
    have h := law_lwCd a.1.1 (a.2.2.1.1.1, a.2.2.1.2.1) (a.2.2.2.1.1.1, a.2.2.2.1.2.1) (a.2.2.2.2.1.1.1, a.2.2.2.2.1.2.1) (gCards a.2.1) (gCards_big a.2.1)
    rw [gCards_enc] at h
    exact h)
theorem calculatedeck_row : Rows.FnExactCalculateDeckSaid :=
 OpenClaim.holds_of_wide 3 Tryd.f3 rfl rfl rfl rfl rfl rfl rfl ⟨rfl, rfl, rfl, rfl, rfl⟩ rfl rfl rfl rfl rfl (by kernel_rfl) Tryd.func3 (by kernel_rfl)
  (of_decide_eq_true (by kernel_rfl)) (by unfold Func.isWrapper; first | (rw [if_pos (by decide +kernel)]; kernel_rfl) | (rw [if_neg (by decide +kernel)]; exact ⟨rfl, rfl⟩))
  (fun os started H enc _ => calculatedeck_lifted os started H enc)
theorem calculatedeck_holds : Rows.FnExactCalculateDeckCardSaid :=
 Claim7.holds_tied_plain_at .later [] [.data, .data, .data] true _ false calculatedeck_row (fun _ h => by cases h) (by kernel_rfl) (fun _ h => by cases h) fnExactCalculateDeck_row_tie rfl ⟨rfl, rfl⟩ (by kernel_rfl) rfl
  (fun f fn hf hfn => by
    obtain rfl : f = 3 := Option.some.inj ((by kernel_rfl : Tryd.prog.funcNamed Rows.fnExactCalculateDeckRow.func = some 3).symm.trans hf) |>.symm
    obtain rfl : fn = Tryd.f3 := (Option.some.inj (Tryd.func3.symm.trans hfn)).symm
    exact ⟨by kernel_rfl, fun j t ht => by
      rw [show Tryd.f3.params = #[2, 22, 24, 24, 24] from rfl] at ht
      have hm : t ∈ [2, 22, 24, 24, 24] := by simpa using Array.mem_of_getElem? ht
      have hall : ([2, 22, 24, 24, 24].all fun u => !Tryd.prog.wantsStandIn u) = true := by kernel_rfl
      exact (show Tryd.prog.wantsStandIn t = false by simpa using List.all_eq_true.1 hall t hm)⟩)
  (by kernel_rfl)
#print axioms calculatedeck_holds
end Go.Proofs.YtimcedhcefcbbaaDoor
