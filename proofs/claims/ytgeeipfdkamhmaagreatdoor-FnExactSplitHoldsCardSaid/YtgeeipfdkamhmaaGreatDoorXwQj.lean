/- The law FnExactSplitHolds returns true for every input, and its arguments read behind the call as they read before. Conditions: the table of the powers of ten, which the library's text lays and the card ties. -/
import Derived.Test.YtgeeipfdkamhmaaGreatDoorXwD
import Derived.Test.YtgeeipfdkamhmaaGreatDoorXuO
import Derived.Test.YtgeeipfdkamhmaaGreatDoorEtN
import Derived.Test.YtgeeipfdkamhmaaGreatDoorXwQi
import Derived.Test.YtgeeipfdkamhmaaGreatDoorEtR
import Derived.Test.YtgeeipfdkamhmaaGreatDoorCards
import Derived.Test.YtgeeipfdkamhmaaGreatDoorTie
import Derived.SevenTiedAt
namespace Go.Proofs.YtgeeipfdkamhmaaGreatDoor
open Go.Vs
set_option linter.unusedSimpArgs false
set_option linter.unusedVariables false
attribute [local irreducible] Vs.Fn
theorem szI_mono {l : List Int} {n : Int} (hl : l.length < 2 ^ 63) (h0 : 0 ≤ n) (hn : n ≤ 1048576) (h : 0 ≤ szI l n) : szI l n ≤ n := (szI_le hl h0 hn h).1
def bigC (l : List (List Int)) : Prop := l.length < 2 ^ 63 ∧ ∀ c, c ∈ l → c.length < 2 ^ 63
def szDk (l : List (List Int)) (n : Int) : Int := szL szI l n
theorem szDk_mono {l : List (List Int)} (hb : bigC l) (n : Int) (h0 : 0 ≤ n) (hn : n ≤ 1048576) (h : 0 ≤ szDk l n) : szDk l n ≤ n :=
  (szL_mono (fun x hx _ a b c => szI_mono (hb.2 x hx) a b c) hb.1 h0 hn h).1
theorem szDk_small {l : List (List Int)} (hb : bigC l) {n : Int} (h0 : 0 ≤ n) (hn : n ≤ 1048576) (h : 0 ≤ szDk l n) : smallC l := by
  refine ⟨?_, fun c hc => ?_⟩
  · have := (szL_mono (fun x hx _ a b c => szI_mono (hb.2 x hx) a b c) hb.1 h0 hn h).2; omega
  · obtain ⟨m, h1, h2, h3⟩ := szL_in (fun x hx _ a b c => szI_mono (hb.2 x hx) a b c) hb.1 h0 hn h c hc
    have := (szI_le (hb.2 c hc) h1 h2 h3).2; omega
abbrev ACard := { l : List I64 // l.length < 2 ^ 63 }
abbrev ACards := { l : List ACard // l.length < 2 ^ 63 }
def gCards (d : ACards) : List (List Int) := d.1.map fun c => c.1.map fun n => n.1
theorem gCards_big (d : ACards) : bigC (gCards d) := by
  refine ⟨by simpa [gCards] using d.2, fun c hc => ?_⟩
  obtain ⟨x, _, rfl⟩ := List.mem_map.1 hc
  simpa using x.2
theorem gCards_enc (d : ACards) : E cC (gCards d) = d.1.map eCard := by
  simp only [gCards, E_map]
  congr 1
  funext c
  simp only [cC, E_map]
  rfl
end Go.Proofs.YtgeeipfdkamhmaaGreatDoor

namespace Go.Proofs.YtgeeipfdkamhmaaGreatDoor
open Go.Vs Go.ChangeShapes Go.WideShapes Go.ChangeAt Go.RowKit
set_option linter.unusedSimpArgs false
set_option linter.unusedVariables false
attribute [local irreducible] Vs.Fn
theorem law_SplitHolds (a b : List (List Int)) (fr to k0 k1 : Int) (ga : bigC a) (gb : bigC b) : Vs.Fn Tryz.prog F.laws_FnExactSplitHolds [] [.sl 1 (E cC a), .sl 1 (E cC b), .agg (cFd fr to), .agg (cFd k0 k1)] (.v (.bool true)) [] := by
  refine Cd.laws_FnExactSplitHolds_ok.fn0 Tryz.mixed Cd.laws_FnExactSplitHolds_nt Cd.laws_FnExactSplitHolds_rs rfl fun X => ?_
  unfold Cd.laws_FnExactSplitHolds
  simp -dsimp only [go_sem, reduceIte, reduceCtorEq, Nat.reduceEqDiff, Nat.reduceLT, Nat.reduceLeDiff, Nat.reduceAdd, Nat.reduceMul, Nat.reduceSub, Int.reduceToNat, Int.reduceNeg, cFd]
  refine CallK.flat (szCardS a 1048576 ga.2 ga.1 (by omega)) rfl ?_
  simp -dsimp only [go_sem, reduceIte, reduceCtorEq, Nat.reduceEqDiff, Nat.reduceLT, Nat.reduceLeDiff, Nat.reduceAdd, Nat.reduceMul, Nat.reduceSub, Int.reduceToNat, Int.reduceNeg, cFd]
  refine Br.mk (fun h1 => by simp -dsimp only [go_sem, reduceIte, reduceCtorEq, Nat.reduceEqDiff, Nat.reduceLT, Nat.reduceLeDiff, Nat.reduceAdd, Nat.reduceMul, Nat.reduceSub, Int.reduceToNat, Int.reduceNeg, cFd]; simp) (fun h1 => ?_)
  simp only [decide_eq_false_iff_not] at h1
  have z1 : 0 ≤ szDk a 1048576 := by unfold szDk; omega
  have ha := szDk_small ga (by omega) (by omega) z1
  have m1 := szDk_mono ga 1048576 (by omega) (by omega) z1
  simp -dsimp only [go_sem, reduceIte, reduceCtorEq, Nat.reduceEqDiff, Nat.reduceLT, Nat.reduceLeDiff, Nat.reduceAdd, Nat.reduceMul, Nat.reduceSub, Int.reduceToNat, Int.reduceNeg, cFd]
  refine CallK.flat (szCardS b (szDk a 1048576) gb.2 gb.1 ⟨z1, m1⟩) rfl ?_
  simp -dsimp only [go_sem, reduceIte, reduceCtorEq, Nat.reduceEqDiff, Nat.reduceLT, Nat.reduceLeDiff, Nat.reduceAdd, Nat.reduceMul, Nat.reduceSub, Int.reduceToNat, Int.reduceNeg, cFd]
  refine Br.mk (fun h1 => by simp -dsimp only [go_sem, reduceIte, reduceCtorEq, Nat.reduceEqDiff, Nat.reduceLT, Nat.reduceLeDiff, Nat.reduceAdd, Nat.reduceMul, Nat.reduceSub, Int.reduceToNat, Int.reduceNeg, cFd]; simp) (fun h2 => ?_)
  simp only [decide_eq_false_iff_not] at h2
  have hb := szDk_small gb z1 m1 (by unfold szDk at h2 ⊢; omega)
  simp -dsimp only [go_sem, reduceIte, reduceCtorEq, Nat.reduceEqDiff, Nat.reduceLT, Nat.reduceLeDiff, Nat.reduceAdd, Nat.reduceMul, Nat.reduceSub, Int.reduceToNat, Int.reduceNeg, cFd]
  repeat' (first
    | (refine RgK.mk rfl ?_; simp -dsimp only [go_sem, reduceIte, reduceCtorEq, Nat.reduceEqDiff, Nat.reduceLT, Nat.reduceLeDiff, Nat.reduceAdd, Nat.reduceMul, Nat.reduceSub, Int.reduceToNat, Int.reduceNeg, cFd])
    | (refine Br.mk (fun h => ?_) (fun h => ?_) <;> simp -dsimp only [go_sem, reduceIte, reduceCtorEq, Nat.reduceEqDiff, Nat.reduceLT, Nat.reduceLeDiff, Nat.reduceAdd, Nat.reduceMul, Nat.reduceSub, Int.reduceToNat, Int.reduceNeg, h, cFd])
    | (refine CallK.flat (by first | exact toCardS a ha.2 ha.1 | exact toCardS b hb.2 hb.1 | exact toField fr to | exact toField k0 k1 | exact spec_SplitHolds a b fr to k0 k1 ha hb | exact impl_SplitHolds a b fr to k0 k1 ha hb | exact eqCardS a ha.2 ha.1 | exact eqCardS b hb.2 hb.1) rfl ?_; simp -dsimp only [go_sem, reduceIte, reduceCtorEq, Nat.reduceEqDiff, Nat.reduceLT, Nat.reduceLeDiff, Nat.reduceAdd, Nat.reduceMul, Nat.reduceSub, Int.reduceToNat, Int.reduceNeg, cFd])
    | (refine CallK.pure (by first | exact toCardS a ha.2 ha.1 | exact toCardS b hb.2 hb.1 | exact toField fr to | exact toField k0 k1 | exact spec_SplitHolds a b fr to k0 k1 ha hb | exact impl_SplitHolds a b fr to k0 k1 ha hb | exact eqCardS a ha.2 ha.1 | exact eqCardS b hb.2 hb.1) ?_; simp -dsimp only [go_sem, reduceIte, reduceCtorEq, Nat.reduceEqDiff, Nat.reduceLT, Nat.reduceLeDiff, Nat.reduceAdd, Nat.reduceMul, Nat.reduceSub, Int.reduceToNat, Int.reduceNeg, cFd])
    | (refine And.intro (by first | rfl | omega | decide | (refine ⟨?_, ?_⟩ <;> (first | rfl | omega | decide)) | (refine ⟨?_, ?_, ?_⟩ <;> (first | rfl | omega | decide)) | (refine ⟨?_, ?_, ?_, ?_⟩ <;> (first | rfl | omega | decide))) ?_)
    | fail)
  all_goals simp_all


set_option maxRecDepth 100000 in
theorem env_of_laid {W : World} (h0 : laidMetH Tryz.prog Rows.fnExactSplitHoldsRow.laid W) : Env (fun b => b < W.heap.size) W := by
  have h : laidMet Tryz.prog Rows.fnExactSplitHoldsRow.laid W := by
    rw [← MakeChecks.laidMetH_plain _ _ _ (by kernel_rfl)]
    exact h0
  have ht := laidMet.tail (laidMet.tail h)
  have hi := Lib.tabIs_of_head (k := .u64) (zs := Lib.pow10Tab) (g := 1) (t := 176) (e := 169) (n := 20) (by kernel_rfl) (by kernel_rfl) Tryz.underlying176 Tryz.underlying169 (by kernel_rfl) (by kernel_rfl) ht
  intro p hp
  simp only [envs, List.mem_singleton] at hp
  subst hp
  unfold Lib.TabIs World.var? at hi
  have hi2 := (congrArg (fun o => Option.bind o _) (by kernel_rfl : Tryz.prog.globalNamed _ = some 1)).symm.trans hi
  simp only [Option.bind_some] at hi2
  split at hi2
  · rename_i cs T fr hcs
    obtain rfl := Option.some.inj hi2
    refine ⟨?_, T, fr, hcs⟩
    rcases Nat.lt_or_ge 1 W.heap.size with hlt | hge
    · exact hlt
    · rw [Array.getElem?_eq_none hge] at hcs; cases hcs
  · cases hi2

set_option maxRecDepth 100000 in
theorem splitholds_door (os : Os) (args : Array Value) : laidMetH Tryz.prog Rows.fnExactSplitHoldsRow.laid ((World.doorLaid Tryz.prog 24 os).forCall (fun _ _ => 0) ⟨#[], args, []⟩).memory :=
  laidMetH_of_parts3 (fuel := 8) (laidMet_of_run' 8 (by kernel_rfl) (by kernel_rfl)) (by kernel_rfl) (by kernel_rfl)

set_option maxRecDepth 100000 in
theorem splitholds_lifted (os : Os) (started : os.Started) (H : Type) (enc : TypeId × Value → H) :
    ReturnsInHanded {} Tryz.checked os F.laws_FnExactSplitHolds .any (fun w args => (Rows.fnExactSplitHoldsSpec.pre enc Tryz.prog Tryz.f4 Rows.fnExactSplitHoldsRow.domain false w args ∧ laidMetH Tryz.prog Rows.fnExactSplitHoldsRow.laid w) ∧ sizedMet enc Tryz.prog Tryz.f4 (OpenSpec.ofChange Rows.fnExactSplitHoldsSpec) false w args)
      (Rows.fnExactSplitHoldsSpec.post enc Tryz.prog Tryz.f4 false true false false) :=
  law_returns_and (C := Tryz.checked) (X := fun w _ => laidMetH Tryz.prog Rows.fnExactSplitHoldsRow.laid w) (fun _ _ _ hh h => h.of_heap hh) (fun W args h => env_of_laid h) Tryz.own started (by kernel_rfl) Tryz.func4
    (ChangeSpec.witness_shaped (enc := enc) (C := Tryz.checked) (os := os) (X := fun w _ => laidMetH Tryz.prog Rows.fnExactSplitHoldsRow.laid w) false (World.doorLaid Tryz.prog 24 os) #[.slice none 0 0, .slice none 0 0, .agg #[.int .i64 0, .int .i64 0], .agg #[.int .i64 0, .int .i64 0]] 8 rfl (World.shaped_of_RefB (by kernel_rfl) (by kernel_rfl)) (by kernel_rfl) (by kernel_rfl) (by kernel_rfl) (splitholds_door os _))
    Tryz.laidOut (by kernel_rfl) rfl Tryz.underlying4 rfl (fun ds h => by match ds, h with | [_, _, _, _], _ => exact ⟨rfl, rfl, rfl⟩)
    (Args.cons (Arg.slice Tryz.underlying49 oCards) (Args.cons (Arg.slice Tryz.underlying49 oCards) (Args.cons (Arg.struct Tryz.underlying27 oField) (Args.cons (Arg.struct Tryz.underlying27 oField) Args.nil)))) (fun a => by
      have h := law_SplitHolds (gCards a.1) (gCards a.2.1) a.2.2.1.1.1 a.2.2.1.2.1 a.2.2.2.1.1.1 a.2.2.2.1.2.1 (gCards_big a.1) (gCards_big a.2.1)
      rw [gCards_enc, gCards_enc] at h
      exact h)

theorem splitholds_row : Rows.FnExactSplitHoldsSaid :=
  OpenClaim.holds_of_wide 4 Tryz.f4 rfl rfl rfl rfl rfl rfl rfl ⟨rfl, rfl, rfl, rfl, rfl⟩ rfl rfl rfl rfl rfl (by kernel_rfl) Tryz.func4 (by kernel_rfl)
    (of_decide_eq_true (by kernel_rfl)) (by unfold Func.isWrapper; first | (rw [if_pos (by decide +kernel)]; kernel_rfl) | (rw [if_neg (by decide +kernel)]; exact ⟨rfl, rfl⟩))
    (fun os started H enc _ => splitholds_lifted os started H enc)

theorem splitholds_holds : Rows.FnExactSplitHoldsCardSaid :=
  Claim7.holds_tied_plain_at .later [] [.data, .data, .data] true _ false splitholds_row (fun _ h => by cases h) (by kernel_rfl) (fun _ h => by cases h) fnExactSplitHolds_row_tie rfl ⟨rfl, rfl⟩ (by kernel_rfl) rfl
    (fun f fn hf hfn => by
      obtain rfl : f = 4 := Option.some.inj ((by kernel_rfl : Tryz.prog.funcNamed Rows.fnExactSplitHoldsRow.func = some 4).symm.trans hf) |>.symm
      obtain rfl : fn = Tryz.f4 := (Option.some.inj (Tryz.func4.symm.trans hfn)).symm
      exact ⟨by kernel_rfl, fun j t ht => by
        rw [show Tryz.f4.params = #[49, 49, 27, 27] from rfl] at ht
        have hm : t ∈ [49, 49, 27, 27] := by simpa using Array.mem_of_getElem? ht
        have hall : ([49, 49, 27, 27].all fun u => !Tryz.prog.wantsStandIn u) = true := by kernel_rfl
        exact (show Tryz.prog.wantsStandIn t = false by simpa using List.all_eq_true.1 hall t hm)⟩)
    (by kernel_rfl)
#print axioms splitholds_holds
end Go.Proofs.YtgeeipfdkamhmaaGreatDoor
