/- The law FnExactFirstBreak returns true for every input, and its arguments read behind the call as they read before. Conditions: the table of the powers of ten, which the library's text lays and the card ties. -/
import Derived.Test.YtagejhkjpgephaaGreatDoorXwOd
import Derived.Test.YtagejhkjpgephaaGreatDoorXwE
import Derived.Test.YtagejhkjpgephaaGreatDoorXuO
import Derived.Test.YtagejhkjpgephaaGreatDoorEtR
import Derived.Test.YtagejhkjpgephaaGreatDoorEtO
import Derived.Test.YtagejhkjpgephaaGreatDoorCards
import Derived.Test.YtagejhkjpgephaaGreatDoorTie
import Derived.SevenTiedAt
set_option linter.unusedSimpArgs false
set_option linter.unusedVariables false
set_option maxHeartbeats 8000000
namespace Go.Proofs.YtagejhkjpgephaaGreatDoor
open Go.Vs Go.ChangeShapes Go.WideShapes Go.ChangeAt Go.RowKit
attribute [local irreducible] Vs.Fn stpB wO fbN fbE chOK areCh chTo chAt l03 chB rk cd3 chI stp stpTo
theorem toControlC (x : Int × Int × Int) : Fz F.l_toControl [.agg (cCt x)] (.agg (cCt x)) := by
 refine fn0 Cd.l_toControl_k fun X => ?_
 repeat' first
  |simp -dsimp only [go_sem, cCt]
  |refine Br.mk ?_ ?_<;>intro h<;>try simp -dsimp only[h]
  |refine and_c ?_
  |fail
 all_goals (exact ⟨_, _, rfl, rfl⟩)
theorem eqControlC (x : Int × Int × Int) : Fz F.l_eqControl [.agg (cCt x), .agg (cCt x)] (.v (.bool true)) := by
 refine fn0 Cd.l_eqControl_k fun X => ?_
 repeat' first
  |simp -dsimp only [go_sem, cCt]
  |refine Br.mk ?_ ?_<;>intro h<;>try simp -dsimp only[h]
  |refine and_c ?_
  |fail
 all_goals (simp_all)
theorem szControlS (l : List (Int × Int × Int)) (n : Int) : Fz F.l_szControlS [.sl 3 (E cCt l), .v (.int .i64 n)] (.v (.int .i64 (szN l.length n))) := by
 have h := szF_fn Tryz.mixed Cd.l_szControlS_k.o Cd.l_szControlS_k.n Cd.l_szControlS_k.r (k := 3) (E cCt l) n
 rw [E_len] at h
 exact h
theorem toControlS (l : List (Int × Int × Int)) (hl : l.length ≤ 1048576) : Fz F.l_toControlS [.sl 3 (E cCt l)] (.sl 3 (E cCt l)) :=
 toS_fn Tryz.mixed (g := F.l_toControl) (k := 3) (y := 24) (z := [.v (.int .i64 0), .v (.int .i64 0), .v (.int .i64 0)]) Cd.l_toControlS_k.o Cd.l_toControlS_k.n Cd.l_toControlS_k.r rfl (fun _ => rfl) (by decide) rfl rfl (fun _ => rfl) (fun x hx => toControlC x) hl (by decide)
theorem eqControlS (l : List (Int × Int × Int)) (hl : l.length ≤ 1048576) : Fz F.l_eqControlS [.sl 3 (E cCt l), .sl 3 (E cCt l)] (.v (.bool true)) :=
 eqS_fn Tryz.mixed (g := F.l_eqControl) (k := 3) Cd.l_eqControlS_k.o Cd.l_eqControlS_k.n Cd.l_eqControlS_k.r rfl (fun _ => rfl) (fun _ => rfl) (fun x hx => eqControlC x) hl
theorem law_FirstBreak (o : Off) (fl : List Stp) (fr to : Int) (told : List (Int × Int × Int)) (hb : bigO o) (hs0 : ∀ x, x ∈ fl → x.text.size < 2 ^ 63) (hl0 : fl.length < 2 ^ 63) (ht0 : told.length < 2 ^ 63) : Fz F.lawFirstBreak [.agg (cO o), .sl 9 (E cS fl), .agg (cFd fr to), .sl 3 (E cCt told)] (.v (.bool true)) := by
 refine fn0 Cd.lawFirstBreak_k fun X => ?_
 simp -dsimp only [go_sem, cFd, cO, cCt]
 refine CallK.flat (szOffice o 1048576 hb (by omega)) rfl ?_
 simp -dsimp only [go_sem, cFd, cO, cCt]
 refine Br.mk (fun h1 => by simp -dsimp only [go_sem, cFd, cO, cCt]; simp) (fun h1 => ?_)
 simp only [decide_eq_false_iff_not] at h1
 obtain ⟨hn, ho⟩ := szOff_spec hb (by omega) (by omega) (by omega : 0 ≤ szOff o 1048576)
 have z1 : 0 ≤ szOff o 1048576 := by omega
 generalize szOff o 1048576 = n1 at *
 simp -dsimp only [go_sem, cFd, cO, cCt]
 refine CallK.flat (szStepS fl n1 hs0 hl0 (by omega)) rfl ?_
 simp -dsimp only [go_sem, cFd, cO, cCt]
 refine Br.mk (fun h2 => by simp -dsimp only [go_sem, cFd, cO, cCt]; simp) (fun h2 => ?_)
 simp only [decide_eq_false_iff_not] at h2
 have hl : fl.length ≤ 1048576 := by have := szL_len hl0 (by omega) h2; omega
 have hz : ∀ x, x ∈ fl → x.text.size ≤ 1048576 := by
  intro x hx
  obtain ⟨m, h3, h4, h5⟩ := szL_mem (fun x hx n h0 hn h => szStp_le (hs0 x hx) h0 hn h) hl0 (by omega) h2 x hx
  have := (szT_le (hs0 x hx) h3 h4 h5).2
  omega
 obtain ⟨z2, m2⟩ := szL_le (fun x hx n h0 hn h => szStp_le (hs0 x hx) h0 hn h) hl0 (by omega) h2
 generalize szL szStp fl n1 = n2 at *
 simp -dsimp only [go_sem, cFd, cO, cCt]
 refine CallK.flat (szControlS told n2) rfl ?_
 simp -dsimp only [go_sem, cFd, cO, cCt]
 refine Br.mk (fun h3 => by simp -dsimp only [go_sem, cFd, cO, cCt]; simp) (fun h3 => ?_)
 simp only [decide_eq_false_iff_not] at h3
 have ht : told.length ≤ 1048576 := by have := (szN_le ht0 z2 (by omega) (by omega : 0 ≤ szN told.length n2)).2; omega
 repeat' first
  |simp -dsimp only [go_sem, cFd, cO, cCt]
  |refine Br.mk ?_ ?_<;>intro h<;>try simp -dsimp only[h]
  |refine CallK.c (by first|exact toOffice o ho|exact toStepS fl hl|exact toField fr to|exact toControlS told ht|exact spec_FirstBreak fr to o ho fl hz hl told ht|exact impl_FirstBreak fr to o ho fl hz hl told ht|exact eqOffice o ho|exact eqStepS fl hl|exact eqControlS told ht) ?_
  |refine and_c ?_
  |fail
 all_goals simp_all
def gStp (p : I64 × I64 × I64 × I64 × (I64 × I64) × (I64 × I64) × S63) : Stp := ⟨p.1.1, p.2.1.1, p.2.2.1.1, p.2.2.2.1.1, p.2.2.2.2.1.1.1, p.2.2.2.2.1.2.1, p.2.2.2.2.2.1.1.1, p.2.2.2.2.2.1.2.1, p.2.2.2.2.2.2.1⟩
def gCtl (p : I64 × I64 × I64) : Int × Int × Int := (p.1.1, p.2.1.1, p.2.2.1)
set_option maxRecDepth 100000 in
theorem env_of_laid {W : World} (h0 : laidMetH Tryz.prog Rows.fnExactFirstBreakRow.laid W) : Env (fun b => b < W.heap.size) W := by
 have h : laidMet Tryz.prog Rows.fnExactFirstBreakRow.laid W := by
  rw [← MakeChecks.laidMetH_plain _ _ _ (by kernel_rfl)]
  exact h0
 have ht := laidMet.tail (laidMet.tail h)
 have hi := Lib.tabIs_of_head (k := .u64) (zs := Lib.pow10Tab) (g := 1) (t := 231) (e := 224) (n := 20) (by kernel_rfl) (by kernel_rfl) Tryz.underlying231 Tryz.underlying224 (by kernel_rfl) (by kernel_rfl) ht
 intro p hp
 simp only [envs, List.mem_singleton] at hp
 subst hp
 unfold Lib.TabIs World.var? at hi
 have hi2 := (congrArg (fun o => Option.bind o _) (by kernel_rfl : Tryz.prog.globalNamed _ = some 1)).symm.trans hi
 simp only [Option.bind_some] at hi2
 split at hi2
 ·rename_i cs T fr hcs
  obtain rfl := Option.some.inj hi2
  refine ⟨?_, T, fr, hcs⟩
  rcases Nat.lt_or_ge 1 W.heap.size with hlt | hge
  ·exact hlt
  ·rw [Array.getElem?_eq_none hge] at hcs; cases hcs
 ·cases hi2
set_option maxRecDepth 100000 in
theorem firstbreak_door (os : Os) (args : Array Value) : laidMetH Tryz.prog Rows.fnExactFirstBreakRow.laid ((World.doorLaid Tryz.prog 24 os).forCall (fun _ _ => 0) ⟨#[], args, []⟩).memory :=
 laidMetH_of_parts3 (fuel := 8) (laidMet_of_run' 8 (by kernel_rfl) (by kernel_rfl)) (by kernel_rfl) (by kernel_rfl)
set_option maxRecDepth 100000 in
theorem firstbreak_lifted (os : Os) (started : os.Started) (H : Type) (enc : TypeId × Value → H) :
  ReturnsInHanded {} Tryz.checked os F.lawFirstBreak .any (fun w args => (Rows.fnExactFirstBreakSpec.pre enc Tryz.prog Tryz.f3 Rows.fnExactFirstBreakRow.domain false w args ∧ laidMetH Tryz.prog Rows.fnExactFirstBreakRow.laid w) ∧ sizedMet enc Tryz.prog Tryz.f3 (OpenSpec.ofChange Rows.fnExactFirstBreakSpec) false w args)
   (Rows.fnExactFirstBreakSpec.post enc Tryz.prog Tryz.f3 false true false false) :=
 law_returns_and (C := Tryz.checked) (X := fun w _ => laidMetH Tryz.prog Rows.fnExactFirstBreakRow.laid w) (fun _ _ _ hh h => h.of_heap hh) (fun W args h => env_of_laid h) Tryz.own started (by kernel_rfl) Tryz.func3
  (ChangeSpec.witness_shaped (enc := enc) (C := Tryz.checked) (os := os) (X := fun w _ => laidMetH Tryz.prog Rows.fnExactFirstBreakRow.laid w) false (World.doorLaid Tryz.prog 24 os) #[.agg #[.slice none 0 0, .slice none 0 0], .slice none 0 0, .agg #[.int .i64 0, .int .i64 0], .slice none 0 0] 8 rfl (World.shaped_of_RefB (by kernel_rfl) (by kernel_rfl)) (by kernel_rfl) (by kernel_rfl) (by kernel_rfl) (firstbreak_door os _))
  Tryz.laidOut (by kernel_rfl) rfl Tryz.underlying4 rfl (fun ds h => by match ds, h with | [_, _, _, _], _ => exact ⟨rfl, rfl, rfl⟩)
  (Args.cons (Arg.struct Tryz.underlying25 oOffice) (Args.cons (Arg.slice Tryz.underlying26 oSteps) (Args.cons (Arg.struct Tryz.underlying28 oField) (Args.cons (Arg.slice Tryz.underlying29 oControls) Args.nil)))) (fun a => by
    have h := law_FirstBreak (gOff a.1) (a.2.1.1.map gStp) a.2.2.1.1.1 a.2.2.1.2.1 (a.2.2.2.1.1.map gCtl) (gOff_big a.1) (fun x hx => by obtain ⟨p, _, rfl⟩ := List.mem_map.1 hx; exact p.2.2.2.2.2.2.2) (by simpa using a.2.1.2) (by simpa using a.2.2.2.1.2)
    rw [gOff_enc, E_map, E_map] at h
    exact h)
theorem firstbreak_row : Rows.FnExactFirstBreakSaid :=
 OpenClaim.holds_of_wide 3 Tryz.f3 rfl rfl rfl rfl rfl rfl rfl ⟨rfl, rfl, rfl, rfl, rfl⟩ rfl rfl rfl rfl rfl (by kernel_rfl) Tryz.func3 (by kernel_rfl)
  (of_decide_eq_true (by kernel_rfl)) (by unfold Func.isWrapper; first | (rw [if_pos (by decide +kernel)]; kernel_rfl) | (rw [if_neg (by decide +kernel)]; exact ⟨rfl, rfl⟩))
  (fun os started H enc _ => firstbreak_lifted os started H enc)
theorem firstbreak_holds : Rows.FnExactFirstBreakCardSaid :=
 Claim7.holds_tied_plain_at .later [] [.data, .data, .data] true _ false firstbreak_row (fun _ h => by cases h) (by kernel_rfl) (fun _ h => by cases h) fnExactFirstBreak_row_tie rfl ⟨rfl, rfl⟩ (by kernel_rfl) rfl
  (fun f fn hf hfn => by
    obtain rfl : f = 3 := Option.some.inj ((by kernel_rfl : Tryz.prog.funcNamed Rows.fnExactFirstBreakRow.func = some 3).symm.trans hf) |>.symm
    obtain rfl : fn = Tryz.f3 := (Option.some.inj (Tryz.func3.symm.trans hfn)).symm
    exact ⟨by kernel_rfl, fun j t ht => by
      rw [show Tryz.f3.params = #[25, 26, 28, 29] from rfl] at ht
      have hm : t ∈ [25, 26, 28, 29] := by simpa using Array.mem_of_getElem? ht
      have hall : ([25, 26, 28, 29].all fun u => !Tryz.prog.wantsStandIn u) = true := by kernel_rfl
      exact (show Tryz.prog.wantsStandIn t = false by simpa using List.all_eq_true.1 hall t hm)⟩)
  (by kernel_rfl)
#print axioms firstbreak_holds
end Go.Proofs.YtagejhkjpgephaaGreatDoor
