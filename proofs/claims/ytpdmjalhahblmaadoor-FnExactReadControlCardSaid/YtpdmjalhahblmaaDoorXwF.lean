/- Decimal numbers; the sum of a number's digits. -/
import Derived.Test.YtpdmjalhahblmaaDoorVsB
import Derived.Test.YtpdmjalhahblmaaDoorXwA
import Derived.Test.YtpdmjalhahblmaaDoorVtO
import Derived.Test.YtpdmjalhahblmaaDoorTrydShelf
namespace Go.Proofs.YtpdmjalhahblmaaDoor
open Go.Vs
set_option linter.unusedSectionVars false
variable [Vs.Tab 5 Vs.powP]
set_option linter.unusedSimpArgs false
set_option linter.unusedVariables false
attribute [local irreducible] Vs.Fn
theorem formatInt (n : Int) (h0 : -9223372036854775808 ≤ n) (h1 : n ≤ 9223372036854775807) : Vs.Fn Tryd.prog F.internal_strconv_FormatInt [] [.v (.int .i64 n), .v (.int .i64 10)] (.v (.string ⟨(Lib.itoa n).toArray⟩)) [] := by
  refine Fn.of_ext ⟨Tryd.f38, _, Tryd.func38, rfl, by decide⟩ fun S w vs henv hsz hv => ?_
  have e0 : vs.getD 0 undef = .int .i64 n := inv_v (hv 0 (by simp))
  have e1 : vs.getD 1 undef = .int .i64 10 := inv_v (hv 1 (by simp))
  have hvs : vs = #[.int .i64 n, .int .i64 10] := by
    apply Array.ext (by simpa using hsz)
    intro i hi hi2
    simp at hi2 hsz
    have hi3 : i = 0 ∨ i = 1 := by omega
    rcases hi3 with rfl | rfl
    · simpa [Array.getD, hsz] using e0
    · simpa [Array.getD, hsz] using e1
  subst hvs
  refine (Any.internal_strconv_FormatInt_10 Tryd.laysM246 n h0 h1 w (by
    obtain ⟨_, T, fr, hcells⟩ := Vs.Tab.at (g := 5) (p := Vs.powP) henv
    unfold Lib.TabIs World.var?
    refine (congrArg (fun o => Option.bind o _) (by kernel_rfl : Tryd.prog.globalNamed _ = some 5)).trans ?_
    simp only [Option.bind_some]
    try dsimp only at hcells
    rw [hcells])).mono ?_
  rintro e w' ⟨rfl, k, os, rfl⟩
  exact ⟨_, rfl, .v _, ext_grow w k os⟩
end Go.Proofs.YtpdmjalhahblmaaDoor
