/- The arguments, as the contracts have them. -/
import Derived.Test.YtokfhfdnmnblfaaYuA
import Derived.Test.YtokfhfdnmnblfaaVtF
import Derived.Test.YtokfhfdnmnblfaaYuD
namespace Go.Proofs.Ytokfhfdnmnblfaa
open Go.Vs
set_option linter.unusedSectionVars false
variable [Vs.Envs]
set_option maxRecDepth 100000
theorem oI : Opens Try.prog 2 1 (fun n : I64 => [.v (.int .i64 n.1)]) := Opens.int Try.underlying2 (by kernel_rfl)
theorem oInts : Opens Try.prog 52 1 (fun l : { l : List (I64) // l.length < 2 ^ 63 } => [.sl 1 (l.1.map (fun n : I64 => [.v (.int .i64 n.1)]))]) := Opens.slice Try.underlying52 (by kernel_rfl) (by decide) oI
def eCard (p : { l : List (I64) // l.length < 2 ^ 63 }) : List AV := [.sl 1 (p.1.map (fun n : I64 => [.v (.int .i64 n.1)]))]
theorem oCard : Opens Try.prog 54 1 eCard := by
  refine Opens.struct (k := 1) (e := fun p : { l : List (I64) // l.length < 2 ^ 63 } => [.sl 1 (p.1.map (fun n : I64 => [.v (.int .i64 n.1)]))]) Try.underlying54 (by kernel_rfl) ?_
  exact OpensF.one' rfl oInts rfl rfl rfl
theorem oCards : Opens Try.prog 22 1 (fun l : { l : List ({ l : List (I64) // l.length < 2 ^ 63 }) // l.length < 2 ^ 63 } => [.sl 1 (l.1.map eCard)]) := Opens.slice Try.underlying22 (by kernel_rfl) (by decide) oCard
theorem E_map {α β : Type} {c : α → List AV} {g : β → α} (l : List β) : E c (l.map g) = l.map fun x => c (g x) := by simp [E]
end Go.Proofs.Ytokfhfdnmnblfaa

namespace Go.Proofs.Ytokfhfdnmnblfaa
open Go.Vs
set_option linter.unusedSectionVars false
variable [Vs.Envs]
end Go.Proofs.Ytokfhfdnmnblfaa
