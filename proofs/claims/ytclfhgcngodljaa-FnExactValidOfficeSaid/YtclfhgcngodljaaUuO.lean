/- How the arguments' types read. -/
import Derived.Test.YtclfhgcngodljaaUuA
import Derived.Test.YtclfhgcngodljaaVtF
namespace Go.Proofs.Ytclfhgcngodljaa
open Go.Vs
set_option maxRecDepth 100000
abbrev S63 := { s : ByteArray // s.size < 2 ^ 63 }
theorem oI : Opens Try.prog 2 1 (fun n : I64 => [.v (.int .i64 n.1)]) := Opens.int Try.underlying2 (by kernel_rfl)
theorem oS : Opens Try.prog 9 1 (fun s : S63 => [.v (.string s.1)]) := Opens.string Try.underlying9 (by kernel_rfl)
def eTotal (p : S63 × I64) : List AV := [.v (.string p.1.1)] ++ ([.v (.int .i64 p.2.1)])
theorem oTotal : Opens Try.prog 73 2 eTotal := by
  refine Opens.struct (k := 1 + (1)) (e := fun p : S63 × I64 => [.v (.string p.1.1)] ++ ([.v (.int .i64 p.2.1)])) Try.underlying73 (by kernel_rfl) ?_
  exact OpensF.cons' rfl oS rfl (OpensF.one' rfl oI rfl rfl rfl) rfl rfl
theorem oInts : Opens Try.prog 53 1 (fun l : { l : List (I64) // l.length < 2 ^ 63 } => [.sl 1 (l.1.map (fun n : I64 => [.v (.int .i64 n.1)]))]) := Opens.slice Try.underlying53 (by kernel_rfl) (by decide) oI
def eCard (p : { l : List (I64) // l.length < 2 ^ 63 }) : List AV := [.sl 1 (p.1.map (fun n : I64 => [.v (.int .i64 n.1)]))]
theorem oCard : Opens Try.prog 71 1 eCard := by
  refine Opens.struct (k := 1) (e := fun p : { l : List (I64) // l.length < 2 ^ 63 } => [.sl 1 (p.1.map (fun n : I64 => [.v (.int .i64 n.1)]))]) Try.underlying71 (by kernel_rfl) ?_
  exact OpensF.one' rfl oInts rfl rfl rfl
theorem oTotals : Opens Try.prog 61 1 (fun l : { l : List (S63 × I64) // l.length < 2 ^ 63 } => [.sl 2 (l.1.map eTotal)]) := Opens.slice Try.underlying61 (by kernel_rfl) (by decide) oTotal
theorem oCards : Opens Try.prog 59 1 (fun l : { l : List ({ l : List (I64) // l.length < 2 ^ 63 }) // l.length < 2 ^ 63 } => [.sl 1 (l.1.map eCard)]) := Opens.slice Try.underlying59 (by kernel_rfl) (by decide) oCard
theorem oCardsS : Opens Try.prog 22 1 (fun l : { l : List ({ l : List ({ l : List (I64) // l.length < 2 ^ 63 }) // l.length < 2 ^ 63 }) // l.length < 2 ^ 63 } => [.sl 1 (l.1.map (fun n : { l : List ({ l : List (I64) // l.length < 2 ^ 63 }) // l.length < 2 ^ 63 } => [.sl 1 (n.1.map eCard)]))]) := Opens.slice Try.underlying22 (by kernel_rfl) (by decide) oCards
theorem oTotalsS : Opens Try.prog 23 1 (fun l : { l : List ({ l : List (S63 × I64) // l.length < 2 ^ 63 }) // l.length < 2 ^ 63 } => [.sl 1 (l.1.map (fun n : { l : List (S63 × I64) // l.length < 2 ^ 63 } => [.sl 2 (n.1.map eTotal)]))]) := Opens.slice Try.underlying23 (by kernel_rfl) (by decide) oTotals
def eOffice (p : { l : List ({ l : List ({ l : List (I64) // l.length < 2 ^ 63 }) // l.length < 2 ^ 63 }) // l.length < 2 ^ 63 } × ({ l : List ({ l : List (S63 × I64) // l.length < 2 ^ 63 }) // l.length < 2 ^ 63 })) : List AV := [.sl 1 (p.1.1.map (fun n : { l : List ({ l : List (I64) // l.length < 2 ^ 63 }) // l.length < 2 ^ 63 } => [.sl 1 (n.1.map eCard)]))] ++ ([.sl 1 (p.2.1.map (fun n : { l : List (S63 × I64) // l.length < 2 ^ 63 } => [.sl 2 (n.1.map eTotal)]))])
theorem oOffice : Opens Try.prog 25 2 eOffice := by
  refine Opens.struct (k := 1 + (1)) (e := fun p : { l : List ({ l : List ({ l : List (I64) // l.length < 2 ^ 63 }) // l.length < 2 ^ 63 }) // l.length < 2 ^ 63 } × ({ l : List ({ l : List (S63 × I64) // l.length < 2 ^ 63 }) // l.length < 2 ^ 63 }) => [.sl 1 (p.1.1.map (fun n : { l : List ({ l : List (I64) // l.length < 2 ^ 63 }) // l.length < 2 ^ 63 } => [.sl 1 (n.1.map eCard)]))] ++ ([.sl 1 (p.2.1.map (fun n : { l : List (S63 × I64) // l.length < 2 ^ 63 } => [.sl 2 (n.1.map eTotal)]))])) Try.underlying25 (by kernel_rfl) ?_
  exact OpensF.cons' rfl oCardsS rfl (OpensF.one' rfl oTotalsS rfl rfl rfl) rfl rfl
theorem E_map {α β : Type} {c : α → List AV} {g : β → α} (l : List β) : E c (l.map g) = l.map fun x => c (g x) := by simp [E]
end Go.Proofs.Ytclfhgcngodljaa
