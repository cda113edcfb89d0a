/- How the arguments' types read. -/
import Derived.Test.YtgeeipfdkamhmaaGreatDoorXuA
import Derived.Test.YtgeeipfdkamhmaaGreatDoorEtF
namespace Go.Proofs.YtgeeipfdkamhmaaGreatDoor
open Go.Vs
set_option maxRecDepth 100000
abbrev S63 := { s : ByteArray // s.size < 2 ^ 63 }
theorem oI : Opens Tryz.prog 2 1 (fun n : I64 => [.v (.int .i64 n.1)]) := Opens.int Tryz.underlying2 (by kernel_rfl)
theorem oS : Opens Tryz.prog 9 1 (fun s : S63 => [.v (.string s.1)]) := Opens.string Tryz.underlying9 (by kernel_rfl)
def eField (p : I64 × I64) : List AV := [.v (.int .i64 p.1.1)] ++ ([.v (.int .i64 p.2.1)])
theorem oField : Opens Tryz.prog 27 2 eField := by
  refine Opens.struct (k := 1 + (1)) (e := fun p : I64 × I64 => [.v (.int .i64 p.1.1)] ++ ([.v (.int .i64 p.2.1)])) Tryz.underlying27 (by kernel_rfl) ?_
  exact OpensF.cons' rfl oI rfl (OpensF.one' rfl oI rfl rfl rfl) rfl rfl
def eTotal (p : S63 × I64) : List AV := [.v (.string p.1.1)] ++ ([.v (.int .i64 p.2.1)])
theorem oTotal : Opens Tryz.prog 129 2 eTotal := by
  refine Opens.struct (k := 1 + (1)) (e := fun p : S63 × I64 => [.v (.string p.1.1)] ++ ([.v (.int .i64 p.2.1)])) Tryz.underlying129 (by kernel_rfl) ?_
  exact OpensF.cons' rfl oS rfl (OpensF.one' rfl oI rfl rfl rfl) rfl rfl
def eStep (p : I64 × I64 × I64 × I64 × (I64 × I64) × (I64 × I64) × S63) : List AV := [.v (.int .i64 p.1.1)] ++ ([.v (.int .i64 p.2.1.1)] ++ ([.v (.int .i64 p.2.2.1.1)] ++ ([.v (.int .i64 p.2.2.2.1.1)] ++ (eField p.2.2.2.2.1 ++ (eField p.2.2.2.2.2.1 ++ ([.v (.string p.2.2.2.2.2.2.1)]))))))
theorem oStep : Opens Tryz.prog 29 9 eStep := by
  refine Opens.struct (k := 1 + (1 + (1 + (1 + (2 + (2 + (1))))))) (e := fun p : I64 × I64 × I64 × I64 × (I64 × I64) × (I64 × I64) × S63 => [.v (.int .i64 p.1.1)] ++ ([.v (.int .i64 p.2.1.1)] ++ ([.v (.int .i64 p.2.2.1.1)] ++ ([.v (.int .i64 p.2.2.2.1.1)] ++ (eField p.2.2.2.2.1 ++ (eField p.2.2.2.2.2.1 ++ ([.v (.string p.2.2.2.2.2.2.1)]))))))) Tryz.underlying29 (by kernel_rfl) ?_
  exact OpensF.cons' rfl oI rfl (OpensF.cons' rfl oI rfl (OpensF.cons' rfl oI rfl (OpensF.cons' rfl oI rfl (OpensF.cons' rfl oField rfl (OpensF.cons' rfl oField rfl (OpensF.one' rfl oS rfl rfl rfl) rfl rfl) rfl rfl) rfl rfl) rfl rfl) rfl rfl) rfl rfl
theorem oInts : Opens Tryz.prog 77 1 (fun l : { l : List (I64) // l.length < 2 ^ 63 } => [.sl 1 (l.1.map (fun n : I64 => [.v (.int .i64 n.1)]))]) := Opens.slice Tryz.underlying77 (by kernel_rfl) (by decide) oI
def eCard (p : { l : List (I64) // l.length < 2 ^ 63 }) : List AV := [.sl 1 (p.1.map (fun n : I64 => [.v (.int .i64 n.1)]))]
theorem oCard : Opens Tryz.prog 79 1 eCard := by
  refine Opens.struct (k := 1) (e := fun p : { l : List (I64) // l.length < 2 ^ 63 } => [.sl 1 (p.1.map (fun n : I64 => [.v (.int .i64 n.1)]))]) Tryz.underlying79 (by kernel_rfl) ?_
  exact OpensF.one' rfl oInts rfl rfl rfl
theorem oTotals : Opens Tryz.prog 91 1 (fun l : { l : List (S63 × I64) // l.length < 2 ^ 63 } => [.sl 2 (l.1.map eTotal)]) := Opens.slice Tryz.underlying91 (by kernel_rfl) (by decide) oTotal
theorem oCards : Opens Tryz.prog 49 1 (fun l : { l : List ({ l : List (I64) // l.length < 2 ^ 63 }) // l.length < 2 ^ 63 } => [.sl 1 (l.1.map eCard)]) := Opens.slice Tryz.underlying49 (by kernel_rfl) (by decide) oCard
theorem oCardsS : Opens Tryz.prog 22 1 (fun l : { l : List ({ l : List ({ l : List (I64) // l.length < 2 ^ 63 }) // l.length < 2 ^ 63 }) // l.length < 2 ^ 63 } => [.sl 1 (l.1.map (fun n : { l : List ({ l : List (I64) // l.length < 2 ^ 63 }) // l.length < 2 ^ 63 } => [.sl 1 (n.1.map eCard)]))]) := Opens.slice Tryz.underlying22 (by kernel_rfl) (by decide) oCards
theorem oTotalsS : Opens Tryz.prog 23 1 (fun l : { l : List ({ l : List (S63 × I64) // l.length < 2 ^ 63 }) // l.length < 2 ^ 63 } => [.sl 1 (l.1.map (fun n : { l : List (S63 × I64) // l.length < 2 ^ 63 } => [.sl 2 (n.1.map eTotal)]))]) := Opens.slice Tryz.underlying23 (by kernel_rfl) (by decide) oTotals
def eOffice (p : { l : List ({ l : List ({ l : List (I64) // l.length < 2 ^ 63 }) // l.length < 2 ^ 63 }) // l.length < 2 ^ 63 } × ({ l : List ({ l : List (S63 × I64) // l.length < 2 ^ 63 }) // l.length < 2 ^ 63 })) : List AV := [.sl 1 (p.1.1.map (fun n : { l : List ({ l : List (I64) // l.length < 2 ^ 63 }) // l.length < 2 ^ 63 } => [.sl 1 (n.1.map eCard)]))] ++ ([.sl 1 (p.2.1.map (fun n : { l : List (S63 × I64) // l.length < 2 ^ 63 } => [.sl 2 (n.1.map eTotal)]))])
theorem oOffice : Opens Tryz.prog 25 2 eOffice := by
  refine Opens.struct (k := 1 + (1)) (e := fun p : { l : List ({ l : List ({ l : List (I64) // l.length < 2 ^ 63 }) // l.length < 2 ^ 63 }) // l.length < 2 ^ 63 } × ({ l : List ({ l : List (S63 × I64) // l.length < 2 ^ 63 }) // l.length < 2 ^ 63 }) => [.sl 1 (p.1.1.map (fun n : { l : List ({ l : List (I64) // l.length < 2 ^ 63 }) // l.length < 2 ^ 63 } => [.sl 1 (n.1.map eCard)]))] ++ ([.sl 1 (p.2.1.map (fun n : { l : List (S63 × I64) // l.length < 2 ^ 63 } => [.sl 2 (n.1.map eTotal)]))])) Tryz.underlying25 (by kernel_rfl) ?_
  exact OpensF.cons' rfl oCardsS rfl (OpensF.one' rfl oTotalsS rfl rfl rfl) rfl rfl
theorem E_map {α β : Type} {c : α → List AV} {g : β → α} (l : List β) : E c (l.map g) = l.map fun x => c (g x) := by simp [E]
end Go.Proofs.YtgeeipfdkamhmaaGreatDoor
