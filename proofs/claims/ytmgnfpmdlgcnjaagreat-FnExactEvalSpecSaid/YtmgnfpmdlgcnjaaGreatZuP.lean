/- The arguments, as the contracts have them. -/
import Derived.Test.YtmgnfpmdlgcnjaaGreatZuA
import Derived.Test.YtmgnfpmdlgcnjaaGreatVtF
import Derived.Test.YtmgnfpmdlgcnjaaGreatZuR
set_option linter.unusedSimpArgs false
set_option linter.unusedVariables false
set_option linter.unusedSectionVars false
set_option maxHeartbeats 8000000
namespace Go.Proofs.YtmgnfpmdlgcnjaaGreat
open Go.Vs
section
variable [Vs.Envs]
set_option maxRecDepth 100000
abbrev S63 := { s : ByteArray // s.size < 2 ^ 63 }
theorem oI : Opens Tryz.prog 2 1 (fun n : I64 => [.v (.int .i64 n.1)]) := Opens.int Tryz.underlying2 (by kernel_rfl)
theorem oS : Opens Tryz.prog 9 1 (fun s : S63 => [.v (.string s.1)]) := Opens.string Tryz.underlying9 (by kernel_rfl)
def eField (p : I64 × I64) : List AV := [.v (.int .i64 p.1.1)] ++ ([.v (.int .i64 p.2.1)])
theorem oField : Opens Tryz.prog 23 2 eField := by
 refine Opens.struct (k := 1 + (1)) (e := fun p : I64 × I64 => [.v (.int .i64 p.1.1)] ++ ([.v (.int .i64 p.2.1)])) Tryz.underlying23 (by kernel_rfl) ?_
 exact OpensF.cons' rfl oI rfl (OpensF.one' rfl oI rfl rfl rfl) rfl rfl
def eSpec (p : (I64 × I64) × S63 × (I64 × I64) × (I64 × I64)) : List AV := eField p.1 ++ ([.v (.string p.2.1.1)] ++ (eField p.2.2.1 ++ (eField p.2.2.2)))
theorem oSpec : Opens Tryz.prog 25 7 eSpec := by
 refine Opens.struct (k := 2 + (1 + (2 + (2)))) (e := fun p : (I64 × I64) × S63 × (I64 × I64) × (I64 × I64) => eField p.1 ++ ([.v (.string p.2.1.1)] ++ (eField p.2.2.1 ++ (eField p.2.2.2)))) Tryz.underlying25 (by kernel_rfl) ?_
 exact OpensF.cons' rfl oField rfl (OpensF.cons' rfl oS rfl (OpensF.cons' rfl oField rfl (OpensF.one' rfl oField rfl rfl rfl) rfl rfl) rfl rfl) rfl rfl
theorem oInts : Opens Tryz.prog 72 1 (fun l : { l : List (I64) // l.length < 2 ^ 63 } => [.sl 1 (l.1.map (fun n : I64 => [.v (.int .i64 n.1)]))]) := Opens.slice Tryz.underlying72 (by kernel_rfl) (by decide) oI
def eCard (p : { l : List (I64) // l.length < 2 ^ 63 }) : List AV := [.sl 1 (p.1.map (fun n : I64 => [.v (.int .i64 n.1)]))]
theorem oCard : Opens Tryz.prog 83 1 eCard := by
 refine Opens.struct (k := 1) (e := fun p : { l : List (I64) // l.length < 2 ^ 63 } => [.sl 1 (p.1.map (fun n : I64 => [.v (.int .i64 n.1)]))]) Tryz.underlying83 (by kernel_rfl) ?_
 exact OpensF.one' rfl oInts rfl rfl rfl
theorem oCards : Opens Tryz.prog 26 1 (fun l : { l : List ({ l : List (I64) // l.length < 2 ^ 63 }) // l.length < 2 ^ 63 } => [.sl 1 (l.1.map eCard)]) := Opens.slice Tryz.underlying26 (by kernel_rfl) (by decide) oCard
theorem E_map {α β : Type} {c : α → List AV} {g : β → α} (l : List β) : E c (l.map g) = l.map fun x => c (g x) := by simp [E]
end
section
variable [Vs.Envs]
end
end Go.Proofs.YtmgnfpmdlgcnjaaGreat
