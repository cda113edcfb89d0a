/- How the arguments' types read. -/
import Derived.Test.YtaegnbfboeeijaaYuA
import Derived.Test.YtaegnbfboeeijaaVtF
namespace Go.Proofs.Ytaegnbfboeeijaa
open Go.Vs
set_option maxRecDepth 100000
abbrev S63 := { s : ByteArray // s.size < 2 ^ 63 }
theorem oI : Opens Try.prog 2 1 (fun n : I64 => [.v (.int .i64 n.1)]) := Opens.int Try.underlying2 (by kernel_rfl)
theorem oS : Opens Try.prog 9 1 (fun s : S63 => [.v (.string s.1)]) := Opens.string Try.underlying9 (by kernel_rfl)
def eField (p : I64 × I64) : List AV := [.v (.int .i64 p.1.1)] ++ ([.v (.int .i64 p.2.1)])
theorem oField : Opens Try.prog 37 2 eField := by
  refine Opens.struct (k := 1 + (1)) (e := fun p : I64 × I64 => [.v (.int .i64 p.1.1)] ++ ([.v (.int .i64 p.2.1)])) Try.underlying37 (by kernel_rfl) ?_
  exact OpensF.cons' rfl oI rfl (OpensF.one' rfl oI rfl rfl rfl) rfl rfl
def eTotal (p : S63 × I64) : List AV := [.v (.string p.1.1)] ++ ([.v (.int .i64 p.2.1)])
theorem oTotal : Opens Try.prog 98 2 eTotal := by
  refine Opens.struct (k := 1 + (1)) (e := fun p : S63 × I64 => [.v (.string p.1.1)] ++ ([.v (.int .i64 p.2.1)])) Try.underlying98 (by kernel_rfl) ?_
  exact OpensF.cons' rfl oS rfl (OpensF.one' rfl oI rfl rfl rfl) rfl rfl
def eSpec (p : (I64 × I64) × S63 × (I64 × I64) × (I64 × I64)) : List AV := eField p.1 ++ ([.v (.string p.2.1.1)] ++ (eField p.2.2.1 ++ (eField p.2.2.2)))
theorem oSpec : Opens Try.prog 39 7 eSpec := by
  refine Opens.struct (k := 2 + (1 + (2 + (2)))) (e := fun p : (I64 × I64) × S63 × (I64 × I64) × (I64 × I64) => eField p.1 ++ ([.v (.string p.2.1.1)] ++ (eField p.2.2.1 ++ (eField p.2.2.2)))) Try.underlying39 (by kernel_rfl) ?_
  exact OpensF.cons' rfl oField rfl (OpensF.cons' rfl oS rfl (OpensF.cons' rfl oField rfl (OpensF.one' rfl oField rfl rfl rfl) rfl rfl) rfl rfl) rfl rfl
def eStep (p : I64 × I64 × I64 × I64 × (I64 × I64) × (I64 × I64) × S63) : List AV := [.v (.int .i64 p.1.1)] ++ ([.v (.int .i64 p.2.1.1)] ++ ([.v (.int .i64 p.2.2.1.1)] ++ ([.v (.int .i64 p.2.2.2.1.1)] ++ (eField p.2.2.2.2.1 ++ (eField p.2.2.2.2.2.1 ++ ([.v (.string p.2.2.2.2.2.2.1)]))))))
theorem oStep : Opens Try.prog 54 9 eStep := by
  refine Opens.struct (k := 1 + (1 + (1 + (1 + (2 + (2 + (1))))))) (e := fun p : I64 × I64 × I64 × I64 × (I64 × I64) × (I64 × I64) × S63 => [.v (.int .i64 p.1.1)] ++ ([.v (.int .i64 p.2.1.1)] ++ ([.v (.int .i64 p.2.2.1.1)] ++ ([.v (.int .i64 p.2.2.2.1.1)] ++ (eField p.2.2.2.2.1 ++ (eField p.2.2.2.2.2.1 ++ ([.v (.string p.2.2.2.2.2.2.1)]))))))) Try.underlying54 (by kernel_rfl) ?_
  exact OpensF.cons' rfl oI rfl (OpensF.cons' rfl oI rfl (OpensF.cons' rfl oI rfl (OpensF.cons' rfl oI rfl (OpensF.cons' rfl oField rfl (OpensF.cons' rfl oField rfl (OpensF.one' rfl oS rfl rfl rfl) rfl rfl) rfl rfl) rfl rfl) rfl rfl) rfl rfl) rfl rfl
def eFault (p : I64 × I64 × I64 × I64) : List AV := [.v (.int .i64 p.1.1)] ++ ([.v (.int .i64 p.2.1.1)] ++ ([.v (.int .i64 p.2.2.1.1)] ++ ([.v (.int .i64 p.2.2.2.1)])))
theorem oFault : Opens Try.prog 116 4 eFault := by
  refine Opens.struct (k := 1 + (1 + (1 + (1)))) (e := fun p : I64 × I64 × I64 × I64 => [.v (.int .i64 p.1.1)] ++ ([.v (.int .i64 p.2.1.1)] ++ ([.v (.int .i64 p.2.2.1.1)] ++ ([.v (.int .i64 p.2.2.2.1)])))) Try.underlying116 (by kernel_rfl) ?_
  exact OpensF.cons' rfl oI rfl (OpensF.cons' rfl oI rfl (OpensF.cons' rfl oI rfl (OpensF.one' rfl oI rfl rfl rfl) rfl rfl) rfl rfl) rfl rfl
def eControl (p : I64 × I64 × I64) : List AV := [.v (.int .i64 p.1.1)] ++ ([.v (.int .i64 p.2.1.1)] ++ ([.v (.int .i64 p.2.2.1)]))
theorem oControl : Opens Try.prog 23 3 eControl := by
  refine Opens.struct (k := 1 + (1 + (1))) (e := fun p : I64 × I64 × I64 => [.v (.int .i64 p.1.1)] ++ ([.v (.int .i64 p.2.1.1)] ++ ([.v (.int .i64 p.2.2.1)]))) Try.underlying23 (by kernel_rfl) ?_
  exact OpensF.cons' rfl oI rfl (OpensF.cons' rfl oI rfl (OpensF.one' rfl oI rfl rfl rfl) rfl rfl) rfl rfl
theorem oInts : Opens Try.prog 61 1 (fun l : { l : List (I64) // l.length < 2 ^ 63 } => [.sl 1 (l.1.map (fun n : I64 => [.v (.int .i64 n.1)]))]) := Opens.slice Try.underlying61 (by kernel_rfl) (by decide) oI
def eCard (p : { l : List (I64) // l.length < 2 ^ 63 }) : List AV := [.sl 1 (p.1.map (fun n : I64 => [.v (.int .i64 n.1)]))]
theorem oCard : Opens Try.prog 120 1 eCard := by
  refine Opens.struct (k := 1) (e := fun p : { l : List (I64) // l.length < 2 ^ 63 } => [.sl 1 (p.1.map (fun n : I64 => [.v (.int .i64 n.1)]))]) Try.underlying120 (by kernel_rfl) ?_
  exact OpensF.one' rfl oInts rfl rfl rfl
theorem oTotals : Opens Try.prog 30 1 (fun l : { l : List (S63 × I64) // l.length < 2 ^ 63 } => [.sl 2 (l.1.map eTotal)]) := Opens.slice Try.underlying30 (by kernel_rfl) (by decide) oTotal
theorem oSteps : Opens Try.prog 47 1 (fun l : { l : List (I64 × I64 × I64 × I64 × (I64 × I64) × (I64 × I64) × S63) // l.length < 2 ^ 63 } => [.sl 9 (l.1.map eStep)]) := Opens.slice Try.underlying47 (by kernel_rfl) (by decide) oStep
theorem oFaults : Opens Try.prog 62 1 (fun l : { l : List (I64 × I64 × I64 × I64) // l.length < 2 ^ 63 } => [.sl 4 (l.1.map eFault)]) := Opens.slice Try.underlying62 (by kernel_rfl) (by decide) oFault
theorem oCards : Opens Try.prog 71 1 (fun l : { l : List ({ l : List (I64) // l.length < 2 ^ 63 }) // l.length < 2 ^ 63 } => [.sl 1 (l.1.map eCard)]) := Opens.slice Try.underlying71 (by kernel_rfl) (by decide) oCard
theorem E_map {α β : Type} {c : α → List AV} {g : β → α} (l : List β) : E c (l.map g) = l.map fun x => c (g x) := by simp [E]
end Go.Proofs.Ytaegnbfboeeijaa
