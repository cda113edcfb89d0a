/- How the arguments' types read. -/
import Derived.Test.YthpokkcbbpapdaaYuA
import Derived.Test.YthpokkcbbpapdaaVtF
namespace Go.Proofs.Ythpokkcbbpapdaa
open Go.Vs
set_option maxRecDepth 100000
abbrev S63 := { s : ByteArray // s.size < 2 ^ 63 }
theorem oI : Opens Try.prog 2 1 (fun n : I64 => [.v (.int .i64 n.1)]) := Opens.int Try.underlying2 (by kernel_rfl)
theorem oS : Opens Try.prog 9 1 (fun s : S63 => [.v (.string s.1)]) := Opens.string Try.underlying9 (by kernel_rfl)
def eField (p : I64 × I64) : List AV := [.v (.int .i64 p.1.1)] ++ ([.v (.int .i64 p.2.1)])
theorem oField : Opens Try.prog 36 2 eField := by
  refine Opens.struct (k := 1 + (1)) (e := fun p : I64 × I64 => [.v (.int .i64 p.1.1)] ++ ([.v (.int .i64 p.2.1)])) Try.underlying36 (by kernel_rfl) ?_
  exact OpensF.cons' rfl oI rfl (OpensF.one' rfl oI rfl rfl rfl) rfl rfl
def eSpec (p : (I64 × I64) × S63 × (I64 × I64) × (I64 × I64)) : List AV := eField p.1 ++ ([.v (.string p.2.1.1)] ++ (eField p.2.2.1 ++ (eField p.2.2.2)))
theorem oSpec : Opens Try.prog 38 7 eSpec := by
  refine Opens.struct (k := 2 + (1 + (2 + (2)))) (e := fun p : (I64 × I64) × S63 × (I64 × I64) × (I64 × I64) => eField p.1 ++ ([.v (.string p.2.1.1)] ++ (eField p.2.2.1 ++ (eField p.2.2.2)))) Try.underlying38 (by kernel_rfl) ?_
  exact OpensF.cons' rfl oField rfl (OpensF.cons' rfl oS rfl (OpensF.cons' rfl oField rfl (OpensF.one' rfl oField rfl rfl rfl) rfl rfl) rfl rfl) rfl rfl
def eStep (p : I64 × I64 × I64 × I64 × (I64 × I64) × (I64 × I64) × S63) : List AV := [.v (.int .i64 p.1.1)] ++ ([.v (.int .i64 p.2.1.1)] ++ ([.v (.int .i64 p.2.2.1.1)] ++ ([.v (.int .i64 p.2.2.2.1.1)] ++ (eField p.2.2.2.2.1 ++ (eField p.2.2.2.2.2.1 ++ ([.v (.string p.2.2.2.2.2.2.1)]))))))
theorem oStep : Opens Try.prog 73 9 eStep := by
  refine Opens.struct (k := 1 + (1 + (1 + (1 + (2 + (2 + (1))))))) (e := fun p : I64 × I64 × I64 × I64 × (I64 × I64) × (I64 × I64) × S63 => [.v (.int .i64 p.1.1)] ++ ([.v (.int .i64 p.2.1.1)] ++ ([.v (.int .i64 p.2.2.1.1)] ++ ([.v (.int .i64 p.2.2.2.1.1)] ++ (eField p.2.2.2.2.1 ++ (eField p.2.2.2.2.2.1 ++ ([.v (.string p.2.2.2.2.2.2.1)]))))))) Try.underlying73 (by kernel_rfl) ?_
  exact OpensF.cons' rfl oI rfl (OpensF.cons' rfl oI rfl (OpensF.cons' rfl oI rfl (OpensF.cons' rfl oI rfl (OpensF.cons' rfl oField rfl (OpensF.cons' rfl oField rfl (OpensF.one' rfl oS rfl rfl rfl) rfl rfl) rfl rfl) rfl rfl) rfl rfl) rfl rfl) rfl rfl
def eFault (p : I64 × I64 × I64 × I64) : List AV := [.v (.int .i64 p.1.1)] ++ ([.v (.int .i64 p.2.1.1)] ++ ([.v (.int .i64 p.2.2.1.1)] ++ ([.v (.int .i64 p.2.2.2.1)])))
theorem oFault : Opens Try.prog 60 4 eFault := by
  refine Opens.struct (k := 1 + (1 + (1 + (1)))) (e := fun p : I64 × I64 × I64 × I64 => [.v (.int .i64 p.1.1)] ++ ([.v (.int .i64 p.2.1.1)] ++ ([.v (.int .i64 p.2.2.1.1)] ++ ([.v (.int .i64 p.2.2.2.1)])))) Try.underlying60 (by kernel_rfl) ?_
  exact OpensF.cons' rfl oI rfl (OpensF.cons' rfl oI rfl (OpensF.cons' rfl oI rfl (OpensF.one' rfl oI rfl rfl rfl) rfl rfl) rfl rfl) rfl rfl
theorem oInts : Opens Try.prog 22 1 (fun l : { l : List (I64) // l.length < 2 ^ 63 } => [.sl 1 (l.1.map (fun n : I64 => [.v (.int .i64 n.1)]))]) := Opens.slice Try.underlying22 (by kernel_rfl) (by decide) oI
theorem oSteps : Opens Try.prog 50 1 (fun l : { l : List (I64 × I64 × I64 × I64 × (I64 × I64) × (I64 × I64) × S63) // l.length < 2 ^ 63 } => [.sl 9 (l.1.map eStep)]) := Opens.slice Try.underlying50 (by kernel_rfl) (by decide) oStep
theorem oFaults : Opens Try.prog 23 1 (fun l : { l : List (I64 × I64 × I64 × I64) // l.length < 2 ^ 63 } => [.sl 4 (l.1.map eFault)]) := Opens.slice Try.underlying23 (by kernel_rfl) (by decide) oFault
theorem E_map {α β : Type} {c : α → List AV} {g : β → α} (l : List β) : E c (l.map g) = l.map fun x => c (g x) := by simp [E]
end Go.Proofs.Ythpokkcbbpapdaa
