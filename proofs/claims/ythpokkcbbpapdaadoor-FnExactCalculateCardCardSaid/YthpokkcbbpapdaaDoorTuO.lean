/- How the arguments' types read. -/
import Derived.Test.YthpokkcbbpapdaaDoorTuA
import Derived.Test.YthpokkcbbpapdaaDoorDtF
namespace Go.Proofs.YthpokkcbbpapdaaDoor
open Go.Vs
set_option maxRecDepth 100000
abbrev S63 := { s : ByteArray // s.size < 2 ^ 63 }
theorem oI : Opens Tryd.prog 2 1 (fun n : I64 => [.v (.int .i64 n.1)]) := Opens.int Tryd.underlying2 (by kernel_rfl)
theorem oS : Opens Tryd.prog 9 1 (fun s : S63 => [.v (.string s.1)]) := Opens.string Tryd.underlying9 (by kernel_rfl)
def eField (p : I64 × I64) : List AV := [.v (.int .i64 p.1.1)] ++ ([.v (.int .i64 p.2.1)])
theorem oField : Opens Tryd.prog 24 2 eField := by
  refine Opens.struct (k := 1 + (1)) (e := fun p : I64 × I64 => [.v (.int .i64 p.1.1)] ++ ([.v (.int .i64 p.2.1)])) Tryd.underlying24 (by kernel_rfl) ?_
  exact OpensF.cons' rfl oI rfl (OpensF.one' rfl oI rfl rfl rfl) rfl rfl
def eTotal (p : S63 × I64) : List AV := [.v (.string p.1.1)] ++ ([.v (.int .i64 p.2.1)])
theorem oTotal : Opens Tryd.prog 119 2 eTotal := by
  refine Opens.struct (k := 1 + (1)) (e := fun p : S63 × I64 => [.v (.string p.1.1)] ++ ([.v (.int .i64 p.2.1)])) Tryd.underlying119 (by kernel_rfl) ?_
  exact OpensF.cons' rfl oS rfl (OpensF.one' rfl oI rfl rfl rfl) rfl rfl
def eSpec (p : (I64 × I64) × S63 × (I64 × I64) × (I64 × I64)) : List AV := eField p.1 ++ ([.v (.string p.2.1.1)] ++ (eField p.2.2.1 ++ (eField p.2.2.2)))
theorem oSpec : Opens Tryd.prog 62 7 eSpec := by
  refine Opens.struct (k := 2 + (1 + (2 + (2)))) (e := fun p : (I64 × I64) × S63 × (I64 × I64) × (I64 × I64) => eField p.1 ++ ([.v (.string p.2.1.1)] ++ (eField p.2.2.1 ++ (eField p.2.2.2)))) Tryd.underlying62 (by kernel_rfl) ?_
  exact OpensF.cons' rfl oField rfl (OpensF.cons' rfl oS rfl (OpensF.cons' rfl oField rfl (OpensF.one' rfl oField rfl rfl rfl) rfl rfl) rfl rfl) rfl rfl
def eStep (p : I64 × I64 × I64 × I64 × (I64 × I64) × (I64 × I64) × S63) : List AV := [.v (.int .i64 p.1.1)] ++ ([.v (.int .i64 p.2.1.1)] ++ ([.v (.int .i64 p.2.2.1.1)] ++ ([.v (.int .i64 p.2.2.2.1.1)] ++ (eField p.2.2.2.2.1 ++ (eField p.2.2.2.2.2.1 ++ ([.v (.string p.2.2.2.2.2.2.1)]))))))
theorem oStep : Opens Tryd.prog 77 9 eStep := by
  refine Opens.struct (k := 1 + (1 + (1 + (1 + (2 + (2 + (1))))))) (e := fun p : I64 × I64 × I64 × I64 × (I64 × I64) × (I64 × I64) × S63 => [.v (.int .i64 p.1.1)] ++ ([.v (.int .i64 p.2.1.1)] ++ ([.v (.int .i64 p.2.2.1.1)] ++ ([.v (.int .i64 p.2.2.2.1.1)] ++ (eField p.2.2.2.2.1 ++ (eField p.2.2.2.2.2.1 ++ ([.v (.string p.2.2.2.2.2.2.1)]))))))) Tryd.underlying77 (by kernel_rfl) ?_
  exact OpensF.cons' rfl oI rfl (OpensF.cons' rfl oI rfl (OpensF.cons' rfl oI rfl (OpensF.cons' rfl oI rfl (OpensF.cons' rfl oField rfl (OpensF.cons' rfl oField rfl (OpensF.one' rfl oS rfl rfl rfl) rfl rfl) rfl rfl) rfl rfl) rfl rfl) rfl rfl) rfl rfl
def eFault (p : I64 × I64 × I64 × I64) : List AV := [.v (.int .i64 p.1.1)] ++ ([.v (.int .i64 p.2.1.1)] ++ ([.v (.int .i64 p.2.2.1.1)] ++ ([.v (.int .i64 p.2.2.2.1)])))
theorem oFault : Opens Tryd.prog 56 4 eFault := by
  refine Opens.struct (k := 1 + (1 + (1 + (1)))) (e := fun p : I64 × I64 × I64 × I64 => [.v (.int .i64 p.1.1)] ++ ([.v (.int .i64 p.2.1.1)] ++ ([.v (.int .i64 p.2.2.1.1)] ++ ([.v (.int .i64 p.2.2.2.1)])))) Tryd.underlying56 (by kernel_rfl) ?_
  exact OpensF.cons' rfl oI rfl (OpensF.cons' rfl oI rfl (OpensF.cons' rfl oI rfl (OpensF.one' rfl oI rfl rfl rfl) rfl rfl) rfl rfl) rfl rfl
def eControl (p : I64 × I64 × I64) : List AV := [.v (.int .i64 p.1.1)] ++ ([.v (.int .i64 p.2.1.1)] ++ ([.v (.int .i64 p.2.2.1)]))
theorem oControl : Opens Tryd.prog 50 3 eControl := by
  refine Opens.struct (k := 1 + (1 + (1))) (e := fun p : I64 × I64 × I64 => [.v (.int .i64 p.1.1)] ++ ([.v (.int .i64 p.2.1.1)] ++ ([.v (.int .i64 p.2.2.1)]))) Tryd.underlying50 (by kernel_rfl) ?_
  exact OpensF.cons' rfl oI rfl (OpensF.cons' rfl oI rfl (OpensF.one' rfl oI rfl rfl rfl) rfl rfl) rfl rfl
theorem oInts : Opens Tryd.prog 34 1 (fun l : { l : List (I64) // l.length < 2 ^ 63 } => [.sl 1 (l.1.map (fun n : I64 => [.v (.int .i64 n.1)]))]) := Opens.slice Tryd.underlying34 (by kernel_rfl) (by decide) oI
def eCard (p : { l : List (I64) // l.length < 2 ^ 63 }) : List AV := [.sl 1 (p.1.map (fun n : I64 => [.v (.int .i64 n.1)]))]
theorem oCard : Opens Tryd.prog 36 1 eCard := by
  refine Opens.struct (k := 1) (e := fun p : { l : List (I64) // l.length < 2 ^ 63 } => [.sl 1 (p.1.map (fun n : I64 => [.v (.int .i64 n.1)]))]) Tryd.underlying36 (by kernel_rfl) ?_
  exact OpensF.one' rfl oInts rfl rfl rfl
theorem oTotals : Opens Tryd.prog 69 1 (fun l : { l : List (S63 × I64) // l.length < 2 ^ 63 } => [.sl 2 (l.1.map eTotal)]) := Opens.slice Tryd.underlying69 (by kernel_rfl) (by decide) oTotal
theorem oCards : Opens Tryd.prog 22 1 (fun l : { l : List ({ l : List (I64) // l.length < 2 ^ 63 }) // l.length < 2 ^ 63 } => [.sl 1 (l.1.map eCard)]) := Opens.slice Tryd.underlying22 (by kernel_rfl) (by decide) oCard
theorem E_map {α β : Type} {c : α → List AV} {g : β → α} (l : List β) : E c (l.map g) = l.map fun x => c (g x) := by simp [E]
end Go.Proofs.YthpokkcbbpapdaaDoor
