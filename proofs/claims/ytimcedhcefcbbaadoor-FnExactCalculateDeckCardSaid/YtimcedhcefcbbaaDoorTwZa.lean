/- A card's calculation. -/
import Derived.Test.YtimcedhcefcbbaaDoorVsD
import Derived.Test.YtimcedhcefcbbaaDoorTwX
set_option linter.all false
set_option maxHeartbeats 8000000
namespace Go.Proofs.YtimcedhcefcbbaaDoor
open Go.Vs
section
variable [Vs.Tab 0 Vs.powP]
attribute [local irreducible] Vs.Fn
def cPf (p : Int × Int) : List AV := cFd p.1 p.2
def allP (fs : List (Int × Int)) (w : Int) : Bool := fs.all fun p : Int × Int => numB p.1 p.2 w
theorem l14Fields (fs : List (Int × Int)) (w : Int) (hl : fs.length ≤ 1048576) : Vs.Fn Tryd.prog F.s_l14Fields [] [.sl 2 (E cPf fs), .v (.int .i64 w)] (.v (.bool (allP fs w))) [] := by
 refine fn0 Cd.s_l14Fields_k fun X => ?_
 simp -dsimp only [go_sem]
 refine LoopK.at dM (X := { zz : Nat × (Unit) // zz.1 ≤ fs.length ∧ (fs.take zz.1).all (fun p : Int × Int => numB p.1 p.2 w) = true }) (fun zz => [(5, .v (.int .i64 zz.1.1))]) (fun zz => []) (fun zz => fs.length - zz.1.1) ⟨(0, ()), by omega, by simp⟩ ?_ ?_
 ·exact le0
 ·rintro ⟨⟨i, _⟩, hi, hg⟩
  dsimp only at hi hg
  simp -dsimp only [go_sem]
  refine Br.mk (fun hc => ?_) fun hc => ?_
  ·have hlt : i < fs.length := Dq
   have hw := wrap_succ hlt hl
   have hg2 : (E cPf fs).getD i [] = [.v (.int .i64 fs[i].1), .v (.int .i64 fs[i].2)] := E_get hlt
   have hf := l02Field fs[i].1 fs[i].2 w
   cases h1 : fldB fs[i].1 fs[i].2 w
   ·have e : numB fs[i].1 fs[i].2 w = false := by simp [numB, h1]
    repeat' first|simp -dsimp only [go_sem, hg2, hw, h1]|apply Br.mk<;>intro h<;>try simp -dsimp only[h]|refine CallK.c (by first|exact hf) ?_|refine aC ?_|fail
    all_goals simp [allP, not_all (p := fun p : Int × Int => numB p.1 p.2 w) hlt e]
   ·by_cases h2 : W (fs[i].2 - fs[i].1) ≤ 12
    ·have e : numB fs[i].1 fs[i].2 w = true := by simp [numB, h1, h2]
     have e2 : decide (IntKind.i64.wrap (fs[i].2 - fs[i].1) > 12) = false := by simp; exact h2
     repeat' first|simp -dsimp only [go_sem, hg2, hw, h1, e2]|apply Br.mk<;>intro h<;>try simp -dsimp only[h]|refine CallK.c (by first|exact hf) ?_|refine aC ?_|fail
     all_goals (exact nx (i + 1, ()) (take_succ_all (p := fun p : Int × Int => numB p.1 p.2 w) hlt hg e))
    ·have e : numB fs[i].1 fs[i].2 w = false := by simp [numB, h1, h2]
     have e2 : decide (IntKind.i64.wrap (fs[i].2 - fs[i].1) > 12) = true := by simp; exact Int.not_le.1 h2
     repeat' first|simp -dsimp only [go_sem, hg2, hw, h1, e2]|apply Br.mk<;>intro h<;>try simp -dsimp only[h]|refine CallK.c (by first|exact hf) ?_|refine aC ?_|fail
     all_goals simp [allP, not_all (p := fun p : Int × Int => numB p.1 p.2 w) hlt e]
  ·have hge : i = fs.length := by
    have : ¬ i < fs.length := Dq
    omega
   subst hge
   simp -dsimp only [go_sem]
   have : fs.all (fun p : Int × Int => numB p.1 p.2 w) = true := by simpa using hg
   simp [allP, this]
end
section
variable [Vs.Tab 0 Vs.powP]
attribute [local irreducible] Vs.Fn
theorem calcCode1 (p : Int × Int) (w : Int) : Vs.Fn Tryd.prog F.i_calcCode_1 [] [.agg (cPf p), .ro [.v (.int .i64 w)]] (.v (.bool (!numB p.1 p.2 w))) [] := by
 refine fn0 Cd.i_calcCode_1_k fun X => ?_
 repeat' first|simp -dsimp only [go_sem, cPf, cFd]|apply Br.mk<;>intro h<;>try simp -dsimp only[h]|refine CallK.c (by first|exact isNumberField p.1 p.2 w) ?_|refine aC ?_|fail
 all_goals (simp_all)
theorem idxF (fs : List (Int × Int)) (w : Int) (hl : fs.length ≤ 1048576) : Vs.Fn Tryd.prog F.ixf_Field [] [.sl 2 (E cPf fs), .fn F.i_calcCode_1 [.ro [.v (.int .i64 w)]]] (.v (.int .i64 (idxP (fun p : Int × Int => !numB p.1 p.2 w) fs))) [] :=
 ixA_fn Tryd.mixed (k := 2) Cd.ixf_Field_k.o Cd.ixf_Field_k.n Cd.ixf_Field_k.r rfl (fun p : Int × Int => !numB p.1 p.2 w) F.i_calcCode_1 [.ro [.v (.int .i64 w)]] rfl (fun _ => rfl) (fun _ => rfl) (fun x hx => calcCode1 x w) hl
theorem conF (fs : List (Int × Int)) (w : Int) (hl : fs.length ≤ 1048576) : Vs.Fn Tryd.prog F.ctf_Field [] [.sl 2 (E cPf fs), .fn F.i_calcCode_1 [.ro [.v (.int .i64 w)]]] (.v (.bool (fs.any (fun p : Int × Int => !numB p.1 p.2 w)))) [] :=
 ct_fn Tryd.mixed (g := F.ixf_Field) Cd.ctf_Field_k.o Cd.ctf_Field_k.n Cd.ctf_Field_k.r rfl (fun p : Int × Int => !numB p.1 p.2 w) F.i_calcCode_1 [.ro [.v (.int .i64 w)]] rfl (idxF fs w hl)
theorem any_notP (l : List (Int × Int)) (p : Int × Int → Bool) : (l.any fun x => !p x) = !(l.all p) := by
 induction l with
 | nil => rfl
 | cons x r ih => simp only [List.any_cons, List.all_cons, ih, Bool.not_and]
theorem calcCode (k w : Int) (fs : List (Int × Int)) (hl : fs.length ≤ 1048576) : Vs.Fn Tryd.prog F.i_calcCode [] [.v (.int .i64 k), .v (.int .i64 w), .sl 2 (E cPf fs)] (.v (.int .i64 (if inB k 1 4 && allP fs w then 0 else 2))) [] := by
 have hany : (fs.any fun p : Int × Int => !numB p.1 p.2 w) = !allP fs w := any_notP fs (fun p : Int × Int => numB p.1 p.2 w)
 refine fn0 Cd.i_calcCode_k fun X => ?_
 repeat' first|simp -dsimp only [go_sem, hany]|apply Br.mk<;>intro h<;>try simp -dsimp only[h]|refine CallK.c (by first|exact isCalc k|exact conF fs w hl) ?_|refine aC ?_|fail
 all_goals (clear hany; simp_all)
end
section
variable [Vs.Tab 0 Vs.powP]
attribute [local irreducible] Vs.Fn
def calR (k : Int) (p q : Int × Int) (c : List Int) : Int × Int × Int :=
 if (numC p.1 p.2 c).2 && (numC q.1 q.2 c).2 then calT k (numC p.1 p.2 c).1 (numC q.1 q.2 c).1 else (0, 0, 8)
def rdT (p q : Int × Int) (c : List Int) : Int × Int × Int :=
 if (numC p.1 p.2 c).2 && (numC q.1 q.2 c).2 then ((numC p.1 p.2 c).1, (numC q.1 q.2 c).1, 0) else (0, 0, 8)
theorem l14Read (p q : Int × Int) (c : List Int) (hp : okP p.1 p.2 c) (hq : okP q.1 q.2 c) : Vs.Fn Tryd.prog F.s_l14Read [] [.ro (cC c), .agg (cPf p), .agg (cPf q)] (.tup (cT3 (rdT p q c))) [] := by
 refine fn0 Cd.s_l14Read_k fun X => ?_
 repeat' first|simp -dsimp only [go_sem, cPf, cFd, cT3, cC]|apply Br.mk<;>intro h<;>try simp -dsimp only[h]|refine CallK.c (by first|exact partC hp|exact partC hq|exact l03NumberC hp|exact l03NumberC hq) ?_|refine aC ?_|fail
 all_goals (simp_all [rdT, cT3])
theorem calculated (k : Int) (hk : inB k 1 4 = true) (p q : Int × Int) (c : List Int) (hp : okP p.1 p.2 c) (hq : okP q.1 q.2 c) : Vs.Fn Tryd.prog F.i_calculated [] [.v (.int .i64 k), .agg (cC c), .agg (cPf p), .agg (cPf q)] (.tup (cT3 (calR k p q c))) [] := by
 refine fn0 Cd.i_calculated_k fun X => ?_
 repeat' first|simp -dsimp only [go_sem, cPf, cFd, cT3, cC]|apply Br.mk<;>intro h<;>try simp -dsimp only[h]|refine CallK.c (by first|exact numberInC hp|exact numberInC hq|exact calculate k _ _ hk) ?_|refine aC ?_|fail
 all_goals (simp_all [calR, cT3])
end
end Go.Proofs.YtimcedhcefcbbaaDoor
