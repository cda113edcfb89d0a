/- Characters, fields, specifications and steps. -/
import Derived.Test.YtimcedhcefcbbaaDoorVsD
import Derived.Test.YtimcedhcefcbbaaDoorTuR
import Derived.Test.YtimcedhcefcbbaaDoorTuB
import Derived.Test.YtimcedhcefcbbaaDoorVtJ
set_option linter.all false
set_option maxHeartbeats 8000000
namespace Go.Proofs.YtimcedhcefcbbaaDoor
open Go.Vs
section
variable [Vs.Tab 0 Vs.powP]
attribute [local irreducible] Vs.Fn
theorem validDeck (l : List (List Int)) (hs : ∀ x, x ∈ l → x.length ≤ 1048576) (hl : l.length ≤ 1048576) : Vs.Fn Tryd.prog F.i_ValidDeck [] [.sl 1 (E cC l)] (.v (.bool (deckB l))) [] := by
 refine fn0 Cd.i_ValidDeck_k fun X => ?_
 simp -dsimp only [go_sem]
 refine LoopK.intro dM (fun i : { i : Nat // i ≤ l.length ∧ (l.take i).all (fun c => cardB c && decide (c.length = (l.getD 0 []).length)) = true } => ⟨[(0, .sl 1 (E cC l)), (5, .sl 1 (E cC l)), (6, .v (.int .i64 l.length)), (7, .v (.int .i64 i.1))], []⟩) (fun i => l.length - i.1) ⟨0, by simp⟩ ?_ ?_
 ·simp [Vs.LeL, Vs.look]
 ·rintro ⟨i, hi, hall⟩
  simp -dsimp only [go_sem]
  refine Br.mk (fun h1 => ?_) fun h1 => ?_
  ·have hlt : i < l.length := by simpa using h1
   have h0 : 0 < l.length := by omega
   have hw := wrap_succ hlt hl
   have g0 : l.getD 0 [] = l[0] := by simp [List.getD, h0]
   simp -dsimp only [go_sem, E_get hlt, E_get h0]
   refine ⟨⟨by omega, by omega⟩, by first | omega | decide | simp [cC], ?_⟩
   simp -dsimp only [go_sem, cC, E_get hlt]
   refine RgK.mk rfl ?_
   simp -dsimp only [go_sem, cC, E_get hlt]
   refine CallK.flat (validCard l[i] (hs _ (List.getElem_mem hlt))) rfl ?_
   simp -dsimp only [go_sem, cC, E_get hlt]
   refine Br.mk (fun h2 => ?_) fun h2 => ?_
   ·simp -dsimp only [go_sem, h2]
    have e : (cardB l[i] && decide (l[i].length = (l.getD 0 []).length)) = false := by simp at h2; simp [h2]
    have hf : deckB l = false := by rw [deckB, not_all (p := fun c => cardB c && decide (c.length = (l.getD 0 []).length)) hlt e]; rfl
    simp [hf]
   ·simp -dsimp only [go_sem, cC, h2, E_get hlt, E_get h0]
    refine CallK.flat (columns l[i]) rfl ?_
    simp -dsimp only [go_sem, cC, h2, E_get hlt, E_get h0]
    refine ⟨⟨by omega, by omega⟩, ?_⟩
    refine CallK.flat (columns l[0]) rfl ?_
    simp -dsimp only [go_sem, cC, h2, E_get hlt, E_get h0]
    refine Br.mk (fun h3 => ?_) fun h3 => ?_
    ·simp -dsimp only [go_sem]
     have e : (cardB l[i] && decide (l[i].length = (l.getD 0 []).length)) = false := by
      rw [g0]
      have : l[i].length ≠ l[0].length := by simp at h3; omega
      simp [this]
     have hf : deckB l = false := by rw [deckB, not_all (p := fun c => cardB c && decide (c.length = (l.getD 0 []).length)) hlt e]; rfl
     simp [hf]
    ·simp -dsimp only [go_sem, hw]
     have e : (cardB l[i] && decide (l[i].length = (l.getD 0 []).length)) = true := by
      rw [g0]
      have : l[i].length = l[0].length := by simp at h3; omega
      simp at h2
      simp [this, h2]
     exact ⟨⟨i + 1, by omega, take_succ_all (p := fun c => cardB c && decide (c.length = (l.getD 0 []).length)) hlt hall e⟩, by simp [Vs.LeL, Vs.look], by simp only; omega⟩
  ·have hge : i = l.length := by
    have : ¬ i < l.length := by simpa using h1
    omega
   subst hge
   simp -dsimp only [go_sem]
   have : l.all (fun c => cardB c && decide (c.length = (l.getD 0 []).length)) = true := by simpa using hall
   rw [deckB, this]
   simp only [Bool.true_and, Value.bool.injEq, AV.v.injEq]
   simp
   omega
theorem copyInts (l : List Int) (hl : l.length ≤ 1048576) : Vs.Fn Tryd.prog F.i_copyInts [] [.sl 1 (E cI l)] (.sl 1 (E cI l)) [] := by
 refine fn0 Cd.i_copyInts_k fun X => ?_
 simp -dsimp only [go_sem]
 exact ⟨by omega, rfl, ⟨rfl, by omega, by omega⟩, _, _, rfl, rfl⟩
theorem newCard (c : List Int) (hc : c.length ≤ 1048576) : Vs.Fn Tryd.prog F.i_newCard [] [.agg (cC c)] (.agg (cC c)) [] := by
 refine fn0 Cd.i_newCard_k fun X => ?_
 repeat' first|simp -dsimp only [go_sem, cC]|apply Br.mk<;>intro h<;>try simp -dsimp only[h]|refine CallK.c (by first|exact copyInts c hc) ?_|refine aC ?_|fail
 all_goals (exact ⟨_, _, rfl, rfl⟩)
end
section
variable [Vs.Tab 0 Vs.powP]
attribute [local irreducible] Vs.Fn
abbrev Tot := ByteArray × Int
theorem toField (a b : Int) : Vs.Fn Tryd.prog F.l_toField [] [.agg [.v (.int .i64 a), .v (.int .i64 b)]] (.agg [.v (.int .i64 a), .v (.int .i64 b)]) [] := by
 refine fn0 Cd.l_toField_k fun X => ?_
 repeat' first|simp -dsimp only [go_sem]|apply Br.mk<;>intro h<;>try simp -dsimp only[h]|refine aC ?_|fail
 all_goals (exact ⟨_, _, rfl, rfl⟩)
structure Stp where
 kind : Int
 a : Int
 b : Int
 to : Int
 f0 : Int
 f1 : Int
 s0 : Int
 s1 : Int
 text : ByteArray
end
section
variable [Vs.Tab 0 Vs.powP]
attribute [local irreducible] Vs.Fn
def fldB (a b w : Int) : Bool := decide (0 ≤ a) && (decide (a < b) && decide (b ≤ w))
def numB (a b w : Int) : Bool := fldB a b w && decide (W (b - a) ≤ 12)
theorem isField (a b w : Int) : Vs.Fn Tryd.prog F.i_isField [] [.agg [.v (.int .i64 a), .v (.int .i64 b)], .v (.int .i64 w)] (.v (.bool (fldB a b w))) [] := by
 refine fn0 Cd.i_isField_k fun X => ?_
 repeat' first|simp -dsimp only [go_sem]|apply Br.mk<;>intro h<;>try simp -dsimp only[h]|refine aC ?_|fail
 all_goals (first | (simp_all [fldB]; done) | (simp_all [fldB]; omega) | (refine ret_eq ?_; grind [fldB]))
theorem l02Field (a b w : Int) : Vs.Fn Tryd.prog F.s_l02Field [] [.agg [.v (.int .i64 a), .v (.int .i64 b)], .v (.int .i64 w)] (.v (.bool (fldB a b w))) [] := by
 refine fn0 Cd.s_l02Field_k fun X => ?_
 repeat' first|simp -dsimp only [go_sem]|apply Br.mk<;>intro h<;>try simp -dsimp only[h]|refine aC ?_|fail
 all_goals (first | (simp_all [fldB]; done) | (simp_all [fldB]; omega) | (refine ret_eq ?_; grind [fldB]))
theorem isNumberField (a b w : Int) : Vs.Fn Tryd.prog F.i_isNumberField [] [.agg [.v (.int .i64 a), .v (.int .i64 b)], .v (.int .i64 w)] (.v (.bool (numB a b w))) [] := by
 refine fn0 Cd.i_isNumberField_k fun X => ?_
 repeat' first|simp -dsimp only [go_sem]|apply Br.mk<;>intro h<;>try simp -dsimp only[h]|refine CallK.c (by first|exact isField _ _ _) ?_|refine aC ?_|fail
 all_goals (first | (simp_all [numB]; done) | (refine ret_eq ?_; grind [numB]))
structure Spc where
 w0 : Int
 w1 : Int
 text : ByteArray
 g0 : Int
 g1 : Int
 s0 : Int
 s1 : Int
end
end Go.Proofs.YtimcedhcefcbbaaDoor
