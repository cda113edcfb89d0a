/- Decks of samples: what the reference says, what the program says. -/
import Derived.Test.YtidbcoagjbbjdaaGreatDoorVsI
import Derived.Test.YtidbcoagjbbjdaaGreatDoorXuB
import Derived.Test.YtidbcoagjbbjdaaGreatDoorVtJ
set_option linter.all false
set_option maxHeartbeats 8000000
namespace Go.Proofs.YtidbcoagjbbjdaaGreatDoor
open Go.Vs
section
variable [Vs.Tab 0 Vs.powP]
attribute [local irreducible] Vs.Fn
def cC (c : List Int) : List AV := [.sl 1 (E cI c)]
def cD (d : List (List Int)) : List AV := [.sl 1 (E cC d)]
def cardB (c : List Int) : Bool := c.all (fun x => inB x 0 4095) && inB c.length 1 20
theorem l02Ok (c : List Int) (hc : c.length ≤ 1048576) : Fz F.s_l02Ok [.ro (cC c)] (.v (.bool (cardB c))) := by
 refine fn0 Cd.s_l02Ok_k fun X => ?_
 simp -dsimp only [go_sem, cC]
 refine LoopK.intro dM (fun i : { i : Nat // i ≤ c.length ∧ (c.take i).all (fun x => inB x 0 4095) = true } => ⟨[(0, .ro [.sl 1 (E cI c)]), (3, .v (.int .i64 i.1))], []⟩) (fun i => c.length - i.1) ⟨0, by simp⟩ ?_ ?_
 ·simp [Vs.LeL, Vs.look]
 ·rintro ⟨i, hi, hall⟩
  simp -dsimp only [go_sem]
  refine Br.mk (fun h1 => ?_) fun h1 => ?_
  ·have hlt : i < c.length := by simpa using h1
   have hw := wrap_succ hlt hc
   simp -dsimp only [go_sem, cI_get hlt]
   refine ⟨⟨by omega, by omega⟩, CallK.flat (l00In _ _ _) rfl ?_⟩
   simp -dsimp only [go_sem]
   refine Br.mk (fun h2 => ?_) fun h2 => ?_
   ·simp -dsimp only [go_sem]
    simp [cardB, not_all (p := fun x => inB x 0 4095) hlt (by simpa using h2)]
   ·simp -dsimp only [go_sem, hw]
    exact ⟨⟨i + 1, by omega, take_succ_all (p := fun x => inB x 0 4095) hlt hall (by simpa using h2)⟩, by simp [Vs.LeL, Vs.look], by simp only; omega⟩
  ·have hge : i = c.length := by
    have : ¬ i < c.length := by simpa using h1
    omega
   subst hge
   simp -dsimp only [go_sem]
   refine ⟨CallK.flat (l00In _ _ _) rfl ?_, by simp⟩
   simp -dsimp only [go_sem]
   have : c.all (fun x => inB x 0 4095) = true := by simpa using hall
   simp [cardB, this]
end
section
variable [Vs.Tab 0 Vs.powP]
attribute [local irreducible] Vs.Fn
def deckB (l : List (List Int)) : Bool := l.all (fun c => cardB c && decide (c.length = (l.getD 0 []).length)) && decide (l.length ≤ 40)
theorem l02Deck (l : List (List Int)) (hs : ∀ x, x ∈ l → x.length ≤ 1048576) (hl : l.length ≤ 1048576) : Fz F.s_l02Deck [.sl 1 (E cC l)] (.v (.bool (deckB l))) := by
 refine fn0 Cd.s_l02Deck_k fun X => ?_
 simp -dsimp only [go_sem]
 refine LoopK.intro dM (fun i : { i : Nat // i ≤ l.length ∧ (l.take i).all (fun c => cardB c && decide (c.length = (l.getD 0 []).length)) = true } => ⟨[(0, .sl 1 (E cC l)), (3, .v (.int .i64 i.1))], []⟩) (fun i => l.length - i.1) ⟨0, by simp⟩ ?_ ?_
 ·simp [Vs.LeL, Vs.look]
 ·rintro ⟨i, hi, hall⟩
  simp -dsimp only [go_sem]
  refine Br.mk (fun h1 => ?_) fun h1 => ?_
  ·have hlt : i < l.length := by simpa using h1
   have h0 : 0 < l.length := by omega
   have hw := wrap_succ hlt hl
   have g0 : l.getD 0 [] = l[0] := by simp [List.getD, h0]
   simp -dsimp only [go_sem]
   refine RgK.mk rfl ?_
   simp -dsimp only [go_sem, E_get hlt, E_get h0]
   refine ⟨⟨by omega, by omega⟩, CallK.flat (l02Ok l[i] (hs _ (List.getElem_mem hlt))) rfl ?_⟩
   simp -dsimp only [go_sem]
   refine Br.mk (fun h2 => ?_) fun h2 => ?_
   ·simp -dsimp only [go_sem, h2]
    have e : (cardB l[i] && decide (l[i].length = (l.getD 0 []).length)) = false := by simp at h2; simp [h2]
    have hf : deckB l = false := by rw [deckB, not_all (p := fun c => cardB c && decide (c.length = (l.getD 0 []).length)) hlt e]; rfl
    simp [hf]
   ·simp -dsimp only [go_sem, h2, E_get hlt, E_get h0, cC]
    refine ⟨⟨by omega, by omega⟩, by omega, ?_⟩
    refine Br.mk (fun h3 => ?_) fun h3 => ?_
    ·simp -dsimp only [go_sem]
     have e : (cardB l[i] && decide (l[i].length = (l.getD 0 []).length)) = false := by
      rw [g0]
      have : l[i].length ≠ l[0].length := by simp at h3; omega
      simp [this]
     have hf : deckB l = false := by rw [deckB, not_all (p := fun c => cardB c && decide (c.length = (l.getD 0 []).length)) hlt e]; rfl
     simp [hf]
    ·simp -dsimp only [go_sem, hw]
     have e : (cardB l[i] && decide (l[i].length = (l.getD 0 []).length)) = true := by
      rw [g0]
      have : l[i].length = l[0].length := by simp at h3; omega
      simp at h2
      simp [this, h2]
     exact ⟨⟨i + 1, by omega, take_succ_all (p := fun c => cardB c && decide (c.length = (l.getD 0 []).length)) hlt hall e⟩, by simp [Vs.LeL, Vs.look], by simp only; omega⟩
  ·have hge : i = l.length := by
    have : ¬ i < l.length := by simpa using h1
    omega
   subst hge
   simp -dsimp only [go_sem]
   have : l.all (fun c => cardB c && decide (c.length = (l.getD 0 []).length)) = true := by simpa using hall
   rw [deckB, this]
   simp only [Bool.true_and, Value.bool.injEq, AV.v.injEq]
   simp
   omega
theorem sizeI (l : List Int) : Fz F.i_size_int64_ [.sl 1 (E cI l)] (.v (.int .i64 l.length)) := by
 refine fn0 Cd.i_size_int64__k fun X => ?_
 repeat' first|simp -dsimp only [go_sem]|apply Br.mk<;>intro h<;>try simp -dsimp only[h]|refine aC ?_|fail
 all_goals (simp_all)
theorem columns (c : List Int) : Fz F._i_Card__columns [.agg (cC c)] (.v (.int .i64 c.length)) := by
 refine fn0 Cd._i_Card__columns_k fun X => ?_
 repeat' first|simp -dsimp only [go_sem, cC]|apply Br.mk<;>intro h<;>try simp -dsimp only[h]|refine CallK.c (by first|exact sizeI c) ?_|refine aC ?_|fail
 all_goals (simp_all)
theorem validCard1 (x : Int) : Fz F.i_ValidCard_1 [.v (.int .i64 x)] (.v (.bool (!inB x 0 4095))) := by
 refine fn0 Cd.i_ValidCard_1_k fun X => ?_
 repeat' first|simp -dsimp only [go_sem]|apply Br.mk<;>intro h<;>try simp -dsimp only[h]|refine CallK.c (by first|exact inside _ _ _) ?_|refine aC ?_|fail
 all_goals (simp_all)
theorem idxI (l : List Int) (hl : l.length ≤ 1048576) : Fz F.ixf_int64 [.sl 1 (E cI l), .fn F.i_ValidCard_1 []] (.v (.int .i64 (idxP (fun x => !inB x 0 4095) l))) :=
 ixI_fn Tryz.mixed Cd.ixf_int64_k.o Cd.ixf_int64_k.n Cd.ixf_int64_k.r rfl (fun x => !inB x 0 4095) F.i_ValidCard_1 [] rfl (fun x hx => validCard1 x) hl
theorem conI (l : List Int) (hl : l.length ≤ 1048576) : Fz F.ctf_int64 [.sl 1 (E cI l), .fn F.i_ValidCard_1 []] (.v (.bool (l.any (fun x => !inB x 0 4095)))) :=
 ct_fn Tryz.mixed (g := F.ixf_int64) Cd.ctf_int64_k.o Cd.ctf_int64_k.n Cd.ctf_int64_k.r rfl (fun x => !inB x 0 4095) F.i_ValidCard_1 [] rfl (idxI l hl)
theorem any_notI (l : List Int) (p : Int → Bool) : (!(l.any fun x => !p x)) = l.all p := by
 induction l with
 | nil => rfl
 | cons x r ih => simp only [List.any_cons, List.all_cons, Bool.not_or, Bool.not_not, ih]
theorem validCard (c : List Int) (hc : c.length ≤ 1048576) : Fz F.i_ValidCard [.agg (cC c)] (.v (.bool (cardB c))) := by
 refine fn0 Cd.i_ValidCard_k fun X => ?_
 repeat' first|simp -dsimp only [go_sem, cC]|apply Br.mk<;>intro h<;>try simp -dsimp only[h]|refine CallK.c (by first|exact columns c|exact inside _ _ _|exact conI c hc) ?_|refine aC ?_|fail
 all_goals (first | (refine ret_eq ?_; have e := any_notI c (fun x => inB x 0 4095); simp_all [cardB]; done) | (simp_all [cardB]; done))
end
end Go.Proofs.YtidbcoagjbbjdaaGreatDoor
