/- Decks of samples: what the reference says, what the program says. -/
import Derived.Test.YtimcedhcefcbbaaDoorVsD
import Derived.Test.YtimcedhcefcbbaaDoorTuB
import Derived.Test.YtimcedhcefcbbaaDoorVtJ
set_option linter.all false
set_option maxHeartbeats 8000000
namespace Go.Proofs.YtimcedhcefcbbaaDoor
open Go.Vs
section
variable [Vs.Tab 0 Vs.powP]
attribute [local irreducible] Vs.Fn
def cC (c : List Int) : List AV := [.sl 1 (E cI c)]
theorem szInt64S (l : List Int) (n : Int) : Vs.Fn Tryd.prog F.l_szInt64S [] [.sl 1 (E cI l), .v (.int .i64 n)] (.v (.int .i64 (szI l n))) [] :=
 szI_fn Tryd.mixed Cd.l_szInt64S_k.o Cd.l_szInt64S_k.n Cd.l_szInt64S_k.r rfl l n
theorem toInt64S {l : List Int} (hl : l.length ≤ 1048576) : Vs.Fn Tryd.prog F.l_toInt64S [] [.sl 1 (E cI l)] (.sl 1 (E cI l)) [] :=
 toI_fn Tryd.mixed Cd.l_toInt64S_k.o Cd.l_toInt64S_k.n Cd.l_toInt64S_k.r rfl hl
theorem eqInt64S {l : List Int} (hl : l.length ≤ 1048576) : Vs.Fn Tryd.prog F.l_eqInt64S [] [.sl 1 (E cI l), .sl 1 (E cI l)] (.v (.bool true)) [] :=
 eqI_fn Tryd.mixed Cd.l_eqInt64S_k.o Cd.l_eqInt64S_k.n Cd.l_eqInt64S_k.r rfl hl
theorem szI_neg {l : List Int} {n : Int} (h : szI l n < 0) : szI l n = -1 := by
 unfold szI at h ⊢
 split
 ·rfl
 ·rename_i h1; rw [if_neg h1] at h; exact absurd h h1
theorem szCard (c : List Int) (n : Int) : Vs.Fn Tryd.prog F.l_szCard [] [.agg (cC c), .v (.int .i64 n)] (.v (.int .i64 (szI c n))) [] := by
 refine fn0 Cd.l_szCard_k fun X => ?_
 repeat' first|simp -dsimp only [go_sem, cC]|apply Br.mk<;>intro h<;>try simp -dsimp only[h]|refine CallK.c (by first|exact szInt64S c _) ?_|refine aC ?_|fail
 all_goals (first | (simp_all [szI_neg]; done) | (refine ret_eq ?_; rw [szI_neg (by simpa using by assumption)]))
theorem szCardS (l : List (List Int)) (n : Int) (hs : ∀ x, x ∈ l → x.length < 2 ^ 63) (hl : l.length < 2 ^ 63) (hn : 0 ≤ n ∧ n ≤ 1048576) : Vs.Fn Tryd.prog F.l_szCardS [] [.sl 1 (E cC l), .v (.int .i64 n)] (.v (.int .i64 (szL szI l n))) [] :=
 szS_fn Tryd.mixed (k := 1) (c := cC) (g := F.l_szCard) Cd.l_szCardS_k.o Cd.l_szCardS_k.n Cd.l_szCardS_k.r rfl szI (fun _ => rfl) (fun _ => rfl) (fun x _ n _ _ => szCard x n) (fun x hx n h0 hn h => (szI_le (hs x hx) h0 hn h).1) n hl hn
theorem toCard (c : List Int) (hc : c.length ≤ 1048576) : Vs.Fn Tryd.prog F.l_toCard [] [.agg (cC c)] (.agg (cC c)) [] := by
 refine fn0 Cd.l_toCard_k fun X => ?_
 repeat' first|simp -dsimp only [go_sem, cC]|apply Br.mk<;>intro h<;>try simp -dsimp only[h]|refine CallK.c (by first|exact toInt64S hc) ?_|refine aC ?_|fail
 all_goals (exact ⟨_, _, rfl, rfl⟩)
theorem toCardS (l : List (List Int)) (hs : ∀ x, x ∈ l → x.length ≤ 1048576) (hl : l.length ≤ 1048576) : Vs.Fn Tryd.prog F.l_toCardS [] [.sl 1 (E cC l)] (.sl 1 (E cC l)) [] :=
 toS_fn Tryd.mixed (k := 1) (y := 24) (c := cC) (z := [.v (.slice none 0 0)]) (g := F.l_toCard) Cd.l_toCardS_k.o Cd.l_toCardS_k.n Cd.l_toCardS_k.r rfl (fun _ => rfl) (by omega) rfl rfl (fun _ => rfl) (fun x hx => toCard x (hs x hx)) hl (by omega)
theorem eqCard (c : List Int) (hc : c.length ≤ 1048576) : Vs.Fn Tryd.prog F.l_eqCard [] [.agg (cC c), .agg (cC c)] (.v (.bool true)) [] := by
 refine fn0 Cd.l_eqCard_k fun X => ?_
 repeat' first|simp -dsimp only [go_sem, cC]|apply Br.mk<;>intro h<;>try simp -dsimp only[h]|refine CallK.c (by first|exact eqInt64S hc) ?_|refine aC ?_|fail
 all_goals (simp_all)
theorem eqCardS (l : List (List Int)) (hs : ∀ x, x ∈ l → x.length ≤ 1048576) (hl : l.length ≤ 1048576) : Vs.Fn Tryd.prog F.l_eqCardS [] [.sl 1 (E cC l), .sl 1 (E cC l)] (.v (.bool true)) [] :=
 eqS_fn Tryd.mixed (k := 1) (c := cC) (g := F.l_eqCard) Cd.l_eqCardS_k.o Cd.l_eqCardS_k.n Cd.l_eqCardS_k.r rfl (fun _ => rfl) (fun _ => rfl) (fun x hx => eqCard x (hs x hx)) hl
def cardB (c : List Int) : Bool := c.all (fun x => inB x 0 4095) && inB c.length 1 20
theorem l02Ok (c : List Int) (hc : c.length ≤ 1048576) : Vs.Fn Tryd.prog F.s_l02Ok [] [.ro (cC c)] (.v (.bool (cardB c))) [] := by
 refine fn0 Cd.s_l02Ok_k fun X => ?_
 simp -dsimp only [go_sem, cC]
 refine LoopK.intro dM (fun i : { i : Nat // i ≤ c.length ∧ (c.take i).all (fun x => inB x 0 4095) = true } => ⟨[(0, .ro [.sl 1 (E cI c)]), (3, .v (.int .i64 i.1))], []⟩) (fun i => c.length - i.1) ⟨0, by simp⟩ ?_ ?_
 ·simp [Vs.LeL, Vs.look]
 ·rintro ⟨i, hi, hall⟩
  simp -dsimp only [go_sem]
  refine Br.mk (fun h1 => ?_) fun h1 => ?_
  ·have hlt : i < c.length := by simpa using h1
   have hw := wrap_succ hlt hc
   simp -dsimp only [go_sem, cI_get hlt]
   refine ⟨⟨by omega, by omega⟩, CallK.flat (l00In _ _ _) rfl ?_⟩
   simp -dsimp only [go_sem]
   refine Br.mk (fun h2 => ?_) fun h2 => ?_
   ·simp -dsimp only [go_sem]
    simp [cardB, not_all (p := fun x => inB x 0 4095) hlt (by simpa using h2)]
   ·simp -dsimp only [go_sem, hw]
    exact ⟨⟨i + 1, by omega, take_succ_all (p := fun x => inB x 0 4095) hlt hall (by simpa using h2)⟩, by simp [Vs.LeL, Vs.look], by simp only; omega⟩
  ·have hge : i = c.length := by
    have : ¬ i < c.length := by simpa using h1
    omega
   subst hge
   simp -dsimp only [go_sem]
   refine ⟨CallK.flat (l00In _ _ _) rfl ?_, by simp⟩
   simp -dsimp only [go_sem]
   have : c.all (fun x => inB x 0 4095) = true := by simpa using hall
   simp [cardB, this]
end
section
variable [Vs.Tab 0 Vs.powP]
attribute [local irreducible] Vs.Fn
def deckB (l : List (List Int)) : Bool := l.all (fun c => cardB c && decide (c.length = (l.getD 0 []).length)) && decide (l.length ≤ 40)
theorem l02Deck (l : List (List Int)) (hs : ∀ x, x ∈ l → x.length ≤ 1048576) (hl : l.length ≤ 1048576) : Vs.Fn Tryd.prog F.s_l02Deck [] [.sl 1 (E cC l)] (.v (.bool (deckB l))) [] := by
 refine fn0 Cd.s_l02Deck_k fun X => ?_
 simp -dsimp only [go_sem]
 refine LoopK.intro dM (fun i : { i : Nat // i ≤ l.length ∧ (l.take i).all (fun c => cardB c && decide (c.length = (l.getD 0 []).length)) = true } => ⟨[(0, .sl 1 (E cC l)), (3, .v (.int .i64 i.1))], []⟩) (fun i => l.length - i.1) ⟨0, by simp⟩ ?_ ?_
 ·simp [Vs.LeL, Vs.look]
 ·rintro ⟨i, hi, hall⟩
  simp -dsimp only [go_sem]
  refine Br.mk (fun h1 => ?_) fun h1 => ?_
  ·have hlt : i < l.length := by simpa using h1
   have h0 : 0 < l.length := by omega
   have hw := wrap_succ hlt hl
   have g0 : l.getD 0 [] = l[0] := by simp [List.getD, h0]
   simp -dsimp only [go_sem]
   refine RgK.mk rfl ?_
   simp -dsimp only [go_sem, E_get hlt, E_get h0]
   refine ⟨⟨by omega, by omega⟩, CallK.flat (l02Ok l[i] (hs _ (List.getElem_mem hlt))) rfl ?_⟩
   simp -dsimp only [go_sem]
   refine Br.mk (fun h2 => ?_) fun h2 => ?_
   ·simp -dsimp only [go_sem, h2]
    have e : (cardB l[i] && decide (l[i].length = (l.getD 0 []).length)) = false := by simp at h2; simp [h2]
    have hf : deckB l = false := by rw [deckB, not_all (p := fun c => cardB c && decide (c.length = (l.getD 0 []).length)) hlt e]; rfl
    simp [hf]
   ·simp -dsimp only [go_sem, h2, E_get hlt, E_get h0, cC]
    refine ⟨⟨by omega, by omega⟩, by omega, ?_⟩
    refine Br.mk (fun h3 => ?_) fun h3 => ?_
    ·simp -dsimp only [go_sem]
     have e : (cardB l[i] && decide (l[i].length = (l.getD 0 []).length)) = false := by
      rw [g0]
      have : l[i].length ≠ l[0].length := by simp at h3; omega
      simp [this]
     have hf : deckB l = false := by rw [deckB, not_all (p := fun c => cardB c && decide (c.length = (l.getD 0 []).length)) hlt e]; rfl
     simp [hf]
    ·simp -dsimp only [go_sem, hw]
     have e : (cardB l[i] && decide (l[i].length = (l.getD 0 []).length)) = true := by
      rw [g0]
      have : l[i].length = l[0].length := by simp at h3; omega
      simp at h2
      simp [this, h2]
     exact ⟨⟨i + 1, by omega, take_succ_all (p := fun c => cardB c && decide (c.length = (l.getD 0 []).length)) hlt hall e⟩, by simp [Vs.LeL, Vs.look], by simp only; omega⟩
  ·have hge : i = l.length := by
    have : ¬ i < l.length := by simpa using h1
    omega
   subst hge
   simp -dsimp only [go_sem]
   have : l.all (fun c => cardB c && decide (c.length = (l.getD 0 []).length)) = true := by simpa using hall
   rw [deckB, this]
   simp only [Bool.true_and, Value.bool.injEq, AV.v.injEq]
   simp
   omega
theorem sizeI (l : List Int) : Vs.Fn Tryd.prog F.i_size_int64_ [] [.sl 1 (E cI l)] (.v (.int .i64 l.length)) [] := by
 refine fn0 Cd.i_size_int64__k fun X => ?_
 repeat' first|simp -dsimp only [go_sem]|apply Br.mk<;>intro h<;>try simp -dsimp only[h]|refine aC ?_|fail
 all_goals (simp_all)
theorem columns (c : List Int) : Vs.Fn Tryd.prog F._i_Card__columns [] [.agg (cC c)] (.v (.int .i64 c.length)) [] := by
 refine fn0 Cd._i_Card__columns_k fun X => ?_
 repeat' first|simp -dsimp only [go_sem, cC]|apply Br.mk<;>intro h<;>try simp -dsimp only[h]|refine CallK.c (by first|exact sizeI c) ?_|refine aC ?_|fail
 all_goals (simp_all)
theorem validCard1 (x : Int) : Vs.Fn Tryd.prog F.i_ValidCard_1 [] [.v (.int .i64 x)] (.v (.bool (!inB x 0 4095))) [] := by
 refine fn0 Cd.i_ValidCard_1_k fun X => ?_
 repeat' first|simp -dsimp only [go_sem]|apply Br.mk<;>intro h<;>try simp -dsimp only[h]|refine CallK.c (by first|exact inside _ _ _) ?_|refine aC ?_|fail
 all_goals (simp_all)
theorem idxI (l : List Int) (hl : l.length ≤ 1048576) : Vs.Fn Tryd.prog F.ixf_int64 [] [.sl 1 (E cI l), .fn F.i_ValidCard_1 []] (.v (.int .i64 (idxP (fun x => !inB x 0 4095) l))) [] :=
 ixI_fn Tryd.mixed Cd.ixf_int64_k.o Cd.ixf_int64_k.n Cd.ixf_int64_k.r rfl (fun x => !inB x 0 4095) F.i_ValidCard_1 [] rfl (fun x hx => validCard1 x) hl
theorem conI (l : List Int) (hl : l.length ≤ 1048576) : Vs.Fn Tryd.prog F.ctf_int64 [] [.sl 1 (E cI l), .fn F.i_ValidCard_1 []] (.v (.bool (l.any (fun x => !inB x 0 4095)))) [] :=
 ct_fn Tryd.mixed (g := F.ixf_int64) Cd.ctf_int64_k.o Cd.ctf_int64_k.n Cd.ctf_int64_k.r rfl (fun x => !inB x 0 4095) F.i_ValidCard_1 [] rfl (idxI l hl)
theorem any_notI (l : List Int) (p : Int → Bool) : (!(l.any fun x => !p x)) = l.all p := by
 induction l with
 | nil => rfl
 | cons x r ih => simp only [List.any_cons, List.all_cons, Bool.not_or, Bool.not_not, ih]
theorem validCard (c : List Int) (hc : c.length ≤ 1048576) : Vs.Fn Tryd.prog F.i_ValidCard [] [.agg (cC c)] (.v (.bool (cardB c))) [] := by
 refine fn0 Cd.i_ValidCard_k fun X => ?_
 repeat' first|simp -dsimp only [go_sem, cC]|apply Br.mk<;>intro h<;>try simp -dsimp only[h]|refine CallK.c (by first|exact columns c|exact inside _ _ _|exact conI c hc) ?_|refine aC ?_|fail
 all_goals (first | (refine ret_eq ?_; have e := any_notI c (fun x => inB x 0 4095); simp_all [cardB]; done) | (simp_all [cardB]; done))
end
end Go.Proofs.YtimcedhcefcbbaaDoor
