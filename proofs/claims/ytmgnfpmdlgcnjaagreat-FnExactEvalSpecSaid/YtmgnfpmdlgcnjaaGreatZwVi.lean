/- A deck is read by a tabulator: the reference. -/
import Derived.Test.YtmgnfpmdlgcnjaaGreatZwVe
set_option linter.unusedSimpArgs false
set_option linter.unusedVariables false
set_option linter.unusedSectionVars false
set_option maxHeartbeats 8000000
namespace Go.Proofs.YtmgnfpmdlgcnjaaGreat
open Go.Vs
variable [Vs.Envs]
attribute [local irreducible] Vs.Fn grpTo numC keyC sumN keyL chOK areCh chTo chAt l03 chB rk cd3 chI stp stpTo
def numL (sf st : Int) (l : List (List Int)) : List Int := l.map fun c => (numC sf st c).1
theorem numL_len (sf st : Int) (l : List (List Int)) : (numL sf st l).length = l.length := by simp [numL]
theorem numL_row {sf st : Int} {l : List (List Int)} {i : Nat} (h : i < l.length) : E cRw ((numL sf st l).take i) ++ [[.sl 1 [[.v (.int .i64 (numC sf st l[i]).1)]]]] = E cRw ((numL sf st l).take (i + 1)) := by
 rw [take_succ (by rw [numL_len]; exact h), E_append]
 simp [numL, E, cRw]
def numsA (sf st : Int) (l : List (List Int)) (i : Nat) : AV := if i = 0 then .v (.slice none 0 0) else .loc (.t 84 0) 0 i
def numsH (sf st : Int) (l : List (List Int)) (i : Nat) : List (Vs.Name × Blk) := if i = 0 then [] else [(.t 84 0, .arr 1 (E cRw ((numL sf st l).take i)) false)]
def numsV (sf st : Int) (l : List (List Int)) (i : Nat) : AV := if i = 0 then .v (.slice none 0 0) else .sl 1 (E cRw ((numL sf st l).take i))
section
variable (l : List (List Int)) (fr to sf st : Int) (hk : smallC l) (hd : deckB l = true) (hf : fldB fr to (widB l) = true) (hn : numB sf st (widB l) = true)
include hk hd hf hn
theorem widB_in : inB (widB l) 1 20 = true := by
 have _ := hk; have _ := hf; have _ := hn
 by_cases h0 : l.length = 0
 ·unfold widB; rw [if_pos h0]; rfl
 ·have hd2 := hd
  simp only [deckB, Bool.and_eq_true, List.all_eq_true, decide_eq_true_eq] at hd2
  have hm : l.getD 0 [] ∈ l := by rw [show l.getD 0 [] = l[0]'(by omega) by simp [List.getD, (by omega : 0 < l.length)]]; exact List.getElem_mem _
  have := (hd2.1 _ hm).1
  simp only [cardB, inB, Bool.and_eq_true, decide_eq_true_eq] at this
  unfold widB
  rw [if_neg h0]
  simp only [inB, Bool.and_eq_true, decide_eq_true_eq]
  omega
theorem l13Read_ch (ha : allCh fr to l = false) : Fz F.s_l13Read [.ro [.v (.int .i64 fr), .v (.int .i64 to), .sl 2 [[.v (.int .i64 sf), .v (.int .i64 st)]], .v (.bool false)], .sl 1 (E cC l)] (.tup [.ro [.v (.slice none 0 0), .v (.slice none 0 0), .v (.slice none 0 0)], .v (.int .i64 8)]) := by
 have DK := l02Deck l hk.2 hk.1
 rw [hd] at DK
 have WD := l07Width l
 have OKS := l13Ok1 fr to sf st (widB l) (widB_in l fr to sf st hk hd hf hn) hf hn
 have KS := l07Keys l fr to hk.2 hk.1
 have hc : keyC fr to l = 8 := by simp only [keyC, hd, hf, ha]; rfl
 rw [show keyV fr to l = .v (.slice none 0 0) by simp [keyV, hc], hc] at KS
 refine fn0 CdV.l13Read_k fun X => ?_
 repeat' first
  |simp -dsimp only [go_sem, Int.reduceBEq, Int.reduceBNe, cC, cFd, E_len, List.replicate_succ, List.replicate_zero, List.flatten_cons, List.flatten_nil, List.cons_append, List.nil_append, List.set_cons_zero, List.set_cons_succ, List.length_cons, List.length_nil, List.length_set, List.getD_cons_zero]
  |refine Br.mk ?_ ?_<;>intro h<;>try simp -dsimp only[h]
  |refine CallK.c (by first|exact DK|exact WD|exact OKS|exact KS) ?_
  |refine and_c ?_
  |fail
 all_goals first | exact ⟨_, _, rfl, rfl⟩
attribute [local go_sem] Int.reduceBEq Int.reduceBNe cFd E_len List.replicate_succ List.replicate_zero List.flatten_cons List.flatten_nil List.cons_append List.nil_append List.set_cons_zero List.set_cons_succ List.length_cons List.length_nil List.length_set List.getD_cons_zero in
theorem l13Read_ok (ha : allCh fr to l = true) (hN : allN sf st l = true) : Fz F.s_l13Read [.ro [.v (.int .i64 fr), .v (.int .i64 to), .sl 2 [[.v (.int .i64 sf), .v (.int .i64 st)]], .v (.bool false)], .sl 1 (E cC l)] (.tup [.ro [.sl 1 (E cSt (keyL fr to l)), numsV sf st l l.length, .sl 1 (E cI (grpTo fr to l l.length))], .v (.int .i64 0)]) := by
 have DK := l02Deck l hk.2 hk.1
 rw [hd] at DK
 have WD := l07Width l
 have OKS := l13Ok1 fr to sf st (widB l) (widB_in l fr to sf st hk hd hf hn) hf hn
 have KS := l07Keys l fr to hk.2 hk.1
 have ho := okF_of hd hf
 have h40 := deck_40 hd
 have hc : keyC fr to l = 0 := by simp only [keyC, hd, hf, ha]; rfl
 rw [show keyV fr to l = .sl 1 (E cSt (keyL fr to l)) by simp [keyV, hc], hc] at KS
 have hp : ∀ c, c ∈ l → okP sf st c := okP_of hd hn
 have e1c : ∀ x : Int, E cI [x] = [[.v (.int .i64 x)]] := fun _ => rfl
 have hok : ∀ j, (h : j < l.length) → j < l.length → (numC sf st l[j]).2 = true := fun j h _ => List.all_eq_true.1 hN _ (List.getElem_mem h)
 have GR := l09Groups l fr to ho ha (by omega)
 have hgl := grpTo_len fr to l l.length
 refine fn0 CdV.l13Read_k fun X => ?_
 repeat' first
  |simp -dsimp only [go_sem, cC]
  |refine Br.mk ?_ ?_<;>intro h<;>try simp -dsimp only[h]
  |refine CallK.c (by first|exact DK|exact WD|exact OKS|exact KS) ?_
  |refine and_c ?_
  |fail
 refine LoopK.at (drawn_ok Tryz.mixed) (X := { j : Nat // j ≤ l.length }) (fun j => [(9, .v (.int .i64 (j.1 : Nat)))]) (fun j => (.t 15 0, .var [.v (.slice none 0 0), numsA sf st l j.1, .v (.slice none 0 0)] false) :: numsH sf st l j.1) (fun j => l.length - j.1) ⟨0, by omega⟩ ?_ ?_
 ·simp [Vs.LeL, Vs.look, Vs.hlook, Vs.sput, Vs.sputs, Vs.hset, Vs.hputs, numsA, numsH]
 ·rintro ⟨j, hj⟩
  try dsimp only at hj
  by_cases hjm : j < l.length
  ·have hlt : j < l.length := by omega
   have ht : decide ((j : Int) < (l.length : Int)) = true := decide_eq_true (by omega)
   have gj : (E cC l).getD j [] = [.sl 1 (E cI l[j])] := E_get hlt
   have PC := partC (hp _ (List.getElem_mem hlt))
   have NI := l03NumberC (hp _ (List.getElem_mem hlt))
   have hrow := numL_row (sf := sf) (st := st) hlt
   have hrl : (E cRw ((numL sf st l).take j)).length = j := by rw [E_len, List.length_take, numL_len]; omega
   have hrl2 : ((numL sf st l).take j).length = j := by rw [List.length_take, numL_len]; omega
   have hwj : IntKind.i64.wrap ((j : Int) + 1) = ((j + 1 : Nat) : Int) := by rw [wrap_in (by omega) (by omega)]; omega
   rw [hok j hlt hjm] at NI
   by_cases hj0 : j = 0
   ·have hA : numsA sf st l j = .v (.slice none 0 0) := by simp [numsA, hj0]
    have hH : numsH sf st l j = [] := by simp [numsH, hj0]
    have hr0 : E cRw ((numL sf st l).take j) = [] := by rw [hj0]; rfl
    have hrow0 : [[.sl 1 [[.v (.int .i64 (numC sf st l[j]).1)]]]] = E cRw ((numL sf st l).take (j + 1)) := by rw [← hrow, hr0]; rfl
    rw [hA, hH]
    repeat' first
     |simp -dsimp only [go_sem, ht, e1c, cC]
     |refine Br.mk ?_ ?_<;>intro h<;>try simp -dsimp only[h]
     |refine and_c ?_
     |fail
    refine LoopK.at (drawn_ok Tryz.mixed) (X := { zz : Nat × (Unit) // zz.1 ≤ 1 ∧ True }) (fun zz => [(10, .loc (.t 10 0) 0 zz.1.1), (42, .junk), (11, .v (.int .i64 zz.1.1))]) (fun zz => [(.t 10 0, .arr 1 (E cI ([(numC sf st l[j]).1].take zz.1.1)) false)]) (fun zz => 1 - zz.1.1) ⟨(0, ()), by omega, trivial⟩ ?_ ?_
    ·simp [Vs.LeL, Vs.look, Vs.hlook, Vs.sput, Vs.sputs, Vs.hset, Vs.hputs, Vs.E, cI]
    ·rintro ⟨⟨i, _⟩, hi, hg⟩
     dsimp only at hi hg
     simp -dsimp only [go_sem, cC]
     refine Br.mk (fun hc => ?_) fun hc => ?_
     ·have hlt : i < 1 := Dq
      have hw := wrap_succ hlt (by omega)
      obtain rfl : i = 0 := by omega
      repeat' first
       |simp -dsimp only [go_sem, gj, e1c, cC, hw]
       |refine Br.mk ?_ ?_<;>intro h<;>try simp -dsimp only[h]
       |refine CallK.c (by first|exact PC|exact NI) ?_
       |refine and_c ?_
       |fail
      all_goals first | omega | (exact nx (1, ()) trivial (h2 := by simp [Vs.LeL, Vs.look, Vs.hlook, Vs.sput, Vs.sputs, Vs.hset, Vs.hputs, Vs.E, cI]))
     ·have hge : i = 1 := by
       have : ¬ i < 1 := Dq
       omega
      subst hge
      simp -dsimp only [go_sem, cC]
      repeat' first
       |simp -dsimp only [go_sem, hwj, e1c, hrow, hrl, hrl2, ht, hrow0, cC]
       |refine Br.mk ?_ ?_<;>intro h<;>try simp -dsimp only[h]
       |refine And.intro ?_ (fun h => absurd rfl h)
       |refine and_c ?_
       |fail
      first | (exact ⟨⟨j + 1, by omega⟩, by simp [Vs.LeL, Vs.look, Vs.hlook, Vs.sput, Vs.sputs, Vs.hset, Vs.hputs, numsA, numsH, hrow, Vs.E, hj0], by simp only; omega⟩)
   ·have hA : numsA sf st l j = .loc (.t 84 0) 0 j := by simp [numsA, hj0]
    have hH : numsH sf st l j = [(.t 84 0, .arr 1 (E cRw ((numL sf st l).take j)) false)] := by simp [numsH, hj0]
    rw [hA, hH]
    repeat' first
     |simp -dsimp only [go_sem, ht, e1c, cC]
     |refine Br.mk ?_ ?_<;>intro h<;>try simp -dsimp only[h]
     |refine and_c ?_
     |fail
    refine LoopK.at (drawn_ok Tryz.mixed) (X := { zz : Nat × (Unit) // zz.1 ≤ 1 ∧ True }) (fun zz => [(10, .loc (.t 10 0) 0 zz.1.1), (42, .junk), (11, .v (.int .i64 zz.1.1))]) (fun zz => [(.t 10 0, .arr 1 (E cI ([(numC sf st l[j]).1].take zz.1.1)) false)]) (fun zz => 1 - zz.1.1) ⟨(0, ()), by omega, trivial⟩ ?_ ?_
    ·simp [Vs.LeL, Vs.look, Vs.hlook, Vs.sput, Vs.sputs, Vs.hset, Vs.hputs, Vs.E, cI]
    ·rintro ⟨⟨i, _⟩, hi, hg⟩
     dsimp only at hi hg
     simp -dsimp only [go_sem, cC]
     refine Br.mk (fun hc => ?_) fun hc => ?_
     ·have hlt : i < 1 := Dq
      have hw := wrap_succ hlt (by omega)
      obtain rfl : i = 0 := by omega
      repeat' first
       |simp -dsimp only [go_sem, gj, e1c, cC, hw]
       |refine Br.mk ?_ ?_<;>intro h<;>try simp -dsimp only[h]
       |refine CallK.c (by first|exact PC|exact NI) ?_
       |refine and_c ?_
       |fail
      all_goals first | omega | (exact nx (1, ()) trivial (h2 := by simp [Vs.LeL, Vs.look, Vs.hlook, Vs.sput, Vs.sputs, Vs.hset, Vs.hputs, Vs.E, cI]))
     ·have hge : i = 1 := by
       have : ¬ i < 1 := Dq
       omega
      subst hge
      simp -dsimp only [go_sem, cC]
      repeat' first
       |simp -dsimp only [go_sem, hwj, e1c, hrow, hrl, hrl2, ht, cC]
       |refine Br.mk ?_ ?_<;>intro h<;>try simp -dsimp only[h]
       |refine And.intro ?_ (fun h => absurd rfl h)
       |refine and_c ?_
       |fail
      first | (exact ⟨⟨j + 1, by omega⟩, by simp [Vs.LeL, Vs.look, Vs.hlook, Vs.sput, Vs.sputs, Vs.hset, Vs.hputs, numsA, numsH, hrow, Vs.E], by simp only; omega⟩)
  ·obtain rfl : j = l.length := by omega
   have ht : decide ((l.length : Int) < (l.length : Int)) = false := by simp
   by_cases hj0 : l.length = 0
   ·have hA : numsA sf st l l.length = .v (.slice none 0 0) := by simp [numsA, hj0]
    have hH : numsH sf st l l.length = [] := by simp [numsH, hj0]
    rw [hA, hH, show numsV sf st l l.length = .v (.slice none 0 0) by simp [numsV, hj0]]
    repeat' first
     |simp -dsimp only [go_sem, ht, cC]
     |refine Br.mk ?_ ?_<;>intro h<;>try simp -dsimp only[h]
     |refine CallK.c (by first|exact GR) ?_
     |refine And.intro ?_ (fun h => absurd rfl h)
     |refine and_c ?_
     |fail
    all_goals first | exact ⟨⟨_, _, rfl, rfl⟩, fun h => h rfl⟩ | exact ⟨_, _, rfl, rfl⟩
   ·have hA : numsA sf st l l.length = .loc (.t 84 0) 0 l.length := by simp [numsA, hj0]
    have hH : numsH sf st l l.length = [(.t 84 0, .arr 1 (E cRw ((numL sf st l).take l.length)) false)] := by simp [numsH, hj0]
    rw [hA, hH, show numsV sf st l l.length = .sl 1 (E cRw ((numL sf st l).take l.length)) by simp [numsV, hj0]]
    have htk : (E cRw ((numL sf st l).take l.length)).take l.length = E cRw ((numL sf st l).take l.length) := List.take_of_length_le (by rw [E_len, List.length_take, numL_len]; omega)
    simp -dsimp only [go_sem, ht, cC]
    repeat' first
     |simp -dsimp only [go_sem, ht, htk, cC]
     |refine Br.mk ?_ ?_<;>intro h<;>try simp -dsimp only[h]
     |refine CallK.c (by first|exact GR) ?_
     |refine And.intro ?_ (fun h => absurd rfl h)
     |refine and_c ?_
     |fail
    all_goals first | exact ⟨⟨_, _, rfl, rfl⟩, fun h => h rfl⟩ | exact ⟨_, _, rfl, rfl⟩
end
end Go.Proofs.YtmgnfpmdlgcnjaaGreat
