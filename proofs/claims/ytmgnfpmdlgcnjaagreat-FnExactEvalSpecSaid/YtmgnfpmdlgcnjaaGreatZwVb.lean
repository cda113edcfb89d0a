/- Cards of a text are selected: the reference's way. -/
import Derived.Test.YtmgnfpmdlgcnjaaGreatZwSy
set_option linter.unusedSimpArgs false
set_option linter.unusedVariables false
set_option linter.unusedSectionVars false
set_option maxHeartbeats 8000000
namespace Go.Proofs.YtmgnfpmdlgcnjaaGreat
open Go.Vs
variable [Vs.Envs]
attribute [local irreducible] Vs.Fn pun cmT flt zR offT chOK areCh chTo chAt l03 chB rk cd3 chI stp stpTo
def askV (fr to : Int) (s : ByteArray) (l : List (List Int)) : AV := if selC fr to s l = 0 then .sl 1 (E cSt (keyL fr to l)) else .v (.slice none 0 0)
theorem l09_in (s : ByteArray) (a b : Int) : l09 s a b = 2 ∨ l09 s a b = 0 ∨ l09 s a b = 7 := by
 unfold l09
 split
 ·exact .inl rfl
 ·split
  ·exact .inr (.inl rfl)
  ·exact .inr (.inr rfl)
theorem keyC_in (fr to : Int) (l : List (List Int)) : keyC fr to l = 0 ∨ keyC fr to l = 8 ∨ keyC fr to l = 1 ∨ keyC fr to l = 2 := by
 unfold keyC
 split
 ·split
  ·split <;> simp
  ·simp
 ·simp
attribute [local go_sem] Int.reduceBEq Int.reduceBNe List.replicate_succ List.replicate_zero List.flatten_cons List.flatten_nil List.cons_append List.nil_append List.set_cons_zero List.set_cons_succ List.length_cons List.length_nil List.length_set in
theorem l09Ask (l : List (List Int)) (fr to : Int) (s : ByteArray) (hk : smallC l) (hz : s.size ≤ 1048576) : Fz F.s_l09Ask [.sl 1 (E cC l), .agg (cFd fr to), .sl 1 [[.v (.string s)]]] (.tup [askV fr to s l, .v (.int .i64 (selC fr to s l))]) := by
 have KS := l07Keys l fr to hk.2 hk.1
 have TX := l09Text s fr to hz
 have hsc := selC_eq (fr := fr) (to := to) (s := s) (l := l)
 unfold askV
 rcases keyC_in fr to l with hc | hc | hc | hc
 ·rcases l09_in s fr to with hb | hb | hb
  ·rw [show keyV fr to l = .sl 1 (E cSt (keyL fr to l)) by simp [keyV, hc], hc] at KS
   have hs0 : selC fr to s l = 2 := by rw [hsc]; simp [hc, hb]
   rw [hb] at TX
   rw [hs0]
   simp only [if_true, if_false, Int.reduceEq]
   refine fn0 Cd.s_l09Ask_k fun X => ?_
   repeat' first
    |simp -dsimp only [go_sem, cC, cFd]
    |refine Br.mk ?_ ?_<;>intro h<;>try simp -dsimp only[h]
    |refine CallK.c (by first|exact KS|exact TX) ?_
    |refine and_c ?_
    |fail
   refine LoopK.at (drawn_ok Tryz.mixed) (X := { zz : Nat × (Unit) // zz.1 ≤ 1 ∧ True }) (fun zz => [(10, .v (.int .i64 (if zz.1.1 = 0 then 0 else 2))), (11, .v (.int .i64 zz.1.1))]) (fun zz => []) (fun zz => 1 - zz.1.1) ⟨(0, ()), by omega, trivial⟩ ?_ ?_
   ·exact le0
   ·rintro ⟨⟨i, _⟩, hi, hg⟩
    dsimp only at hi hg
    simp -dsimp only [go_sem, cC, cFd]
    refine Br.mk (fun hc => ?_) fun hc => ?_
    ·have hlt : i < 1 := Dq
     have hw := wrap_succ hlt (by omega)
     obtain rfl : i = 0 := by omega
     repeat' first
      |simp -dsimp only [go_sem, cC, cFd, hw]
      |refine Br.mk ?_ ?_<;>intro h<;>try simp -dsimp only[h]
      |refine CallK.c (by first|exact TX) ?_
      |refine and_c ?_
      |fail
     all_goals first | exact fun _ => ⟨⟨_, _, rfl, rfl⟩, fun h => h rfl⟩ | omega | exact ⟨_, _, rfl, rfl⟩ | exact ⟨⟨_, _, rfl, rfl⟩, fun h => h rfl⟩ | exact ⟨fun _ => ⟨_, _, rfl, rfl⟩, fun h => absurd rfl h⟩ | (exact nx (1, ()) trivial)
    ·have hge : i = 1 := by
      have : ¬ i < 1 := Dq
      omega
     subst hge
     simp -dsimp only [go_sem, cC, cFd]
     first | exact ⟨⟨_, _, rfl, rfl⟩, fun h => h rfl⟩ | omega | exact ⟨_, _, rfl, rfl⟩ | exact ⟨⟨_, _, rfl, rfl⟩, fun h => h rfl⟩ | exact ⟨fun _ => ⟨_, _, rfl, rfl⟩, fun h => absurd rfl h⟩
  ·rw [show keyV fr to l = .sl 1 (E cSt (keyL fr to l)) by simp [keyV, hc], hc] at KS
   have hs0 : selC fr to s l = 0 := by rw [hsc]; simp [hc, hb]
   rw [hb] at TX
   rw [hs0]
   simp only [if_true, if_false, Int.reduceEq]
   refine fn0 Cd.s_l09Ask_k fun X => ?_
   repeat' first
    |simp -dsimp only [go_sem, cC, cFd]
    |refine Br.mk ?_ ?_<;>intro h<;>try simp -dsimp only[h]
    |refine CallK.c (by first|exact KS|exact TX) ?_
    |refine and_c ?_
    |fail
   refine LoopK.at (drawn_ok Tryz.mixed) (X := { zz : Nat × (Unit) // zz.1 ≤ 1 ∧ True }) (fun zz => [(10, .v (.int .i64 (if zz.1.1 = 0 then 0 else 0))), (11, .v (.int .i64 zz.1.1))]) (fun zz => []) (fun zz => 1 - zz.1.1) ⟨(0, ()), by omega, trivial⟩ ?_ ?_
   ·exact le0
   ·rintro ⟨⟨i, _⟩, hi, hg⟩
    dsimp only at hi hg
    simp -dsimp only [go_sem, cC, cFd]
    refine Br.mk (fun hc => ?_) fun hc => ?_
    ·have hlt : i < 1 := Dq
     have hw := wrap_succ hlt (by omega)
     obtain rfl : i = 0 := by omega
     repeat' first
      |simp -dsimp only [go_sem, cC, cFd, hw]
      |refine Br.mk ?_ ?_<;>intro h<;>try simp -dsimp only[h]
      |refine CallK.c (by first|exact TX) ?_
      |refine and_c ?_
      |fail
     all_goals first | exact fun _ => ⟨⟨_, _, rfl, rfl⟩, fun h => h rfl⟩ | omega | exact ⟨_, _, rfl, rfl⟩ | exact ⟨⟨_, _, rfl, rfl⟩, fun h => h rfl⟩ | exact ⟨fun _ => ⟨_, _, rfl, rfl⟩, fun h => absurd rfl h⟩ | (exact nx (1, ()) trivial)
    ·have hge : i = 1 := by
      have : ¬ i < 1 := Dq
      omega
     subst hge
     simp -dsimp only [go_sem, cC, cFd]
     first | exact ⟨⟨_, _, rfl, rfl⟩, fun h => h rfl⟩ | omega | exact ⟨_, _, rfl, rfl⟩ | exact ⟨⟨_, _, rfl, rfl⟩, fun h => h rfl⟩ | exact ⟨fun _ => ⟨_, _, rfl, rfl⟩, fun h => absurd rfl h⟩
  ·rw [show keyV fr to l = .sl 1 (E cSt (keyL fr to l)) by simp [keyV, hc], hc] at KS
   have hs0 : selC fr to s l = 7 := by rw [hsc]; simp [hc, hb]
   rw [hb] at TX
   rw [hs0]
   simp only [if_true, if_false, Int.reduceEq]
   refine fn0 Cd.s_l09Ask_k fun X => ?_
   repeat' first
    |simp -dsimp only [go_sem, cC, cFd]
    |refine Br.mk ?_ ?_<;>intro h<;>try simp -dsimp only[h]
    |refine CallK.c (by first|exact KS|exact TX) ?_
    |refine and_c ?_
    |fail
   refine LoopK.at (drawn_ok Tryz.mixed) (X := { zz : Nat × (Unit) // zz.1 ≤ 1 ∧ True }) (fun zz => [(10, .v (.int .i64 (if zz.1.1 = 0 then 0 else 7))), (11, .v (.int .i64 zz.1.1))]) (fun zz => []) (fun zz => 1 - zz.1.1) ⟨(0, ()), by omega, trivial⟩ ?_ ?_
   ·exact le0
   ·rintro ⟨⟨i, _⟩, hi, hg⟩
    dsimp only at hi hg
    simp -dsimp only [go_sem, cC, cFd]
    refine Br.mk (fun hc => ?_) fun hc => ?_
    ·have hlt : i < 1 := Dq
     have hw := wrap_succ hlt (by omega)
     obtain rfl : i = 0 := by omega
     repeat' first
      |simp -dsimp only [go_sem, cC, cFd, hw]
      |refine Br.mk ?_ ?_<;>intro h<;>try simp -dsimp only[h]
      |refine CallK.c (by first|exact TX) ?_
      |refine and_c ?_
      |fail
     all_goals first | exact fun _ => ⟨⟨_, _, rfl, rfl⟩, fun h => h rfl⟩ | omega | exact ⟨_, _, rfl, rfl⟩ | exact ⟨⟨_, _, rfl, rfl⟩, fun h => h rfl⟩ | exact ⟨fun _ => ⟨_, _, rfl, rfl⟩, fun h => absurd rfl h⟩ | (exact nx (1, ()) trivial)
    ·have hge : i = 1 := by
      have : ¬ i < 1 := Dq
      omega
     subst hge
     simp -dsimp only [go_sem, cC, cFd]
     first | exact ⟨⟨_, _, rfl, rfl⟩, fun h => h rfl⟩ | omega | exact ⟨_, _, rfl, rfl⟩ | exact ⟨⟨_, _, rfl, rfl⟩, fun h => h rfl⟩ | exact ⟨fun _ => ⟨_, _, rfl, rfl⟩, fun h => absurd rfl h⟩
 ·rcases l09_in s fr to with hb | hb | hb
  ·rw [show keyV fr to l = .v (.slice none 0 0) by simp [keyV, hc], hc] at KS
   have hs0 : selC fr to s l = 2 := by rw [hsc]; simp [hc, hb]
   rw [hb] at TX
   rw [hs0]
   simp only [if_true, if_false, Int.reduceEq]
   refine fn0 Cd.s_l09Ask_k fun X => ?_
   repeat' first
    |simp -dsimp only [go_sem, cC, cFd]
    |refine Br.mk ?_ ?_<;>intro h<;>try simp -dsimp only[h]
    |refine CallK.c (by first|exact KS|exact TX) ?_
    |refine and_c ?_
    |fail
   refine LoopK.at (drawn_ok Tryz.mixed) (X := { zz : Nat × (Unit) // zz.1 ≤ 1 ∧ True }) (fun zz => [(10, .v (.int .i64 (if zz.1.1 = 0 then 0 else 2))), (11, .v (.int .i64 zz.1.1))]) (fun zz => []) (fun zz => 1 - zz.1.1) ⟨(0, ()), by omega, trivial⟩ ?_ ?_
   ·exact le0
   ·rintro ⟨⟨i, _⟩, hi, hg⟩
    dsimp only at hi hg
    simp -dsimp only [go_sem, cC, cFd]
    refine Br.mk (fun hc => ?_) fun hc => ?_
    ·have hlt : i < 1 := Dq
     have hw := wrap_succ hlt (by omega)
     obtain rfl : i = 0 := by omega
     repeat' first
      |simp -dsimp only [go_sem, cC, cFd, hw]
      |refine Br.mk ?_ ?_<;>intro h<;>try simp -dsimp only[h]
      |refine CallK.c (by first|exact TX) ?_
      |refine and_c ?_
      |fail
     all_goals first | exact fun _ => ⟨⟨_, _, rfl, rfl⟩, fun h => h rfl⟩ | omega | exact ⟨_, _, rfl, rfl⟩ | exact ⟨⟨_, _, rfl, rfl⟩, fun h => h rfl⟩ | exact ⟨fun _ => ⟨_, _, rfl, rfl⟩, fun h => absurd rfl h⟩ | (exact nx (1, ()) trivial)
    ·have hge : i = 1 := by
      have : ¬ i < 1 := Dq
      omega
     subst hge
     simp -dsimp only [go_sem, cC, cFd]
     first | exact ⟨⟨_, _, rfl, rfl⟩, fun h => h rfl⟩ | omega | exact ⟨_, _, rfl, rfl⟩ | exact ⟨⟨_, _, rfl, rfl⟩, fun h => h rfl⟩ | exact ⟨fun _ => ⟨_, _, rfl, rfl⟩, fun h => absurd rfl h⟩
  ·rw [show keyV fr to l = .v (.slice none 0 0) by simp [keyV, hc], hc] at KS
   have hs0 : selC fr to s l = 8 := by rw [hsc]; simp [hc, hb]
   rw [hb] at TX
   rw [hs0]
   simp only [if_true, if_false, Int.reduceEq]
   refine fn0 Cd.s_l09Ask_k fun X => ?_
   repeat' first
    |simp -dsimp only [go_sem, cC, cFd]
    |refine Br.mk ?_ ?_<;>intro h<;>try simp -dsimp only[h]
    |refine CallK.c (by first|exact KS|exact TX) ?_
    |refine and_c ?_
    |fail
   refine LoopK.at (drawn_ok Tryz.mixed) (X := { zz : Nat × (Unit) // zz.1 ≤ 1 ∧ True }) (fun zz => [(10, .v (.int .i64 (if zz.1.1 = 0 then 0 else 0))), (11, .v (.int .i64 zz.1.1))]) (fun zz => []) (fun zz => 1 - zz.1.1) ⟨(0, ()), by omega, trivial⟩ ?_ ?_
   ·exact le0
   ·rintro ⟨⟨i, _⟩, hi, hg⟩
    dsimp only at hi hg
    simp -dsimp only [go_sem, cC, cFd]
    refine Br.mk (fun hc => ?_) fun hc => ?_
    ·have hlt : i < 1 := Dq
     have hw := wrap_succ hlt (by omega)
     obtain rfl : i = 0 := by omega
     repeat' first
      |simp -dsimp only [go_sem, cC, cFd, hw]
      |refine Br.mk ?_ ?_<;>intro h<;>try simp -dsimp only[h]
      |refine CallK.c (by first|exact TX) ?_
      |refine and_c ?_
      |fail
     all_goals first | exact fun _ => ⟨⟨_, _, rfl, rfl⟩, fun h => h rfl⟩ | omega | exact ⟨_, _, rfl, rfl⟩ | exact ⟨⟨_, _, rfl, rfl⟩, fun h => h rfl⟩ | exact ⟨fun _ => ⟨_, _, rfl, rfl⟩, fun h => absurd rfl h⟩ | (exact nx (1, ()) trivial)
    ·have hge : i = 1 := by
      have : ¬ i < 1 := Dq
      omega
     subst hge
     simp -dsimp only [go_sem, cC, cFd]
     first | exact ⟨⟨_, _, rfl, rfl⟩, fun h => h rfl⟩ | omega | exact ⟨_, _, rfl, rfl⟩ | exact ⟨⟨_, _, rfl, rfl⟩, fun h => h rfl⟩ | exact ⟨fun _ => ⟨_, _, rfl, rfl⟩, fun h => absurd rfl h⟩
  ·rw [show keyV fr to l = .v (.slice none 0 0) by simp [keyV, hc], hc] at KS
   have hs0 : selC fr to s l = 7 := by rw [hsc]; simp [hc, hb]
   rw [hb] at TX
   rw [hs0]
   simp only [if_true, if_false, Int.reduceEq]
   refine fn0 Cd.s_l09Ask_k fun X => ?_
   repeat' first
    |simp -dsimp only [go_sem, cC, cFd]
    |refine Br.mk ?_ ?_<;>intro h<;>try simp -dsimp only[h]
    |refine CallK.c (by first|exact KS|exact TX) ?_
    |refine and_c ?_
    |fail
   refine LoopK.at (drawn_ok Tryz.mixed) (X := { zz : Nat × (Unit) // zz.1 ≤ 1 ∧ True }) (fun zz => [(10, .v (.int .i64 (if zz.1.1 = 0 then 0 else 7))), (11, .v (.int .i64 zz.1.1))]) (fun zz => []) (fun zz => 1 - zz.1.1) ⟨(0, ()), by omega, trivial⟩ ?_ ?_
   ·exact le0
   ·rintro ⟨⟨i, _⟩, hi, hg⟩
    dsimp only at hi hg
    simp -dsimp only [go_sem, cC, cFd]
    refine Br.mk (fun hc => ?_) fun hc => ?_
    ·have hlt : i < 1 := Dq
     have hw := wrap_succ hlt (by omega)
     obtain rfl : i = 0 := by omega
     repeat' first
      |simp -dsimp only [go_sem, cC, cFd, hw]
      |refine Br.mk ?_ ?_<;>intro h<;>try simp -dsimp only[h]
      |refine CallK.c (by first|exact TX) ?_
      |refine and_c ?_
      |fail
     all_goals first | exact fun _ => ⟨⟨_, _, rfl, rfl⟩, fun h => h rfl⟩ | omega | exact ⟨_, _, rfl, rfl⟩ | exact ⟨⟨_, _, rfl, rfl⟩, fun h => h rfl⟩ | exact ⟨fun _ => ⟨_, _, rfl, rfl⟩, fun h => absurd rfl h⟩ | (exact nx (1, ()) trivial)
    ·have hge : i = 1 := by
      have : ¬ i < 1 := Dq
      omega
     subst hge
     simp -dsimp only [go_sem, cC, cFd]
     first | exact ⟨⟨_, _, rfl, rfl⟩, fun h => h rfl⟩ | omega | exact ⟨_, _, rfl, rfl⟩ | exact ⟨⟨_, _, rfl, rfl⟩, fun h => h rfl⟩ | exact ⟨fun _ => ⟨_, _, rfl, rfl⟩, fun h => absurd rfl h⟩
 ·rw [show keyV fr to l = .v (.slice none 0 0) by simp [keyV, hc], hc] at KS
  have hs0 : selC fr to s l = 1 := by rw [hsc]; simp [hc]
  rw [hs0]
  simp only [if_true, if_false, Int.reduceEq]
  refine fn0 Cd.s_l09Ask_k fun X => ?_
  repeat' first
   |simp -dsimp only [go_sem, cC, cFd]
   |refine Br.mk ?_ ?_<;>intro h<;>try simp -dsimp only[h]
   |refine CallK.c (by first|exact KS|exact TX) ?_
   |refine and_c ?_
   |fail
  all_goals first | omega | exact ⟨_, _, rfl, rfl⟩ | exact ⟨⟨_, _, rfl, rfl⟩, fun h => h rfl⟩ | exact ⟨fun _ => ⟨_, _, rfl, rfl⟩, fun h => absurd rfl h⟩
 ·rw [show keyV fr to l = .v (.slice none 0 0) by simp [keyV, hc], hc] at KS
  have hs0 : selC fr to s l = 2 := by rw [hsc]; simp [hc]
  rw [hs0]
  simp only [if_true, if_false, Int.reduceEq]
  refine fn0 Cd.s_l09Ask_k fun X => ?_
  repeat' first
   |simp -dsimp only [go_sem, cC, cFd]
   |refine Br.mk ?_ ?_<;>intro h<;>try simp -dsimp only[h]
   |refine CallK.c (by first|exact KS|exact TX) ?_
   |refine and_c ?_
   |fail
  all_goals first | omega | exact ⟨_, _, rfl, rfl⟩ | exact ⟨⟨_, _, rfl, rfl⟩, fun h => h rfl⟩ | exact ⟨fun _ => ⟨_, _, rfl, rfl⟩, fun h => absurd rfl h⟩
end Go.Proofs.YtmgnfpmdlgcnjaaGreat
