/- FirstBreak: the program and the reference. -/
import Derived.Test.YtagejhkjpgephaaGreatDoorXwOc
import Derived.Test.YtagejhkjpgephaaGreatDoorXwOf
set_option linter.unusedSimpArgs false
set_option linter.unusedVariables false
set_option maxHeartbeats 8000000
namespace Go.Proofs.YtagejhkjpgephaaGreatDoor
open Go.Vs
attribute [local irreducible] Vs.Fn stpB wO stC run ctlB ctlT chOK areCh chTo chAt l03 chB rk cd3 chI stp stpTo
theorem l18Along (fr to : Int) (o : Off) (w : Nat) (ho : okO w o) (hn : numB fr to w = true) (fl : List Stp) (hz : ∀ x, x ∈ fl → x.text.size ≤ 1048576) (hl : fl.length ≤ 1048576) : Fz F.s_l18Along [.ro (cO o), .sl 9 (E cS fl), .agg (cFd fr to)] (.tup [caW (alg fr to o fl), .v (.int .i64 (cdW (alg fr to o fl)))]) := by
 by_cases he : o.totals.length = 0
 ·exact l18AlongE fr to o w ho hn fl hz hl he
 ·exact l18AlongL fr to o w ho hn fl hz hl he
def fbE (fr to : Int) (o : Off) (fl : List Stp) (told : List (Int × Int × Int)) : Int := if fbC fr to o fl.length = 0 then (if told.length = fl.length then (if (alg fr to o fl).2 then 0 else 8) else 2) else fbC fr to o fl.length
def fbN (fr to : Int) (o : Off) (fl : List Stp) (told : List (Int × Int × Int)) : Int := if fbE fr to o fl told = 0 then fbI (alg fr to o fl).1 told 0 else 0
theorem fbC_0 {fr to : Int} {o : Off} {n : Nat} (h : fbC fr to o n = 0) : offB o = true ∧ numB fr to (wO o.trays) = true ∧ n ≤ 20 := by
 unfold fbC at h
 split at h
 ·split at h
  ·rename_i h1 h2
   rw [Bool.and_eq_true, decide_eq_true_eq] at h2
   exact ⟨h1, h2.1, by omega⟩
  ·cases h
 ·cases h
theorem fbC_ex {fr to : Int} {o : Off} {n : Nat} (h : exC fr to o ≠ 0) : fbC fr to o n = exC fr to o := by
 unfold exC fbC at *
 cases h1 : offB o
 ·simp
 ·rw [h1] at h
  cases h2 : numB fr to (wO o.trays)
  ·simp
  ·rw [h2] at h; simp at h
theorem fbC_e0 {fr to : Int} {o : Off} {n : Nat} (h : exC fr to o = 0) : fbC fr to o n = if n ≤ 20 then 0 else 2 := by
 unfold exC at h
 unfold fbC
 split at h
 ·split at h
  ·rename_i h1 h2
   rw [if_pos h1, h2, Bool.true_and]
   by_cases hn : n ≤ 20
   ·rw [if_pos hn, if_pos (by simp; omega)]
   ·rw [if_neg hn, if_neg (by simp; omega)]
  ·cases h
 ·cases h
theorem fbI_nil (l : List (Int × Int × Int)) (i : Nat) : fbI l [] i = -1 := by cases l <;> rfl
theorem fbI_ne {l t : List (Int × Int × Int)} {i : Nat} (h1 : i < l.length) (h2 : i < t.length) (h : l[i] ≠ t[i]) : fbI (l.drop i) (t.drop i) i = i := by
 rw [List.drop_eq_getElem_cons h1, List.drop_eq_getElem_cons h2, fbI, if_neg h]
theorem fbI_eq {l t : List (Int × Int × Int)} {i : Nat} (h1 : i < l.length) (h2 : i < t.length) (h : l[i] = t[i]) : fbI (l.drop i) (t.drop i) i = fbI (l.drop (i + 1)) (t.drop (i + 1)) (i + 1) := by
 rw [List.drop_eq_getElem_cons h1, List.drop_eq_getElem_cons h2, fbI, if_pos h]
theorem fbI_short {l t : List (Int × Int × Int)} {i : Nat} (h1 : l.length ≤ i) (h2 : i < t.length) : fbI (l.drop i) (t.drop i) i = i := by
 rw [List.drop_eq_nil_of_le h1, List.drop_eq_getElem_cons h2, fbI]
theorem fbI_end {l t : List (Int × Int × Int)} {i : Nat} (h : t.length ≤ i) : fbI (l.drop i) (t.drop i) i = -1 := by
 rw [List.drop_eq_nil_of_le h, fbI_nil]
theorem alg_len (fr to : Int) : ∀ (fl : List Stp) (o : Off), (alg fr to o fl).1.length ≤ fl.length
 | [], o => by rw [alg]; exact Nat.le_refl _
 | x :: r, o => by
  have ih := alg_len fr to r (stO x o)
  rw [alg]
  split
  ·split
   ·simp only [List.length_cons]; omega
   ·simp
  ·simp
theorem c3_ne {x y : Int × Int × Int} (h : x ≠ y) : (x.1 == y.1 && (x.2.1 == y.2.1 && x.2.2 == y.2.2)) = false := by
 apply Bool.eq_false_iff.2
 intro hb
 simp only [Bool.and_eq_true, beq_iff_eq] at hb
 exact h (Prod.ext hb.1 (Prod.ext hb.2.1 hb.2.2))
theorem E_ct {l : List (Int × Int × Int)} {i : Nat} (h : i < l.length) : (E cCt l).getD i [] = [.v (.int .i64 l[i].1), .v (.int .i64 l[i].2.1), .v (.int .i64 l[i].2.2)] := E_get h
attribute [local go_sem] Int.reduceBEq Int.reduceBNe cC E_len List.replicate_succ List.replicate_zero List.flatten_cons List.flatten_nil List.cons_append List.nil_append List.set_cons_zero List.set_cons_succ List.length_cons List.length_nil List.length_set List.mem_singleton List.mem_cons List.not_mem_nil or_false false_or Vs.Name.t.injEq List.getD_cons_zero List.getD_cons_succ Vs.Name.b.injEq List.getElem?_cons_zero List.getElem?_cons_succ in
theorem impl_FirstBreak (fr to : Int) (o : Off) (ho : smallO o) (fl : List Stp) (hz : ∀ x, x ∈ fl → x.text.size ≤ 1048576) (hl : fl.length ≤ 1048576) (told : List (Int × Int × Int)) (ht : told.length ≤ 1048576) : Fz F.i_FirstBreak [.agg (cO o), .sl 9 (E cS fl), .agg (cFd fr to), .sl 3 (E cCt told)] (.tup [.v (.int .i64 (fbN fr to o fl told)), .v (.int .i64 (fbE fr to o fl told))]) := by
 have OC := officeCode fr to o ho fl
 unfold fbN fbE
 by_cases h0 : fbC fr to o fl.length = 0
 rotate_left
 ·rw [if_neg h0]
  simp only [h0, if_false]
  have e1 : (fbC fr to o fl.length != 0) = true := by simp [h0]
  refine fn0 Cd.i_FirstBreak_k fun X => ?_
  repeat' first
   |simp -dsimp only [go_sem, e1, cO, cS, cFd, cCt]
   |refine Br.mk ?_ ?_<;>intro h<;>try simp -dsimp only[h]
   |refine CallK.c (by first|exact OC) ?_
   |refine and_c ?_
   |fail
  all_goals first | omega | exact ⟨_, _, rfl, rfl⟩ | exact ⟨⟨_, _, rfl, rfl⟩, fun h => h rfl⟩ | (refine ret_eq ?_; simp; done) | (simp at h; done) | (simp at h; omega)
 obtain ⟨hof, hnu, h20⟩ := fbC_0 h0
 have hok := off_ok hof ho
 rw [h0] at OC
 simp only [h0, if_true]
 by_cases h3 : told.length = fl.length
 rotate_left
 ·have e3 : ((told.length : Int) != (fl.length : Int)) = true := by simp; omega
  simp only [h3, if_false]
  refine fn0 Cd.i_FirstBreak_k fun X => ?_
  repeat' first
   |simp -dsimp only [go_sem, e3, cO, cS, cFd, cCt]
   |refine Br.mk ?_ ?_<;>intro h<;>try simp -dsimp only[h]
   |refine CallK.c (by first|exact OC) ?_
   |refine and_c ?_
   |fail
  all_goals first | omega | exact ⟨_, _, rfl, rfl⟩ | exact ⟨⟨_, _, rfl, rfl⟩, fun h => h rfl⟩ | (refine ret_eq ?_; simp; done) | (simp at h; done) | (simp at h; omega)
 have e3 : ((told.length : Int) != (fl.length : Int)) = false := by simp; omega
 have CA := controlsAlong fr to o (wO o.trays) hok hnu fl hz hl
 have hle := alg_len fr to fl o
 simp only [h3, if_true]
 generalize alg fr to o fl = R at *
 cases hb : R.2
 ·rw [caW_no hb, hb] at CA
  simp only [Bool.false_eq_true, if_false]
  refine fn0 Cd.i_FirstBreak_k fun X => ?_
  repeat' first
   |simp -dsimp only [go_sem, e3, cO, cS, cFd, cCt]
   |refine Br.mk ?_ ?_<;>intro h<;>try simp -dsimp only[h]
   |refine CallK.c (by first|exact OC|exact CA) ?_
   |refine and_c ?_
   |fail
  all_goals first | omega | exact ⟨_, _, rfl, rfl⟩ | exact ⟨⟨_, _, rfl, rfl⟩, fun h => h rfl⟩ | (refine ret_eq ?_; simp; done) | (simp at h; done) | (simp at h; omega)
 obtain ⟨L, q⟩ := R
 dsimp only at hb hle ⊢
 subst hb
 rw [caW_ok] at CA
 simp only [if_true]
 refine fn0 Cd.i_FirstBreak_k fun X => ?_
 repeat' first
  |simp -dsimp only [go_sem, e3, cO, cS, cFd, cCt]
  |refine Br.mk ?_ ?_<;>intro h<;>try simp -dsimp only[h]
  |refine CallK.c (by first|exact OC|exact CA) ?_
  |refine and_c ?_
  |fail
 refine LoopK.at (drawn_ok Tryz.mixed) (X := { zz : Nat × (Unit) // zz.1 ≤ told.length ∧ fbI L told 0 = fbI (L.drop zz.1) (told.drop zz.1) zz.1 }) (fun zz => [(40, .v (.int .i64 zz.1.1))]) (fun zz => []) (fun zz => told.length - zz.1.1) ⟨(0, ()), by omega, by simp⟩ ?_ ?_
 ·exact le0
 ·rintro ⟨⟨i, _⟩, hi, hg⟩
  dsimp only at hi hg
  have hlL : (E cCt L).length = L.length := E_len _
  have hlt' : (E cCt told).length = told.length := E_len _
  simp -dsimp only [go_sem, e3, cO, cS, cFd, cCt]
  refine Br.mk (fun hc => ?_) fun hc => ?_
  ·have hlt : i < told.length := Dq
   have hw : IntKind.i64.wrap ((i : Int) + 1) = ((i + 1 : Nat) : Int) := by rw [wrap_in (by omega) (by omega)]; omega
   have gt := E_ct hlt
   by_cases hil : i < L.length
   ·have e4 : decide ((i : Int) ≥ (L.length : Int)) = false := decide_eq_false (by omega)
    have gl := E_ct hil
    by_cases he : L[i] = told[i]
    ·have hg2 := hg.trans (fbI_eq hil hlt he)
     rw [he] at gl
     have e5 : (told[i].1 == told[i].1 && (told[i].2.1 == told[i].2.1 && told[i].2.2 == told[i].2.2)) = true := by simp
     repeat' first
      |simp -dsimp only [go_sem, hw, gt, gl, e4, e5, hlL, e3, cO, cS, cFd, cCt]
      |refine Br.mk ?_ ?_<;>intro h<;>try simp -dsimp only[h]
      |refine and_c ?_
      |fail
     all_goals first | omega | (exact nx (i + 1, ()) hg2)
    ·have hq := fbI_ne hil hlt he
     have e5 := c3_ne he
     repeat' first
      |simp -dsimp only [go_sem, hw, gt, gl, e4, e5, hlL, e3, cO, cS, cFd, cCt]
      |refine Br.mk ?_ ?_<;>intro h<;>try simp -dsimp only[h]
      |refine and_c ?_
      |fail
     all_goals first | omega | (refine ret_eq ?_; rw [hg, hq]; done) | (rw [hg, hq]; exact ⟨_, _, rfl, rfl⟩)
   ·have e4 : decide ((i : Int) ≥ (L.length : Int)) = true := decide_eq_true (by omega)
    have hq := fbI_short (l := L) (t := told) (by omega : L.length ≤ i) hlt
    repeat' first
     |simp -dsimp only [go_sem, hw, gt, e4, hlL, e3, cO, cS, cFd, cCt]
     |refine Br.mk ?_ ?_<;>intro h<;>try simp -dsimp only[h]
     |refine and_c ?_
     |fail
    all_goals first | omega | (refine ret_eq ?_; rw [hg, hq]; done) | (rw [hg, hq]; exact ⟨_, _, rfl, rfl⟩)
  ·have hge : i = told.length := by
    have : ¬ i < told.length := Dq
    omega
   have hq := hg.trans (fbI_end (l := L) (t := told) (i := i) (by omega))
   repeat' first
    |simp -dsimp only [go_sem, e3, cO, cS, cFd, cCt]
    |refine Br.mk ?_ ?_<;>intro h<;>try simp -dsimp only[h]
    |refine And.intro ?_ (fun h => absurd rfl h)
    |refine and_c ?_
    |fail
   all_goals first | omega | (rw [hq]; exact ⟨_, _, rfl, rfl⟩) | (rw [hq]; exact ⟨⟨_, _, rfl, rfl⟩, fun h => h rfl⟩) | (rw [hq]; exact fun _ => ⟨⟨_, _, rfl, rfl⟩, fun h => h rfl⟩) | (simp [hq]; done)
attribute [local go_sem] Int.reduceBEq Int.reduceBNe cC E_len List.replicate_succ List.replicate_zero List.flatten_cons List.flatten_nil List.cons_append List.nil_append List.set_cons_zero List.set_cons_succ List.length_cons List.length_nil List.length_set List.mem_singleton List.mem_cons List.not_mem_nil or_false false_or Vs.Name.t.injEq List.getD_cons_zero List.getD_cons_succ Vs.Name.b.injEq List.getElem?_cons_zero List.getElem?_cons_succ in
theorem spec_FirstBreak (fr to : Int) (o : Off) (ho : smallO o) (fl : List Stp) (hz : ∀ x, x ∈ fl → x.text.size ≤ 1048576) (hl : fl.length ≤ 1048576) (told : List (Int × Int × Int)) (ht : told.length ≤ 1048576) : Fz F.s_FirstBreak [.agg (cO o), .sl 9 (E cS fl), .agg (cFd fr to), .sl 3 (E cCt told)] (.tup [.v (.int .i64 (fbN fr to o fl told)), .v (.int .i64 (fbE fr to o fl told))]) := by
 have OC := l18Code fr to o ho
 unfold fbN fbE
 by_cases h0 : fbC fr to o fl.length = 0
 rotate_left
 ·rw [if_neg h0]
  simp only [h0, if_false]
  by_cases hx0 : exC fr to o = 0
  ·have hc := fbC_e0 (n := fl.length) hx0
   have h20 : ¬ fl.length ≤ 20 := by intro h; rw [if_pos h] at hc; exact h0 hc
   rw [if_neg h20] at hc
   rw [hc]
   rw [hx0] at OC
   have e2 : decide ((fl.length : Int) > 20) = true := decide_eq_true (by omega)
   refine fn0 Cd.s_FirstBreak_k fun X => ?_
   repeat' first
    |simp -dsimp only [go_sem, e2, cO, cS, cFd, cCt]
    |refine Br.mk ?_ ?_<;>intro h<;>try simp -dsimp only[h]
    |refine CallK.c (by first|exact OC) ?_
    |refine and_c ?_
    |fail
   all_goals first | omega | exact ⟨_, _, rfl, rfl⟩ | exact ⟨⟨_, _, rfl, rfl⟩, fun h => h rfl⟩ | (refine ret_eq ?_; simp; done) | (simp at h; done) | (simp at h; omega)
  ·rw [fbC_ex hx0]
   have e1 : (exC fr to o == 0) = false := beq_eq_false_iff_ne.2 hx0
   have e2 : (exC fr to o != 0) = true := by simp [hx0]
   refine fn0 Cd.s_FirstBreak_k fun X => ?_
   repeat' first
    |simp -dsimp only [go_sem, e1, e2, cO, cS, cFd, cCt]
    |refine Br.mk ?_ ?_<;>intro h<;>try simp -dsimp only[h]
    |refine CallK.c (by first|exact OC) ?_
    |refine and_c ?_
    |fail
   all_goals first | omega | exact ⟨_, _, rfl, rfl⟩ | exact ⟨⟨_, _, rfl, rfl⟩, fun h => h rfl⟩ | (refine ret_eq ?_; simp; done) | (simp at h; done) | (simp at h; omega)
 obtain ⟨hof, hnu, h20⟩ := fbC_0 h0
 have hok := off_ok hof ho
 have hx0 : exC fr to o = 0 := by
  rcases Decidable.em (exC fr to o = 0) with h | h
  ·exact h
  ·rw [fbC_ex h] at h0; exact absurd h0 h
 rw [hx0] at OC
 have e20 : decide ((fl.length : Int) > 20) = false := decide_eq_false (by omega)
 simp only [h0, if_true]
 by_cases h3 : told.length = fl.length
 rotate_left
 ·have e3 : ((told.length : Int) != (fl.length : Int)) = true := by simp; omega
  simp only [h3, if_false]
  refine fn0 Cd.s_FirstBreak_k fun X => ?_
  repeat' first
   |simp -dsimp only [go_sem, e20, e3, cO, cS, cFd, cCt]
   |refine Br.mk ?_ ?_<;>intro h<;>try simp -dsimp only[h]
   |refine CallK.c (by first|exact OC) ?_
   |refine and_c ?_
   |fail
  all_goals first | omega | exact ⟨_, _, rfl, rfl⟩ | exact ⟨⟨_, _, rfl, rfl⟩, fun h => h rfl⟩ | (refine ret_eq ?_; simp; done) | (simp at h; done) | (simp at h; omega)
 have e3 : ((told.length : Int) != (fl.length : Int)) = false := by simp; omega
 have CA := l18Along fr to o (wO o.trays) hok hnu fl hz hl
 have hle := alg_len fr to fl o
 simp only [h3, if_true]
 generalize alg fr to o fl = R at *
 cases hb : R.2
 ·rw [caW_no hb, show cdW R = 8 by unfold cdW; rw [hb]; rfl] at CA
  simp only [Bool.false_eq_true, if_false]
  refine fn0 Cd.s_FirstBreak_k fun X => ?_
  repeat' first
   |simp -dsimp only [go_sem, e20, e3, cO, cS, cFd, cCt]
   |refine Br.mk ?_ ?_<;>intro h<;>try simp -dsimp only[h]
   |refine CallK.c (by first|exact OC|exact CA) ?_
   |refine and_c ?_
   |fail
  all_goals first | omega | exact ⟨_, _, rfl, rfl⟩ | exact ⟨⟨_, _, rfl, rfl⟩, fun h => h rfl⟩ | (refine ret_eq ?_; simp; done) | (simp at h; done) | (simp at h; omega)
 obtain ⟨L, q⟩ := R
 dsimp only at hb hle ⊢
 subst hb
 rw [caW_ok, show cdW (L, true) = 0 from rfl] at CA
 simp only [if_true]
 refine fn0 Cd.s_FirstBreak_k fun X => ?_
 repeat' first
  |simp -dsimp only [go_sem, e20, e3, cO, cS, cFd, cCt]
  |refine Br.mk ?_ ?_<;>intro h<;>try simp -dsimp only[h]
  |refine CallK.c (by first|exact OC|exact CA) ?_
  |refine and_c ?_
  |fail
 refine LoopK.at (drawn_ok Tryz.mixed) (X := { zz : Nat × (Unit) // zz.1 ≤ L.length ∧ fbI L told 0 = fbI (L.drop zz.1) (told.drop zz.1) zz.1 }) (fun zz => [(13, .v (.int .i64 zz.1.1))]) (fun zz => []) (fun zz => L.length - zz.1.1) ⟨(0, ()), by omega, by simp⟩ ?_ ?_
 ·exact le0
 ·rintro ⟨⟨i, _⟩, hi, hg⟩
  dsimp only at hi hg
  have hlL : (E cCt L).length = L.length := E_len _
  have hlt' : (E cCt told).length = told.length := E_len _
  simp -dsimp only [go_sem, e20, e3, cO, cS, cFd, cCt]
  refine Br.mk (fun hc => ?_) fun hc => ?_
  ·have hlt : i < L.length := Dq
   have hw : IntKind.i64.wrap ((i : Int) + 1) = ((i + 1 : Nat) : Int) := by rw [wrap_in (by omega) (by omega)]; omega
   have hil : i < told.length := by omega
   have gl := E_ct hlt
   have gt := E_ct hil
   by_cases he : L[i] = told[i]
   ·have hg2 := hg.trans (fbI_eq hlt hil he)
    rw [he] at gl
    have e5 : (told[i].1 == told[i].1 && (told[i].2.1 == told[i].2.1 && told[i].2.2 == told[i].2.2)) = true := by simp
    repeat' first
     |simp -dsimp only [go_sem, hw, gt, gl, e5, e20, e3, cO, cS, cFd, cCt]
     |refine Br.mk ?_ ?_<;>intro h<;>try simp -dsimp only[h]
     |refine and_c ?_
     |fail
    all_goals first | omega | (exact nx (i + 1, ()) hg2)
   ·have hq := fbI_ne hlt hil he
    have e5 := c3_ne he
    repeat' first
     |simp -dsimp only [go_sem, hw, gt, gl, e5, e20, e3, cO, cS, cFd, cCt]
     |refine Br.mk ?_ ?_<;>intro h<;>try simp -dsimp only[h]
     |refine and_c ?_
     |fail
    all_goals first | omega | (refine ret_eq ?_; rw [hg, hq]; done) | (rw [hg, hq]; exact ⟨_, _, rfl, rfl⟩)
  ·have hge : i = L.length := by
    have : ¬ i < L.length := Dq
    omega
   by_cases hsh : L.length < fl.length
   ·have hq := hg.trans (fbI_short (l := L) (t := told) (i := i) (by omega) (by omega))
    rw [hge] at hq
    have e6 : decide ((L.length : Int) < (fl.length : Int)) = true := decide_eq_true (by omega)
    repeat' first
     |simp -dsimp only [go_sem, e6, e20, e3, cO, cS, cFd, cCt]
     |refine Br.mk ?_ ?_<;>intro h<;>try simp -dsimp only[h]
     |refine And.intro ?_ (fun h => absurd rfl h)
     |refine and_c ?_
     |fail
    all_goals first | omega | (rw [hq]; exact ⟨_, _, rfl, rfl⟩) | (rw [hq]; exact ⟨⟨_, _, rfl, rfl⟩, fun h => h rfl⟩) | (rw [hq]; exact fun _ => ⟨⟨_, _, rfl, rfl⟩, fun h => h rfl⟩) | (simp [hq]; done)
   ·have hq := hg.trans (fbI_end (l := L) (t := told) (i := i) (by omega))
    have e6 : decide ((L.length : Int) < (fl.length : Int)) = false := decide_eq_false (by omega)
    repeat' first
     |simp -dsimp only [go_sem, e6, e20, e3, cO, cS, cFd, cCt]
     |refine Br.mk ?_ ?_<;>intro h<;>try simp -dsimp only[h]
     |refine And.intro ?_ (fun h => absurd rfl h)
     |refine and_c ?_
     |fail
    all_goals first | omega | (rw [hq]; exact ⟨_, _, rfl, rfl⟩) | (rw [hq]; exact ⟨⟨_, _, rfl, rfl⟩, fun h => h rfl⟩) | (rw [hq]; exact fun _ => ⟨⟨_, _, rfl, rfl⟩, fun h => h rfl⟩) | (simp [hq]; done)
end Go.Proofs.YtagejhkjpgephaaGreatDoor
