/- Offices that are valid. -/
import Derived.Test.YtagejhkjpgephaaGreatDoorXwK
import Derived.Test.YtagejhkjpgephaaGreatDoorXuF
import Derived.Test.YtagejhkjpgephaaGreatDoorEtO
import Derived.Test.YtagejhkjpgephaaGreatDoorXuR
set_option linter.unusedSimpArgs false
set_option linter.unusedVariables false
set_option maxHeartbeats 8000000
namespace Go.Proofs.YtagejhkjpgephaaGreatDoor
open Go.Vs
section
attribute [local irreducible] Vs.Fn
def cFd (fr to : Int) : List AV := [.v (.int .i64 fr), .v (.int .i64 to)]
def widB (l : List (List Int)) : Int := if l.length = 0 then 20 else ((l.getD 0 []).length : Int)
theorem l07Width (l : List (List Int)) : Fz F.s_l07Width [.sl 1 (E cC l)] (.v (.int .i64 (widB l))) := by
 refine fn0 Cd.s_l07Width_k fun X => ?_
 simp -dsimp only [go_sem, cC]
 by_cases h0 : l.length = 0
 ·have e1 : ((l.length : Int) == 0) = true := beq_iff_eq.2 (by omega)
  repeat' first
   |simp -dsimp only [go_sem, e1, cC]
   |refine Br.mk ?_ ?_<;>intro h<;>try simp -dsimp only[h]
   |refine and_c ?_
   |fail
  all_goals simp [widB, h0]
 ·have e1 : ((l.length : Int) == 0) = false := beq_eq_false_iff_ne.2 (by omega)
  have h1 : 0 < l.length := by omega
  have g0 : (E cC l).getD 0 [] = [.sl 1 (E cI l[0])] := E_get h1
  have g1 : l.getD 0 [] = l[0] := by simp [List.getD, h1]
  repeat' first
   |simp -dsimp only [go_sem, e1, g0, cC]
   |refine Br.mk ?_ ?_<;>intro h<;>try simp -dsimp only[h]
   |refine and_c ?_
   |fail
  all_goals simp_all [widB]
theorem deckColumns (l : List (List Int)) : Fz F.i_deckColumns [.sl 1 (E cC l)] (.v (.int .i64 (widB l))) := by
 refine fn0 Cd.i_deckColumns_k fun X => ?_
 simp -dsimp only [go_sem, cC]
 by_cases h0 : l.length = 0
 ·have e1 : ((l.length : Int) == 0) = true := beq_iff_eq.2 (by omega)
  repeat' first
   |simp -dsimp only [go_sem, e1, cC]
   |refine Br.mk ?_ ?_<;>intro h<;>try simp -dsimp only[h]
   |refine CallK.c (by first|exact columns l[0]) ?_
   |refine and_c ?_
   |fail
  all_goals simp [widB, h0]
 ·have e1 : ((l.length : Int) == 0) = false := beq_eq_false_iff_ne.2 (by omega)
  have h1 : 0 < l.length := by omega
  have g0 : (E cC l).getD 0 [] = [.sl 1 (E cI l[0])] := E_get h1
  have g1 : l.getD 0 [] = l[0] := by simp [List.getD, h1]
  repeat' first
   |simp -dsimp only [go_sem, e1, g0, cC]
   |refine Br.mk ?_ ?_<;>intro h<;>try simp -dsimp only[h]
   |refine CallK.c (by first|exact columns l[0]) ?_
   |refine and_c ?_
   |fail
  all_goals simp_all [widB]
theorem l18Field (fr to w : Int) : Fz F.s_l18Field [.agg (cFd fr to), .v (.int .i64 w)] (.v (.bool (numB fr to w))) := by
 refine fn0 Cd.s_l18Field_k fun X => ?_
 repeat' first
  |simp -dsimp only [go_sem, cFd]
  |refine Br.mk ?_ ?_<;>intro h<;>try simp -dsimp only[h]
  |refine CallK.c (by first|exact l02Field fr to w) ?_
  |refine and_c ?_
  |fail
 all_goals (simp_all [numB])
def numC (fr to : Int) (c : List Int) : Int × Bool := numF ((c.take to.toNat).drop fr.toNat).dropLast (((c.take to.toNat).drop fr.toNat).getLastD 0)
def okP (fr to : Int) (c : List Int) : Prop := 0 ≤ fr ∧ fr < to ∧ to ≤ c.length ∧ to - fr ≤ 12 ∧ c.length ≤ 20 ∧ ∀ x, x ∈ c → 0 ≤ x ∧ x ≤ 4095
theorem okP_part {fr to : Int} {c : List Int} (h : okP fr to c) : ∃ u x, (c.take to.toNat).drop fr.toNat = u ++ [x] ∧ u.length + 1 ≤ 12 ∧ 0 ≤ x ∧ x ≤ 4095 ∧ numC fr to c = numF u x := by
 obtain ⟨h0, h1, h2, h3, h4, h5⟩ := h
 have hlen : ((c.take to.toNat).drop fr.toNat).length = to.toNat - fr.toNat := by simp; omega
 have hne : (c.take to.toNat).drop fr.toNat ≠ [] := by intro e; rw [e] at hlen; simp at hlen; omega
 have hd := List.dropLast_concat_getLast hne
 have hx := h5 (((c.take to.toNat).drop fr.toNat).getLast hne) (List.mem_of_mem_take (List.mem_of_mem_drop (List.getLast_mem hne)))
 refine ⟨_, _, hd.symm, ?_, hx.1, hx.2, ?_⟩
 ·rw [List.length_dropLast, hlen]; omega
 ·unfold numC
  rw [List.getLastD_eq_getLast?, List.getLast?_eq_some_getLast hne]
  rfl
theorem numC_le {fr to : Int} {c : List Int} (h : okP fr to c) : -1000000000000 ≤ (numC fr to c).1 ∧ (numC fr to c).1 ≤ 1000000000000 := by
 obtain ⟨u, x, _, hu, _, _, hn⟩ := okP_part h
 rw [hn]; exact numF_le u x hu
theorem numberInC {fr to : Int} {c : List Int} (h : okP fr to c) : Fz F.i_numberIn [.agg (cC c), .agg (cFd fr to)] (.tup [.v (.int .i64 (numC fr to c).1), .v (.bool (numC fr to c).2)]) := by
 obtain ⟨u, x, hp, hu, _, _, hn⟩ := okP_part h
 obtain ⟨h0, h1, h2, h3, h4, h5⟩ := h
 rw [hn]
 exact numberIn c fr to u x h0 (by omega) h2 hp hu
theorem l03NumberC {fr to : Int} {c : List Int} (h : okP fr to c) : Fz F.s_l03Number [.sl 1 (E cI ((c.take to.toNat).drop fr.toNat))] (.tup [.v (.int .i64 (numC fr to c).1), .v (.bool (numC fr to c).2)]) := by
 obtain ⟨u, x, hp, hu, hx0, hx1, hn⟩ := okP_part h
 rw [hn, hp]
 exact l03Number u x hx0 hx1 hu
theorem partC {fr to : Int} {c : List Int} (h : okP fr to c) : Fz F.s_l02Part [.ro (cC c), .agg (cFd fr to)] (.sl 1 (E cI ((c.take to.toNat).drop fr.toNat))) := by
 obtain ⟨h0, h1, h2, h3, h4, h5⟩ := h
 exact part c fr to h0 (by omega) h2
def ctlG (fr to : Int) : List (List Int) → Int → Int → Option (Int × Int)
 | [], s, d => some (s, d)
 | c :: r, s, d => if (numC fr to c).2 = true then ctlG fr to r (W (s + (numC fr to c).1)) (W (d + (dsN (numC fr to c).1.natAbs : Int))) else none
def ctlT (fr to : Int) (l : List (List Int)) : Int × Int × Int :=
 match ctlG fr to l 0 0 with
 | some (s, d) => (l.length, s, d)
 | none => (0, 0, 0)
def cCt (x : Int × Int × Int) : List AV := [.v (.int .i64 x.1), .v (.int .i64 x.2.1), .v (.int .i64 x.2.2)]
def ctlB (fr to : Int) (l : List (List Int)) : Bool := (ctlG fr to l 0 0).isSome
theorem l18Of (l : List (List Int)) (fr to : Int) (hl : l.length ≤ 1048576) (hok : ∀ c, c ∈ l → okP fr to c) : Fz F.s_l18Of [.sl 1 (E cC l), .agg (cFd fr to)] (.tup [.agg (cCt (ctlT fr to l)), .v (.bool (ctlB fr to l))]) := by
 refine fn0 Cd.s_l18Of_k fun X => ?_
 simp -dsimp only [go_sem, cC, cFd, cCt]
 refine LoopK.at (drawn_ok Tryz.mixed) (X := { zz : Nat × (Int × Int) // zz.1 ≤ l.length ∧ ctlG fr to (l.drop zz.1) zz.2.1 zz.2.2 = ctlG fr to l 0 0 }) (fun zz => [(7, .v (.int .i64 zz.1.1))]) (fun zz => [(.t 6 0, .var [.v (.int .i64 l.length), .v (.int .i64 zz.1.2.1), .v (.int .i64 zz.1.2.2)] false)]) (fun zz => l.length - zz.1.1) ⟨(0, (0, 0)), by omega, by simp⟩ ?_ ?_
 ·exact le0
 ·rintro ⟨⟨i, a, b⟩, hi, hg⟩
  dsimp only at hi hg
  simp -dsimp only [go_sem]
  refine Br.mk (fun hc => ?_) fun hc => ?_
  ·have hlt : i < l.length := Dq
   have hw := wrap_succ hlt hl
   have hk := hok _ (List.getElem_mem hlt)
   have hle := numC_le hk
   have hm : (E cC l).getD i [] = [.sl 1 (E cI l[i])] := E_get hlt
   rw [List.drop_eq_getElem_cons hlt, ctlG] at hg
   cases hb : (numC fr to l[i]).2
   ·rw [if_neg (by simp [hb])] at hg
    repeat' first
     |simp -dsimp only [go_sem, hm, hw, hb, cC, cFd]
     |refine Br.mk ?_ ?_<;>intro h<;>try simp -dsimp only[h]
     |refine CallK.c (by first|exact partC hk|exact l03NumberC hk|exact l18Digits _ (by omega) (by omega)) ?_
     |refine and_c ?_
     |fail
    all_goals simp [cCt, ctlT, ctlB, ← hg]
   ·rw [if_pos hb] at hg
    repeat' first
     |simp -dsimp only [go_sem, hm, hw, hb, cC, cFd]
     |refine Br.mk ?_ ?_<;>intro h<;>try simp -dsimp only[h]
     |refine CallK.c (by first|exact partC hk|exact l03NumberC hk|exact l18Digits _ (by omega) (by omega)) ?_
     |refine and_c ?_
     |fail
    all_goals (exact nx (i + 1, (W (a + (numC fr to l[i]).1), W (b + (dsN (numC fr to l[i]).1.natAbs : Int)))) hg)
  ·have hge : i = l.length := by
    have : ¬ i < l.length := Dq
    omega
   subst hge
   simp -dsimp only [go_sem]
   rw [List.drop_length, ctlG] at hg
   simp [cCt, ctlT, ctlB, ← hg]
theorem controlOf (l : List (List Int)) (fr to : Int) (hl : l.length ≤ 1048576) (hok : ∀ c, c ∈ l → okP fr to c) : Fz F.i_controlOf [.sl 1 (E cC l), .agg (cFd fr to)] (.tup [.agg (cCt (ctlT fr to l)), .v (.bool (ctlB fr to l))]) := by
 refine fn0 Cd.i_controlOf_k fun X => ?_
 simp -dsimp only [go_sem, cC, cFd, cCt]
 refine CallK.flat (sizeC l) rfl ?_
 simp -dsimp only [go_sem, cC, cFd]
 refine LoopK.at (drawn_ok Tryz.mixed) (X := { zz : Nat × (Int × Int) // zz.1 ≤ l.length ∧ ctlG fr to (l.drop zz.1) zz.2.1 zz.2.2 = ctlG fr to l 0 0 }) (fun zz => [(16, .v (.int .i64 zz.1.1))]) (fun zz => [(.t 6 0, .var [.v (.int .i64 l.length), .v (.int .i64 zz.1.2.1), .v (.int .i64 zz.1.2.2)] false)]) (fun zz => l.length - zz.1.1) ⟨(0, (0, 0)), by omega, by simp⟩ ?_ ?_
 ·exact le0
 ·rintro ⟨⟨i, a, b⟩, hi, hg⟩
  dsimp only at hi hg
  simp -dsimp only [go_sem]
  refine Br.mk (fun hc => ?_) fun hc => ?_
  ·have hlt : i < l.length := Dq
   have hw := wrap_succ hlt hl
   have hk := hok _ (List.getElem_mem hlt)
   have hle := numC_le hk
   have hm : (E cC l).getD i [] = [.sl 1 (E cI l[i])] := E_get hlt
   rw [List.drop_eq_getElem_cons hlt, ctlG] at hg
   cases hb : (numC fr to l[i]).2
   ·rw [if_neg (by simp [hb])] at hg
    repeat' first
     |simp -dsimp only [go_sem, hm, hw, hb, cC, cFd]
     |refine Br.mk ?_ ?_<;>intro h<;>try simp -dsimp only[h]
     |refine CallK.c (by first|exact numberInC hk|exact digitSum _ (by omega) (by omega)) ?_
     |refine and_c ?_
     |fail
    all_goals simp [cCt, ctlT, ctlB, ← hg]
   ·rw [if_pos hb] at hg
    repeat' first
     |simp -dsimp only [go_sem, hm, hw, hb, cC, cFd]
     |refine Br.mk ?_ ?_<;>intro h<;>try simp -dsimp only[h]
     |refine CallK.c (by first|exact numberInC hk|exact digitSum _ (by omega) (by omega)) ?_
     |refine and_c ?_
     |fail
    all_goals (exact nx (i + 1, (W (a + (numC fr to l[i]).1), W (b + (dsN (numC fr to l[i]).1.natAbs : Int)))) hg)
  ·have hge : i = l.length := by
    have : ¬ i < l.length := Dq
    omega
   subst hge
   simp -dsimp only [go_sem]
   rw [List.drop_length, ctlG] at hg
   simp [cCt, ctlT, ctlB, ← hg]
end
section
attribute [local irreducible] Vs.Fn
theorem getD_lt {α : Type} {l : List α} {i : Nat} (h : i < l.length) (d : α) : l.getD i d = l[i] := by simp [List.getD, h]
def cTs (t : List Tot) : List AV := [.sl 2 (E cT t)]
structure Off where
 trays : List (List (List Int))
 totals : List (List Tot)
def cO (o : Off) : List AV := [.sl 1 (E cD o.trays), .sl 1 (E cTs o.totals)]
def smallC (l : List (List Int)) : Prop := l.length ≤ 1048576 ∧ ∀ c, c ∈ l → c.length ≤ 1048576
def smallD (l : List (List (List Int))) : Prop := l.length ≤ 1048576 ∧ ∀ d, d ∈ l → smallC d
def smallT (l : List Tot) : Prop := l.length ≤ 1048576 ∧ ∀ t, t ∈ l → t.1.size ≤ 1048576
def smallTs (l : List (List Tot)) : Prop := l.length ≤ 1048576 ∧ ∀ t, t ∈ l → smallT t
def smallO (o : Off) : Prop := smallD o.trays ∧ smallTs o.totals
end
section
attribute [local irreducible] Vs.Fn
def wO : List (List (List Int)) → Nat
 | [] => 20
 | d :: r => if d.length = 0 then wO r else (d.getD 0 []).length
theorem wO_step {l : List (List (List Int))} {i : Nat} (h : i < l.length) : wO (l.drop i) = if l[i].length = 0 then wO (l.drop (i + 1)) else (l[i].getD 0 []).length := by
 rw [List.drop_eq_getElem_cons h, wO]
def offI (o : Off) (i : Nat) : Bool := deckB (o.trays.getD i []) && ((o.trays.getD i []).length == 0 || ((o.trays.getD i []).getD 0 []).length == wO o.trays)
def offB (o : Off) : Bool := rall o.trays.length (offI o) && (((o.trays.length : Int) == 6) && decide ((o.totals.length : Int) ≤ 20))
theorem officeColumns (o : Off) (ho : smallO o) : Fz F.i_officeColumns [.agg (cO o)] (.v (.int .i64 (wO o.trays))) := by
 refine fn0 Cd.i_officeColumns_k fun X => ?_
 simp -dsimp only [go_sem, cO]
 refine LoopK.at (drawn_ok Tryz.mixed) (X := { zz : Nat × (Unit) // zz.1 ≤ o.trays.length ∧ wO (o.trays.drop zz.1) = wO o.trays }) (fun zz => [(8, .v (.int .i64 zz.1.1))]) (fun zz => []) (fun zz => o.trays.length - zz.1.1) ⟨(0, ()), by omega, rfl⟩ ?_ ?_
 ·exact le0
 ·rintro ⟨⟨i, _⟩, hi, hg⟩
  dsimp only at hi hg
  simp -dsimp only [go_sem]
  refine Br.mk (fun hc => ?_) fun hc => ?_
  ·have hlt : i < o.trays.length := Dq
   have hw := wrap_succ hlt ho.1.1
   rw [wO_step hlt] at hg
   by_cases hd0 : o.trays[i].length = 0
   ·have hgt : decide ((o.trays[i].length : Int) > 0) = false := decide_eq_false (by omega)
    rw [if_pos hd0] at hg
    repeat' first
     |simp -dsimp only [go_sem, E_get hlt, cD, hgt, hw]
     |refine Br.mk ?_ ?_<;>intro h<;>try simp -dsimp only[h]
     |refine and_c ?_
     |fail
    all_goals (exact nx (i + 1, ()) hg)
   ·have hgt : decide ((o.trays[i].length : Int) > 0) = true := decide_eq_true (by omega)
    have h0 : 0 < o.trays[i].length := by omega
    rw [if_neg hd0, getD_lt h0] at hg
    repeat' first
     |simp -dsimp only [go_sem, E_get hlt, E_get h0, cD, hgt, cC]
     |refine Br.mk ?_ ?_<;>intro h<;>try simp -dsimp only[h]
     |refine CallK.c (by first|exact columns _) ?_
     |refine and_c ?_
     |fail
    all_goals (refine ret_eq ?_; simp [← hg]; done)
  ·have hge : i = o.trays.length := by
    have : ¬ i < o.trays.length := Dq
    omega
   subst hge
   simp -dsimp only [go_sem]
   rw [List.drop_length, wO] at hg
   simp [← hg]
theorem l15Width (o : Off) (ho : smallO o) : Fz F.s_l15Width [.ro (cO o)] (.v (.int .i64 (wO o.trays))) := by
 refine fn0 Cd.s_l15Width_k fun X => ?_
 simp -dsimp only [go_sem, cO]
 refine LoopK.at (drawn_ok Tryz.mixed) (X := { zz : Nat × (Unit) // zz.1 ≤ o.trays.length ∧ wO (o.trays.drop zz.1) = wO o.trays }) (fun zz => [(3, .v (.int .i64 zz.1.1))]) (fun zz => []) (fun zz => o.trays.length - zz.1.1) ⟨(0, ()), by omega, rfl⟩ ?_ ?_
 ·exact le0
 ·rintro ⟨⟨i, _⟩, hi, hg⟩
  dsimp only at hi hg
  simp -dsimp only [go_sem]
  refine Br.mk (fun hc => ?_) fun hc => ?_
  ·have hlt : i < o.trays.length := Dq
   have hw := wrap_succ hlt ho.1.1
   rw [wO_step hlt] at hg
   by_cases hd0 : o.trays[i].length = 0
   ·have hgt : decide ((o.trays[i].length : Int) > 0) = false := decide_eq_false (by omega)
    rw [if_pos hd0] at hg
    repeat' first
     |simp -dsimp only [go_sem, E_get hlt, cD, hgt, hw]
     |refine Br.mk ?_ ?_<;>intro h<;>try simp -dsimp only[h]
     |refine and_c ?_
     |fail
    all_goals (exact nx (i + 1, ()) hg)
   ·have hgt : decide ((o.trays[i].length : Int) > 0) = true := decide_eq_true (by omega)
    have h0 : 0 < o.trays[i].length := by omega
    rw [if_neg hd0, getD_lt h0] at hg
    repeat' first
     |simp -dsimp only [go_sem, E_get hlt, E_get h0, cD, hgt, cC]
     |refine Br.mk ?_ ?_<;>intro h<;>try simp -dsimp only[h]
     |refine CallK.c (by first|exact columns _) ?_
     |refine and_c ?_
     |fail
    all_goals (refine ret_eq ?_; simp [← hg]; done)
  ·have hge : i = o.trays.length := by
    have : ¬ i < o.trays.length := Dq
    omega
   subst hge
   simp -dsimp only [go_sem]
   rw [List.drop_length, wO] at hg
   simp [← hg]
theorem l15Ok (o : Off) (ho : smallO o) : Fz F.s_l15Ok [.ro (cO o)] (.v (.bool (offB o))) := by
 refine fn0 Cd.s_l15Ok_k fun X => ?_
 simp -dsimp only [go_sem, cO]
 refine LoopK.at (drawn_ok Tryz.mixed) (X := { zz : Nat × (Unit) // zz.1 ≤ o.trays.length ∧ rall zz.1 (offI o) = true }) (fun zz => [(3, .v (.int .i64 zz.1.1))]) (fun zz => []) (fun zz => o.trays.length - zz.1.1) ⟨(0, ()), by omega, rall_zero _⟩ ?_ ?_
 ·exact le0
 ·rintro ⟨⟨i, _⟩, hi, hg⟩
  dsimp only at hi hg
  simp -dsimp only [go_sem]
  refine Br.mk (fun hc => ?_) fun hc => ?_
  ·have hlt : i < o.trays.length := Dq
   have hw := wrap_succ hlt ho.1.1
   have hgi := getD_lt hlt ([] : List (List Int))
   have hs := ho.1.2 _ (List.getElem_mem hlt)
   by_cases hd0 : o.trays[i].length = 0
   ·have hgt : decide ((o.trays[i].length : Int) > 0) = false := decide_eq_false (by omega)
    repeat' first
     |simp -dsimp only [go_sem, E_get hlt, cD, hgt, hw]
     |refine Br.mk ?_ ?_<;>intro h<;>try simp -dsimp only[h]
     |refine CallK.c (by first|exact l02Deck _ hs.2 hs.1|exact l15Width o ho) ?_
     |refine and_c ?_
     |fail
    all_goals first
     | (refine ret_eq ?_; have hp : offI o i = false := by (simp only [offI, hgi]; simp_all)
        simp [offB, rall_not hlt hp]; done)
     | (exact nx (i + 1, ()) (rall_succ hg (by (simp only [offI, hgi]; simp_all))))
   ·have hgt : decide ((o.trays[i].length : Int) > 0) = true := decide_eq_true (by omega)
    have h0 : 0 < o.trays[i].length := by omega
    have hg0 := getD_lt h0 ([] : List Int)
    by_cases hww : o.trays[i][0].length = wO o.trays
    ·have hb : ((o.trays[i][0].length : Int) != (wO o.trays : Int)) = false := by simp [hww]
     repeat' first
      |simp -dsimp only [go_sem, E_get hlt, E_get h0, cD, hgt, cC, hb, hw]
      |refine Br.mk ?_ ?_<;>intro h<;>try simp -dsimp only[h]
      |refine CallK.c (by first|exact l02Deck _ hs.2 hs.1|exact l15Width o ho) ?_
      |refine and_c ?_
      |fail
     all_goals first
      | (refine ret_eq ?_; have hp : offI o i = false := by (simp only [offI, hgi, hg0]; simp_all)
         simp [offB, rall_not hlt hp]; done)
      | (exact nx (i + 1, ()) (rall_succ hg (by (simp only [offI, hgi, hg0]; simp_all))))
    ·have hb : ((o.trays[i][0].length : Int) != (wO o.trays : Int)) = true := by simp; omega
     repeat' first
      |simp -dsimp only [go_sem, E_get hlt, E_get h0, cD, hgt, cC, hb, hw]
      |refine Br.mk ?_ ?_<;>intro h<;>try simp -dsimp only[h]
      |refine CallK.c (by first|exact l02Deck _ hs.2 hs.1|exact l15Width o ho) ?_
      |refine and_c ?_
      |fail
     all_goals first
      | (refine ret_eq ?_; have hp : offI o i = false := by (simp only [offI, hgi, hg0]; simp_all)
         simp [offB, rall_not hlt hp]; done)
  ·have hge : i = o.trays.length := by
    have : ¬ i < o.trays.length := Dq
    omega
   subst hge
   simp -dsimp only [go_sem]
   refine ⟨?_, by simp⟩
   refine Br.mk (fun h => ?_) (fun h => ?_)
   all_goals
    simp -dsimp only [go_sem, h]
    simp_all [offB]
theorem impl_ValidOffice (o : Off) (ho : smallO o) : Fz F.i_ValidOffice [.agg (cO o)] (.v (.bool (offB o))) := by
 refine fn0 Cd.i_ValidOffice_k fun X => ?_
 simp -dsimp only [go_sem, cO]
 by_cases h6 : o.trays.length = 6
 rotate_left
 ·have hb : ((o.trays.length : Int) != 6) = true := by simp; omega
  have hb' : ((o.trays.length : Int) == 6) = false := by simp; omega
  simp -dsimp only [go_sem, hb]
  simp [offB, hb']
 have hb : ((o.trays.length : Int) != 6) = false := by simp; omega
 have hb' : ((o.trays.length : Int) == 6) = true := by simp; omega
 by_cases h20 : (o.totals.length : Int) > 20
 ·have hb2 : decide ((o.totals.length : Int) > 20) = true := decide_eq_true (by omega)
  have hb2' : decide ((o.totals.length : Int) ≤ 20) = false := decide_eq_false (by omega)
  simp -dsimp only [go_sem, hb, hb2]
  simp [offB, hb2']
 have hb2 : decide ((o.totals.length : Int) > 20) = false := decide_eq_false (by omega)
 have hb2' : decide ((o.totals.length : Int) ≤ 20) = true := decide_eq_true (by omega)
 simp -dsimp only [go_sem, hb, hb2]
 refine LoopK.at (drawn_ok Tryz.mixed) (X := { zz : Nat × (Unit) // zz.1 ≤ o.trays.length ∧ rall zz.1 (offI o) = true }) (fun zz => [(18, .v (.int .i64 zz.1.1))]) (fun zz => []) (fun zz => o.trays.length - zz.1.1) ⟨(0, ()), by omega, rall_zero _⟩ ?_ ?_
 ·exact le0
 ·rintro ⟨⟨i, _⟩, hi, hg⟩
  dsimp only at hi hg
  simp -dsimp only [go_sem]
  refine Br.mk (fun hc => ?_) fun hc => ?_
  ·have hlt : i < o.trays.length := Dq
   have hw := wrap_succ hlt ho.1.1
   have hgi := getD_lt hlt ([] : List (List Int))
   have hs := ho.1.2 _ (List.getElem_mem hlt)
   by_cases hd0 : o.trays[i].length = 0
   ·have hgt : decide ((o.trays[i].length : Int) > 0) = false := decide_eq_false (by omega)
    repeat' first
     |simp -dsimp only [go_sem, E_get hlt, cD, hgt, hw]
     |refine Br.mk ?_ ?_<;>intro h<;>try simp -dsimp only[h]
     |refine CallK.c (by first|exact validDeck _ hs.2 hs.1|exact columns _|exact officeColumns o ho) ?_
     |refine and_c ?_
     |fail
    all_goals first
     | (refine ret_eq ?_; have hp : offI o i = false := by (simp only [offI, hgi]; simp_all)
        simp [offB, rall_not hlt hp]; done)
     | (exact nx (i + 1, ()) (rall_succ hg (by (simp only [offI, hgi]; simp_all))))
   ·have hgt : decide ((o.trays[i].length : Int) > 0) = true := decide_eq_true (by omega)
    have h0 : 0 < o.trays[i].length := by omega
    have hg0 := getD_lt h0 ([] : List Int)
    by_cases hww : o.trays[i][0].length = wO o.trays
    ·have hb : ((o.trays[i][0].length : Int) != (wO o.trays : Int)) = false := by simp [hww]
     repeat' first
      |simp -dsimp only [go_sem, E_get hlt, E_get h0, cD, hgt, cC, hb, hw]
      |refine Br.mk ?_ ?_<;>intro h<;>try simp -dsimp only[h]
      |refine CallK.c (by first|exact validDeck _ hs.2 hs.1|exact columns _|exact officeColumns o ho) ?_
      |refine and_c ?_
      |fail
     all_goals first
      | (refine ret_eq ?_; have hp : offI o i = false := by (simp only [offI, hgi, hg0]; simp_all)
         simp [offB, rall_not hlt hp]; done)
      | (exact nx (i + 1, ()) (rall_succ hg (by (simp only [offI, hgi, hg0]; simp_all))))
    ·have hb : ((o.trays[i][0].length : Int) != (wO o.trays : Int)) = true := by simp; omega
     repeat' first
      |simp -dsimp only [go_sem, E_get hlt, E_get h0, cD, hgt, cC, hb, hw]
      |refine Br.mk ?_ ?_<;>intro h<;>try simp -dsimp only[h]
      |refine CallK.c (by first|exact validDeck _ hs.2 hs.1|exact columns _|exact officeColumns o ho) ?_
      |refine and_c ?_
      |fail
     all_goals first
      | (refine ret_eq ?_; have hp : offI o i = false := by (simp only [offI, hgi, hg0]; simp_all)
         simp [offB, rall_not hlt hp]; done)
  ·have hge : i = o.trays.length := by
    have : ¬ i < o.trays.length := Dq
    omega
   subst hge
   simp -dsimp only [go_sem]
   simp [offB, hg, hb', hb2']
end
end Go.Proofs.YtagejhkjpgephaaGreatDoor
