/- Texts of columns: gathered by the program and by the reference; comparisons. -/
import Derived.Test.YtmgnfpmdlgcnjaaGreatZwK
import Derived.Test.YtmgnfpmdlgcnjaaGreatZuS
import Derived.Test.YtmgnfpmdlgcnjaaGreatZuR
import Derived.Test.YtmgnfpmdlgcnjaaGreatVtR
import Derived.Test.YtmgnfpmdlgcnjaaGreatZwG
set_option linter.unusedSimpArgs false
set_option linter.unusedVariables false
set_option linter.unusedSectionVars false
set_option maxHeartbeats 8000000
namespace Go.Proofs.YtmgnfpmdlgcnjaaGreat
open Go.Vs
section
variable [Vs.Envs]
attribute [local irreducible] Vs.Fn
def cFd (fr to : Int) : List AV := [.v (.int .i64 fr), .v (.int .i64 to)]
def widB (l : List (List Int)) : Int := if l.length = 0 then 20 else ((l.getD 0 []).length : Int)
theorem l07Width (l : List (List Int)) : Fz F.s_l07Width [.sl 1 (E cC l)] (.v (.int .i64 (widB l))) := by
 refine fn0 Cd.s_l07Width_k fun X => ?_
 simp -dsimp only [go_sem, cC]
 by_cases h0 : l.length = 0
 ·have e1 : ((l.length : Int) == 0) = true := beq_iff_eq.2 (by omega)
  repeat' first
   |simp -dsimp only [go_sem, e1, cC]
   |refine Br.mk ?_ ?_<;>intro h<;>try simp -dsimp only[h]
   |refine and_c ?_
   |fail
  all_goals simp [widB, h0]
 ·have e1 : ((l.length : Int) == 0) = false := beq_eq_false_iff_ne.2 (by omega)
  have h1 : 0 < l.length := by omega
  have g0 : (E cC l).getD 0 [] = [.sl 1 (E cI l[0])] := E_get h1
  have g1 : l.getD 0 [] = l[0] := by simp [List.getD, h1]
  repeat' first
   |simp -dsimp only [go_sem, e1, g0, cC]
   |refine Br.mk ?_ ?_<;>intro h<;>try simp -dsimp only[h]
   |refine and_c ?_
   |fail
  all_goals simp_all [widB]
theorem deckColumns (l : List (List Int)) : Fz F.i_deckColumns [.sl 1 (E cC l)] (.v (.int .i64 (widB l))) := by
 refine fn0 Cd.i_deckColumns_k fun X => ?_
 simp -dsimp only [go_sem, cC]
 by_cases h0 : l.length = 0
 ·have e1 : ((l.length : Int) == 0) = true := beq_iff_eq.2 (by omega)
  repeat' first
   |simp -dsimp only [go_sem, e1, cC]
   |refine Br.mk ?_ ?_<;>intro h<;>try simp -dsimp only[h]
   |refine CallK.c (by first|exact columns l[0]) ?_
   |refine and_c ?_
   |fail
  all_goals simp [widB, h0]
 ·have e1 : ((l.length : Int) == 0) = false := beq_eq_false_iff_ne.2 (by omega)
  have h1 : 0 < l.length := by omega
  have g0 : (E cC l).getD 0 [] = [.sl 1 (E cI l[0])] := E_get h1
  have g1 : l.getD 0 [] = l[0] := by simp [List.getD, h1]
  repeat' first
   |simp -dsimp only [go_sem, e1, g0, cC]
   |refine Br.mk ?_ ?_<;>intro h<;>try simp -dsimp only[h]
   |refine CallK.c (by first|exact columns l[0]) ?_
   |refine and_c ?_
   |fail
  all_goals simp_all [widB]
def numC (fr to : Int) (c : List Int) : Int × Bool := numF ((c.take to.toNat).drop fr.toNat).dropLast (((c.take to.toNat).drop fr.toNat).getLastD 0)
def okP (fr to : Int) (c : List Int) : Prop := 0 ≤ fr ∧ fr < to ∧ to ≤ c.length ∧ to - fr ≤ 12 ∧ c.length ≤ 20 ∧ ∀ x, x ∈ c → 0 ≤ x ∧ x ≤ 4095
theorem okP_part {fr to : Int} {c : List Int} (h : okP fr to c) : ∃ u x, (c.take to.toNat).drop fr.toNat = u ++ [x] ∧ u.length + 1 ≤ 12 ∧ 0 ≤ x ∧ x ≤ 4095 ∧ numC fr to c = numF u x := by
 obtain ⟨h0, h1, h2, h3, h4, h5⟩ := h
 have hlen : ((c.take to.toNat).drop fr.toNat).length = to.toNat - fr.toNat := by simp; omega
 have hne : (c.take to.toNat).drop fr.toNat ≠ [] := by intro e; rw [e] at hlen; simp at hlen; omega
 have hd := List.dropLast_concat_getLast hne
 have hx := h5 (((c.take to.toNat).drop fr.toNat).getLast hne) (List.mem_of_mem_take (List.mem_of_mem_drop (List.getLast_mem hne)))
 refine ⟨_, _, hd.symm, ?_, hx.1, hx.2, ?_⟩
 ·rw [List.length_dropLast, hlen]; omega
 ·unfold numC
  rw [List.getLastD_eq_getLast?, List.getLast?_eq_some_getLast hne]
  rfl
theorem numberInC {fr to : Int} {c : List Int} (h : okP fr to c) : Fz F.i_numberIn [.agg (cC c), .agg (cFd fr to)] (.tup [.v (.int .i64 (numC fr to c).1), .v (.bool (numC fr to c).2)]) := by
 obtain ⟨u, x, hp, hu, _, _, hn⟩ := okP_part h
 obtain ⟨h0, h1, h2, h3, h4, h5⟩ := h
 rw [hn]
 exact numberIn c fr to u x h0 (by omega) h2 hp hu
theorem l03NumberC {fr to : Int} {c : List Int} (h : okP fr to c) : Fz F.s_l03Number [.sl 1 (E cI ((c.take to.toNat).drop fr.toNat))] (.tup [.v (.int .i64 (numC fr to c).1), .v (.bool (numC fr to c).2)]) := by
 obtain ⟨u, x, hp, hu, hx0, hx1, hn⟩ := okP_part h
 rw [hn, hp]
 exact l03Number u x hx0 hx1 hu
theorem partC {fr to : Int} {c : List Int} (h : okP fr to c) : Fz F.s_l02Part [.ro (cC c), .agg (cFd fr to)] (.sl 1 (E cI ((c.take to.toNat).drop fr.toNat))) := by
 obtain ⟨h0, h1, h2, h3, h4, h5⟩ := h
 exact part c fr to h0 (by omega) h2
end
section
variable [Vs.Envs]
attribute [local irreducible] Vs.Fn chOK areCh chTo chAt l03 chB rk cd3
attribute [local go_sem] List.replicate_succ List.replicate_zero List.flatten_cons List.flatten_nil List.cons_append List.nil_append List.set_cons_zero List.set_cons_succ List.length_cons List.length_nil List.length_set
theorem hasCh_get {l : List Int} (h : hasCh l = true) {i : Nat} (hi : i < l.length) : 0 ≤ rk l[i] := by
 simp only [hasCh, List.all_eq_true, decide_eq_true_eq] at h
 exact h _ (List.getElem_mem hi)
theorem txt_row {l : List Int} {i : Nat} (hi : i < l.length) : E cU ((l.map chI).take i) ++ [[.v (.int .u8 (chI l[i]))]] = E cU ((l.map chI).take (i + 1)) := by
 have h2 : i < (l.map chI).length := by simpa using hi
 rw [take_succ h2, E_append]; simp [E, cU]
theorem txt_len {l : List Int} {i : Nat} (hi : i ≤ l.length) : ((l.map chI).take i).length = i := by simp; omega
theorem chI_eq (m : Int) : (chB (rk m).toNat : Int) = chI m := rfl
theorem txt_all (l : List Int) : strB ((l.map chI).take l.length) = txt l := by unfold txt; rw [List.take_of_length_le (by simp)]
attribute [local irreducible] chI
theorem textOf (l : List Int) (hl : l.length ≤ 1048576) (hh : hasCh l = true) : Fz F.i_textOf [.sl 1 (E cI l)] (.v (.string (txt l))) := by
 refine fn0 Cd.i_textOf_k fun X => ?_
 simp -dsimp only [go_sem]
 refine ⟨⟨by omega, by omega⟩, ?_⟩
 refine LoopK.at (drawn_ok Tryz.mixed) (X := { zz : Nat × (Unit) // zz.1 ≤ l.length ∧ True }) (fun zz => [(3, .loc (.t 3 0) 0 zz.1.1), (9, .v (.int .i64 zz.1.1))]) (fun zz => [(.t 3 0, .arr 1 (E cU ((l.map chI).take zz.1.1)) false)]) (fun zz => l.length - zz.1.1) ⟨(0, ()), by omega, trivial⟩ ?_ ?_
 ·simp [Vs.LeL, Vs.look, Vs.hlook, Vs.sput, Vs.sputs, Vs.hset, Vs.hputs, Vs.E]
 ·rintro ⟨⟨i, _⟩, hi, hg⟩
  dsimp only at hi hg
  simp -dsimp only [go_sem, numsO_cU, txt_all]
  refine Br.mk (fun hc => ?_) fun hc => ?_
  ·have hlt : i < l.length := Dq
   have hw := wrap_succ hlt hl
   have hr := hasCh_get hh hlt
   have hr2 := (rk_in l[i]).2
   have hap := txt_row hlt
   have htl := txt_len (l := l) (i := i) (by omega)
   repeat' first
    |simp -dsimp only [go_sem, hw, cI_get hlt, chL, chS, chI_eq, hap, htl, E_len]
    |refine Br.mk ?_ ?_<;>intro h<;>try simp -dsimp only[h]
    |refine CallK.c (by first|exact rankOf _) ?_
    |refine and_c ?_
    |fail
   all_goals first | omega | (exact nx (i + 1, ()) trivial)
  ·have hge : i = l.length := by
    have : ¬ i < l.length := Dq
    omega
   subst hge
   simp -dsimp only [go_sem, numsO_cU, txt_all]
   have ht : (E cU ((l.map chI).take l.length)).take l.length = E cU ((l.map chI).take l.length) := List.take_of_length_le (by simp [Vs.E])
   simp [ht, numsO_cU, txt_all]
def l03T (l : List Int) : ByteArray × Bool := if hasCh l then (txt l, true) else (⟨#[]⟩, false)
theorem hasCh_step {l : List Int} {i : Nat} (hi : i < l.length) (h : hasCh (l.take i) = true) (h2 : 0 ≤ rk l[i]) : hasCh (l.take (i + 1)) = true := by
 unfold hasCh at h ⊢
 exact take_succ_all (p := fun m => decide (0 ≤ rk m)) hi h (by simpa using h2)
theorem hasCh_not {l : List Int} {i : Nat} (hi : i < l.length) (h2 : ¬ 0 ≤ rk l[i]) : hasCh l = false := by
 unfold hasCh
 exact not_all (p := fun m => decide (0 ≤ rk m)) hi (by simpa using h2)
theorem l03Text (l : List Int) (hl : l.length ≤ 1048576) : Fz F.s_l03Text [.sl 1 (E cI l)] (.tup [.v (.string (l03T l).1), .v (.bool (l03T l).2)]) := by
 refine fn0 Cd.s_l03Text_k fun X => ?_
 simp -dsimp only [go_sem]
 refine ⟨⟨by omega, by omega⟩, ?_⟩
 refine LoopK.at (drawn_ok Tryz.mixed) (X := { zz : Nat × (Unit) // zz.1 ≤ l.length ∧ hasCh (l.take zz.1) = true }) (fun zz => [(4, .loc (.t 4 0) 0 zz.1.1), (5, .v (.int .i64 zz.1.1))]) (fun zz => [(.t 4 0, .arr 1 (E cU ((l.map chI).take zz.1.1)) false)]) (fun zz => l.length - zz.1.1) ⟨(0, ()), by omega, by simp [hasCh]⟩ ?_ ?_
 ·simp [Vs.LeL, Vs.look, Vs.hlook, Vs.sput, Vs.sputs, Vs.hset, Vs.hputs, Vs.E]
 ·rintro ⟨⟨i, _⟩, hi, hg⟩
  dsimp only at hi hg
  simp -dsimp only [go_sem, numsO_cU, txt_all]
  refine Br.mk (fun hc => ?_) fun hc => ?_
  ·have hlt : i < l.length := Dq
   have hw := wrap_succ hlt hl
   have hr2 := (rk_in l[i]).2
   have hap := txt_row hlt
   have htl := txt_len (l := l) (i := i) (by omega)
   by_cases hz : 0 ≤ rk l[i]
   ·have e1 : l03C l[i] = (chI l[i], true) := by simp [l03C, hz]
    repeat' first
     |simp -dsimp only [go_sem, hw, cI_get hlt, e1, hap, htl, E_len]
     |refine Br.mk ?_ ?_<;>intro h<;>try simp -dsimp only[h]
     |refine CallK.c (by first|exact l03Char _) ?_
     |refine and_c ?_
     |fail
    all_goals first | omega | (exact nx (i + 1, ()) (hasCh_step hlt hg hz))
   ·have e1 : l03C l[i] = (0, false) := by simp [l03C, hz]
    repeat' first
     |simp -dsimp only [go_sem, hw, cI_get hlt, e1]
     |refine Br.mk ?_ ?_<;>intro h<;>try simp -dsimp only[h]
     |refine CallK.c (by first|exact l03Char _) ?_
     |refine and_c ?_
     |fail
    all_goals first | omega | (refine ret_eq ?_; simp [l03T, hasCh_not hlt hz]; done) | (simp [l03T, hasCh_not hlt hz]; done)
  ·have hge : i = l.length := by
    have : ¬ i < l.length := Dq
    omega
   subst hge
   simp -dsimp only [go_sem, numsO_cU, txt_all]
   have hh : hasCh l = true := by simpa using hg
   have ht : (E cU ((l.map chI).take l.length)).take l.length = E cU ((l.map chI).take l.length) := List.take_of_length_le (by simp [Vs.E])
   simp [ht, numsO_cU, txt_all, l03T, hh]
def cmpR : List Int → List Int → Int
 | x :: a, y :: b => if rk x < rk y then -1 else if rk x > rk y then 1 else cmpR a b
 | _, _ => 0
theorem cmpR_step {a b : List Int} {i : Nat} (ha : i < a.length) (hb : i < b.length) : cmpR (a.drop i) (b.drop i) = if rk a[i] < rk b[i] then -1 else if rk a[i] > rk b[i] then 1 else cmpR (a.drop (i + 1)) (b.drop (i + 1)) := by
 rw [List.drop_eq_getElem_cons ha, List.drop_eq_getElem_cons hb, cmpR]
theorem compareHoles (a b : List Int) (hl : a.length ≤ 1048576) (hab : a.length = b.length) : Fz F.i_compareHoles [.sl 1 (E cI a), .sl 1 (E cI b)] (.v (.int .i64 (cmpR a b))) := by
 refine fn0 Cd.i_compareHoles_k fun X => ?_
 simp -dsimp only [go_sem]
 refine LoopK.at (drawn_ok Tryz.mixed) (X := { zz : Nat × (Unit) // zz.1 ≤ a.length ∧ cmpR (a.drop zz.1) (b.drop zz.1) = cmpR a b }) (fun zz => [(10, .v (.int .i64 zz.1.1))]) (fun zz => []) (fun zz => a.length - zz.1.1) ⟨(0, ()), by omega, by simp⟩ ?_ ?_
 ·exact le0
 ·rintro ⟨⟨i, _⟩, hi, hg⟩
  dsimp only at hi hg
  simp -dsimp only [go_sem]
  refine Br.mk (fun hc => ?_) fun hc => ?_
  ·have hlt : i < a.length := Dq
   have hw := wrap_succ hlt hl
   have hlb : i < b.length := by omega
   rw [cmpR_step hlt hlb] at hg
   by_cases h1 : rk a[i] < rk b[i]
   ·have e1 : decide (rk a[i] < rk b[i]) = true := decide_eq_true h1
    rw [if_pos h1] at hg
    repeat' first
     |simp -dsimp only [go_sem, hw, cI_get hlt, cI_get hlb, e1]
     |refine Br.mk ?_ ?_<;>intro h<;>try simp -dsimp only[h]
     |refine CallK.c (by first|exact rankOf _) ?_
     |refine and_c ?_
     |fail
    all_goals first | omega | (refine ret_eq ?_; simp [← hg]; done) | (simp [← hg]; done)
   ·have e1 : decide (rk a[i] < rk b[i]) = false := decide_eq_false h1
    rw [if_neg h1] at hg
    by_cases h2 : rk a[i] > rk b[i]
    ·have e2 : decide (rk a[i] > rk b[i]) = true := decide_eq_true h2
     rw [if_pos h2] at hg
     repeat' first
      |simp -dsimp only [go_sem, hw, cI_get hlt, cI_get hlb, e1, e2]
      |refine Br.mk ?_ ?_<;>intro h<;>try simp -dsimp only[h]
      |refine CallK.c (by first|exact rankOf _) ?_
      |refine and_c ?_
      |fail
     all_goals first | omega | (refine ret_eq ?_; simp [← hg]; done) | (simp [← hg]; done)
    ·have e2 : decide (rk a[i] > rk b[i]) = false := decide_eq_false h2
     rw [if_neg h2] at hg
     repeat' first
      |simp -dsimp only [go_sem, hw, cI_get hlt, cI_get hlb, e1, e2]
      |refine Br.mk ?_ ?_<;>intro h<;>try simp -dsimp only[h]
      |refine CallK.c (by first|exact rankOf _) ?_
      |refine and_c ?_
      |fail
     all_goals first | omega | (exact nx (i + 1, ()) hg)
  ·have hge : i = a.length := by
    have : ¬ i < a.length := Dq
    omega
   subst hge
   simp -dsimp only [go_sem]
   have hg2 : cmpR a b = 0 := by
    rw [← hg, List.drop_length]
    cases b.drop a.length <;> rfl
   simp [hg2]
theorem txt_size (l : List Int) : (txt l).size = l.length := by simp [txt, strB, ByteArray.size]
theorem txt_at {l : List Int} (h : hasCh l = true) {i : Nat} (hi : i < l.length) : ((txt l).data.toList.getD i 0).toNat = chB (rk l[i]).toNat := by
 have h2 := chB_lt (rk l[i]).toNat (by have := (rk_in l[i]).2; omega)
 have h3 := chI_eq l[i]
 simp only [txt, strB, List.getD_eq_getElem?_getD, List.getElem?_map, List.getElem?_eq_getElem hi, Option.map_some, Option.getD_some, ← h3, Int.toNat_natCast]
 rw [UInt8.toNat_ofNat', Nat.mod_eq_of_lt (by simpa using h2)]
theorem l03Compare (a b : List Int) (hl : a.length ≤ 1048576) (hab : a.length = b.length) (ha : hasCh a = true) (hb : hasCh b = true) : Fz F.s_l03Compare [.v (.string (txt a)), .v (.string (txt b))] (.v (.int .i64 (cmpR a b))) := by
 have hsa := txt_size a
 have hsb := txt_size b
 refine fn0 Cd.s_l03Compare_k fun X => ?_
 simp -dsimp only [go_sem]
 refine LoopK.at (drawn_ok Tryz.mixed) (X := { zz : Nat × (Unit) // zz.1 ≤ a.length ∧ cmpR (a.drop zz.1) (b.drop zz.1) = cmpR a b }) (fun zz => [(5, .v (.int .i64 zz.1.1))]) (fun zz => []) (fun zz => a.length - zz.1.1) ⟨(0, ()), by omega, by simp⟩ ?_ ?_
 ·exact le0
 ·rintro ⟨⟨i, _⟩, hi, hg⟩
  dsimp only at hi hg
  simp -dsimp only [go_sem, hsa, hsb]
  refine Br.mk (fun hc => ?_) fun hc => ?_
  ·have hlt : i < a.length := Dq
   have hw := wrap_succ hlt hl
   have hlb : i < b.length := by omega
   rw [cmpR_step hlt hlb] at hg
   have ra := hasCh_get ha hlt
   have rb := hasCh_get hb hlb
   have ra2 := (rk_in a[i]).2
   have rb2 := (rk_in b[i]).2
   have ta := txt_at ha hlt
   have tb := txt_at hb hlb
   have na : ((rk a[i]).toNat : Int) = rk a[i] := by omega
   have nb : ((rk b[i]).toNat : Int) = rk b[i] := by omega
   by_cases h1 : rk a[i] < rk b[i]
   ·have e1 : decide (rk a[i] < rk b[i]) = true := decide_eq_true h1
    rw [if_pos h1] at hg
    repeat' first
     |simp -dsimp only [go_sem, hw, cI_get hlt, cI_get hlb, e1, hsa, hsb, ta, tb, na, nb]
     |refine Br.mk ?_ ?_<;>intro h<;>try simp -dsimp only[h]
     |refine CallK.c (by first|exact l03Rank _ (by omega)) ?_
     |refine and_c ?_
     |fail
    all_goals first | omega | (refine ret_eq ?_; simp [← hg]; done) | (simp [← hg]; done)
   ·have e1 : decide (rk a[i] < rk b[i]) = false := decide_eq_false h1
    rw [if_neg h1] at hg
    by_cases h2 : rk a[i] > rk b[i]
    ·have e2 : decide (rk a[i] > rk b[i]) = true := decide_eq_true h2
     rw [if_pos h2] at hg
     repeat' first
      |simp -dsimp only [go_sem, hw, cI_get hlt, cI_get hlb, e1, e2, hsa, hsb, ta, tb, na, nb]
      |refine Br.mk ?_ ?_<;>intro h<;>try simp -dsimp only[h]
      |refine CallK.c (by first|exact l03Rank _ (by omega)) ?_
      |refine and_c ?_
      |fail
     all_goals first | omega | (refine ret_eq ?_; simp [← hg]; done) | (simp [← hg]; done)
    ·have e2 : decide (rk a[i] > rk b[i]) = false := decide_eq_false h2
     rw [if_neg h2] at hg
     repeat' first
      |simp -dsimp only [go_sem, hw, cI_get hlt, cI_get hlb, e1, e2, hsa, hsb, ta, tb, na, nb]
      |refine Br.mk ?_ ?_<;>intro h<;>try simp -dsimp only[h]
      |refine CallK.c (by first|exact l03Rank _ (by omega)) ?_
      |refine and_c ?_
      |fail
     all_goals first | omega | (exact nx (i + 1, ()) hg)
  ·have hge : i = a.length := by
    have : ¬ i < a.length := Dq
    omega
   subst hge
   simp -dsimp only [go_sem, hsa, hsb]
   have hg2 : cmpR a b = 0 := by
    rw [← hg, List.drop_length]
    cases b.drop a.length <;> rfl
   simp [hg2]
end
end Go.Proofs.YtmgnfpmdlgcnjaaGreat
