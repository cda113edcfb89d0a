/- Fields of cards: comparisons, keys, steps down. -/
import Derived.Test.YtmgnfpmdlgcnjaaGreatZwQc
import Derived.Test.YtmgnfpmdlgcnjaaGreatZuS
import Derived.Test.YtmgnfpmdlgcnjaaGreatZuR
set_option linter.unusedSimpArgs false
set_option linter.unusedVariables false
set_option linter.unusedSectionVars false
set_option maxHeartbeats 8000000
namespace Go.Proofs.YtmgnfpmdlgcnjaaGreat
open Go.Vs
variable [Vs.Envs]
attribute [local irreducible] Vs.Fn chOK areCh chTo chAt l03 chB rk cd3 chI
def fH (fr to : Int) (c : List Int) : List Int := (c.take to.toNat).drop fr.toNat
def okF (fr to : Int) (c : List Int) : Prop := 0 ≤ fr ∧ fr < to ∧ to ≤ c.length ∧ c.length ≤ 20
theorem fH_len {fr to : Int} {c : List Int} (h : okF fr to c) : (fH fr to c).length = to.toNat - fr.toNat := by
 obtain ⟨h0, h1, h2, h3⟩ := h
 simp [fH]; omega
theorem fH_le {fr to : Int} {c : List Int} (h : okF fr to c) : (fH fr to c).length ≤ 1048576 := by
 have := fH_len h
 obtain ⟨h0, h1, h2, h3⟩ := h
 omega
theorem okF_b {fr to : Int} {c : List Int} (h : okF fr to c) : 0 ≤ fr ∧ fr ≤ to ∧ to ≤ ((E cI c).length : Int) := by
 obtain ⟨h0, h1, h2, h3⟩ := h
 rw [E_len]; omega
theorem okF_b2 {fr to : Int} {c : List Int} (h : okF fr to c) : 0 ≤ fr ∧ fr ≤ to ∧ to ≤ (c.length : Int) := by
 obtain ⟨h0, h1, h2, h3⟩ := h
 omega
theorem fH_E (fr to : Int) (c : List Int) : ((E cI c).take to.toNat).drop fr.toNat = E cI (fH fr to c) := by simp [fH, E, List.map_take, List.map_drop]
def cmF (fr to : Int) (a b : List Int) : Int := cmpR (fH fr to a) (fH fr to b)
def allCh (fr to : Int) (l : List (List Int)) : Bool := l.all fun c => hasCh (fH fr to c)
theorem compareFields (a b : List Int) (fr to : Int) (ha : okF fr to a) (hb : okF fr to b) : Fz F.i_compareFields [.agg (cC a), .agg (cC b), .agg (cFd fr to)] (.v (.int .i64 (cmF fr to a b))) := by
 refine fn0 Cd.i_compareFields_k fun X => ?_
 repeat' first
  |simp -dsimp only [go_sem, fH_E, E_len, cC, cFd, List.replicate_succ, List.replicate_zero, List.flatten_cons, List.flatten_nil, List.cons_append, List.nil_append, List.set_cons_zero, List.set_cons_succ, List.length_cons, List.length_nil, List.length_set]
  |refine Br.mk ?_ ?_<;>intro h<;>try simp -dsimp only[h]
  |refine RgK.mk rfl ?_
  |refine CallK.c (by first|exact compareHoles _ _ (fH_le ha) ((fH_len ha).trans (fH_len hb).symm)) ?_
  |refine And.intro (by first|rfl | omega | decide|exact okF_b ha|exact okF_b hb|exact ⟨rfl, okF_b ha⟩|exact ⟨rfl, okF_b hb⟩|exact okF_b2 ha|exact okF_b2 hb|exact ⟨rfl, okF_b2 ha⟩|exact ⟨rfl, okF_b2 hb⟩ | (refine ⟨?_, ?_⟩ <;> (first | rfl | omega | decide|exact okF_b ha|exact okF_b hb|exact ⟨rfl, okF_b ha⟩|exact ⟨rfl, okF_b hb⟩|exact okF_b2 ha|exact okF_b2 hb|exact ⟨rfl, okF_b2 ha⟩|exact ⟨rfl, okF_b2 hb⟩)) | (refine ⟨?_, ?_, ?_⟩ <;> (first | rfl | omega | decide|exact okF_b ha|exact okF_b hb|exact ⟨rfl, okF_b ha⟩|exact ⟨rfl, okF_b hb⟩|exact okF_b2 ha|exact okF_b2 hb|exact ⟨rfl, okF_b2 ha⟩|exact ⟨rfl, okF_b2 hb⟩)) | (refine ⟨?_, ?_, ?_, ?_⟩ <;> (first | rfl | omega | decide|exact okF_b ha|exact okF_b hb|exact ⟨rfl, okF_b ha⟩|exact ⟨rfl, okF_b hb⟩|exact okF_b2 ha|exact okF_b2 hb|exact ⟨rfl, okF_b2 ha⟩|exact ⟨rfl, okF_b2 hb⟩))) ?_
  |fail
 all_goals (simp_all [cmF])
theorem hasField (a : List Int) (fr to : Int) (ha : okF fr to a) : Fz F.i_hasField [.agg (cC a), .agg (cFd fr to)] (.v (.bool (hasCh (fH fr to a)))) := by
 refine fn0 Cd.i_hasField_k fun X => ?_
 repeat' first
  |simp -dsimp only [go_sem, fH_E, E_len, cC, cFd, List.replicate_succ, List.replicate_zero, List.flatten_cons, List.flatten_nil, List.cons_append, List.nil_append, List.set_cons_zero, List.set_cons_succ, List.length_cons, List.length_nil, List.length_set]
  |refine Br.mk ?_ ?_<;>intro h<;>try simp -dsimp only[h]
  |refine RgK.mk rfl ?_
  |refine CallK.c (by first|exact hasCharacters _ (fH_le ha)) ?_
  |refine And.intro (by first|rfl | omega | decide|exact okF_b ha|exact ⟨rfl, okF_b ha⟩|exact okF_b2 ha|exact ⟨rfl, okF_b2 ha⟩ | (refine ⟨?_, ?_⟩ <;> (first | rfl | omega | decide|exact okF_b ha|exact ⟨rfl, okF_b ha⟩|exact okF_b2 ha|exact ⟨rfl, okF_b2 ha⟩)) | (refine ⟨?_, ?_, ?_⟩ <;> (first | rfl | omega | decide|exact okF_b ha|exact ⟨rfl, okF_b ha⟩|exact okF_b2 ha|exact ⟨rfl, okF_b2 ha⟩)) | (refine ⟨?_, ?_, ?_, ?_⟩ <;> (first | rfl | omega | decide|exact okF_b ha|exact ⟨rfl, okF_b ha⟩|exact okF_b2 ha|exact ⟨rfl, okF_b2 ha⟩))) ?_
  |fail
 all_goals (simp_all)
theorem haveField1 (a : List Int) (fr to : Int) (ha : okF fr to a) : Fz F.i_haveField_1 [.agg (cC a), .ro (cFd fr to)] (.v (.bool (!hasCh (fH fr to a)))) := by
 refine fn0 Cd.i_haveField_1_k fun X => ?_
 repeat' first
  |simp -dsimp only [go_sem, cC, cFd, List.replicate_succ, List.replicate_zero, List.flatten_cons, List.flatten_nil, List.cons_append, List.nil_append, List.set_cons_zero, List.set_cons_succ, List.length_cons, List.length_nil, List.length_set]
  |refine Br.mk ?_ ?_<;>intro h<;>try simp -dsimp only[h]
  |refine CallK.c (by first|exact hasField a fr to ha) ?_
  |refine and_c ?_
  |fail
 all_goals (simp_all)
theorem idxHF (l : List (List Int)) (fr to : Int) (ho : ∀ c, c ∈ l → okF fr to c) (hl : l.length ≤ 1048576) : Fz F.ixf_Card [.sl 1 (E cC l), .fn F.i_haveField_1 [.ro (cFd fr to)]] (.v (.int .i64 (idxP (fun c => !hasCh (fH fr to c)) l))) :=
 ixA_fn Tryz.mixed (k := 1) Cd.ixf_Card_k.o Cd.ixf_Card_k.n Cd.ixf_Card_k.r rfl (fun c => !hasCh (fH fr to c)) F.i_haveField_1 [.ro (cFd fr to)] rfl (fun _ => rfl) (fun _ => rfl) (fun x hx => haveField1 x fr to (ho x hx)) hl
theorem conHF (l : List (List Int)) (fr to : Int) (ho : ∀ c, c ∈ l → okF fr to c) (hl : l.length ≤ 1048576) : Fz F.ctf_Card [.sl 1 (E cC l), .fn F.i_haveField_1 [.ro (cFd fr to)]] (.v (.bool (l.any (fun c => !hasCh (fH fr to c))))) :=
 ct_fn Tryz.mixed (g := F.ixf_Card) Cd.ctf_Card_k.o Cd.ctf_Card_k.n Cd.ctf_Card_k.r rfl (fun c => !hasCh (fH fr to c)) F.i_haveField_1 [.ro (cFd fr to)] rfl (idxHF l fr to ho hl)
theorem any_allCh (fr to : Int) (l : List (List Int)) : (!l.any fun c => !hasCh (fH fr to c)) = allCh fr to l := by
 unfold allCh
 induction l with
 | nil => rfl
 | cons x r ih => simp only [List.any_cons, List.all_cons, Bool.not_or, Bool.not_not, ih]
theorem haveField (l : List (List Int)) (fr to : Int) (ho : ∀ c, c ∈ l → okF fr to c) (hl : l.length ≤ 1048576) : Fz F.i_haveField [.sl 1 (E cC l), .agg (cFd fr to)] (.v (.bool (allCh fr to l))) := by
 refine fn0 Cd.i_haveField_k fun X => ?_
 repeat' first
  |simp -dsimp only [go_sem, cFd]
  |refine Br.mk ?_ ?_<;>intro h<;>try simp -dsimp only[h]
  |refine CallK.c (by first|exact conHF l fr to ho hl) ?_
  |refine and_c ?_
  |fail
 all_goals (first | (simp_all [any_allCh]; done) | (refine ret_eq ?_; have e := any_allCh fr to l; simp_all))
theorem l03Key (a : List Int) (fr to : Int) (ha : okF fr to a) : Fz F.s_l03Key [.ro (cC a), .agg (cFd fr to)] (.tup [.v (.string (l03T (fH fr to a)).1), .v (.bool (l03T (fH fr to a)).2)]) := by
 refine fn0 Cd.s_l03Key_k fun X => ?_
 repeat' first
  |simp -dsimp only [go_sem, cFd]
  |refine Br.mk ?_ ?_<;>intro h<;>try simp -dsimp only[h]
  |refine CallK.c (by first|exact part a fr to (okF_b2 ha).1 (okF_b2 ha).2.1 (okF_b2 ha).2.2|exact l03Text (fH fr to a) (fH_le ha)) ?_
  |refine and_c ?_
  |fail
 all_goals (simp_all)
def cSt (s : ByteArray) : List AV := [.v (.string s)]
def keyL (fr to : Int) (l : List (List Int)) : List ByteArray := l.map fun c => txt (fH fr to c)
def keyC (fr to : Int) (l : List (List Int)) : Int := if deckB l then (if fldB fr to (widB l) then (if allCh fr to l then 0 else 8) else 2) else 1
def keyV (fr to : Int) (l : List (List Int)) : AV := if keyC fr to l = 0 then .sl 1 (E cSt (keyL fr to l)) else .v (.slice none 0 0)
theorem okF_of {l : List (List Int)} {fr to : Int} (hd : deckB l = true) (hn : fldB fr to (widB l) = true) : ∀ c, c ∈ l → okF fr to c := by
 intro c hc
 simp only [deckB, Bool.and_eq_true, List.all_eq_true, decide_eq_true_eq] at hd
 simp only [fldB, Bool.and_eq_true, decide_eq_true_eq] at hn
 obtain ⟨hcb, hcl⟩ := hd.1 c hc
 simp only [cardB, inB, Bool.and_eq_true, List.all_eq_true, decide_eq_true_eq] at hcb
 have h0 : l.length ≠ 0 := by intro e; rw [List.eq_nil_of_length_eq_zero e] at hc; cases hc
 rw [widB, if_neg h0, ← hcl] at hn
 obtain ⟨h1, h2, h3⟩ := hn
 obtain ⟨h5, h6, _⟩ := hcb
 exact ⟨h1, h2, h3, by omega⟩
theorem key_row {fr to : Int} {l : List (List Int)} {i : Nat} (hi : i < l.length) : E cSt ((keyL fr to l).take i) ++ [[.v (.string (txt (fH fr to l[i])))]] = E cSt ((keyL fr to l).take (i + 1)) := by
 have h2 : i < (keyL fr to l).length := by simpa [keyL] using hi
 rw [take_succ h2, E_append]; simp [E, cSt, keyL]
theorem key_len {fr to : Int} {l : List (List Int)} {i : Nat} (hi : i ≤ l.length) : ((keyL fr to l).take i).length = i := by simp [keyL]; omega
theorem key_all (fr to : Int) (l : List (List Int)) : (keyL fr to l).take l.length = keyL fr to l := List.take_of_length_le (by simp [keyL])
attribute [local go_sem] List.replicate_succ List.replicate_zero List.flatten_cons List.flatten_nil List.cons_append List.nil_append List.set_cons_zero List.set_cons_succ List.length_cons List.length_nil List.length_set in
theorem l07Keys (l : List (List Int)) (fr to : Int) (hs : ∀ x, x ∈ l → x.length ≤ 1048576) (hl : l.length ≤ 1048576) : Fz F.s_l07Keys [.sl 1 (E cC l), .agg (cFd fr to)] (.tup [keyV fr to l, .v (.int .i64 (keyC fr to l))]) := by
 cases hd : deckB l
 ·refine fn0 Cd.s_l07Keys_k fun X => ?_
  repeat' first
   |simp -dsimp only [go_sem, cC, cFd, hd]
   |refine Br.mk ?_ ?_<;>intro h<;>try simp -dsimp only[h]
   |refine CallK.c (by first|exact l02Deck l hs hl) ?_
   |refine and_c ?_
   |fail
  all_goals simp [keyV, keyC, hd]
 cases hf : fldB fr to (widB l)
 ·refine fn0 Cd.s_l07Keys_k fun X => ?_
  repeat' first
   |simp -dsimp only [go_sem, cC, cFd, hd, hf]
   |refine Br.mk ?_ ?_<;>intro h<;>try simp -dsimp only[h]
   |refine CallK.c (by first|exact l02Deck l hs hl|exact l07Width l|exact l02Field fr to _) ?_
   |refine and_c ?_
   |fail
  all_goals simp [keyV, keyC, hd, hf]
 have ho := okF_of hd hf
 refine fn0 Cd.s_l07Keys_k fun X => ?_
 repeat' first
  |simp -dsimp only [go_sem, cC, cFd, hd, hf]
  |refine Br.mk ?_ ?_<;>intro h<;>try simp -dsimp only[h]
  |refine CallK.c (by first|exact l02Deck l hs hl|exact l07Width l|exact l02Field fr to _) ?_
  |refine and_c ?_
  |fail
 refine LoopK.at (drawn_ok Tryz.mixed) (X := { zz : Nat × (Unit) // zz.1 ≤ l.length ∧ (l.take zz.1).all (fun c => hasCh (fH fr to c)) = true }) (fun zz => [(6, .loc (.t 6 0) 0 zz.1.1), (7, .v (.int .i64 zz.1.1))]) (fun zz => [(.t 6 0, .arr 1 (E cSt ((keyL fr to l).take zz.1.1)) false)]) (fun zz => l.length - zz.1.1) ⟨(0, ()), by omega, by simp⟩ ?_ ?_
 ·simp [Vs.LeL, Vs.look, Vs.hlook, Vs.sput, Vs.sputs, Vs.hset, Vs.hputs, Vs.E]
 ·rintro ⟨⟨i, _⟩, hi, hg⟩
  dsimp only at hi hg
  simp -dsimp only [go_sem, cC, cFd]
  refine Br.mk (fun hc => ?_) fun hc => ?_
  ·have hlt : i < l.length := Dq
   have hw := wrap_succ hlt hl
   have hk := ho _ (List.getElem_mem hlt)
   have hap := key_row (fr := fr) (to := to) hlt
   have hkl := key_len (fr := fr) (to := to) (l := l) (i := i) (by omega)
   have hm : (E cC l).getD i [] = [.sl 1 (E cI l[i])] := E_get hlt
   cases hb : hasCh (fH fr to l[i])
   ·have e1 : l03T (fH fr to l[i]) = (⟨#[]⟩, false) := by simp [l03T, hb]
    have e2 : allCh fr to l = false := not_all (p := fun c => hasCh (fH fr to c)) hlt hb
    repeat' first
     |simp -dsimp only [go_sem, hw, hm, e1, cC, cFd]
     |refine Br.mk ?_ ?_<;>intro h<;>try simp -dsimp only[h]
     |refine CallK.c (by first|exact l03Key _ fr to hk) ?_
     |refine and_c ?_
     |fail
    all_goals first | omega | (refine ret_eq ?_; simp [keyV, keyC, hd, hf, e2]; done) | (simp [keyV, keyC, hd, hf, e2]; done)
   ·have e1 : l03T (fH fr to l[i]) = (txt (fH fr to l[i]), true) := by simp [l03T, hb]
    repeat' first
     |simp -dsimp only [go_sem, hw, hm, e1, hap, hkl, E_len, cC, cFd]
     |refine Br.mk ?_ ?_<;>intro h<;>try simp -dsimp only[h]
     |refine CallK.c (by first|exact l03Key _ fr to hk) ?_
     |refine and_c ?_
     |fail
    all_goals first | omega | (exact nx (i + 1, ()) (take_succ_all (p := fun c => hasCh (fH fr to c)) hlt hg hb))
  ·have hge : i = l.length := by
    have : ¬ i < l.length := Dq
    omega
   subst hge
   simp -dsimp only [go_sem, cC, cFd]
   have hall : allCh fr to l = true := by simpa [allCh] using hg
   have hkl : (E cSt ((keyL fr to l).take l.length)).take l.length = E cSt (keyL fr to l) := by rw [key_all]; exact List.take_of_length_le (by simp [Vs.E, keyL])
   have hk2 : (E cSt (keyL fr to l)).take l.length = E cSt (keyL fr to l) := List.take_of_length_le (by simp [Vs.E, keyL])
   simp [keyV, keyC, hd, hf, hall, hkl, hk2, key_all]
def stpTo (fr to : Int) (l : List (List Int)) : Nat → List Int
 | 0 => []
 | i + 1 => stpTo fr to l i ++ (if cmF fr to (l.getD (i + 1) []) (l.getD i []) < 0 then [((i + 1 : Nat) : Int)] else [])
def stp (fr to : Int) (l : List (List Int)) : List Int := stpTo fr to l (l.length - 1)
theorem stpTo_len (fr to : Int) (l : List (List Int)) : ∀ i, (stpTo fr to l i).length ≤ i
 | 0 => by simp [stpTo]
 | i + 1 => by
  have := stpTo_len fr to l i
  rw [stpTo, List.length_append]
  split <;> simp <;> omega
theorem wrap2 {i n : Nat} (h : i < n - 1) (hn : n ≤ 1048576) : IntKind.i64.wrap (((i + 1 : Nat) : Int) + 1) = ((i + 1 + 1 : Nat) : Int) := by rw [wrap_in (by omega) (by omega)]; omega
theorem wrap3 {i n : Nat} (h : i < n - 1) (hn : n ≤ 1048576) : IntKind.i64.wrap (((i + 1 : Nat) : Int) - 1) = (i : Int) := by rw [wrap_in (by omega) (by omega)]; omega
attribute [local go_sem] List.replicate_succ List.replicate_zero List.flatten_cons List.flatten_nil List.cons_append List.nil_append List.set_cons_zero List.set_cons_succ List.length_cons List.length_nil List.length_set in
theorem steps (l : List (List Int)) (fr to : Int) (ho : ∀ c, c ∈ l → okF fr to c) (hl : l.length ≤ 1048576) : Fz F.i_steps [.sl 1 (E cC l), .agg (cFd fr to)] (.sl 1 (E cI (stp fr to l))) := by
 refine fn0 Cd.i_steps_k fun X => ?_
 simp -dsimp only [go_sem, cC, cFd]
 refine ⟨⟨by omega, by omega⟩, ?_⟩
 refine LoopK.at (drawn_ok Tryz.mixed) (X := { zz : Nat × (Unit) // zz.1 ≤ l.length - 1 ∧ True }) (fun zz => [(5, .loc (.t 5 0) 0 (stpTo fr to l zz.1.1).length), (6, .v (.int .i64 ((zz.1.1 + 1 : Nat) : Int)))]) (fun zz => [(.t 5 0, .arr 1 (E cI (stpTo fr to l zz.1.1)) false)]) (fun zz => l.length - 1 - zz.1.1) ⟨(0, ()), by omega, trivial⟩ ?_ ?_
 ·simp [Vs.LeL, Vs.look, Vs.hlook, Vs.sput, Vs.sputs, Vs.hset, Vs.hputs, Vs.E, stpTo]
 ·rintro ⟨⟨i, _⟩, hi, hg⟩
  dsimp only at hi hg
  simp -dsimp only [go_sem, cC, cFd]
  refine Br.mk (fun hc => ?_) fun hc => ?_
  ·have hlt : i < l.length - 1 := Dq
   have hw := wrap_succ hlt (by omega)
   have hl1 : i + 1 < l.length := by omega
   have hl0 : i < l.length := by omega
   have hk1 := ho _ (List.getElem_mem hl1)
   have hk0 := ho _ (List.getElem_mem hl0)
   have hm1 : (E cC l).getD (i + 1) [] = [.sl 1 (E cI l[i + 1])] := E_get hl1
   have hm0 : (E cC l).getD i [] = [.sl 1 (E cI l[i])] := E_get hl0
   have hw2 := wrap2 hlt hl
   have hw3 := wrap3 hlt hl
   have hsl := stpTo_len fr to l i
   have g1 : l.getD (i + 1) [] = l[i + 1] := by simp [List.getD, hl1]
   have g0 : l.getD i [] = l[i] := by simp [List.getD, hl0]
   by_cases hz : cmF fr to l[i + 1] l[i] < 0
   ·have e1 : decide (cmF fr to l[i + 1] l[i] < 0) = true := decide_eq_true hz
    have hs : stpTo fr to l (i + 1) = stpTo fr to l i ++ [((i + 1 : Nat) : Int)] := by rw [stpTo, g1, g0, if_pos hz]
    have hap : E cI (stpTo fr to l i) ++ [[.v (.int .i64 ((i + 1 : Nat) : Int))]] = E cI (stpTo fr to l (i + 1)) := by rw [hs, E_append]; rfl
    have hln : (stpTo fr to l (i + 1)).length = (stpTo fr to l i).length + 1 := by rw [hs]; simp
    repeat' first
     |simp -dsimp only [go_sem, hw2, hw3, hm1, hm0, e1, hap, E_len, cC, cFd]
     |refine Br.mk ?_ ?_<;>intro h<;>try simp -dsimp only[h]
     |refine CallK.c (by first|exact compareFields _ _ fr to hk1 hk0) ?_
     |refine and_c ?_
     |fail
    all_goals first | omega | (exact nx (i + 1, ()) trivial (h2 := by simp [Vs.LeL, Vs.look, Vs.hlook, Vs.sput, Vs.sputs, Vs.hset, Vs.hputs, hln]))
   ·have e1 : decide (cmF fr to l[i + 1] l[i] < 0) = false := decide_eq_false hz
    have hs : stpTo fr to l (i + 1) = stpTo fr to l i := by rw [stpTo, g1, g0, if_neg hz]; simp
    repeat' first
     |simp -dsimp only [go_sem, hw2, hw3, hm1, hm0, e1, E_len, cC, cFd]
     |refine Br.mk ?_ ?_<;>intro h<;>try simp -dsimp only[h]
     |refine CallK.c (by first|exact compareFields _ _ fr to hk1 hk0) ?_
     |refine and_c ?_
     |fail
    all_goals first | omega | (exact nx (i + 1, ()) trivial (h2 := by simp [Vs.LeL, Vs.look, Vs.hlook, Vs.sput, Vs.sputs, Vs.hset, Vs.hputs, hs]))
  ·have hge : i = l.length - 1 := by
    have : ¬ i < l.length - 1 := Dq
    omega
   subst hge
   simp -dsimp only [go_sem, cC, cFd]
   exact ⟨⟨_, _, rfl, rfl⟩, by simp⟩
end Go.Proofs.YtmgnfpmdlgcnjaaGreat
