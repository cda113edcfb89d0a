/- Decks that are matched: the reference. -/
import Derived.Test.YtmfjbgjeljhcaaaGreatZwSh
namespace Go.Proofs.YtmfjbgjeljhcaaaGreat
set_option maxHeartbeats 8000000
open Go.Vs
set_option linter.unusedSimpArgs false
set_option linter.unusedVariables false
attribute [local irreducible] Vs.Fn chOK areCh chTo chAt l03 chB rk cd3 chI stp stpTo flt idxP zR clrL mat colC ascB stF
attribute [local go_sem] List.replicate_succ List.replicate_zero List.flatten_cons List.flatten_nil List.cons_append List.nil_append List.set_cons_zero List.set_cons_succ List.length_cons List.length_nil List.length_set
theorem cmpR_eq : ∀ {a b : List Int}, a.length = b.length → hasCh a = true → hasCh b = true → (cmpR a b = 0 ↔ a = b)
 | [], [], _, _, _ => by simp [cmpR]
 | [], y :: b, h, _, _ => by simp at h
 | x :: a, [], h, _, _ => by simp at h
 | x :: a, y :: b, h, ha, hb => by
  simp only [hasCh, List.all_cons, Bool.and_eq_true, decide_eq_true_eq] at ha hb
  have ih := cmpR_eq (a := a) (b := b) (by simpa using h) (by simpa [hasCh] using ha.2) (by simpa [hasCh] using hb.2)
  rw [cmpR]
  by_cases h1 : rk x < rk y
  ·rw [if_pos h1]
   refine ⟨fun h => by simp at h, fun h => ?_⟩
   simp only [List.cons.injEq] at h
   rw [h.1] at h1; omega
  ·rw [if_neg h1]
   by_cases h2 : rk x > rk y
   ·rw [if_pos h2]
    refine ⟨fun h => by simp at h, fun h => ?_⟩
    simp only [List.cons.injEq] at h
    rw [h.1] at h2; omega
   ·rw [if_neg h2, ih]
    have hxy : x = y := rk_inj ha.1 (by omega)
    simp [hxy]
theorem txt_inj {a b : List Int} (hl : a.length = b.length) (ha : hasCh a = true) (hb : hasCh b = true) (h : (txt a).data.toList = (txt b).data.toList) : a = b := by
 apply List.ext_getElem hl
 intro i h1 h2
 have e1 := txt_at ha h1
 have e2 := txt_at hb h2
 rw [h, e2] at e1
 have r1 := rk_in a[i]
 have r2 := rk_in b[i]
 have g1 := hasCh_get ha h1
 have g2 := hasCh_get hb h2
 have := chB_inj (rk b[i]).toNat (by omega) (rk a[i]).toNat (by omega) e1
 exact rk_inj g1 (by omega)
theorem txt_beq {a b : List Int} (hl : a.length = b.length) (ha : hasCh a = true) (hb : hasCh b = true) : ((txt a).toList == (txt b).toList) = (cmpR a b == 0) := by
 rw [ByteArray.toList_eq, ByteArray.toList_eq]
 have h := cmpR_eq hl ha hb
 by_cases e : a = b
 ·subst e
  have : cmpR a a = 0 := h.2 rfl
  simp [this]
 ·have h1 : ¬ cmpR a b = 0 := fun h' => e (h.1 h')
  have h2 : ¬ (txt a).data.toList = (txt b).data.toList := fun h' => e (txt_inj hl ha hb h')
  have e1 : ((txt a).data.toList == (txt b).data.toList) = false := beq_eq_false_iff_ne.2 h2
  have e2 : (cmpR a b == 0) = false := beq_eq_false_iff_ne.2 h1
  rw [e1, e2]
theorem l00Own (l : List Int) (hl : l.length ≤ 1048576) : Vs.Fn Tryz.prog F.spec_l00Own [] [.sl 1 (E cI l)] (.sl 1 (E cI l)) [] := by
 refine fn0 Cd.spec_l00Own_k fun X => ?_
 simp -dsimp only [go_sem]
 first
  | exact ⟨by omega, rfl, ⟨rfl, by omega, by omega⟩, _, _, rfl, rfl⟩
  | exact ⟨by omega, rfl, ⟨by omega, by omega⟩, _, _, rfl, rfl⟩
  | exact ⟨⟨by omega, by omega⟩, ⟨by omega, by omega⟩, _, _, rfl, rfl⟩
theorem l02Own (c : List Int) (hc : c.length ≤ 1048576) : Vs.Fn Tryz.prog F.spec_l02Own [] [.ro (cC c)] (.agg (cC c)) [] := by
 refine fn0 Cd.spec_l02Own_k fun X => ?_
 repeat' first
  |simp -dsimp only [go_sem, cC, cFd]
  |refine Br.mk (fun h => ?_) (fun h => ?_)<;>try simp -dsimp only[h]
  |refine RgK.mk rfl ?_
  |refine CallK.c (by first|exact l00Own c hc) ?_
  |refine and_c ?_
  |fail
 all_goals (exact ⟨_, _, rfl, rfl⟩)
theorem keyL_len (fr to : Int) (l : List (List Int)) : (keyL fr to l).length = l.length := by simp [keyL]
attribute [local go_sem] E_len cFd in
theorem l09Has (o : List (List Int)) (x : List Int) (fr to : Int) (ho : ∀ c, c ∈ o → okF fr to c) (hh : allCh fr to o = true) (hx : okF fr to x) (hxh : hasCh (fH fr to x) = true) (hl : o.length ≤ 1048576) :
  Vs.Fn Tryz.prog F.spec_l09Has [] [.sl 1 (E cSt (keyL fr to o)), .v (.string (txt (fH fr to x)))] (.v (.bool (hasE fr to o x))) [] := by
 have hkl := keyL_len fr to o
 refine fn0 Cd.spec_l09Has_k fun X => ?_
 simp -dsimp only [go_sem, hkl]
 refine LoopK.at (drawn_ok Tryz.mixed) (X := { zz : Nat × (Unit) // zz.1 ≤ o.length ∧ (o.take zz.1).all (fun c => !(cmF fr to c x == 0)) = true }) (fun zz => [(5, .v (.int .i64 zz.1.1))]) (fun zz => []) (fun zz => o.length - zz.1.1) ⟨(0, ()), by omega, by simp⟩ ?_ ?_
 ·exact le0
 ·rintro ⟨⟨i, _⟩, hi, hg⟩
  dsimp only at hi hg
  simp -dsimp only [go_sem, hkl]
  refine Br.mk (fun hc => ?_) fun hc => ?_
  ·have hlt : i < o.length := by first | (simpa using hc) | (simp at hc; omega)
   have hw := wrap_succ hlt hl
   have hk := ho _ (List.getElem_mem hlt)
   have hc := (List.all_eq_true.1 hh) _ (List.getElem_mem hlt)
   have hm : (E cSt (keyL fr to o)).getD i [] = [.v (.string (txt (fH fr to o[i])))] := by rw [E_get (by omega)]; simp [keyL, cSt]
   have he := txt_beq ((fH_len hk).trans (fH_len hx).symm) hc hxh
   cases hz : cmpR (fH fr to o[i]) (fH fr to x) == 0
   ·have hp : (cmF fr to o[i] x == 0) = false := hz
    repeat' first
     |simp -dsimp only [go_sem, hw, hm, he, hz, hkl]
     |refine Br.mk (fun h => ?_) (fun h => ?_)<;>try simp -dsimp only[h]
     |refine RgK.mk rfl ?_
     |refine and_c ?_
     |fail
    all_goals first | omega | (exact nx (i + 1, ()) (take_succ_all (p := fun c => !(cmF fr to c x == 0)) hlt hg (by simp [hp])))
   ·have hp : (cmF fr to o[i] x == 0) = true := hz
    have hany : hasE fr to o x = true := List.any_eq_true.2 ⟨o[i], List.getElem_mem hlt, hp⟩
    repeat' first
     |simp -dsimp only [go_sem, hw, hm, he, hz, hkl]
     |refine Br.mk (fun h => ?_) (fun h => ?_)<;>try simp -dsimp only[h]
     |refine RgK.mk rfl ?_
     |refine and_c ?_
     |fail
    all_goals first | omega | (refine ret_eq ?_; simp [hany]; done) | (simp [hany]; done)
  ·have hge : i = o.length := by
    have : ¬ i < o.length := by first | (simpa using hc) | (simp at hc; omega)
    omega
   subst hge
   simp -dsimp only [go_sem, hkl]
   have hany : hasE fr to o x = false := by
    unfold hasE
    rw [List.any_eq_false]
    intro c hc
    rw [List.take_length] at hg
    have := (List.all_eq_true.1 hg) c hc
    simpa using this
   simp [hany]
theorem mat_succ {fr to : Int} {l o : List (List Int)} {e : Bool} {i : Nat} (h : i < l.length) : mat fr to (l.take (i + 1)) o e = mat fr to (l.take i) o e ++ (if hasE fr to o l[i] == e then [l[i]] else []) := by
 unfold mat
 rw [flt_succ h]
 cases hasE fr to o l[i] == e <;> simp
theorem mat_len (fr to : Int) (l o : List (List Int)) (e : Bool) : (mat fr to l o e).length ≤ l.length := by unfold mat; exact flt_len ..
theorem mat_zero (fr to : Int) (o : List (List Int)) (e : Bool) : mat fr to [] o e = [] := by unfold mat flt; rfl
theorem mat_row {fr to : Int} {l o : List (List Int)} {e : Bool} {i : Nat} (h : i < l.length) (hh : hasE fr to o l[i] = e) : E cC (mat fr to (l.take i) o e) ++ [[.sl 1 (E cI l[i])]] = E cC (mat fr to (l.take (i + 1)) o e) := by
 rw [mat_succ h, hh, E_append]; simp [E, cC]
theorem mat_lens {fr to : Int} {l o : List (List Int)} {e : Bool} {i : Nat} (h : i < l.length) (hh : hasE fr to o l[i] = e) : (mat fr to (l.take (i + 1)) o e).length = (mat fr to (l.take i) o e).length + 1 := by
 rw [mat_succ h, hh]; simp
theorem mat_same {fr to : Int} {l o : List (List Int)} {e : Bool} {i : Nat} (h : i < l.length) (hh : hasE fr to o l[i] = !e) : mat fr to (l.take (i + 1)) o e = mat fr to (l.take i) o e := by
 rw [mat_succ h, hh]; cases e <;> simp
attribute [local go_sem] E_len cFd in
theorem l09Match (l o : List (List Int)) (fr to : Int) (hl : smallC l) (hol : o.length ≤ 1048576) (oa : ∀ c, c ∈ l → okF fr to c) (ob : ∀ c, c ∈ o → okF fr to c) (ca : allCh fr to l = true) (cb : allCh fr to o = true) :
  Vs.Fn Tryz.prog F.spec_l09Match [] [.sl 1 (E cC l), .sl 1 (E cSt (keyL fr to l)), .sl 1 (E cSt (keyL fr to o))] (.tup [.sl 1 (E cC (mat fr to l o true)), .sl 1 (E cC (mat fr to l o false))]) [] := by
 have hkl := keyL_len fr to l
 have hkm := keyL_len fr to o
 refine fn0 Cd.spec_l09Match_k fun X => ?_
 simp -dsimp only [go_sem, hkl, hkm]
 refine ⟨⟨by omega, by omega⟩, ⟨by omega, by omega⟩, ?_⟩
 refine LoopK.at (drawn_ok Tryz.mixed) (X := { zz : Nat × (Unit) // zz.1 ≤ l.length ∧ True }) (fun zz => [(8, .loc (.t 8 0) 0 (mat fr to (l.take zz.1.1) o true).length), (9, .loc (.t 9 0) 0 (mat fr to (l.take zz.1.1) o false).length), (10, .v (.int .i64 zz.1.1))]) (fun zz => [(.t 8 0, .arr 1 (E cC (mat fr to (l.take zz.1.1) o true)) false), (.t 9 0, .arr 1 (E cC (mat fr to (l.take zz.1.1) o false)) false)]) (fun zz => l.length - zz.1.1) ⟨(0, ()), by omega, trivial⟩ ?_ ?_
 ·simp [Vs.LeL, Vs.look, Vs.hlook, Vs.sput, Vs.sputs, Vs.hset, Vs.hputs, mat_zero, Vs.E]
 ·rintro ⟨⟨i, _⟩, hi, hg⟩
  dsimp only at hi hg
  simp -dsimp only [go_sem, hkl]
  refine Br.mk (fun hc => ?_) fun hc => ?_
  ·have hlt : i < l.length := by first | (simpa using hc) | (simp at hc; omega)
   have hw := wrap_succ hlt hl.1
   have hk := oa _ (List.getElem_mem hlt)
   have hc := (List.all_eq_true.1 ca) _ (List.getElem_mem hlt)
   have hs := hl.2 _ (List.getElem_mem hlt)
   have hm : (E cSt (keyL fr to l)).getD i [] = [.v (.string (txt (fH fr to l[i])))] := by rw [E_get (by omega)]; simp [keyL, cSt]
   have hm2 : (E cC l).getD i [] = [.sl 1 (E cI l[i])] := E_get hlt
   have hb1 := mat_len fr to (l.take i) o true
   have hb2 := mat_len fr to (l.take i) o false
   have ht : (l.take i).length = i := by simp; omega
   have hl1 := hl.1
   cases hz : hasE fr to o l[i]
   ·have g1 := mat_row (e := false) hlt hz
    have g2 := mat_lens (e := false) hlt hz
    have g3 := mat_same (e := true) hlt hz
    repeat' first
     |simp -dsimp only [go_sem, hw, hm, hm2, hz, g1, hkl, cC]
     |refine Br.mk (fun h => ?_) (fun h => ?_)<;>try simp -dsimp only[h]
     |refine RgK.mk rfl ?_
     |refine CallK.c (by first|exact l09Has o l[i] fr to ob cb hk hc hol|exact l02Own l[i] hs) ?_
     |refine and_c ?_
     |fail
    all_goals first | omega | (exact nx (i + 1, ()) trivial (h2 := by simp [Vs.LeL, Vs.look, Vs.hlook, Vs.sput, Vs.sputs, Vs.hset, Vs.hputs, g2, g3]))
   ·have g1 := mat_row (e := true) hlt hz
    have g2 := mat_lens (e := true) hlt hz
    have g3 := mat_same (e := false) hlt hz
    repeat' first
     |simp -dsimp only [go_sem, hw, hm, hm2, hz, g1, hkl, cC]
     |refine Br.mk (fun h => ?_) (fun h => ?_)<;>try simp -dsimp only[h]
     |refine RgK.mk rfl ?_
     |refine CallK.c (by first|exact l09Has o l[i] fr to ob cb hk hc hol|exact l02Own l[i] hs) ?_
     |refine and_c ?_
     |fail
    all_goals first | omega | (exact nx (i + 1, ()) trivial (h2 := by simp [Vs.LeL, Vs.look, Vs.hlook, Vs.sput, Vs.sputs, Vs.hset, Vs.hputs, g2, g3]))
  ·have hge : i = l.length := by
    have : ¬ i < l.length := by first | (simpa using hc) | (simp at hc; omega)
    omega
   subst hge
   simp -dsimp only [go_sem, hkl]
   rw [List.take_length]
   have k1 : (E cC (mat fr to l o true)).take (mat fr to l o true).length = E cC (mat fr to l o true) := E_takeall _
   have k2 : (E cC (mat fr to l o false)).take (mat fr to l o false).length = E cC (mat fr to l o false) := E_takeall _
   exact ⟨⟨_, _, rfl, rfl⟩, fun h => h rfl⟩
def twV (fr to : Int) (a b d : List (List Int)) : AV := if colC fr to [a, b] = 0 then .sl 1 (E cSt (keyL fr to d)) else .v (.slice none 0 0)
theorem colC_cases (fr to : Int) (a b : List (List Int)) : colC fr to [a, b] = if deckB a && deckB b then (if fldB fr to (widB a) && fldB fr to (widB b) then (if allCh fr to a && allCh fr to b then 0 else 8) else 2) else 1 := by
 unfold colC
 simp only [List.all_cons, List.all_nil, Bool.and_true]
theorem l09Two (a b : List (List Int)) (fr to : Int) (ha : smallC a) (hb : smallC b) : Vs.Fn Tryz.prog F.spec_l09Two [] [.sl 1 (E cC a), .sl 1 (E cC b), .agg (cFd fr to)] (.tup [twV fr to a b a, twV fr to a b b, .v (.int .i64 (colC fr to [a, b]))]) [] := by
 have hcc := colC_cases fr to a b
 cases da : deckB a
 ·refine fn0 Cd.spec_l09Two_k fun X => ?_
  repeat' first
   |simp -dsimp only [go_sem, cFd, da]
   |refine Br.mk (fun h => ?_) (fun h => ?_)<;>try simp -dsimp only[h]
   |refine RgK.mk rfl ?_
   |refine CallK.c (by first|exact l02Deck a ha.2 ha.1|exact l02Deck b hb.2 hb.1) ?_
   |refine and_c ?_
   |fail
  all_goals simp_all [twV]
 cases db : deckB b
 ·refine fn0 Cd.spec_l09Two_k fun X => ?_
  repeat' first
   |simp -dsimp only [go_sem, cFd, da, db]
   |refine Br.mk (fun h => ?_) (fun h => ?_)<;>try simp -dsimp only[h]
   |refine RgK.mk rfl ?_
   |refine CallK.c (by first|exact l02Deck a ha.2 ha.1|exact l02Deck b hb.2 hb.1) ?_
   |refine and_c ?_
   |fail
  all_goals simp_all [twV]
 cases fa : fldB fr to (widB a)
 ·refine fn0 Cd.spec_l09Two_k fun X => ?_
  repeat' first
   |simp -dsimp only [go_sem, cFd, da, db, fa]
   |refine Br.mk (fun h => ?_) (fun h => ?_)<;>try simp -dsimp only[h]
   |refine RgK.mk rfl ?_
   |refine CallK.c (by first|exact l02Deck a ha.2 ha.1|exact l02Deck b hb.2 hb.1|exact l07Width a|exact l07Width b|exact l02Field fr to (widB a)|exact l02Field fr to (widB b)) ?_
   |refine and_c ?_
   |fail
  all_goals simp_all [twV]
 cases fb : fldB fr to (widB b)
 ·refine fn0 Cd.spec_l09Two_k fun X => ?_
  repeat' first
   |simp -dsimp only [go_sem, cFd, da, db, fa, fb]
   |refine Br.mk (fun h => ?_) (fun h => ?_)<;>try simp -dsimp only[h]
   |refine RgK.mk rfl ?_
   |refine CallK.c (by first|exact l02Deck a ha.2 ha.1|exact l02Deck b hb.2 hb.1|exact l07Width a|exact l07Width b|exact l02Field fr to (widB a)|exact l02Field fr to (widB b)) ?_
   |refine and_c ?_
   |fail
  all_goals simp_all [twV]
 have ka : keyC fr to a = if allCh fr to a then 0 else 8 := by unfold keyC; rw [da, fa]; rfl
 have kb : keyC fr to b = if allCh fr to b then 0 else 8 := by unfold keyC; rw [db, fb]; rfl
 cases ca : allCh fr to a <;> cases cb : allCh fr to b
 ·have ka2 : keyC fr to a = _ := ka
  have kb2 : keyC fr to b = _ := kb
  rw [ca] at ka2
  rw [cb] at kb2
  simp only [if_true, if_false, Bool.false_eq_true] at ka2 kb2
  have KA := l07Keys a fr to ha.2 ha.1
  have KB := l07Keys b fr to hb.2 hb.1
  simp only [keyV, ka2, kb2, if_true, if_false, Int.reduceEq] at KA KB
  refine fn0 Cd.spec_l09Two_k fun X => ?_
  simp -dsimp only [go_sem, cFd, da, db, fa, fb]
  repeat' first
   |simp -dsimp only [go_sem, cFd, da, db, fa, fb, ka2, kb2]
   |refine Br.mk (fun h => ?_) (fun h => ?_)<;>try simp -dsimp only[h]
   |refine RgK.mk rfl ?_
   |refine CallK.c (by first|exact l02Deck a ha.2 ha.1|exact l02Deck b hb.2 hb.1|exact l07Width a|exact l07Width b|exact l02Field fr to (widB a)|exact l02Field fr to (widB b)|exact KA|exact KB) ?_
   |refine and_c ?_
   |fail
  all_goals simp_all [twV, keyV]
 ·have ka2 : keyC fr to a = _ := ka
  have kb2 : keyC fr to b = _ := kb
  rw [ca] at ka2
  rw [cb] at kb2
  simp only [if_true, if_false, Bool.false_eq_true] at ka2 kb2
  have KA := l07Keys a fr to ha.2 ha.1
  have KB := l07Keys b fr to hb.2 hb.1
  simp only [keyV, ka2, kb2, if_true, if_false, Int.reduceEq] at KA KB
  refine fn0 Cd.spec_l09Two_k fun X => ?_
  simp -dsimp only [go_sem, cFd, da, db, fa, fb]
  repeat' first
   |simp -dsimp only [go_sem, cFd, da, db, fa, fb, ka2, kb2]
   |refine Br.mk (fun h => ?_) (fun h => ?_)<;>try simp -dsimp only[h]
   |refine RgK.mk rfl ?_
   |refine CallK.c (by first|exact l02Deck a ha.2 ha.1|exact l02Deck b hb.2 hb.1|exact l07Width a|exact l07Width b|exact l02Field fr to (widB a)|exact l02Field fr to (widB b)|exact KA|exact KB) ?_
   |refine and_c ?_
   |fail
  all_goals simp_all [twV, keyV]
 ·have ka2 : keyC fr to a = _ := ka
  have kb2 : keyC fr to b = _ := kb
  rw [ca] at ka2
  rw [cb] at kb2
  simp only [if_true, if_false, Bool.false_eq_true] at ka2 kb2
  have KA := l07Keys a fr to ha.2 ha.1
  have KB := l07Keys b fr to hb.2 hb.1
  simp only [keyV, ka2, kb2, if_true, if_false, Int.reduceEq] at KA KB
  refine fn0 Cd.spec_l09Two_k fun X => ?_
  simp -dsimp only [go_sem, cFd, da, db, fa, fb]
  repeat' first
   |simp -dsimp only [go_sem, cFd, da, db, fa, fb, ka2, kb2]
   |refine Br.mk (fun h => ?_) (fun h => ?_)<;>try simp -dsimp only[h]
   |refine RgK.mk rfl ?_
   |refine CallK.c (by first|exact l02Deck a ha.2 ha.1|exact l02Deck b hb.2 hb.1|exact l07Width a|exact l07Width b|exact l02Field fr to (widB a)|exact l02Field fr to (widB b)|exact KA|exact KB) ?_
   |refine and_c ?_
   |fail
  all_goals simp_all [twV, keyV]
 ·have ka2 : keyC fr to a = _ := ka
  have kb2 : keyC fr to b = _ := kb
  rw [ca] at ka2
  rw [cb] at kb2
  simp only [if_true, if_false, Bool.false_eq_true] at ka2 kb2
  have KA := l07Keys a fr to ha.2 ha.1
  have KB := l07Keys b fr to hb.2 hb.1
  simp only [keyV, ka2, kb2, if_true, if_false, Int.reduceEq] at KA KB
  refine fn0 Cd.spec_l09Two_k fun X => ?_
  simp -dsimp only [go_sem, cFd, da, db, fa, fb]
  repeat' first
   |simp -dsimp only [go_sem, cFd, da, db, fa, fb, ka2, kb2]
   |refine Br.mk (fun h => ?_) (fun h => ?_)<;>try simp -dsimp only[h]
   |refine RgK.mk rfl ?_
   |refine CallK.c (by first|exact l02Deck a ha.2 ha.1|exact l02Deck b hb.2 hb.1|exact l07Width a|exact l07Width b|exact l02Field fr to (widB a)|exact l02Field fr to (widB b)|exact KA|exact KB) ?_
   |refine and_c ?_
   |fail
  all_goals simp_all [twV, keyV]
theorem spec_MatchDecks (a b : List (List Int)) (fr to : Int) (ha : smallC a) (hb : smallC b) : Vs.Fn Tryz.prog F.spec_MatchDecks [] [.sl 1 (E cC a), .sl 1 (E cC b), .agg (cFd fr to)] (.tup [mtV fr to a b, .v (.int .i64 (mtC fr to a b))]) [] := by
 by_cases hc : colC fr to [a, b] = 0
 rotate_left
 ·have e1 : (colC fr to [a, b] != 0) = true := by simp [hc]
  refine fn0 Cd.spec_MatchDecks_k fun X => ?_
  repeat' first
   |simp -dsimp only [go_sem, cFd, e1]
   |refine Br.mk (fun h => ?_) (fun h => ?_)<;>try simp -dsimp only[h]
   |refine RgK.mk rfl ?_
   |refine CallK.c (by first|exact l09Two a b fr to ha hb) ?_
   |refine and_c ?_
   |fail
  all_goals simp [mtV, mtC, hc]
 obtain ⟨⟨da, db⟩, ⟨fa, fb⟩, ca, cb⟩ := colC_ok hc
 have oa := okF_of da fa
 have ob := okF_of db fb
 have va : twV fr to a b a = .sl 1 (E cSt (keyL fr to a)) := by simp [twV, hc]
 have vb : twV fr to a b b = .sl 1 (E cSt (keyL fr to b)) := by simp [twV, hc]
 have sa := stF_asc fr to a
 have sb := stF_asc fr to b
 have CC : Vs.Fn Tryz.prog F.spec_l09Two [] [.sl 1 (E cC a), .sl 1 (E cC b), .agg (cFd fr to)] (.tup [.sl 1 (E cSt (keyL fr to a)), .sl 1 (E cSt (keyL fr to b)), .v (.int .i64 0)]) [] := by
  have h := l09Two a b fr to ha hb
  rw [va, vb, hc] at h; exact h
 cases hs : ascB fr to a && ascB fr to b
 ·refine fn0 Cd.spec_MatchDecks_k fun X => ?_
  repeat' first
   |simp -dsimp only [go_sem, cFd, sa, sb]
   |refine Br.mk (fun h => ?_) (fun h => ?_)<;>try simp -dsimp only[h]
   |refine RgK.mk rfl ?_
   |refine CallK.c (by first|exact CC|exact l07Step a fr to oa ca ha.1|exact l07Step b fr to ob cb hb.1) ?_
   |refine and_c ?_
   |fail
  all_goals first | (simp_all [mtV, mtC]; done) | (refine ret_eq ?_; simp_all [mtV, mtC]; done)
 have h1 : ascB fr to a = true := by simp only [Bool.and_eq_true] at hs; exact hs.1
 have h2 : ascB fr to b = true := by simp only [Bool.and_eq_true] at hs; exact hs.2
 rw [h1] at sa
 rw [h2] at sb
 refine fn0 Cd.spec_MatchDecks_k fun X => ?_
 simp -dsimp only [go_sem, cFd, sa, sb]
 repeat' first
  |simp -dsimp only [go_sem, cFd, sa, sb, Bool.not_true, Bool.or_false, Bool.false_or, List.take_succ_cons, List.take_zero, List.drop_succ_cons, List.drop_zero]
  |refine Br.mk (fun h => ?_) (fun h => ?_)<;>try simp -dsimp only[h]
  |refine RgK.mk rfl ?_
  |refine CallK.c (by first|exact CC|exact l07Step a fr to oa ca ha.1|exact l07Step b fr to ob cb hb.1|exact l09Match a b fr to ha hb.1 oa ob ca cb|exact l09Match b a fr to hb ha.1 ob oa cb ca) ?_
  |refine and_c ?_
  |fail
 all_goals (have hz : mtC fr to a b = 0 := by simp [mtC, hc, hs]
            have hv : mtV fr to a b = .sl 1 (E cD (mtL fr to a b)) := by simp [mtV, hz]
            rw [hz, hv]
            first | exact ⟨_, _, rfl, rfl⟩ | (refine ret_eq rfl) | trace_state)
end Go.Proofs.YtmfjbgjeljhcaaaGreat
