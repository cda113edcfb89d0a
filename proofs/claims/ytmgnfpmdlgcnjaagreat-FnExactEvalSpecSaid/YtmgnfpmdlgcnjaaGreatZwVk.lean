/- EvalSpec: the reference's way. -/
import Derived.Test.YtmgnfpmdlgcnjaaGreatZwVb
import Derived.Test.YtmgnfpmdlgcnjaaGreatZwVj
import Derived.Test.YtmgnfpmdlgcnjaaGreatZwSy
set_option linter.unusedSimpArgs false
set_option linter.unusedVariables false
set_option linter.unusedSectionVars false
set_option maxHeartbeats 8000000
namespace Go.Proofs.YtmgnfpmdlgcnjaaGreat
open Go.Vs
variable [Vs.Envs]
attribute [local irreducible] Vs.Fn pun cmT zR offT selC keyC cfC chOK areCh chTo chAt l03 chB rk cd3 chI stp stpTo
attribute [local go_sem] Int.reduceBEq Int.reduceBNe List.replicate_succ List.replicate_zero List.flatten_cons List.flatten_nil List.cons_append List.nil_append List.set_cons_zero List.set_cons_succ List.length_cons List.length_nil List.length_set
theorem selC_key {fr to : Int} {s : ByteArray} {l : List (List Int)} (h : selC fr to s l = 0) : deckB l = true ∧ fldB fr to (widB l) = true ∧ s.size = to.toNat - fr.toNat ∧ areCh s = true ∧ allCh fr to l = true := by
 obtain ⟨hd, hf, hsz, hch, hall⟩ := selC_ok h
 have hf2 := hf
 simp only [fldB, Bool.and_eq_true, decide_eq_true_eq] at hf2
 have hz2 : ((s.size : Int)) = W (to - fr) := by simpa using hsz
 have hwb : widB l ≤ 1048576 := by
  have h40 := deck_40 hd
  unfold widB
  split
  ·omega
  ·rename_i h0
   have hm : l.getD 0 [] ∈ l := by rw [show l.getD 0 [] = l[0]'(by omega) by simp [List.getD, (by omega : 0 < l.length)]]; exact List.getElem_mem _
   have := (okF_of hd hf _ hm).2.2.2
   omega
 rw [show W (to - fr) = to - fr from wrap_in (by omega) (by omega)] at hz2
 exact ⟨hd, hf, by omega, hch, hall⟩
attribute [local go_sem] cP in
theorem spec_SelectEqual (l : List (List Int)) (fr to : Int) (s : ByteArray) (hk : smallC l) (hz : s.size ≤ 1048576) : Fz F.s_SelectEqual [.sl 1 (E cC l), .agg (cFd fr to), .v (.string s)] (.tup [selV fr to s l, .v (.int .i64 (selC fr to s l))]) := by
 have AK := l09Ask l fr to s hk hz
 by_cases h0 : selC fr to s l = 0
 ·obtain ⟨hd, hf, hsz, hch, hall⟩ := selC_key h0
  have ho := okF_of hd hf
  have h40 := deck_40 hd
  rw [show selV fr to s l = .sl 1 (E cC (flt (offT fr to s) l)) by simp [selV, h0], h0]
  rw [show askV fr to s l = .sl 1 (E cSt (keyL fr to l)) by simp [askV, h0], h0] at AK
  have hkl := keyL_len fr to l
  refine fn0 Cd.s_SelectEqual_k fun X => ?_
  repeat' first
   |simp -dsimp only [go_sem, cC, cFd, hkl, E_len]
   |refine Br.mk ?_ ?_<;>intro h<;>try simp -dsimp only[h]
   |refine CallK.c (by first|exact AK) ?_
   |refine and_c ?_
   |fail
  refine LoopK.at (drawn_ok Tryz.mixed) (X := { zz : Nat × (Unit) // zz.1 ≤ l.length ∧ True }) (fun zz => [(10, .loc (.t 10 0) 0 (flt (offT fr to s) (l.take zz.1.1)).length), (11, .v (.int .i64 zz.1.1))]) (fun zz => [(.t 10 0, .arr 1 (E cC (flt (offT fr to s) (l.take zz.1.1))) false)]) (fun zz => l.length - zz.1.1) ⟨(0, ()), by omega, trivial⟩ ?_ ?_
  ·simp [Vs.LeL, Vs.look, Vs.hlook, Vs.sput, Vs.sputs, Vs.hset, Vs.hputs, Vs.E, flt]
  ·rintro ⟨⟨i, _⟩, hi, hg⟩
   dsimp only at hi hg
   simp -dsimp only [go_sem, cC, cFd, hkl, E_len]
   refine Br.mk (fun hc => ?_) fun hc => ?_
   ·have hlt : i < l.length := Dq
    have hw := wrap_succ hlt (by omega)
    have hc := ho _ (List.getElem_mem hlt)
    have hko := key_off hc (List.all_eq_true.1 hall _ (List.getElem_mem hlt)) hsz hch
    have hm : (E cSt (keyL fr to l)).getD i [] = [.v (.string (txt (fH fr to l[i])))] := by rw [E_get (by omega)]; simp [keyL, cSt]
    have hm2 : (E cC l).getD i [] = [.sl 1 (E cI l[i])] := E_get hlt
    have hfs := flt_succ (q := offT fr to s) hlt
    have hfl := flt_len (offT fr to s) (l.take i)
    have ht : (l.take i).length = i := by simp; omega
    have NC := l02Own l[i] (hk.2 _ (List.getElem_mem hlt))
    have hE : (E cC (flt (offT fr to s) (l.take i))).length = (flt (offT fr to s) (l.take i)).length := E_len ..
    cases hq : offT fr to s l[i]
    ·rw [hq] at hfs hko
     have hap : E cC (flt (offT fr to s) (l.take i)) ++ [[.sl 1 (E cI l[i])]] = E cC (flt (offT fr to s) (l.take (i + 1))) := by rw [hfs, E_append]; rfl
     have hln : (flt (offT fr to s) (l.take (i + 1))).length = (flt (offT fr to s) (l.take i)).length + 1 := by rw [hfs]; simp
     simp -dsimp only [go_sem, hm, hm2, hw, hko, cC, cFd]
     repeat' first
      |simp -dsimp only [go_sem, hm, hm2, hw, hko, hap, hE, cC, cFd]
      |refine Br.mk ?_ ?_<;>intro h<;>try simp -dsimp only[h]
      |refine CallK.c (by first|exact NC) ?_
      |refine and_c ?_
      |fail
     all_goals first | omega | (exact nx (i + 1, ()) trivial (h2 := by simp [Vs.LeL, Vs.look, Vs.hlook, Vs.sput, Vs.sputs, Vs.hset, Vs.hputs, hln, Vs.rnL, Vs.rn, Vs.nmF, Vs.scr, Vs.AV.has]))
    ·rw [hq] at hfs hko
     have hsame : flt (offT fr to s) (l.take (i + 1)) = flt (offT fr to s) (l.take i) := by rw [hfs]; simp
     repeat' first
      |simp -dsimp only [go_sem, hm, hm2, hw, hko, cC, cFd]
      |refine Br.mk ?_ ?_<;>intro h<;>try simp -dsimp only[h]
      |refine and_c ?_
      |fail
     all_goals first | omega | (exact nx (i + 1, ()) trivial (h2 := by simp [Vs.LeL, Vs.look, Vs.hlook, Vs.sput, Vs.sputs, Vs.hset, Vs.hputs, hsame, Vs.rnL, Vs.rn, Vs.nmF, Vs.scr, Vs.AV.has]))
   ·have hge : i = l.length := by
     have : ¬ i < l.length := Dq
     omega
    subst hge
    simp -dsimp only [go_sem, cC, cFd, hkl, E_len]
    have htk : (E cC (flt (offT fr to s) (l.take l.length))).take (flt (offT fr to s) (l.take l.length)).length = E cC (flt (offT fr to s) l) := by
     rw [List.take_length]; exact List.take_of_length_le (by rw [E_len]; exact Nat.le_refl _)
    first | (rw [htk]; exact ⟨⟨_, _, rfl, rfl⟩, fun h => h rfl⟩) | (rw [List.take_length]; exact ⟨⟨_, _, rfl, rfl⟩, fun h => h rfl⟩)
 ·have e0 : (selC fr to s l != 0) = true := by simp [h0]
  rw [show selV fr to s l = .v (.slice none 0 0) by simp [selV, h0]]
  rw [show askV fr to s l = .v (.slice none 0 0) by simp [askV, h0]] at AK
  generalize selC fr to s l = c at *
  refine fn0 Cd.s_SelectEqual_k fun X => ?_
  repeat' first
   |simp -dsimp only [go_sem, cC, cFd, e0]
   |refine Br.mk ?_ ?_<;>intro h<;>try simp -dsimp only[h]
   |refine CallK.c (by first|exact AK) ?_
   |refine and_c ?_
   |fail
  all_goals first | exact ⟨_, _, rfl, rfl⟩
theorem wid_in {l : List (List Int)} (hd : deckB l = true) : inB (widB l) 1 20 = true := by
 by_cases h0 : l.length = 0
 ·unfold widB; rw [if_pos h0]; rfl
 ·have hd2 := hd
  simp only [deckB, Bool.and_eq_true, List.all_eq_true, decide_eq_true_eq] at hd2
  have hm : l.getD 0 [] ∈ l := by rw [show l.getD 0 [] = l[0]'(by omega) by simp [List.getD, (by omega : 0 < l.length)]]; exact List.getElem_mem _
  have := (hd2.1 _ hm).1
  simp only [cardB, inB, Bool.and_eq_true, decide_eq_true_eq] at this
  unfold widB
  rw [if_neg h0]
  simp only [inB, Bool.and_eq_true, decide_eq_true_eq]
  omega
theorem cfC_lc (x : Spc) (l : List (List Int)) : cfC x l = if lcC x l = 0 then (if noText x.text then 0 else selC x.w0 x.w1 x.text l) else lcC x l := by
 unfold cfC lcC
 cases hd : deckB l
 ·simp
 ·rw [wid_in hd]
  cases hs : spcB x (widB l) <;> simp
attribute [local go_sem] cFd in
theorem l16Cards (x : Spc) (l : List (List Int)) (hk : smallC l) (hz : x.text.size ≤ 1048576) : Fz F.s_l16Cards [.ro (cP x), .sl 1 (E cC l)] (.tup [cfV x l, .v (.int .i64 (cfC x l))]) := by
 have LC := l16Code x l hk hz
 have CP := l02Copy l hk
 have SE := spec_SelectEqual l x.w0 x.w1 x.text hk hz
 have hcc := cfC_lc x l
 by_cases h0 : lcC x l = 0
 ·rw [h0] at LC
  rw [if_pos h0] at hcc
  cases hn : noText x.text
  ·rw [hn] at hcc
   simp only [Bool.false_eq_true, if_false] at hcc
   have hV : cfV x l = selV x.w0 x.w1 x.text l := by unfold cfV selV cfL; rw [hcc, hn]; rfl
   have hv2 : selV x.w0 x.w1 x.text l = .sl 1 (E cC (flt (offT x.w0 x.w1 x.text) l)) ∨ selV x.w0 x.w1 x.text l = .v (.slice none 0 0) := by unfold selV; split <;> simp
   rw [hcc, hV]
   unfold noText at hn
   rcases hv2 with hv2 | hv2 <;> rw [hv2] at SE ⊢
   all_goals
    refine fn0 Cd.s_l16Cards_k fun X => ?_
    repeat' first
     |simp -dsimp only [go_sem, cC, cP, hn]
     |refine Br.mk ?_ ?_<;>intro h<;>try simp -dsimp only[h]
     |refine CallK.c (by first|exact LC|exact SE) ?_
     |refine and_c ?_
     |fail
    all_goals first | exact ⟨_, _, rfl, rfl⟩
  ·rw [hn] at hcc
   simp only [if_true] at hcc
   have hV : cfV x l = .sl 1 (E cC l) := by unfold cfV cfL; rw [hcc, hn]; rfl
   rw [hcc, hV]
   unfold noText at hn
   refine fn0 Cd.s_l16Cards_k fun X => ?_
   repeat' first
    |simp -dsimp only [go_sem, cC, cP, hn]
    |refine Br.mk ?_ ?_<;>intro h<;>try simp -dsimp only[h]
    |refine CallK.c (by first|exact LC|exact CP) ?_
    |refine and_c ?_
    |fail
   all_goals first | exact ⟨_, _, rfl, rfl⟩
 ·rw [if_neg h0] at hcc
  have e0 : (lcC x l != 0) = true := by simp [h0]
  have hV : cfV x l = .v (.slice none 0 0) := by unfold cfV; rw [hcc, if_neg h0]
  rw [hV, hcc]
  generalize lcC x l = c at *
  refine fn0 Cd.s_l16Cards_k fun X => ?_
  repeat' first
   |simp -dsimp only [go_sem, cC, cP, e0]
   |refine Br.mk ?_ ?_<;>intro h<;>try simp -dsimp only[h]
   |refine CallK.c (by first|exact LC) ?_
   |refine and_c ?_
   |fail
  all_goals first | exact ⟨_, _, rfl, rfl⟩
theorem deckB_sub {l m : List (List Int)} (hd : deckB l = true) (hs : ∀ c, c ∈ m → c ∈ l) (hm : m.length ≤ 40) : deckB m = true ∧ (widB m = 20 ∨ widB m = widB l) := by
 simp only [deckB, Bool.and_eq_true, List.all_eq_true, decide_eq_true_eq] at hd ⊢
 by_cases h0 : m.length = 0
 ·rw [List.eq_nil_of_length_eq_zero h0]
  exact ⟨⟨fun c hc => (by cases hc), by simp⟩, .inl rfl⟩
 ·have hm0 : m.getD 0 [] ∈ m := by rw [show m.getD 0 [] = m[0]'(by omega) by simp [List.getD, (by omega : 0 < m.length)]]; exact List.getElem_mem _
  have e0 := (hd.1 _ (hs _ hm0)).2
  refine ⟨⟨fun c hc => ⟨(hd.1 _ (hs c hc)).1, by rw [e0]; exact (hd.1 _ (hs c hc)).2⟩, hm⟩, .inr ?_⟩
  have hl0 : l.length ≠ 0 := by
   intro e
   have := hs _ hm0
   rw [List.eq_nil_of_length_eq_zero e] at this; cases this
  unfold widB
  rw [if_neg h0, if_neg hl0, e0]
theorem fldB_sub {a b : Int} {l m : List (List Int)} (hd : deckB l = true) (hw : widB m = 20 ∨ widB m = widB l) (hf : fldB a b (widB l) = true) : fldB a b (widB m) = true := by
 rcases hw with hw | hw
 ·have h1 := wid_in hd
  simp only [inB, fldB, Bool.and_eq_true, decide_eq_true_eq] at h1 hf ⊢
  omega
 ·rw [hw]; exact hf
theorem numB_sub {a b : Int} {l m : List (List Int)} (hd : deckB l = true) (hw : widB m = 20 ∨ widB m = widB l) (hf : numB a b (widB l) = true) : numB a b (widB m) = true := by
 unfold numB at hf ⊢
 rw [Bool.and_eq_true] at hf ⊢
 exact ⟨fldB_sub hd hw hf.1, hf.2⟩
attribute [local go_sem] cFd in
theorem l16Eval (x : Spc) (l : List (List Int)) (hk : smallC l) (hz : x.text.size ≤ 1048576) : Fz F.s_l16Eval [.ro (cP x), .sl 1 (E cC l)] (.tup [evV x l, .v (.int .i64 (evC x l))]) := by
 have CF := l16Cards x l hk hz
 by_cases h0 : cfC x l = 0
 ·obtain ⟨hd, hf, hn⟩ := cfC_ok h0
  have h40 := deck_40 hd
  have hml := cfL_mem (x := x) (l := l)
  have hll := cfL_len x l
  obtain ⟨hdc, hwc⟩ := deckB_sub hd hml (by omega)
  have hfc := fldB_sub hd hwc hf
  have hkc : smallC (cfL x l) := ⟨by omega, fun c hc => hk.2 c (hml c hc)⟩
  have hof : ∀ c, c ∈ cfL x l → okF x.g0 x.g1 c := fun c hc => okF_of hd hf c (hml c hc)
  have SB := spec_SortedBy (cfL x l) x.g0 x.g1 hkc.2 hkc.1
  have hsm := srtL_mem hof (by omega : (cfL x l).length ≤ 40)
  have hsl := srtL_len x.g0 x.g1 (cfL x l)
  obtain ⟨hds, hws⟩ := deckB_sub hd (fun c hc => hml c (hsm c hc)) (by omega : (srtL x.g0 x.g1 (cfL x l)).length ≤ 40)
  have hks : smallC (srtL x.g0 x.g1 (cfL x l)) := ⟨by omega, fun c hc => hk.2 c (hml c (hsm c hc))⟩
  have TO := l15Sums (srtL x.g0 x.g1 (cfL x l)) x.g0 x.g1 x.s0 x.s1 hks hds (fldB_sub hd hws hf) (numB_sub hd hws hn)
  rw [show cfV x l = .sl 1 (E cC (cfL x l)) by simp [cfV, h0], h0] at CF
  have hkey : keyC x.g0 x.g1 (cfL x l) = if allCh x.g0 x.g1 (cfL x l) then 0 else 8 := by unfold keyC; rw [hdc, hfc]; rfl
  cases ha : allCh x.g0 x.g1 (cfL x l)
  ·rw [ha] at hkey
   simp only [Bool.false_eq_true, if_false] at hkey
   rw [show srtV x.g0 x.g1 (cfL x l) = .v (.slice none 0 0) by simp [srtV, hkey], hkey] at SB
   rw [show evC x l = 8 by simp [evC, h0, ha], show evV x l = .v (.slice none 0 0) by simp [evV, h0, ha]]
   refine fn0 Cd.s_l16Eval_k fun X => ?_
   repeat' first
    |simp -dsimp only [go_sem, cC, cP]
    |refine Br.mk ?_ ?_<;>intro h<;>try simp -dsimp only[h]
    |refine CallK.c (by first|exact CF|exact SB) ?_
    |refine and_c ?_
    |fail
   all_goals first | exact ⟨_, _, rfl, rfl⟩
  ·rw [ha] at hkey
   simp only [if_true] at hkey
   rw [show srtV x.g0 x.g1 (cfL x l) = .sl 1 (E cC (srtL x.g0 x.g1 (cfL x l))) by simp [srtV, hkey], hkey] at SB
   rw [show evC x l = (if totB x.g0 x.g1 x.s0 x.s1 (srtL x.g0 x.g1 (cfL x l)) then 0 else 8) by simp [evC, h0, ha], show evV x l = totV x.g0 x.g1 x.s0 x.s1 (srtL x.g0 x.g1 (cfL x l)) by simp [evV, h0, ha]]
   generalize (if totB x.g0 x.g1 x.s0 x.s1 (srtL x.g0 x.g1 (cfL x l)) then (0 : Int) else 8) = c at *
   have hv2 : totV x.g0 x.g1 x.s0 x.s1 (srtL x.g0 x.g1 (cfL x l)) = .sl 2 (E cTt (totL x.g0 x.g1 x.s0 x.s1 (srtL x.g0 x.g1 (cfL x l)))) ∨ totV x.g0 x.g1 x.s0 x.s1 (srtL x.g0 x.g1 (cfL x l)) = .v (.slice none 0 0) := by unfold totV; split <;> simp
   rcases hv2 with hv2 | hv2 <;> rw [hv2] at TO ⊢
   all_goals
    refine fn0 Cd.s_l16Eval_k fun X => ?_
    repeat' first
     |simp -dsimp only [go_sem, cC, cP]
     |refine Br.mk ?_ ?_<;>intro h<;>try simp -dsimp only[h]
     |refine CallK.c (by first|exact CF|exact SB|exact TO) ?_
     |refine and_c ?_
     |fail
    all_goals first | exact ⟨_, _, rfl, rfl⟩
 ·have e0 : (cfC x l != 0) = true := by simp [h0]
  rw [show evC x l = cfC x l by simp [evC, h0], show evV x l = .v (.slice none 0 0) by simp [evV, h0]]
  rw [show cfV x l = .v (.slice none 0 0) by simp [cfV, h0]] at CF
  generalize cfC x l = c at *
  refine fn0 Cd.s_l16Eval_k fun X => ?_
  repeat' first
   |simp -dsimp only [go_sem, cC, cP, e0]
   |refine Br.mk ?_ ?_<;>intro h<;>try simp -dsimp only[h]
   |refine CallK.c (by first|exact CF) ?_
   |refine and_c ?_
   |fail
  all_goals first | exact ⟨_, _, rfl, rfl⟩
theorem spec_EvalSpec (x : Spc) (l : List (List Int)) (hk : smallC l) (hz : x.text.size ≤ 1048576) : Fz F.s_EvalSpec [.agg (cP x), .sl 1 (E cC l)] (.tup [evV x l, .v (.int .i64 (evC x l))]) := by
 have EV := l16Eval x l hk hz
 have hv2 : evV x l = .sl 2 (E cTt (totL x.g0 x.g1 x.s0 x.s1 (srtL x.g0 x.g1 (cfL x l)))) ∨ evV x l = .v (.slice none 0 0) := by
  unfold evV totV
  split
  ·split
   ·split <;> simp
   ·simp
  ·simp
 generalize evC x l = c at *
 rcases hv2 with hv2 | hv2 <;> rw [hv2] at EV ⊢
 all_goals
  refine fn0 Cd.s_EvalSpec_k fun X => ?_
  repeat' first
   |simp -dsimp only [go_sem, cC, cFd, cP]
   |refine Br.mk ?_ ?_<;>intro h<;>try simp -dsimp only[h]
   |refine CallK.c (by first|exact EV) ?_
   |refine and_c ?_
   |fail
  all_goals first | exact ⟨_, _, rfl, rfl⟩
end Go.Proofs.YtmgnfpmdlgcnjaaGreat
