/- Specifications that are drawn. -/
import Derived.Test.YtidbcoagjbbjdaaGreatDoorVsD
import Derived.Test.YtidbcoagjbbjdaaGreatDoorXwSv
import Derived.Test.YtidbcoagjbbjdaaGreatDoorXwSm
import Derived.Test.YtidbcoagjbbjdaaGreatDoorXuF
import Derived.Test.YtidbcoagjbbjdaaGreatDoorVtR
import Derived.Test.YtidbcoagjbbjdaaGreatDoorXwSr
import Derived.Test.YtidbcoagjbbjdaaGreatDoorXwQd
import Derived.Test.YtidbcoagjbbjdaaGreatDoorXwPd
import Derived.Test.YtidbcoagjbbjdaaGreatDoorXuH
import Derived.Test.YtidbcoagjbbjdaaGreatDoorXwPb
set_option linter.all false
set_option maxHeartbeats 8000000
namespace Go.Proofs.YtidbcoagjbbjdaaGreatDoor
open Go.Vs
section
variable [Vs.Tab 0 Vs.powP]
attribute [local irreducible] Vs.Fn pun cmT flt zR chOK areCh chTo chAt l03 chB rk cd3 chI stp stpTo
def cfC (x : Spc) (l : List (List Int)) : Int := if deckB l then (if inB (widB l) 1 20 && spcB x (widB l) then (if noText x.text then 0 else selC x.w0 x.w1 x.text l) else 2) else 1
def cfL (x : Spc) (l : List (List Int)) : List (List Int) := if noText x.text then l else flt (offT x.w0 x.w1 x.text) l
def cfV (x : Spc) (l : List (List Int)) : AV := if cfC x l = 0 then .sl 1 (E cC (cfL x l)) else .v (.slice none 0 0)
attribute [local go_sem] cFd List.replicate_succ List.replicate_zero List.flatten_cons List.flatten_nil List.cons_append List.nil_append List.set_cons_zero List.set_cons_succ List.length_cons List.length_nil List.length_set in
theorem cardsFor (x : Spc) (l : List (List Int)) (hk : smallC l) (hz : x.text.size ≤ 1048576) : Fz F.i_cardsFor [.agg (cP x), .sl 1 (E cC l)] (.tup [cfV x l, .v (.int .i64 (cfC x l))]) := by
 have VD := validDeck l hk.2 hk.1
 have DC := deckColumns l
 have VS := impl_ValidSpec x (widB l) hz
 have SE := impl_SelectEqual l x.w0 x.w1 x.text hk hz
 cases hd : deckB l
 ·rw [hd] at VD
  have hc : cfC x l = 1 := by simp [cfC, hd]
  rw [show cfV x l = .v (.slice none 0 0) by simp [cfV, hc], hc]
  refine fn0 Cd.i_cardsFor_k fun X => ?_
  repeat' first|simp -dsimp only [go_sem, cC, cP]|apply Br.mk<;>intro h<;>try simp -dsimp only[h]|refine CallK.c (by first|exact VD) ?_|refine aC ?_|fail
  all_goals first | exact ⟨_, _, rfl, rfl⟩
 rw [hd] at VD
 cases hv : (inB (widB l) 1 20 && spcB x (widB l))
 ·rw [hv] at VS
  have hc : cfC x l = 2 := by simp only [cfC, hd, hv]; rfl
  rw [show cfV x l = .v (.slice none 0 0) by simp [cfV, hc], hc]
  refine fn0 Cd.i_cardsFor_k fun X => ?_
  repeat' first|simp -dsimp only [go_sem, cC, cP]|apply Br.mk<;>intro h<;>try simp -dsimp only[h]|refine CallK.c (by first|exact VD|exact DC|exact VS) ?_|refine aC ?_|fail
  all_goals first | exact ⟨_, _, rfl, rfl⟩
 rw [hv] at VS
 cases hn : noText x.text
 ·have hc : cfC x l = selC x.w0 x.w1 x.text l := by simp only [cfC, hd, hv, hn]; rfl
  have hV : cfV x l = selV x.w0 x.w1 x.text l := by unfold cfV selV cfL; rw [hc, hn]; rfl
  have hv2 : selV x.w0 x.w1 x.text l = .sl 1 (E cC (flt (offT x.w0 x.w1 x.text) l)) ∨ selV x.w0 x.w1 x.text l = .v (.slice none 0 0) := by unfold selV; split <;> simp
  rw [hc, hV]
  unfold noText at hn
  rcases hv2 with hv2 | hv2 <;> rw [hv2] at SE ⊢
  all_goals
   refine fn0 Cd.i_cardsFor_k fun X => ?_
   repeat' first|simp -dsimp only [go_sem, cC, cP, hn]|apply Br.mk<;>intro h<;>try simp -dsimp only[h]|refine CallK.c (by first|exact VD|exact DC|exact VS|exact SE) ?_|refine aC ?_|fail
   all_goals first | exact ⟨_, _, rfl, rfl⟩
 ·have hc : cfC x l = 0 := by simp only [cfC, hd, hv, hn]; rfl
  have hV : cfV x l = .sl 1 (E cC l) := by unfold cfV cfL; rw [hc, hn]; rfl
  rw [hc, hV]
  unfold noText at hn
  refine fn0 Cd.i_cardsFor_k fun X => ?_
  repeat' first|simp -dsimp only [go_sem, cC, cP, hn]|apply Br.mk<;>intro h<;>try simp -dsimp only[h]|refine CallK.c (by first|exact VD|exact DC|exact VS) ?_|refine aC ?_|fail
  refine CallK.own (newDeck l hk.2 hk.1) rfl ?_
  simp -dsimp only [go_sem, cC, cP, List.flatMap_cons, List.flatMap_nil, cellN, topN, nestN, List.getD_cons_zero, List.append_nil, List.mem_singleton, List.mem_cons, List.not_mem_nil, or_false, false_or, Vs.Name.t.injEq]
  have htk : (E cC l).take l.length = E cC l := List.take_of_length_le (by rw [E_len]; exact Nat.le_refl _)
  first | exact ⟨_, _, rfl, rfl⟩ | (simp only [htk]; exact ⟨_, _, rfl, rfl⟩) | (simp [htk]; done)
end
section
variable [Vs.Tab 0 Vs.powP]
attribute [local irreducible] Vs.Fn pun cmT zR chOK areCh chTo chAt l03 chB rk cd3 chI stp stpTo
theorem cfL_mem {x : Spc} {l : List (List Int)} : ∀ c, c ∈ cfL x l → c ∈ l := by
 intro c hc
 unfold cfL at hc
 split at hc
 ·exact hc
 ·exact (List.mem_filter.1 hc).1
theorem cfL_len (x : Spc) (l : List (List Int)) : (cfL x l).length ≤ l.length := by
 unfold cfL
 split
 ·exact Nat.le_refl _
 ·exact flt_len ..
theorem okP_of {l : List (List Int)} {fr to : Int} (hd : deckB l = true) (hn : numB fr to (widB l) = true) : ∀ c, c ∈ l → okP fr to c := by
 intro c hc
 unfold numB at hn
 rw [Bool.and_eq_true] at hn
 obtain ⟨h0, h1, h2, h3⟩ := okF_of hd hn.1 c hc
 have hw := hn.2
 rw [show W (to - fr) = to - fr from wrap_in (by omega) (by omega)] at hw
 simp only [deckB, Bool.and_eq_true, List.all_eq_true, decide_eq_true_eq] at hd
 obtain ⟨hcb, hcl⟩ := hd.1 c hc
 simp only [cardB, inB, Bool.and_eq_true, List.all_eq_true, decide_eq_true_eq] at hcb
 exact ⟨h0, h1, h2, by simpa using hw, h3, fun y hy => hcb.1 y hy⟩
theorem srtL_mem {fr to : Int} {l : List (List Int)} (ho : ∀ c, c ∈ l → okF fr to c) (hl : l.length ≤ 40) : ∀ c, c ∈ srtL fr to l → c ∈ l := by
 intro c hc
 obtain ⟨i, hi, rfl⟩ := List.mem_map.1 hc
 exact mem_get (ordL_in ho hl i hi)
theorem srtL_len (fr to : Int) (l : List (List Int)) : (srtL fr to l).length = l.length := by unfold srtL; rw [List.length_map, ordL_len]
def evC (x : Spc) (l : List (List Int)) : Int := if cfC x l = 0 then (if allCh x.g0 x.g1 (cfL x l) then (if totB x.g0 x.g1 x.s0 x.s1 (srtL x.g0 x.g1 (cfL x l)) then 0 else 8) else 8) else cfC x l
def evV (x : Spc) (l : List (List Int)) : AV := if cfC x l = 0 then (if allCh x.g0 x.g1 (cfL x l) then totV x.g0 x.g1 x.s0 x.s1 (srtL x.g0 x.g1 (cfL x l)) else .v (.slice none 0 0)) else .v (.slice none 0 0)
theorem cfC_ok {x : Spc} {l : List (List Int)} (h : cfC x l = 0) : deckB l = true ∧ fldB x.g0 x.g1 (widB l) = true ∧ numB x.s0 x.s1 (widB l) = true := by
 unfold cfC at h
 cases hd : deckB l
 ·simp [hd] at h
 ·cases hv : (inB (widB l) 1 20 && spcB x (widB l))
  ·rw [hd, hv] at h; simp at h
  ·rw [Bool.and_eq_true] at hv
   have h2 := hv.2
   unfold spcB at h2
   rw [Bool.and_eq_true, Bool.and_eq_true] at h2
   exact ⟨rfl, h2.1, h2.2.1⟩
attribute [local go_sem] cFd List.replicate_succ List.replicate_zero List.flatten_cons List.flatten_nil List.cons_append List.nil_append List.set_cons_zero List.set_cons_succ List.length_cons List.length_nil List.length_set in
theorem impl_EvalSpec (x : Spc) (l : List (List Int)) (hk : smallC l) (hz : x.text.size ≤ 1048576) : Fz F.i_EvalSpec [.agg (cP x), .sl 1 (E cC l)] (.tup [evV x l, .v (.int .i64 (evC x l))]) := by
 have CF := cardsFor x l hk hz
 by_cases h0 : cfC x l = 0
 ·obtain ⟨hd, hf, hn⟩ := cfC_ok h0
  have h40 := deck_40 hd
  have hml := cfL_mem (x := x) (l := l)
  have hll := cfL_len x l
  have hof : ∀ c, c ∈ cfL x l → okF x.g0 x.g1 c := fun c hc => okF_of hd hf c (hml c hc)
  have hop : ∀ c, c ∈ cfL x l → okP x.s0 x.s1 c := fun c hc => okP_of hd hn c (hml c hc)
  have HF := haveField (cfL x l) x.g0 x.g1 hof (by omega)
  have SB := sortedBy (cfL x l) x.g0 x.g1 hof (by omega)
  have hsm := srtL_mem hof (by omega : (cfL x l).length ≤ 40)
  have hsl := srtL_len x.g0 x.g1 (cfL x l)
  have TO := totalsOf (srtL x.g0 x.g1 (cfL x l)) x.g0 x.g1 x.s0 x.s1 (fun c hc => hof c (hsm c hc)) (fun c hc => hop c (hsm c hc)) (by omega)
  rw [show cfV x l = .sl 1 (E cC (cfL x l)) by simp [cfV, h0], h0] at CF
  cases ha : allCh x.g0 x.g1 (cfL x l)
  ·rw [ha] at HF
   rw [show evC x l = 8 by simp [evC, h0, ha], show evV x l = .v (.slice none 0 0) by simp [evV, h0, ha]]
   refine fn0 Cd.i_EvalSpec_k fun X => ?_
   repeat' first|simp -dsimp only [go_sem, cC, cP]|apply Br.mk<;>intro h<;>try simp -dsimp only[h]|refine CallK.c (by first|exact CF|exact HF) ?_|refine aC ?_|fail
   all_goals first | exact ⟨_, _, rfl, rfl⟩
  ·rw [ha] at HF
   rw [show evC x l = (if totB x.g0 x.g1 x.s0 x.s1 (srtL x.g0 x.g1 (cfL x l)) then 0 else 8) by simp [evC, h0, ha], show evV x l = totV x.g0 x.g1 x.s0 x.s1 (srtL x.g0 x.g1 (cfL x l)) by simp [evV, h0, ha]]
   generalize (if totB x.g0 x.g1 x.s0 x.s1 (srtL x.g0 x.g1 (cfL x l)) then (0 : Int) else 8) = c at *
   have hv2 : totV x.g0 x.g1 x.s0 x.s1 (srtL x.g0 x.g1 (cfL x l)) = .sl 2 (E cTt (totL x.g0 x.g1 x.s0 x.s1 (srtL x.g0 x.g1 (cfL x l)))) ∨ totV x.g0 x.g1 x.s0 x.s1 (srtL x.g0 x.g1 (cfL x l)) = .v (.slice none 0 0) := by unfold totV; split <;> simp
   rcases hv2 with hv2 | hv2 <;> rw [hv2] at TO ⊢
   all_goals
    refine fn0 Cd.i_EvalSpec_k fun X => ?_
    repeat' first|simp -dsimp only [go_sem, cC, cP]|apply Br.mk<;>intro h<;>try simp -dsimp only[h]|refine CallK.c (by first|exact CF|exact HF|exact SB|exact TO) ?_|refine aC ?_|fail
    all_goals first | exact ⟨_, _, rfl, rfl⟩
 ·have e0 : (cfC x l != 0) = true := by simp [h0]
  rw [show evC x l = cfC x l by simp [evC, h0], show evV x l = .v (.slice none 0 0) by simp [evV, h0]]
  rw [show cfV x l = .v (.slice none 0 0) by simp [cfV, h0]] at CF
  generalize cfC x l = c at *
  refine fn0 Cd.i_EvalSpec_k fun X => ?_
  repeat' first|simp -dsimp only [go_sem, cC, cP, e0]|apply Br.mk<;>intro h<;>try simp -dsimp only[h]|refine CallK.c (by first|exact CF) ?_|refine aC ?_|fail
  all_goals first | exact ⟨_, _, rfl, rfl⟩
end
section
variable [Vs.Tab 0 Vs.powP]
attribute [local irreducible] Vs.Fn nxV nxS pkV pkS
def gdS (x : Spc) : Prop := ((x.g0 = 0 ∧ x.g1 = 1 ∧ x.s0 = 1 ∧ x.s1 = 3) ∨ (x.g0 = 1 ∧ x.g1 = 2 ∧ x.s0 = 3 ∧ x.s1 = 5)) ∧ ((x.w0 = 0 ∧ x.w1 = 0 ∧ x.text = ⟨#[]⟩) ∨ (x.w0 = 0 ∧ x.w1 = 1 ∧ (x.text = ⟨#[65]⟩ ∨ x.text = ⟨#[66]⟩ ∨ x.text = ⟨#[49]⟩)) ∨ (x.w0 = 2 ∧ x.w1 = 3 ∧ (x.text = ⟨#[48]⟩ ∨ x.text = ⟨#[49]⟩ ∨ x.text = ⟨#[53]⟩)))
theorem l00FromB (l : List Int) : Vs.Fn Tryz.prog F.s_l00From [] [.sl 1 (E cU l)] (.ptr (.b 0) 0 0) [some (.var [.sl 1 (E cU l), .v (.int .i64 0), .v (.int .u64 0)] false)] := by
 refine Cd.s_l00From_k.o.fn Tryz.mixed (hin := []) _ _ [.t 5 0] [sB l ⟨0, 0⟩] Cd.s_l00From_k.n Cd.s_l00From_k.r rfl (by simp) rfl (by simp) fun X => ?_
 unfold Cd.s_l00From
 repeat' first|simp -dsimp only [go_sem, Int.reduceBEq, Int.reduceBNe, cC, E_len, List.replicate_succ, List.replicate_zero, List.flatten_cons, List.flatten_nil, List.cons_append, List.nil_append, List.set_cons_zero, List.set_cons_succ, List.length_cons, List.length_nil, List.length_set, List.mem_singleton, List.mem_cons, List.not_mem_nil, or_false, false_or, Vs.Name.t.injEq, List.getD_cons_zero, List.getD_cons_succ, nestN, cellN, topN, sB, List.append_nil, List.flatMap_cons, List.flatMap_nil]|apply Br.mk<;>intro h<;>try simp -dsimp only[h]|refine aC ?_|fail
 all_goals exact ⟨_, _, rfl, rfl⟩
theorem spcW {p : Prop} (h : p := by
  refine Cd.s_l16Draw_k.o.fn Tryz.mixed (hin := [sB l x]) _ _ [.b 0] [sB l z] Cd.s_l16Draw_k.n Cd.s_l16Draw_k.r rfl (by simp) rfl (by simp) fun X => ?_
  unfold Cd.s_l16Draw
  repeat' first|simp -dsimp only [go_sem, Int.reduceBEq, Int.reduceBNe, cC, E_len, List.replicate_succ, List.replicate_zero, List.flatten_cons, List.flatten_nil, List.cons_append, List.nil_append, List.set_cons_zero, List.set_cons_succ, List.length_cons, List.length_nil, List.length_set, List.mem_singleton, List.mem_cons, List.not_mem_nil, or_false, false_or, Vs.Name.t.injEq, List.getD_cons_zero, List.getD_cons_succ, nestN, cellN, topN, sB, List.append_nil, List.flatMap_cons, List.flatMap_nil, cP, Int.reduceBEq, Int.reduceBNe, List.take_succ_cons, List.take_zero, List.drop_succ_cons, List.drop_zero, Bool.false_eq_true, decide_true, decide_false]|apply Br.mk<;>intro h<;>try simp -dsimp only[h]|refine CallK.bor (by first|exact P1|exact P2) rfl ?_|refine CallK.borM (by first|exact TX) rfl ?_|refine aC ?_|fail
  all_goals first | omega | exact ⟨_, _, rfl, rfl⟩) : p := h
theorem drawSpec (l : List Int) (x : Sr) (hl : byt l) (hp : x.p ≤ 2900) : ∃ s z, gdS s ∧ z.p ≤ x.p + 8 ∧ Vs.Fn Tryz.prog F.s_l16Draw [sB l x] [.ptr (.b 0) 0 0] (.agg (cP s)) [some (sB l z)] := by
 have P1 := one l x hl 4 (by omega)
 have q1 := pkS_p l x 4
 obtain ⟨b1, hb1⟩ : ∃ b, (pkV l x 4 == 0) = b := ⟨_, rfl⟩
 rw [hb1] at P1
 generalize pkS l x 4 = y1 at *
 have P2 := pick l y1 hl 3 (by omega)
 have q2 := pkS_p l y1 3
 have h2 := pkV_in hl y1 (n := 3) (by omega)
 generalize pkV l y1 3 = v2 at *
 generalize pkS l y1 3 = z at *
 have hv : v2 = 0 ∨ v2 = 1 ∨ v2 = 2 := by omega
 rcases hv with rfl | rfl | rfl <;> cases b1
 ·generalize hy : z = y2 at *
  clear hy
  have TX := text l y2 hl [⟨#[65]⟩, ⟨#[66]⟩, ⟨#[49]⟩] (by omega) (by simp) (by simp)
  have q3 := pkS_p l y2 (([⟨#[65]⟩, ⟨#[66]⟩, ⟨#[49]⟩] : List ByteArray).length : Nat)
  have hk := pkV_in hl y2 (n := 3) (by omega)
  have ht : ([⟨#[65]⟩, ⟨#[66]⟩, ⟨#[49]⟩] : List ByteArray).getD (pkV l y2 (([⟨#[65]⟩, ⟨#[66]⟩, ⟨#[49]⟩] : List ByteArray).length : Nat)).toNat ⟨#[]⟩ = ⟨#[65]⟩ ∨ ([⟨#[65]⟩, ⟨#[66]⟩, ⟨#[49]⟩] : List ByteArray).getD (pkV l y2 (([⟨#[65]⟩, ⟨#[66]⟩, ⟨#[49]⟩] : List ByteArray).length : Nat)).toNat ⟨#[]⟩ = ⟨#[66]⟩ ∨ ([⟨#[65]⟩, ⟨#[66]⟩, ⟨#[49]⟩] : List ByteArray).getD (pkV l y2 (([⟨#[65]⟩, ⟨#[66]⟩, ⟨#[49]⟩] : List ByteArray).length : Nat)).toNat ⟨#[]⟩ = ⟨#[49]⟩ := by
   show ([⟨#[65]⟩, ⟨#[66]⟩, ⟨#[49]⟩] : List ByteArray).getD (pkV l y2 3).toNat ⟨#[]⟩ = _ ∨ ([⟨#[65]⟩, ⟨#[66]⟩, ⟨#[49]⟩] : List ByteArray).getD (pkV l y2 3).toNat ⟨#[]⟩ = _ ∨ ([⟨#[65]⟩, ⟨#[66]⟩, ⟨#[49]⟩] : List ByteArray).getD (pkV l y2 3).toNat ⟨#[]⟩ = _
   generalize pkV l y2 3 = w at *
   have hw : w = 0 ∨ w = 1 ∨ w = 2 := by omega
   rcases hw with rfl | rfl | rfl
   ·exact .inl rfl
   ·exact .inr (.inl rfl)
   ·exact .inr (.inr rfl)
  unfold cSt at TX
  simp only [Vs.E, List.map_cons, List.map_nil] at TX
  generalize ([⟨#[65]⟩, ⟨#[66]⟩, ⟨#[49]⟩] : List ByteArray).getD _ ⟨#[]⟩ = tt at *
  generalize pkS l y2 (([⟨#[65]⟩, ⟨#[66]⟩, ⟨#[49]⟩] : List ByteArray).length : Nat) = z at *
  refine ⟨⟨0, 1, tt, 0, 1, 1, 3⟩, z, ⟨.inl ⟨rfl, rfl, rfl, rfl⟩, .inr (.inl ⟨rfl, rfl, ht⟩)⟩, by omega, ?_⟩
  exact spcW
 ·generalize hy : z = y2 at *
  clear hy
  have TX := text l y2 hl [⟨#[65]⟩, ⟨#[66]⟩, ⟨#[49]⟩] (by omega) (by simp) (by simp)
  have q3 := pkS_p l y2 (([⟨#[65]⟩, ⟨#[66]⟩, ⟨#[49]⟩] : List ByteArray).length : Nat)
  have hk := pkV_in hl y2 (n := 3) (by omega)
  have ht : ([⟨#[65]⟩, ⟨#[66]⟩, ⟨#[49]⟩] : List ByteArray).getD (pkV l y2 (([⟨#[65]⟩, ⟨#[66]⟩, ⟨#[49]⟩] : List ByteArray).length : Nat)).toNat ⟨#[]⟩ = ⟨#[65]⟩ ∨ ([⟨#[65]⟩, ⟨#[66]⟩, ⟨#[49]⟩] : List ByteArray).getD (pkV l y2 (([⟨#[65]⟩, ⟨#[66]⟩, ⟨#[49]⟩] : List ByteArray).length : Nat)).toNat ⟨#[]⟩ = ⟨#[66]⟩ ∨ ([⟨#[65]⟩, ⟨#[66]⟩, ⟨#[49]⟩] : List ByteArray).getD (pkV l y2 (([⟨#[65]⟩, ⟨#[66]⟩, ⟨#[49]⟩] : List ByteArray).length : Nat)).toNat ⟨#[]⟩ = ⟨#[49]⟩ := by
   show ([⟨#[65]⟩, ⟨#[66]⟩, ⟨#[49]⟩] : List ByteArray).getD (pkV l y2 3).toNat ⟨#[]⟩ = _ ∨ ([⟨#[65]⟩, ⟨#[66]⟩, ⟨#[49]⟩] : List ByteArray).getD (pkV l y2 3).toNat ⟨#[]⟩ = _ ∨ ([⟨#[65]⟩, ⟨#[66]⟩, ⟨#[49]⟩] : List ByteArray).getD (pkV l y2 3).toNat ⟨#[]⟩ = _
   generalize pkV l y2 3 = w at *
   have hw : w = 0 ∨ w = 1 ∨ w = 2 := by omega
   rcases hw with rfl | rfl | rfl
   ·exact .inl rfl
   ·exact .inr (.inl rfl)
   ·exact .inr (.inr rfl)
  unfold cSt at TX
  simp only [Vs.E, List.map_cons, List.map_nil] at TX
  generalize ([⟨#[65]⟩, ⟨#[66]⟩, ⟨#[49]⟩] : List ByteArray).getD _ ⟨#[]⟩ = tt at *
  generalize pkS l y2 (([⟨#[65]⟩, ⟨#[66]⟩, ⟨#[49]⟩] : List ByteArray).length : Nat) = z at *
  refine ⟨⟨0, 1, tt, 1, 2, 3, 5⟩, z, ⟨.inr ⟨rfl, rfl, rfl, rfl⟩, .inr (.inl ⟨rfl, rfl, ht⟩)⟩, by omega, ?_⟩
  exact spcW
 ·generalize hy : z = y2 at *
  clear hy
  have TX := text l y2 hl [⟨#[48]⟩, ⟨#[49]⟩, ⟨#[53]⟩] (by omega) (by simp) (by simp)
  have q3 := pkS_p l y2 (([⟨#[48]⟩, ⟨#[49]⟩, ⟨#[53]⟩] : List ByteArray).length : Nat)
  have hk := pkV_in hl y2 (n := 3) (by omega)
  have ht : ([⟨#[48]⟩, ⟨#[49]⟩, ⟨#[53]⟩] : List ByteArray).getD (pkV l y2 (([⟨#[48]⟩, ⟨#[49]⟩, ⟨#[53]⟩] : List ByteArray).length : Nat)).toNat ⟨#[]⟩ = ⟨#[48]⟩ ∨ ([⟨#[48]⟩, ⟨#[49]⟩, ⟨#[53]⟩] : List ByteArray).getD (pkV l y2 (([⟨#[48]⟩, ⟨#[49]⟩, ⟨#[53]⟩] : List ByteArray).length : Nat)).toNat ⟨#[]⟩ = ⟨#[49]⟩ ∨ ([⟨#[48]⟩, ⟨#[49]⟩, ⟨#[53]⟩] : List ByteArray).getD (pkV l y2 (([⟨#[48]⟩, ⟨#[49]⟩, ⟨#[53]⟩] : List ByteArray).length : Nat)).toNat ⟨#[]⟩ = ⟨#[53]⟩ := by
   show ([⟨#[48]⟩, ⟨#[49]⟩, ⟨#[53]⟩] : List ByteArray).getD (pkV l y2 3).toNat ⟨#[]⟩ = _ ∨ ([⟨#[48]⟩, ⟨#[49]⟩, ⟨#[53]⟩] : List ByteArray).getD (pkV l y2 3).toNat ⟨#[]⟩ = _ ∨ ([⟨#[48]⟩, ⟨#[49]⟩, ⟨#[53]⟩] : List ByteArray).getD (pkV l y2 3).toNat ⟨#[]⟩ = _
   generalize pkV l y2 3 = w at *
   have hw : w = 0 ∨ w = 1 ∨ w = 2 := by omega
   rcases hw with rfl | rfl | rfl
   ·exact .inl rfl
   ·exact .inr (.inl rfl)
   ·exact .inr (.inr rfl)
  unfold cSt at TX
  simp only [Vs.E, List.map_cons, List.map_nil] at TX
  generalize ([⟨#[48]⟩, ⟨#[49]⟩, ⟨#[53]⟩] : List ByteArray).getD _ ⟨#[]⟩ = tt at *
  generalize pkS l y2 (([⟨#[48]⟩, ⟨#[49]⟩, ⟨#[53]⟩] : List ByteArray).length : Nat) = z at *
  refine ⟨⟨2, 3, tt, 0, 1, 1, 3⟩, z, ⟨.inl ⟨rfl, rfl, rfl, rfl⟩, .inr (.inr ⟨rfl, rfl, ht⟩)⟩, by omega, ?_⟩
  exact spcW
 ·generalize hy : z = y2 at *
  clear hy
  have TX := text l y2 hl [⟨#[48]⟩, ⟨#[49]⟩, ⟨#[53]⟩] (by omega) (by simp) (by simp)
  have q3 := pkS_p l y2 (([⟨#[48]⟩, ⟨#[49]⟩, ⟨#[53]⟩] : List ByteArray).length : Nat)
  have hk := pkV_in hl y2 (n := 3) (by omega)
  have ht : ([⟨#[48]⟩, ⟨#[49]⟩, ⟨#[53]⟩] : List ByteArray).getD (pkV l y2 (([⟨#[48]⟩, ⟨#[49]⟩, ⟨#[53]⟩] : List ByteArray).length : Nat)).toNat ⟨#[]⟩ = ⟨#[48]⟩ ∨ ([⟨#[48]⟩, ⟨#[49]⟩, ⟨#[53]⟩] : List ByteArray).getD (pkV l y2 (([⟨#[48]⟩, ⟨#[49]⟩, ⟨#[53]⟩] : List ByteArray).length : Nat)).toNat ⟨#[]⟩ = ⟨#[49]⟩ ∨ ([⟨#[48]⟩, ⟨#[49]⟩, ⟨#[53]⟩] : List ByteArray).getD (pkV l y2 (([⟨#[48]⟩, ⟨#[49]⟩, ⟨#[53]⟩] : List ByteArray).length : Nat)).toNat ⟨#[]⟩ = ⟨#[53]⟩ := by
   show ([⟨#[48]⟩, ⟨#[49]⟩, ⟨#[53]⟩] : List ByteArray).getD (pkV l y2 3).toNat ⟨#[]⟩ = _ ∨ ([⟨#[48]⟩, ⟨#[49]⟩, ⟨#[53]⟩] : List ByteArray).getD (pkV l y2 3).toNat ⟨#[]⟩ = _ ∨ ([⟨#[48]⟩, ⟨#[49]⟩, ⟨#[53]⟩] : List ByteArray).getD (pkV l y2 3).toNat ⟨#[]⟩ = _
   generalize pkV l y2 3 = w at *
   have hw : w = 0 ∨ w = 1 ∨ w = 2 := by omega
   rcases hw with rfl | rfl | rfl
   ·exact .inl rfl
   ·exact .inr (.inl rfl)
   ·exact .inr (.inr rfl)
  unfold cSt at TX
  simp only [Vs.E, List.map_cons, List.map_nil] at TX
  generalize ([⟨#[48]⟩, ⟨#[49]⟩, ⟨#[53]⟩] : List ByteArray).getD _ ⟨#[]⟩ = tt at *
  generalize pkS l y2 (([⟨#[48]⟩, ⟨#[49]⟩, ⟨#[53]⟩] : List ByteArray).length : Nat) = z at *
  refine ⟨⟨2, 3, tt, 1, 2, 3, 5⟩, z, ⟨.inr ⟨rfl, rfl, rfl, rfl⟩, .inr (.inr ⟨rfl, rfl, ht⟩)⟩, by omega, ?_⟩
  exact spcW
 ·refine ⟨⟨0, 0, ⟨#[]⟩, 0, 1, 1, 3⟩, z, ⟨.inl ⟨rfl, rfl, rfl, rfl⟩, .inl ⟨rfl, rfl, rfl⟩⟩, by omega, ?_⟩
  exact spcW
 ·refine ⟨⟨0, 0, ⟨#[]⟩, 1, 2, 3, 5⟩, z, ⟨.inr ⟨rfl, rfl, rfl, rfl⟩, .inl ⟨rfl, rfl, rfl⟩⟩, by omega, ?_⟩
  exact spcW
theorem a2Spec (l : List Int) (hl : byt l) : ∃ s, gdS s ∧ Fz F.s_A2Spec [.sl 1 (E cU l)] (.agg (cP s)) := by
 obtain ⟨s, z, hs, _, D⟩ := drawSpec l ⟨0, 0⟩ hl (by dsimp only; omega)
 have FR := l00FromB l
 refine ⟨s, hs, ?_⟩
 refine fn0 Cd.s_A2Spec_k fun X => ?_
 repeat' first|simp -dsimp only [go_sem, Int.reduceBEq, Int.reduceBNe, cC, E_len, List.replicate_succ, List.replicate_zero, List.flatten_cons, List.flatten_nil, List.cons_append, List.nil_append, List.set_cons_zero, List.set_cons_succ, List.length_cons, List.length_nil, List.length_set, List.mem_singleton, List.mem_cons, List.not_mem_nil, or_false, false_or, Vs.Name.t.injEq, List.getD_cons_zero, List.getD_cons_succ, nestN, cellN, topN, sB, List.append_nil, List.flatMap_cons, List.flatMap_nil, cP, Int.reduceBEq, Int.reduceBNe, List.take_succ_cons, List.take_zero, List.drop_succ_cons, List.drop_zero, Bool.false_eq_true, decide_true, decide_false]|apply Br.mk<;>intro h<;>try simp -dsimp only[h]|refine CallK.bor (by first|exact D) rfl ?_|refine CallK.own (by first|exact FR) rfl ?_|refine aC ?_|fail
 all_goals first | exact ⟨_, _, rfl, rfl⟩
theorem a2Long (l m : List Int) : Fz F.l_a2Long [.sl 1 (E cU l), .sl 1 (E cU m)] (.v (.bool (decide ((l.length : Int) > 3000) || decide ((m.length : Int) > 3000)))) := by
 refine fn0 Cd.l_a2Long_k fun X => ?_
 repeat' first|simp -dsimp only [go_sem, E_len]|apply Br.mk<;>intro h<;>try simp -dsimp only[h]|refine aC ?_|fail
 all_goals (first | (simp_all [E_len]; done) | (refine ret_eq ?_; simp_all [E_len]; done) | (simp_all [E_len]; omega))
theorem a2Cards (l : List Int) (hl : byt l) : ∃ o, (∀ c, c ∈ o → crd c) ∧ o.length ≤ 8 ∧ Fz F.s_A2Cards [.sl 1 (E cU l)] (.sl 1 (E cC o)) := by
 obtain ⟨o, z, h1, h2, h3, D⟩ := l13Deck l ⟨0, 0⟩ hl 8 (by omega) (by dsimp only; omega)
 have FR := l00FromB l
 refine ⟨o, h1, h2, ?_⟩
 refine fn0 Cd.s_A2Cards_k fun X => ?_
 repeat' first|simp -dsimp only [go_sem, Int.reduceBEq, Int.reduceBNe, cC, E_len, List.replicate_succ, List.replicate_zero, List.flatten_cons, List.flatten_nil, List.cons_append, List.nil_append, List.set_cons_zero, List.set_cons_succ, List.length_cons, List.length_nil, List.length_set, List.mem_singleton, List.mem_cons, List.not_mem_nil, or_false, false_or, Vs.Name.t.injEq, List.getD_cons_zero, List.getD_cons_succ, nestN, cellN, topN, sB, List.append_nil, List.flatMap_cons, List.flatMap_nil]|apply Br.mk<;>intro h<;>try simp -dsimp only[h]|refine CallK.bor (by first|exact D) rfl ?_|refine CallK.own (by first|exact FR) rfl ?_|refine aC ?_|fail
 all_goals first | exact ⟨_, _, rfl, rfl⟩
end
end Go.Proofs.YtidbcoagjbbjdaaGreatDoor
