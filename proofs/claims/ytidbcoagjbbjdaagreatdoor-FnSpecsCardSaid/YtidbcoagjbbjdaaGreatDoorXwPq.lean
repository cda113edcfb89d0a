/- The law FnSpecs. -/
import Derived.Test.YtidbcoagjbbjdaaGreatDoorVsD
import Derived.Test.YtidbcoagjbbjdaaGreatDoorXwZi
import Derived.Test.YtidbcoagjbbjdaaGreatDoorXwQd
import Derived.Test.YtidbcoagjbbjdaaGreatDoorVtI
set_option linter.all false
set_option maxHeartbeats 8000000
namespace Go.Proofs.YtidbcoagjbbjdaaGreatDoor
open Go.Vs
variable [Vs.Tab 0 Vs.powP]
attribute [local irreducible] Vs.Fn ordL chB rk chI spT spX evV evC cfV cfC totL srtL sumW numC stW deckB crd
theorem crd_card {c : List Int} (h : crd c) : cardB c = true ∧ c.length = 5 := by
 unfold crd at h
 obtain ⟨a, n, m, ha, hn, hm, rfl⟩ := h
 have h1 : ∀ k : Nat, k < 100 → (ptN 2 (k : Int)).all (fun x => inB x 0 4095) = true := by decide +kernel
 have h2 : ∀ k : Nat, k < 31 → (ptN 2 (-(k : Int))).all (fun x => inB x 0 4095) = true := by decide +kernel
 have e1 : (ptN 2 n).all (fun x => inB x 0 4095) = true := by
  have := h1 n.toNat (by omega)
  rwa [Int.toNat_of_nonneg hn.1] at this
 have e2 : (ptN 2 m).all (fun x => inB x 0 4095) = true := by
  by_cases h0 : 0 ≤ m
  ·have := h1 m.toNat (by omega)
   rwa [Int.toNat_of_nonneg h0] at this
  ·have := h2 (-m).toNat (by omega)
   rwa [Int.toNat_of_nonneg (by omega), Int.neg_neg] at this
 have e0 : inB a 0 4095 = true := by rcases ha with rfl | rfl | rfl <;> decide +kernel
 have hl : (a :: (ptN 2 n ++ ptN 2 m)).length = 5 := by simp [pt_len]
 refine ⟨?_, hl⟩
 unfold cardB
 rw [hl, List.all_cons, List.all_append, e0, e1, e2]
 rfl
theorem crd_deckB {o : List (List Int)} (h : ∀ c, c ∈ o → crd c) (hl : o.length ≤ 40) : deckB o = true ∧ (widB o = 5 ∨ widB o = 20) := by
 constructor
 ·unfold deckB
  simp only [Bool.and_eq_true, List.all_eq_true, decide_eq_true_eq]
  refine ⟨fun c hc => ⟨(crd_card (h c hc)).1, ?_⟩, hl⟩
  have h0 : 0 < o.length := List.length_pos_of_mem hc
  have hm0 : o.getD 0 [] ∈ o := by rw [show o.getD 0 [] = o[0] by simp [List.getD, h0]]; exact List.getElem_mem _
  rw [(crd_card (h c hc)).2, (crd_card (h _ hm0)).2]
 ·unfold widB
  by_cases h0 : o.length = 0
  ·rw [if_pos h0]; exact .inr rfl
  ·rw [if_neg h0]
   have hm0 : o.getD 0 [] ∈ o := by rw [show o.getD 0 [] = o[0]'(by omega) by simp [List.getD, (by omega : 0 < o.length)]]; exact List.getElem_mem _
   rw [(crd_card (h _ hm0)).2]; exact .inl rfl
theorem spc_w {x : Spc} (hx : gdS x) : spcB x 5 = true ∧ spcB x 20 = true := by
 obtain ⟨w0, w1, text, g0, g1, s0, s1⟩ := x
 unfold gdS at hx
 dsimp only at hx
 obtain ⟨⟨rfl, rfl, rfl, rfl⟩ | ⟨rfl, rfl, rfl, rfl⟩, ⟨rfl, rfl, rfl⟩ | ⟨rfl, rfl, rfl | rfl | rfl⟩ | ⟨rfl, rfl, rfl | rfl | rfl⟩⟩ := hx <;> decide +kernel
theorem gd_one {x : Spc} (hx : gdS x) : (x.g1 = x.g0 + 1 ∧ (x.g0 = 0 ∨ x.g0 = 1)) ∧ ((x.s0 = 1 ∧ x.s1 = 3) ∨ (x.s0 = 3 ∧ x.s1 = 5)) ∧ x.text.size ≤ 1 ∧ (noText x.text = true ∨ ((x.w0 = 0 ∧ x.w1 = 1) ∨ (x.w0 = 2 ∧ x.w1 = 3))) := by
 obtain ⟨w0, w1, text, g0, g1, s0, s1⟩ := x
 unfold gdS at hx
 dsimp only at hx
 obtain ⟨⟨rfl, rfl, rfl, rfl⟩ | ⟨rfl, rfl, rfl, rfl⟩, ⟨rfl, rfl, rfl⟩ | ⟨rfl, rfl, rfl | rfl | rfl⟩ | ⟨rfl, rfl, rfl | rfl | rfl⟩⟩ := hx <;> exact ⟨by decide, by decide, by decide, by decide +kernel⟩
theorem chr_w {c : List Int} (h : crd c) : hasCh (fH 0 1 c) = true ∧ hasCh (fH 1 2 c) = true ∧ hasCh (fH 2 3 c) = true := by
 obtain ⟨a, p0, p1, q0, q1, rfl, ha, hp0, hp1, _, _⟩ := crd_is h
 exact ⟨ha, hp0, hp1⟩
theorem all_chr {l : List (List Int)} (h : ∀ c, c ∈ l → crd c) {fr to : Int} (hf : (fr = 0 ∧ to = 1) ∨ (fr = 1 ∧ to = 2) ∨ (fr = 2 ∧ to = 3)) : allCh fr to l = true := by
 unfold allCh
 refine List.all_eq_true.2 fun c hc => ?_
 have := chr_w (h c hc)
 rcases hf with ⟨rfl, rfl⟩ | ⟨rfl, rfl⟩ | ⟨rfl, rfl⟩
 ·exact this.1
 ·exact this.2.1
 ·exact this.2.2
theorem few_w {c : List Int} (h : crd c) {fr to : Int} (hf : (fr = 1 ∧ to = 3) ∨ (fr = 3 ∧ to = 5)) : fewN fr to c := by
 obtain ⟨a, p0, p1, q0, q1, rfl, _, _, _, h1, h2⟩ := crd_is h
 rcases hf with ⟨rfl, rfl⟩ | ⟨rfl, rfl⟩
 ·exact h1
 ·exact h2
theorem cfl_mem (x : Spc) (l : List (List Int)) : ∀ c, c ∈ cfL x l → c ∈ l := fun c h => by
 unfold cfL at h
 split at h
 ·exact h
 ·exact (List.mem_filter.1 h).1
theorem cfl_len (x : Spc) (l : List (List Int)) : (cfL x l).length ≤ l.length := by
 unfold cfL
 split
 ·exact Nat.le_refl _
 ·exact flt_len _ _
theorem cf_ok {x : Spc} (hx : gdS x) {l : List (List Int)} (h : ∀ c, c ∈ l → crd c) (hl : l.length ≤ 8) : cfC x l = 0 := by
 obtain ⟨hd, hw⟩ := crd_deckB h (by omega)
 obtain ⟨s5, s20⟩ := spc_w hx
 have hs : (inB (widB l) 1 20 && spcB x (widB l)) = true := by
  rcases hw with e | e <;> rw [e]
  ·rw [s5]; rfl
  ·rw [s20]; rfl
 have hs2 : spcB x (widB l) = true := by
  rw [Bool.and_eq_true] at hs
  exact hs.2
 unfold cfC
 rw [if_pos hd, if_pos hs]
 cases hn : noText x.text
 ·have hw2 := (gd_one hx).2.2.2.resolve_left (by rw [hn]; decide)
  unfold spcB at hs2
  rw [hn] at hs2
  simp only [Bool.false_eq_true, if_false, Bool.and_eq_true] at hs2
  obtain ⟨_, _, hf, ha, hz⟩ := hs2
  have hc : allCh x.w0 x.w1 l = true := all_chr h (by rcases hw2 with h | h; exact .inl h; exact .inr (.inr h))
  rw [if_neg (by decide)]
  unfold selC colT
  simp only [List.all_cons, List.all_nil, Bool.and_true, hd, hf, hz, ha, hc, if_true]
 ·rw [if_pos rfl]
theorem ev_ok {x : Spc} (hx : gdS x) {l : List (List Int)} (h : ∀ c, c ∈ l → crd c) (hl : l.length ≤ 8) : evC x l = 0 ∧ evV x l = .sl 2 (E cTt (totL x.g0 x.g1 x.s0 x.s1 (srtL x.g0 x.g1 (cfL x l)))) := by
 have hc := cf_ok hx h hl
 obtain ⟨⟨g1, g0⟩, hs, _, _⟩ := gd_one hx
 have hm := cfl_mem x l
 have hln := cfl_len x l
 have hgf : (x.g0 = 0 ∧ x.g1 = 1) ∨ (x.g0 = 1 ∧ x.g1 = 2) ∨ (x.g0 = 2 ∧ x.g1 = 3) := by omega
 have h2 : ∀ c, c ∈ cfL x l → crd c := fun c hc => h c (hm c hc)
 have ho : ∀ c, c ∈ cfL x l → okF x.g0 x.g1 c := fun c hc => by
  have := (crd_card (h2 c hc)).2
  unfold okF
  omega
 have hp := srtL_perm ho (by omega)
 have h3 : ∀ c, c ∈ srtL x.g0 x.g1 (cfL x l) → crd c := fun c hc => h2 c (hp.mem_iff.1 hc)
 have hA := all_chr h2 hgf
 have hB : totB x.g0 x.g1 x.s0 x.s1 (srtL x.g0 x.g1 (cfL x l)) = true := by
  unfold totB allN
  rw [Bool.and_eq_true]
  exact ⟨List.all_eq_true.2 fun c hc => (few_w (h3 c hc) hs).1, all_chr h3 hgf⟩
 constructor
 ·unfold evC
  rw [if_pos hc, if_pos hA, if_pos hB]
 ·unfold evV
  rw [if_pos hc, if_pos hA]
  unfold totV
  rw [if_pos hB]
theorem spT_no {x : Spc} (hx : gdS x) : ((spT x).toList == (⟨#[]⟩ : ByteArray).toList) = false := by
 have h20 := (spc_w hx).2
 have e : spT x = spX x := by unfold spT; rw [if_pos h20]
 have hp : 0 < (spX x).size := by
  have h0 : 0 < (spX0 x).size := by
   unfold spX0
   rw [ByteArray.size_append, ByteArray.size_append, ByteArray.size_append]
   have : (⟨#[115, 117, 109, 32]⟩ : ByteArray).size = 4 := rfl
   omega
  have h1 : 0 < (spX1 x).size := by
   unfold spX1
   rw [ByteArray.size_append, ByteArray.size_append, ByteArray.size_append, ByteArray.size_append]
   have : (⟨#[115, 117, 109, 32]⟩ : ByteArray).size = 4 := rfl
   omega
  unfold spX
  split
  ·exact h0
  ·exact h1
 rw [e]
 generalize spX x = b at *
 rw [ByteArray.toList_eq, ByteArray.toList_eq]
 obtain ⟨d⟩ := b
 have h2 : 0 < d.size := hp
 have h3 : d.toList ≠ [] := fun h => by
  have := congrArg List.length h
  rw [Array.length_toList, List.length_nil] at this
  omega
 exact beq_eq_false_iff_ne.2 h3
theorem vdS (l : List (List Int)) (hk : smallC l) : Fz F.s_ValidDeck [.sl 1 (E cC l)] (.v (.bool (deckB l))) := by
 refine fn0 Cd.s_ValidDeck_k fun X => ?_
 repeat' first|simp -dsimp only [go_sem]|apply Br.mk<;>intro h<;>try simp -dsimp only[h]|refine CallK.c (by first|exact l02Deck l hk.2 hk.1) ?_|refine aC ?_|fail
 all_goals (first | exact ret_eq rfl | simp_all)
theorem cardsForT (x : Spc) (l : List (List Int)) (hk : smallC l) (hz : x.text.size ≤ 1048576) (h0 : cfC x l = 0) : Fz F.i_CardsFor [.agg (cP x), .sl 1 (E cC l)] (.tup [.sl 1 (E cC (cfL x l)), .v (.int .i64 0)]) := by
 have CF := cardsFor x l hk hz
 rw [show cfV x l = .sl 1 (E cC (cfL x l)) by unfold cfV; rw [if_pos h0], h0] at CF
 generalize cfL x l = m at *
 refine fn0 Cd.i_CardsFor_k fun X => ?_
 repeat' first|simp -dsimp only [go_sem, Int.reduceBEq, Int.reduceBNe, cC, cP, cFd, cTt, E_len, List.replicate_succ, List.replicate_zero, List.flatten_cons, List.flatten_nil, List.cons_append, List.nil_append, List.set_cons_zero, List.set_cons_succ, List.length_cons, List.length_nil, List.length_set, List.mem_singleton, List.mem_cons, List.not_mem_nil, or_false, false_or, Vs.Name.t.injEq, List.getD_cons_zero, List.getD_cons_succ, List.take_succ_cons, List.take_zero, List.drop_succ_cons, List.drop_zero]|apply Br.mk<;>intro h<;>try simp -dsimp only[h]|refine CallK.c (by first|exact CF) ?_|refine aC ?_|fail
 all_goals first | exact ⟨_, _, rfl, rfl⟩
theorem l02CodeC (c : List Int) (fr to : Int) (hc : c.length ≤ 1048576) (h1 : cardB c = true) (h2 : fldB fr to (c.length : Nat) = true) : Fz F.s_l02Code [.ro (cC c), .agg (cFd fr to)] (.v (.int .i64 0)) := by
 have LO := l02Ok c hc
 rw [h1] at LO
 have LF := l02Field fr to (c.length : Nat)
 rw [h2] at LF
 refine fn0 Cd.s_l02Code_k fun X => ?_
 repeat' first|simp -dsimp only [go_sem, Int.reduceBEq, Int.reduceBNe, cC, cP, cFd, cTt, E_len, List.replicate_succ, List.replicate_zero, List.flatten_cons, List.flatten_nil, List.cons_append, List.nil_append, List.set_cons_zero, List.set_cons_succ, List.length_cons, List.length_nil, List.length_set, List.mem_singleton, List.mem_cons, List.not_mem_nil, or_false, false_or, Vs.Name.t.injEq, List.getD_cons_zero, List.getD_cons_succ, List.take_succ_cons, List.take_zero, List.drop_succ_cons, List.drop_zero]|apply Br.mk<;>intro h<;>try simp -dsimp only[h]|refine CallK.c (by first|exact LO|exact LF) ?_|refine aC ?_|fail
 all_goals first | exact ⟨_, _, rfl, rfl⟩
theorem numberInT (c : List Int) (fr to : Int) (h1 : cardB c = true) (h5 : c.length = 5) (hf : (fr = 1 ∧ to = 3) ∨ (fr = 3 ∧ to = 5)) (hn : (numC fr to c).2 = true) : Fz F.s_NumberIn [.agg (cC c), .agg (cFd fr to)] (.tup [.v (.int .i64 (numC fr to c).1), .v (.int .i64 0)]) := by
 have hp : okP fr to c := by
  unfold cardB at h1
  rw [Bool.and_eq_true] at h1
  have h4 := List.all_eq_true.1 h1.1
  refine ⟨by omega, by omega, by omega, by omega, by omega, fun x hx => ?_⟩
  have := h4 x hx
  simpa [inB] using this
 have LC := l02CodeC c fr to (by omega) h1 (by
   unfold fldB
   simp only [Bool.and_eq_true, decide_eq_true_eq]
   omega)
 have PC := partC hp
 have LN := l03NumberC hp
 rw [hn] at LN
 have e12 : decide (IntKind.i64.wrap (to - fr) > 12) = false := by
  rw [wrap_in (by omega) (by omega)]
  exact decide_eq_false (by omega)
 generalize (numC fr to c).1 = v at *
 refine fn0 Cd.s_NumberIn_k fun X => ?_
 repeat' first|simp -dsimp only [go_sem, Int.reduceBEq, Int.reduceBNe, cC, cP, cFd, cTt, E_len, List.replicate_succ, List.replicate_zero, List.flatten_cons, List.flatten_nil, List.cons_append, List.nil_append, List.set_cons_zero, List.set_cons_succ, List.length_cons, List.length_nil, List.length_set, List.mem_singleton, List.mem_cons, List.not_mem_nil, or_false, false_or, Vs.Name.t.injEq, List.getD_cons_zero, List.getD_cons_succ, List.take_succ_cons, List.take_zero, List.drop_succ_cons, List.drop_zero, e12]|apply Br.mk<;>intro h<;>try simp -dsimp only[h]|refine CallK.c (by first|exact LC|exact PC|exact LN) ?_|refine aC ?_|fail
 all_goals first | exact ⟨_, _, rfl, rfl⟩
attribute [local go_sem] Int.reduceBEq Int.reduceBNe cC cP cFd E_len List.replicate_succ List.replicate_zero List.flatten_cons List.flatten_nil List.cons_append List.nil_append List.set_cons_zero List.set_cons_succ List.length_cons List.length_nil List.length_set List.mem_singleton List.mem_cons List.not_mem_nil or_false false_or Vs.Name.t.injEq List.getD_cons_zero List.getD_cons_succ List.take_succ_cons List.take_zero List.drop_succ_cons List.drop_zero in
theorem sumTot (t : List (ByteArray × Int)) (hl : t.length ≤ 1048576) : Fz F.i_SumOfTotals [.sl 2 (E cTt t)] (.v (.int .i64 (stW t))) := by
 refine fn0 Cd.i_SumOfTotals_k fun X => ?_
 simp -dsimp only [go_sem, cTt]
 refine LoopK.at dM (X := { zz : Nat × (Unit) // zz.1 ≤ t.length ∧ True }) (fun zz => [(3, .v (.int .i64 (stW (t.take zz.1.1)))), (8, .v (.int .i64 zz.1.1))]) (fun zz => []) (fun zz => t.length - zz.1.1) ⟨(0, ()), by omega, trivial⟩ ?_ ?_
 ·simp [Vs.LeL, Vs.look, Vs.hlook, Vs.sput, Vs.sputs, Vs.hset, Vs.hputs, stW]
 ·rintro ⟨⟨i, _⟩, hi, hg⟩
  dsimp only at hi hg
  simp -dsimp only [go_sem, cTt]
  refine Br.mk (fun hc => ?_) fun hc => ?_
  ·have hlt : i < t.length := Dq
   have hw := wrap_succ hlt hl
   have gt : (E cTt t).getD i [] = [.v (.string t[i].1), .v (.int .i64 t[i].2)] := E_get hlt
   have hs := stW_succ hlt
   repeat' first|simp -dsimp only [go_sem, hw, gt, cTt]|apply Br.mk<;>intro h<;>try simp -dsimp only[h]|refine aC ?_|fail
   all_goals first | omega | (exact nx (i + 1, ()) trivial (h2 := by simp [Vs.LeL, Vs.look, Vs.hlook, Vs.sput, Vs.sputs, Vs.hset, Vs.hputs, hs]))
  ·have hge : i = t.length := by
    have : ¬ i < t.length := Dq
    omega
   subst hge
   simp -dsimp only [go_sem, cTt]
   rw [List.take_length]
   first | exact ⟨ret_eq rfl, fun h => h rfl⟩ | exact ⟨⟨_, _, rfl, rfl⟩, fun h => h rfl⟩ | (simp; done)
theorem totNm1 (x : ByteArray × Int) (s : ByteArray) : Fz F.i_TotalNamed_1 [.agg (cTt x), .ro [.v (.string s)]] (.v (.bool (x.1.toList == s.toList))) := by
 refine fn0 Cd.i_TotalNamed_1_k fun X => ?_
 repeat' first|simp -dsimp only [go_sem, Int.reduceBEq, Int.reduceBNe, cC, cP, cFd, cTt, E_len, List.replicate_succ, List.replicate_zero, List.flatten_cons, List.flatten_nil, List.cons_append, List.nil_append, List.set_cons_zero, List.set_cons_succ, List.length_cons, List.length_nil, List.length_set, List.mem_singleton, List.mem_cons, List.not_mem_nil, or_false, false_or, Vs.Name.t.injEq, List.getD_cons_zero, List.getD_cons_succ, List.take_succ_cons, List.take_zero, List.drop_succ_cons, List.drop_zero]|apply Br.mk<;>intro h<;>try simp -dsimp only[h]|refine aC ?_|fail
 all_goals (first | exact ret_eq rfl | simp_all)
theorem totNamed (t : List (ByteArray × Int)) (hl : t.length ≤ 1048576) (i : Nat) (hi : i < t.length) (hd : ∀ j (hj : j < t.length), j < i → t[j].1 ≠ t[i].1) : Fz F.i_TotalNamed [.sl 2 (E cTt t), .v (.string t[i].1)] (.tup [.v (.int .i64 t[i].2), .v (.int .i64 0)]) := by
 have IX : Fz F.ixf_Total [.sl 2 (E cTt t), .fn F.i_TotalNamed_1 [.ro [.v (.string t[i].1)]]] (.v (.int .i64 (idxP (fun x : ByteArray × Int => x.1.toList == t[i].1.toList) t))) :=
  ixA_fn Tryz.mixed (k := 2) Cd.ixf_Total_k.o Cd.ixf_Total_k.n Cd.ixf_Total_k.r rfl _ F.i_TotalNamed_1 [.ro [.v (.string t[i].1)]] rfl (fun _ => rfl) (fun _ => rfl) (fun x hx => totNm1 x t[i].1) hl
 have e : idxP (fun x : ByteArray × Int => x.1.toList == t[i].1.toList) t = i := by
  refine idxP_some hi (List.all_eq_true.2 fun x hx => ?_) (by simp)
  obtain ⟨j, hj, rfl⟩ := List.mem_iff_getElem.1 hx
  rw [List.length_take] at hj
  rw [List.getElem_take]
  have hne := hd j (by omega) (by omega)
  have : (t[j].1.toList == t[i].1.toList) = false := beq_eq_false_iff_ne.2 fun h => hne (by
    rw [ByteArray.toList_eq, ByteArray.toList_eq] at h
    have h2 := Array.toList_inj.1 h
    generalize t[j].1 = u at *
    generalize t[i].1 = v at *
    obtain ⟨u⟩ := u
    obtain ⟨v⟩ := v
    exact congrArg ByteArray.mk h2)
  rw [this]; rfl
 rw [e] at IX
 have gt : (E cTt t).getD i [] = [.v (.string t[i].1), .v (.int .i64 t[i].2)] := E_get hi
 have e0 : decide ((i : Int) < 0) = false := decide_eq_false (by omega)
 generalize t[i] = y at *
 refine fn0 Cd.i_TotalNamed_k fun X => ?_
 repeat' first|simp -dsimp only [go_sem, gt, e0, Int.reduceBEq, Int.reduceBNe, cC, cP, cFd, cTt, E_len, List.replicate_succ, List.replicate_zero, List.flatten_cons, List.flatten_nil, List.cons_append, List.nil_append, List.set_cons_zero, List.set_cons_succ, List.length_cons, List.length_nil, List.length_set, List.mem_singleton, List.mem_cons, List.not_mem_nil, or_false, false_or, Vs.Name.t.injEq, List.getD_cons_zero, List.getD_cons_succ, List.take_succ_cons, List.take_zero, List.drop_succ_cons, List.drop_zero]|apply Br.mk<;>intro h<;>try simp -dsimp only[h]|refine CallK.c (by first|exact IX) ?_|refine aC ?_|fail
 all_goals first | omega | exact ⟨_, _, rfl, rfl⟩
end Go.Proofs.YtidbcoagjbbjdaaGreatDoor
