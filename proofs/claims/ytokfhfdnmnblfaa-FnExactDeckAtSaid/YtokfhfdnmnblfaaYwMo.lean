/- The program's decks, each in memory of its own. -/
import Derived.Test.YtokfhfdnmnblfaaYwMn
namespace Go.Proofs.Ytokfhfdnmnblfaa
open Go.Vs
set_option linter.unusedSectionVars false
variable [Vs.Envs]
set_option linter.unusedSimpArgs false
set_option linter.unusedVariables false
attribute [local irreducible] Vs.Fn
variable {C1 : Ctx}
theorem levD_ok {l : List (List Int)} (hs : ∀ x, x ∈ l → x.length ≤ 1048576) {i : Nat} (hi : i ≤ 3) : ∀ D, D ∈ levD l i → smallC D ∧ D.length ≤ 1000 := fun D hD => by
  obtain ⟨h1, h2⟩ := levD_mem l i D hD
  exact ⟨⟨by omega, fun c hc => hs c (h2 c hc)⟩, by omega⟩
set_option maxHeartbeats 4000000 in
theorem decksOf_dk (l : List (List Int)) (k : Nat) (hs : ∀ x, x ∈ l → x.length ≤ 1048576) (hl : l.length ≤ 5) (hk : k ≤ 3) {S : Nat → Prop} {w : World} {vs : Array Value} (hS : ∀ b, S b → b < w.heap.size) (he : Env S w) (hvs : vs.size = 2) (hargs : ∀ j, j < 2 → RC S w (([.sl 1 (E cC l), .v (.int .i64 (k : Nat))] : List AV).getD j .junk) (vs.getD j undef)) :
    Calls Try.prog F.impl_decksOf vs w fun e w' => ∃ v V S', e = .returned v ∧ Vs.Grew w w' ∧ RC (fun b => S' b ∧ w.heap.size ≤ b) w' (.sl 1 (E sV V)) v ∧ Dks w' S' w.heap.size (allD l k) V ∧ ∀ b, S' b → b < w'.heap.size := by
  obtain ⟨h1, _, _⟩ := Cd.impl_decksOf_ok
  have h2 : Try.f29.body.bind (cCode Try.prog Try.f29.ntmps (Vs.drF Try.prog ⟨[]⟩ 10 OS24 (1, 33, 9) (0, 32, 7))) = some Cd.impl_decksOf.bare := by kernel_rfl
  obtain ⟨body, hb, hc⟩ := Option.bind_eq_some_iff.1 h2
  have hz : (Try.f29.body.map (zB Try.f29.ntmps (Vs.drF Try.prog ⟨[]⟩ 10 OS24 (1, 33, 9) (0, 32, 7)))) = some true := by kernel_rfl
  rw [hb] at hz
  refine Vs.Pt.calls (dr := (Vs.drF Try.prog ⟨[]⟩ 10 OS24 (1, 33, 9) (0, 32, 7))) (ac := Cd.impl_decksOf) h1 hb hc (by simpa using hz) (args := [.sl 1 (E cC l), .v (.int .i64 (k : Nat))]) (by rw [Cd.impl_decksOf_nt]; exact Nat.le_of_ble_eq_true rfl) hS he hvs hargs fun C1 a hnt hw0 hS0 hp => ?_
  subst hw0
  unfold Cd.impl_decksOf
  refine hp.go (Vs.drF_ok Try.mixed _ _ _ _ _) hnt 1 _ (τ := ⟨[(0, .sl 1 (E cC l)), (1, .v (.int .i64 (k : Nat)))], []⟩) (X := True) (E := fun _ _ => False) (fun p hp => by cases hp) (fun C hC => ?_) (fun i σ h => h) (fun C a w hl hg => hg.no.elim) fun a1 w1 S1 p1 hp1 _ => ?_
  · simp -dsimp only [go_sem, reduceIte, reduceCtorEq, Nat.reduceEqDiff, Nat.reduceLT, Nat.reduceLeDiff, Nat.reduceAdd, Nat.reduceMul, Nat.reduceSub, Int.reduceToNat, Int.reduceNeg, cC, List.replicate_succ, List.replicate_zero, List.flatten_cons, List.flatten_nil, List.cons_append, List.nil_append, List.set_cons_zero, List.set_cons_succ, List.length_cons, List.length_nil, List.length_set]
    first | (simp [Vs.LeL, Vs.look, Vs.hlook]; done) | exact ⟨by simp [Vs.LeL, Vs.look, Vs.hlook], trivial⟩ | (and_intros <;> first | omega | (simp [Vs.LeL, Vs.look, Vs.hlook]; done) | trivial) | trace_state
  refine At.seq ?_
  show Vs.At Try.prog Try.f29.ntmps (Vs.drF Try.prog ⟨[]⟩ 10 OS24 (1, 33, 9) (0, 32, 7)) (.closing 6 (.naming 5 (.region [⟨some 12, .bslice 1 0 [.v (.slice none 0 0)] [], none⟩, ⟨some 13, .bslice 1 1 [.v (.slice none 0 0)] [(0, (.tmp 12))], none⟩, ⟨some 14, .bslice 1 0 [.v (.slice none 0 0)] [], none⟩, ⟨some 15, .bslice 1 1 [.v (.slice none 0 0)] [(0, (.tmp 14))], none⟩, ⟨some 5, .mv (.tmp 13), none⟩, ⟨some 6, .mv (.tmp 15), none⟩] [0, 1, 5, 6] []))) _ a1 w1
  refine At.closing (At.naming (startD hnt hp1 fun I2 a2 w2 S2 VO0 VL0 p2 hp2 hO0 hL0 => ?_))
  refine At.seq ?_
  refine hp2.go (Vs.drF_ok Try.mixed _ _ _ _ _) hnt 1 _ (τ := ⟨[(0, .sl 1 (E cC l)), (5, .loc (.t 5 0) 0 (VO0).length), (6, .sl 1 (E sV (VL0))), (16, .v (.int .i64 (k : Nat))), (17, .v (.int .i64 (0 : Nat)))], [(.t 5 0, .arr 1 (E sV (VO0)) false)]⟩) (X := True) (E := fun _ _ => False) (fun p hp => by
        simp only [List.mem_cons, List.not_mem_nil, or_false] at hp
        rcases hp with rfl
        · exact ⟨fun r hr => sV_flat r hr, rfl⟩) (fun C hC => ?_) (fun i σ h => h) (fun C a w hl hg => hg.no.elim) fun a3 w3 S3 p3 hp3 _ => ?_
  · simp -dsimp only [go_sem, reduceIte, reduceCtorEq, Nat.reduceEqDiff, Nat.reduceLT, Nat.reduceLeDiff, Nat.reduceAdd, Nat.reduceMul, Nat.reduceSub, Int.reduceToNat, Int.reduceNeg, cC, List.replicate_succ, List.replicate_zero, List.flatten_cons, List.flatten_nil, List.cons_append, List.nil_append, List.set_cons_zero, List.set_cons_succ, List.length_cons, List.length_nil, List.length_set]
    first | (simp [Vs.LeL, Vs.look, Vs.hlook]; done) | exact ⟨by simp [Vs.LeL, Vs.look, Vs.hlook], trivial⟩ | (and_intros <;> first | omega | (simp [Vs.LeL, Vs.look, Vs.hlook]; done) | trivial) | trace_state
  let IV : Nat → Act → World → Prop := fun nn a' w' => ∃ (i : Nat) (VO VL : List Sl) (S' : Nat → Prop) (I' : Vs.Envs), nn = k - i ∧ i ≤ k ∧ Vs.Pt I' C1 (⟨[(0, .sl 1 (E cC l)), (5, .loc (.t 5 0) 0 VO.length), (6, .sl 1 (E sV VL)), (16, .v (.int .i64 (k : Nat))), (17, .v (.int .i64 (i : Nat)))], [(.t 5 0, .arr 1 (E sV VO) false)]⟩ : St) a' w' S' ∧ Dks w' S' C1.w0.heap.size (allD l i) VO ∧ Dks w' S' C1.w0.heap.size (levD l i) VL
  refine At.block (At.loop IV (fun nn a4 w4 hI => ?_) (n := k) ⟨0, VO0, VL0, S3, I2, by omega, by omega, hp3, hO0.past p3, hL0.past p3⟩)
  obtain ⟨i, VO, VL, S4, I4, hn, hi, hp4, hO, hL⟩ := hI
  refine hp4.go (Vs.drF_ok Try.mixed _ _ _ _ _) hnt 1 _ (τ := ⟨[(18, .v (.bool (decide ((i : Nat) < (k : Nat))))), (0, .sl 1 (E cC l)), (5, .loc (.t 5 0) 0 (VO).length), (6, .sl 1 (E sV (VL))), (16, .v (.int .i64 (k : Nat))), (17, .v (.int .i64 (i : Nat)))], [(.t 5 0, .arr 1 (E sV (VO)) false)]⟩) (X := True) (E := fun _ _ => False) (fun p hp => by
        simp only [List.mem_cons, List.not_mem_nil, or_false] at hp
        rcases hp with rfl
        · exact ⟨fun r hr => sV_flat r hr, rfl⟩) (fun C hC => ?_) (fun i σ h => h) (fun C a w hl hg => hg.no.elim) fun a5 w5 S5 p5 hp5 _ => ?_
  · simp -dsimp only [go_sem, reduceIte, reduceCtorEq, Nat.reduceEqDiff, Nat.reduceLT, Nat.reduceLeDiff, Nat.reduceAdd, Nat.reduceMul, Nat.reduceSub, Int.reduceToNat, Int.reduceNeg, cC, List.replicate_succ, List.replicate_zero, List.flatten_cons, List.flatten_nil, List.cons_append, List.nil_append, List.set_cons_zero, List.set_cons_succ, List.length_cons, List.length_nil, List.length_set]
    first | (simp [Vs.LeL, Vs.look, Vs.hlook]; done) | exact ⟨by simp [Vs.LeL, Vs.look, Vs.hlook], trivial⟩ | (and_intros <;> first | omega | (simp [Vs.LeL, Vs.look, Vs.hlook]; done) | trivial) | trace_state
  refine At.seq (hp5.cond (b := decide ((i : Nat) < (k : Nat))) rfl (fun ht => At.skip ?_) (fun hf => At.exit ?_))
  · have hlt : i < k := of_decide_eq_true ht
    have hwi := wrap_succ hlt (by omega)
    have hL5 := hL.past p5
    have hO5 := hO.past p5
    have hLl := hL.1
    have hOl := hO.1
    have hp625 : (levD l i).length ≤ 625 := by rw [levD_length]; exact pow_le _ _ hl (by omega)
    have b1 : VO.length ≤ 4000 := by rw [← hOl, allD_length]; have := geo_le l.length hl i (by omega); omega
    refine At.seq (At.block (At.seq (At.naming (At.rg (hp5.rg (pre := [⟨some 19, .bslice 1 0 [.v (.slice none 0 0)] [], none⟩, ⟨some 7, .mv (.tmp 19), none⟩]) (post := []) hnt (τ := ⟨[(7, .loc (.t 19 0) 0 0), (0, .sl 1 (E cC l)), (5, .loc (.t 5 0) 0 VO.length), (6, .sl 1 (E sV VL)), (16, .v (.int .i64 (k : Nat))), (17, .v (.int .i64 (i : Nat)))], [(.t 19 0, .arr 1 (E sV []) false), (.t 5 0, .arr 1 (E sV VO) false)]⟩) (fun p hp => by
      simp only [List.mem_cons, List.not_mem_nil, or_false] at hp
      rcases hp with rfl | rfl
      · exact ⟨fun r hr => sV_flat r hr, rfl⟩
      · exact ⟨fun r hr => sV_flat r hr, rfl⟩) ?_ fun a6 w6 S6 p6 hp6 => RgL.nil ?_)))))
    · simp -dsimp only [go_sem, reduceIte, reduceCtorEq, Nat.reduceEqDiff, Nat.reduceLT, Nat.reduceLeDiff, Nat.reduceAdd, Nat.reduceMul, Nat.reduceSub, Int.reduceToNat, Int.reduceNeg, E_nil, cC, List.replicate_succ, List.replicate_zero, List.flatten_cons, List.flatten_nil, List.cons_append, List.nil_append, List.set_cons_zero, List.set_cons_succ, List.length_cons, List.length_nil, List.length_set]
      first | (simp [Vs.LeL, Vs.look, Vs.hlook]; done) | exact ⟨by simp [Vs.LeL, Vs.look, Vs.hlook], trivial⟩ | (and_intros <;> first | omega | (simp [Vs.LeL, Vs.look, Vs.hlook]; done) | trivial) | trace_state
    have hp7 := (hp6.ren (n := .t 19 0) (m := .t 7 0) (by decide) (by rfl) (fun p hp => by
      have e : p ∈ [((.t 7 0 : Vs.Name), Blk.arr 1 (E sV []) false), (.t 5 0, .arr 1 (E sV VO) false)] := by simpa [Vs.renL, Vs.rnB, Vs.nmF] using hp
      simp only [List.mem_cons, List.not_mem_nil, or_false] at e
      rcases e with rfl | rfl
      · exact ⟨fun r hr => sV_flat r hr, rfl⟩
      · exact ⟨fun r hr => sV_flat r hr, rfl⟩)).le (τ := ⟨[(7, .loc (.t 7 0) 0 0), (0, .sl 1 (E cC l)), (5, .loc (.t 5 0) 0 VO.length), (6, .sl 1 (E sV VL)), (16, .v (.int .i64 (k : Nat))), (17, .v (.int .i64 (i : Nat)))], [(.t 7 0, .arr 1 (E sV []) false), (.t 5 0, .arr 1 (E sV VO) false)]⟩) (by simp [Vs.LeL, Vs.look, Vs.hlook, Vs.renL, Vs.rnB, Vs.nmF, Vs.rn, Vs.rnL]) (fun p hp => by
      simp only [List.mem_cons, List.not_mem_nil, or_false] at hp
      rcases hp with rfl | rfl
      · exact ⟨fun r hr => sV_flat r hr, rfl⟩
      · exact ⟨fun r hr => sV_flat r hr, rfl⟩)
    have hlv : (E sV VL).length = VL.length := E_len _
    refine At.seq ?_
    show Vs.At Try.prog Try.f29.ntmps (Vs.drF Try.prog ⟨[]⟩ 10 OS24 (1, 33, 9) (0, 32, 7)) (.seq (.region [⟨some 20, .mv (.tmp 6), none⟩, ⟨some 21, .len (.tmp 20), none⟩, ⟨some 22, .mv (.const (.int .i64 (0))), none⟩] [0, 5, 7, 16, 17, 20, 21, 22] []) (.block 2 (.loop (.seq (.region [⟨some 23, .bin .lss (.tmp 22) (.tmp 21), none⟩] [0, 5, 7, 16, 17, 20, 21, 22, 23] []) (.seq (.cond (.tmp 23) (.skip) (.exit 2)) (.seq (.block 3 (.seq (.region [⟨some 24, .idxSl 1 (.tmp 20) (.tmp 22), none⟩, ⟨some 25, .load false 1 (.tmp 24), none⟩, ⟨some 9, .mv (.tmp 25), none⟩] [0, 5, 7, 9, 16, 17, 20, 21, 22] []) (.seq (.region [⟨some 26, .mv (.tmp 0), none⟩, ⟨some 27, .len (.tmp 26), none⟩, ⟨some 28, .mv (.const (.int .i64 (0))), none⟩] [0, 5, 7, 9, 16, 17, 20, 21, 22, 26, 27, 28] []) (.block 4 (.loop (.seq (.region [⟨some 29, .bin .lss (.tmp 28) (.tmp 27), none⟩] [0, 5, 7, 9, 16, 17, 20, 21, 22, 26, 27, 28, 29] []) (.seq (.cond (.tmp 29) (.skip) (.exit 4)) (.seq (.block 5 (.seq (.region [⟨some 30, .idxSl 1 (.tmp 26) (.tmp 28), none⟩, ⟨some 31, .load true 1 (.tmp 30), none⟩, ⟨some 11, .alloc [.v (.slice none 0 0)], none⟩, ⟨none, .store 1 (.tmp 11) (.tmp 31), none⟩] [0, 5, 7, 9, 11, 16, 17, 20, 21, 22, 26, 27, 28] []) (.naming 7 (.region [⟨some 32, .mv (.tmp 7), none⟩, ⟨some 33, .mv (.tmp 9), none⟩, ⟨some 34, .call (.func F.impl_newDeck) [(.tmp 33)] [], none⟩, ⟨some 35, .load true 1 (.tmp 11), none⟩, ⟨some 36, .call (.func F.impl_newCard) [(.tmp 35)] [], none⟩, ⟨some 37, .bslice 1 1 [.v (.slice none 0 0)] [(0, (.tmp 36))], none⟩, ⟨some 38, .append 1 24 (.tmp 34) (.tmp 37), none⟩, ⟨some 39, .bslice 1 1 [.v (.slice none 0 0)] [(0, (.tmp 38))], none⟩, ⟨some 40, .append 1 24 (.tmp 32) (.tmp 39), none⟩, ⟨some 7, .mv (.tmp 40), none⟩] [0, 5, 7, 9, 16, 17, 20, 21, 22, 26, 27, 28] [32, 33, 34, 35, 36, 37, 38, 39, 40])))) (.region [⟨some 41, .bin .add (.tmp 28) (.const (.int .i64 (1))), none⟩, ⟨some 28, .mv (.tmp 41), none⟩] [0, 5, 7, 9, 16, 17, 20, 21, 22, 26, 27, 28] []))))))))) (.region [⟨some 42, .bin .add (.tmp 22) (.const (.int .i64 (1))), none⟩, ⟨some 22, .mv (.tmp 42), none⟩] [0, 5, 7, 16, 17, 20, 21, 22] []))))))) _ a6 w6
    refine hp7.go (Vs.drF_ok Try.mixed _ _ _ _ _) hnt 1 _ (τ := ⟨[(0, .sl 1 (E cC l)), (5, .loc (.t 5 0) 0 VO.length), (7, .loc (.t 7 0) 0 (([] : List Sl)).length), (16, .v (.int .i64 (k : Nat))), (17, .v (.int .i64 (i : Nat))), (20, .sl 1 (E sV VL)), (21, .v (.int .i64 (VL.length : Nat))), (22, .v (.int .i64 (0 : Nat)))], [(.t 7 0, .arr 1 (E sV (([] : List Sl))) false), (.t 5 0, .arr 1 (E sV VO) false)]⟩) (X := True) (E := fun _ _ => False) (fun p hp => by
          simp only [List.mem_cons, List.not_mem_nil, or_false] at hp
          rcases hp with rfl | rfl
          · exact ⟨fun r hr => sV_flat r hr, rfl⟩
          · exact ⟨fun r hr => sV_flat r hr, rfl⟩) (fun C hC => ?_) (fun i σ h => h) (fun C a w hl hg => hg.no.elim) fun a8 w8 S8 p8 hp8 _ => ?_
    · simp -dsimp only [go_sem, reduceIte, reduceCtorEq, Nat.reduceEqDiff, Nat.reduceLT, Nat.reduceLeDiff, Nat.reduceAdd, Nat.reduceMul, Nat.reduceSub, Int.reduceToNat, Int.reduceNeg, hlv, E_nil, cC, List.replicate_succ, List.replicate_zero, List.flatten_cons, List.flatten_nil, List.cons_append, List.nil_append, List.set_cons_zero, List.set_cons_succ, List.length_cons, List.length_nil, List.length_set]
      first | (simp [Vs.LeL, Vs.look, Vs.hlook]; done) | exact ⟨by simp [Vs.LeL, Vs.look, Vs.hlook], trivial⟩ | (and_intros <;> first | omega | (simp [Vs.LeL, Vs.look, Vs.hlook]; done) | trivial) | trace_state
    show Vs.At Try.prog Try.f29.ntmps (Vs.drF Try.prog ⟨[]⟩ 10 OS24 (1, 33, 9) (0, 32, 7)) (.block 2 (.loop (.seq (.region [⟨some 23, .bin .lss (.tmp 22) (.tmp 21), none⟩] [0, 5, 7, 16, 17, 20, 21, 22, 23] []) (.seq (.cond (.tmp 23) (.skip) (.exit 2)) (.seq (.block 3 (.seq (.region [⟨some 24, .idxSl 1 (.tmp 20) (.tmp 22), none⟩, ⟨some 25, .load false 1 (.tmp 24), none⟩, ⟨some 9, .mv (.tmp 25), none⟩] [0, 5, 7, 9, 16, 17, 20, 21, 22] []) (.seq (.region [⟨some 26, .mv (.tmp 0), none⟩, ⟨some 27, .len (.tmp 26), none⟩, ⟨some 28, .mv (.const (.int .i64 (0))), none⟩] [0, 5, 7, 9, 16, 17, 20, 21, 22, 26, 27, 28] []) (.block 4 (.loop (.seq (.region [⟨some 29, .bin .lss (.tmp 28) (.tmp 27), none⟩] [0, 5, 7, 9, 16, 17, 20, 21, 22, 26, 27, 28, 29] []) (.seq (.cond (.tmp 29) (.skip) (.exit 4)) (.seq (.block 5 (.seq (.region [⟨some 30, .idxSl 1 (.tmp 26) (.tmp 28), none⟩, ⟨some 31, .load true 1 (.tmp 30), none⟩, ⟨some 11, .alloc [.v (.slice none 0 0)], none⟩, ⟨none, .store 1 (.tmp 11) (.tmp 31), none⟩] [0, 5, 7, 9, 11, 16, 17, 20, 21, 22, 26, 27, 28] []) (.naming 7 (.region [⟨some 32, .mv (.tmp 7), none⟩, ⟨some 33, .mv (.tmp 9), none⟩, ⟨some 34, .call (.func F.impl_newDeck) [(.tmp 33)] [], none⟩, ⟨some 35, .load true 1 (.tmp 11), none⟩, ⟨some 36, .call (.func F.impl_newCard) [(.tmp 35)] [], none⟩, ⟨some 37, .bslice 1 1 [.v (.slice none 0 0)] [(0, (.tmp 36))], none⟩, ⟨some 38, .append 1 24 (.tmp 34) (.tmp 37), none⟩, ⟨some 39, .bslice 1 1 [.v (.slice none 0 0)] [(0, (.tmp 38))], none⟩, ⟨some 40, .append 1 24 (.tmp 32) (.tmp 39), none⟩, ⟨some 7, .mv (.tmp 40), none⟩] [0, 5, 7, 9, 16, 17, 20, 21, 22, 26, 27, 28] [32, 33, 34, 35, 36, 37, 38, 39, 40])))) (.region [⟨some 41, .bin .add (.tmp 28) (.const (.int .i64 (1))), none⟩, ⟨some 28, .mv (.tmp 41), none⟩] [0, 5, 7, 9, 16, 17, 20, 21, 22, 26, 27, 28] []))))))))) (.region [⟨some 42, .bin .add (.tmp 22) (.const (.int .i64 (1))), none⟩, ⟨some 22, .mv (.tmp 42), none⟩] [0, 5, 7, 16, 17, 20, 21, 22] [])))))) _ a8 w8
    have p58 := p6.trans p8
    refine loopM hnt hs hl (levD_ok hs (by omega)) hp625 (hL5.past p58) hp8 (fun c a w h => by
      simp only [Exit.then, Exit.inBlock] at h
      rcases h with ⟨h | h, _⟩ <;> cases h) fun I9 a9 w9 S9 VN p9 hp9 hV9 => ?_
    have hVN : VN.length ≤ 4000 := by
      have e := hV9.1
      rw [nextD_length] at e
      have : (levD l i).length * l.length ≤ 625 * 5 := Nat.mul_le_mul hp625 hl
      omega
    have hO9 := (hO5.past p58).past p9
    refine At.seq (At.naming (At.rg (hp9.rg (pre := [⟨some 43, .mv (.tmp 5), none⟩, ⟨some 44, .mv (.tmp 7), none⟩, ⟨some 45, .append 1 24 (.tmp 43) (.tmp 44), none⟩, ⟨some 5, .mv (.tmp 45), none⟩]) (post := []) hnt (τ := ⟨[(5, .loc (.t 45 0) 0 (VO ++ VN).length), (7, .loc (.t 7 0) 0 VN.length), (0, .sl 1 (E cC l)), (16, .v (.int .i64 (k : Nat))), (17, .v (.int .i64 (i : Nat)))], [(.t 45 0, .arr 1 (E sV (VO ++ VN)) false), (.t 7 0, .arr 1 (E sV VN) false)]⟩) (fun p hp => by
      simp only [List.mem_cons, List.not_mem_nil, or_false] at hp
      rcases hp with rfl | rfl
      · exact ⟨fun r hr => sV_flat r hr, rfl⟩
      · exact ⟨fun r hr => sV_flat r hr, rfl⟩) ?_ fun a10 w10 S10 p10 hp10 => RgL.nil ?_)))
    · have e1 : (E sV VO).length = VO.length := E_len _
      have e2 : (E sV VN).length = VN.length := E_len _
      have e3 : E sV VO ++ E sV VN = E sV (VO ++ VN) := (E_append _ _).symm
      simp -dsimp only [go_sem, reduceIte, reduceCtorEq, Nat.reduceEqDiff, Nat.reduceLT, Nat.reduceLeDiff, Nat.reduceAdd, Nat.reduceMul, Nat.reduceSub, Int.reduceToNat, Int.reduceNeg, e1, e2, e3, List.length_append, cC, List.replicate_succ, List.replicate_zero, List.flatten_cons, List.flatten_nil, List.cons_append, List.nil_append, List.set_cons_zero, List.set_cons_succ, List.length_cons, List.length_nil, List.length_set]
      first | (simp [Vs.LeL, Vs.look, Vs.hlook]; done) | exact ⟨by simp [Vs.LeL, Vs.look, Vs.hlook], trivial⟩ | (and_intros <;> first | omega | (simp [Vs.LeL, Vs.look, Vs.hlook]; done) | trivial) | trace_state
    have hp11 := (hp10.ren (n := .t 45 0) (m := .t 5 0) (by decide) (by rfl) (fun p hp => by
      have e : p ∈ [((.t 5 0 : Vs.Name), Blk.arr 1 (E sV (VO ++ VN)) false), (.t 7 0, .arr 1 (E sV VN) false)] := by simpa [Vs.renL, Vs.rnB, Vs.nmF] using hp
      simp only [List.mem_cons, List.not_mem_nil, or_false] at e
      rcases e with rfl | rfl
      · exact ⟨fun r hr => sV_flat r hr, rfl⟩
      · exact ⟨fun r hr => sV_flat r hr, rfl⟩)).le (τ := ⟨[(5, .loc (.t 5 0) 0 (VO ++ VN).length), (7, .loc (.t 7 0) 0 VN.length), (0, .sl 1 (E cC l)), (16, .v (.int .i64 (k : Nat))), (17, .v (.int .i64 (i : Nat)))], [(.t 5 0, .arr 1 (E sV (VO ++ VN)) false), (.t 7 0, .arr 1 (E sV VN) false)]⟩) (by simp [Vs.LeL, Vs.look, Vs.hlook, Vs.renL, Vs.rnB, Vs.nmF, Vs.rn, Vs.rnL]) (fun p hp => by
      simp only [List.mem_cons, List.not_mem_nil, or_false] at hp
      rcases hp with rfl | rfl
      · exact ⟨fun r hr => sV_flat r hr, rfl⟩
      · exact ⟨fun r hr => sV_flat r hr, rfl⟩)
    refine At.closing (At.rg (hp11.rg (pre := [⟨some 46, .mv (.tmp 7), none⟩, ⟨some 6, .mv (.tmp 46), none⟩]) (post := []) hnt (τ := ⟨[(6, .loc (.t 7 0) 0 (E sV VN).length), (5, .loc (.t 5 0) 0 (VO ++ VN).length), (0, .sl 1 (E cC l)), (16, .v (.int .i64 (k : Nat))), (17, .v (.int .i64 (i : Nat)))], [(.t 5 0, .arr 1 (E sV (VO ++ VN)) false), (.t 7 0, .arr 1 (E sV VN) false)]⟩) (fun p hp => by
      simp only [List.mem_cons, List.not_mem_nil, or_false] at hp
      rcases hp with rfl | rfl
      · exact ⟨fun r hr => sV_flat r hr, rfl⟩
      · exact ⟨fun r hr => sV_flat r hr, rfl⟩) ?_ fun a12 w12 S12 p12 hp12 => RgL.nil ?_))
    · have e2 : (E sV VN).length = VN.length := E_len _
      simp -dsimp only [go_sem, reduceIte, reduceCtorEq, Nat.reduceEqDiff, Nat.reduceLT, Nat.reduceLeDiff, Nat.reduceAdd, Nat.reduceMul, Nat.reduceSub, Int.reduceToNat, Int.reduceNeg, e2, cC, List.replicate_succ, List.replicate_zero, List.flatten_cons, List.flatten_nil, List.cons_append, List.nil_append, List.set_cons_zero, List.set_cons_succ, List.length_cons, List.length_nil, List.length_set]
      first | (simp [Vs.LeL, Vs.look, Vs.hlook]; done) | exact ⟨by simp [Vs.LeL, Vs.look, Vs.hlook], trivial⟩ | (and_intros <;> first | omega | (simp [Vs.LeL, Vs.look, Vs.hlook]; done) | trivial) | trace_state
    obtain ⟨lg, x2, c2, ⟨b2, m2, k2, rfl⟩, how2, hx2, hP2⟩ := hp12.buryS (n := .t 7 0) (k := 1) (rows := E sV VN) rfl (fun r hr => sV_flat r hr) (t := 6) rfl (fun p hp => by
      have e : p = ((.t 5 0 : Vs.Name), Blk.arr 1 (E sV (VO ++ VN)) false) := by simpa [Vs.killL, Vs.scrB] using hp
      rw [e]
      exact ⟨fun r hr => sV_flat r hr, rfl⟩)
    have hp13 := (hP2 [(6, .v (.slice b2 m2 k2)), (5, .loc (.t 5 0) 0 (VO ++ VN).length), (0, .sl 1 (E cC l)), (16, .v (.int .i64 (k : Nat))), (17, .v (.int .i64 (i : Nat)))] (fun p hp => by
      simp only [List.mem_cons, List.not_mem_nil, or_false] at hp
      rcases hp with rfl | rfl | rfl | rfl | rfl
      · exact .inr (.inr rfl)
      · exact .inl ⟨rfl, rfl⟩
      · exact .inr (.inl ⟨rfl, rfl⟩)
      · exact .inl ⟨rfl, rfl⟩
      · exact .inl ⟨rfl, rfl⟩)).le (τ := ⟨[(6, .v (.slice b2 m2 k2)), (5, .loc (.t 5 0) 0 (VO ++ VN).length), (0, .sl 1 (E cC l)), (16, .v (.int .i64 (k : Nat))), (17, .v (.int .i64 (i : Nat)))], [(.t 5 0, .arr 1 (E sV (VO ++ VN)) false)]⟩) (by simp [Vs.LeL, Vs.look, Vs.hlook, Vs.killL, Vs.scrB]) (fun p hp => by
      simp only [List.mem_cons, List.not_mem_nil, or_false] at hp
      subst hp
      exact ⟨fun r hr => sV_flat r hr, rfl⟩)
    have q0 : RC (fun b => S12 b ∨ x2 = some b) w12 (.sl 1 (E cC l)) (a12.tmps.getD 0 undef) := hp13.val (t := 0) rfl
    have q6 : RC (fun b => S12 b ∨ x2 = some b) w12 (.sl 1 (E sV VN)) (a12.tmps.getD 6 undef) := by
      rw [hp13.valv (t := 6) rfl]
      exact how2.rc.mono (fun b hb => .inr hb) fun _ _ => rfl
    have hp14 := hp13.set [(0, .sl 1 (E cC l)), (5, .loc (.t 5 0) 0 (VO ++ VN).length), (6, .sl 1 (E sV VN)), (16, .v (.int .i64 (k : Nat))), (17, .v (.int .i64 (i : Nat)))] (fun p hp => by
      simp only [List.mem_cons, List.not_mem_nil, or_false] at hp
      rcases hp with rfl | rfl | rfl | rfl | rfl
      · exact .inr q0
      · exact .inl ⟨rfl, rfl⟩
      · exact .inr q6
      · exact .inl ⟨rfl, rfl⟩
      · exact .inl ⟨rfl, rfl⟩)
    letI I14 := Vs.keepE (fun b => S12 b ∨ x2 = some b) w12
    show Vs.At Try.prog Try.f29.ntmps (Vs.drF Try.prog ⟨[]⟩ 10 OS24 (1, 33, 9) (0, 32, 7)) (.region [⟨some 47, .bin .add (.tmp 17) (.const (.int .i64 (1))), none⟩, ⟨some 17, .mv (.tmp 47), none⟩] [0, 5, 6, 16, 17] []) _ a12 w12
    refine At.rg (hp14.rg (pre := [⟨some 47, .bin .add (.tmp 17) (.const (.int .i64 (1))), none⟩, ⟨some 17, .mv (.tmp 47), none⟩]) (post := []) hnt (τ := ⟨[(0, .sl 1 (E cC l)), (5, .loc (.t 5 0) 0 (VO ++ VN).length), (6, .sl 1 (E sV (VN))), (16, .v (.int .i64 (k : Nat))), (17, .v (.int .i64 (i + 1 : Nat)))], [(.t 5 0, .arr 1 (E sV (VO ++ VN)) false)]⟩) (fun p hp => by
      simp only [List.mem_cons, List.not_mem_nil, or_false] at hp
      subst hp
      exact ⟨fun r hr => sV_flat r hr, rfl⟩) ?_ fun a15 w15 S15 p15 hp15 => RgL.nil ?_)
    · simp -dsimp only [go_sem, reduceIte, reduceCtorEq, Nat.reduceEqDiff, Nat.reduceLT, Nat.reduceLeDiff, Nat.reduceAdd, Nat.reduceMul, Nat.reduceSub, Int.reduceToNat, Int.reduceNeg, hwi, cC, List.replicate_succ, List.replicate_zero, List.flatten_cons, List.flatten_nil, List.cons_append, List.nil_append, List.set_cons_zero, List.set_cons_succ, List.length_cons, List.length_nil, List.length_set]
      first | (simp [Vs.LeL, Vs.look, Vs.hlook]; done) | exact ⟨by simp [Vs.LeL, Vs.look, Vs.hlook], trivial⟩ | (and_intros <;> first | omega | (simp [Vs.LeL, Vs.look, Vs.hlook]; done) | trivial) | trace_state
    have pZ : Vs.Past S9 w9 S15 w15 := ((p10.trans p12).trans past_or).trans p15
    refine ⟨k - (i + 1), by omega, i + 1, VO ++ VN, VN, S15, I14, rfl, by omega, hp15, ?_, ?_⟩
    · exact (hO9.past pZ).app (hV9.past pZ)
    · exact hV9.past pZ
  · have hge : i = k := by have := of_decide_eq_false hf; omega
    subst hge
    simp only [Exit.then, Exit.inBlock, if_true]
    have hO5 := hO.past p5
    refine At.seq (At.rg (hp5.rg (pre := [⟨some 48, .mv (.tmp 5), none⟩, ⟨some 4, .mv (.tmp 48), none⟩]) (post := []) hnt (τ := ⟨[(4, .loc (.t 5 0) 0 (E sV VO).length)], [(.t 5 0, .arr 1 (E sV VO) false)]⟩) (fun p hp => by
      simp only [List.mem_cons, List.not_mem_nil, or_false] at hp
      subst hp
      exact ⟨fun r hr => sV_flat r hr, rfl⟩) ?_ fun a6 w6 S6 p6 hp6 => RgL.nil ?_))
    · have e2 : (E sV VO).length = VO.length := E_len _
      simp -dsimp only [go_sem, reduceIte, reduceCtorEq, Nat.reduceEqDiff, Nat.reduceLT, Nat.reduceLeDiff, Nat.reduceAdd, Nat.reduceMul, Nat.reduceSub, Int.reduceToNat, Int.reduceNeg, e2, cC, List.replicate_succ, List.replicate_zero, List.flatten_cons, List.flatten_nil, List.cons_append, List.nil_append, List.set_cons_zero, List.set_cons_succ, List.length_cons, List.length_nil, List.length_set]
      first | (simp [Vs.LeL, Vs.look, Vs.hlook]; done) | exact ⟨by simp [Vs.LeL, Vs.look, Vs.hlook], trivial⟩ | (and_intros <;> first | omega | (simp [Vs.LeL, Vs.look, Vs.hlook]; done) | trivial) | trace_state
    obtain ⟨ov, x2, c2, ⟨b2, m2, k2, rfl⟩, how2, hx2, hP2⟩ := hp6.buryS (n := .t 5 0) (k := 1) (rows := E sV VO) rfl (fun r hr => sV_flat r hr) (t := 4) rfl (fun p hp => by simp [Vs.killL] at hp)
    have hp7 := hP2 [(4, .v (.slice b2 m2 k2))] (fun p hp => by
      rw [List.mem_singleton.1 hp]
      exact .inr (.inr rfl))
    obtain ⟨hdf, u, hrun, hu⟩ := hp7.res (fn := Try.f29) (x := .v (.slice b2 m2 k2)) rfl (by
      show Vs.resL Try.prog _ _ [_]
      simp [Vs.resL, Vs.resV, Vs.look, Vs.oneOr])
    obtain rfl := Vs.rc_v hu
    refine At.ret ⟨.inl rfl, hdf, _, hrun, _, VO, (fun b => S6 b ∨ x2 = some b), rfl, hp7.out, how2.rc.mono (fun b hb => ⟨.inr hb, (hx2 b hb).1⟩) fun _ _ => rfl, ?_, hp7.dom⟩
    exact (hO5.past p6).past past_or
end Go.Proofs.Ytokfhfdnmnblfaa
