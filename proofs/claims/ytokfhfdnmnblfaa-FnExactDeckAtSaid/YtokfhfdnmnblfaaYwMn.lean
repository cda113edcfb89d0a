/- The program's decks, each in memory of its own: the two inner loops. -/
import Derived.Test.YtokfhfdnmnblfaaYwMl
namespace Go.Proofs.Ytokfhfdnmnblfaa
open Go.Vs
set_option linter.unusedSectionVars false
variable [Vs.Envs]
set_option linter.unusedSimpArgs false
set_option linter.unusedVariables false
attribute [local irreducible] Vs.Fn
variable {C1 : Ctx}
set_option maxHeartbeats 4000000 in
/-- the innermost loop: a deck longer by each card -/
theorem loopI (hnt : C1.nt = Try.f29.ntmps) {Q : Exit → Act → World → Prop} {I : Vs.Envs} {a : Act} {w : World} {S : Nat → Prop} {l : List (List Int)} {k i j : Nat} {VO VL VN : List Sl} {dj : Value} {D : List (List Int)} {m : Vs.Mem} {L0 : List (List (List Int))}
    (hs : ∀ x, x ∈ l → x.length ≤ 1048576) (hl : l.length ≤ 5) (hDs : smallC D) (hDs2 : D.length ≤ 1000) (hVN : VN.length ≤ 3900) (hd : Vs.Dk w (D.map (E cI)) dj m) (hS : ∀ b, m.D b → S b)
    (hp : Vs.Pt I C1 (⟨[(0, .sl 1 (E cC l)), (5, .loc (.t 5 0) 0 VO.length), (7, .loc (.t 7 0) 0 (VN).length), (9, .v dj), (16, .v (.int .i64 (k : Nat))), (17, .v (.int .i64 (i : Nat))), (20, .sl 1 (E sV VL)), (21, .v (.int .i64 (VL.length : Nat))), (22, .v (.int .i64 (j : Nat))), (26, .sl 1 (E cC l)), (27, .v (.int .i64 (l.length : Nat))), (28, .v (.int .i64 (0 : Nat)))], [(.t 7 0, .arr 1 (E sV (VN)) false), (.t 5 0, .arr 1 (E sV VO) false)]⟩ : St) a w S) (hV : Dks w S C1.w0.heap.size L0 VN) (hQ : ∀ c a w, ¬ Q (.panic c) a w)
    (hN : ∀ (I' : Vs.Envs) a' w' S' (VN' : List Sl), Vs.Past S w S' w' → Vs.Pt I' C1 (⟨[(0, .sl 1 (E cC l)), (5, .loc (.t 5 0) 0 VO.length), (7, .loc (.t 7 0) 0 (VN').length), (9, .v dj), (16, .v (.int .i64 (k : Nat))), (17, .v (.int .i64 (i : Nat))), (20, .sl 1 (E sV VL)), (21, .v (.int .i64 (VL.length : Nat))), (22, .v (.int .i64 (j : Nat))), (26, .sl 1 (E cC l)), (27, .v (.int .i64 (l.length : Nat))), (28, .v (.int .i64 (l.length : Nat)))], [(.t 7 0, .arr 1 (E sV (VN')) false), (.t 5 0, .arr 1 (E sV VO) false)]⟩ : St) a' w' S' → Dks w' S' C1.w0.heap.size (L0 ++ l.map fun c => D ++ [c]) VN' → Q .normal a' w') :
    Vs.At Try.prog Try.f29.ntmps (Vs.drF Try.prog ⟨[]⟩ 10 OS24 (1, 33, 9) (0, 32, 7)) (.block 4 (.loop (.seq (.region [⟨some 29, .bin .lss (.tmp 28) (.tmp 27), none⟩] [0, 5, 7, 9, 16, 17, 20, 21, 22, 26, 27, 28, 29] []) (.seq (.cond (.tmp 29) (.skip) (.exit 4)) (.seq (.block 5 (.seq (.region [⟨some 30, .idxSl 1 (.tmp 26) (.tmp 28), none⟩, ⟨some 31, .load true 1 (.tmp 30), none⟩, ⟨some 11, .alloc [.v (.slice none 0 0)], none⟩, ⟨none, .store 1 (.tmp 11) (.tmp 31), none⟩] [0, 5, 7, 9, 11, 16, 17, 20, 21, 22, 26, 27, 28] []) (.naming 7 (.region [⟨some 32, .mv (.tmp 7), none⟩, ⟨some 33, .mv (.tmp 9), none⟩, ⟨some 34, .call (.func F.impl_newDeck) [(.tmp 33)] [], none⟩, ⟨some 35, .load true 1 (.tmp 11), none⟩, ⟨some 36, .call (.func F.impl_newCard) [(.tmp 35)] [], none⟩, ⟨some 37, .bslice 1 1 [.v (.slice none 0 0)] [(0, (.tmp 36))], none⟩, ⟨some 38, .append 1 24 (.tmp 34) (.tmp 37), none⟩, ⟨some 39, .bslice 1 1 [.v (.slice none 0 0)] [(0, (.tmp 38))], none⟩, ⟨some 40, .append 1 24 (.tmp 32) (.tmp 39), none⟩, ⟨some 7, .mv (.tmp 40), none⟩] [0, 5, 7, 9, 16, 17, 20, 21, 22, 26, 27, 28] [32, 33, 34, 35, 36, 37, 38, 39, 40])))) (.region [⟨some 41, .bin .add (.tmp 28) (.const (.int .i64 (1))), none⟩, ⟨some 28, .mv (.tmp 41), none⟩] [0, 5, 7, 9, 16, 17, 20, 21, 22, 26, 27, 28] [])))))) Q a w := by
  let IV : Nat → Act → World → Prop := fun nn a' w' => ∃ (q : Nat) (V : List Sl) (S' : Nat → Prop) (I' : Vs.Envs), nn = l.length - q ∧ q ≤ l.length ∧ Vs.Pt I' C1 (⟨[(0, .sl 1 (E cC l)), (5, .loc (.t 5 0) 0 VO.length), (7, .loc (.t 7 0) 0 (V).length), (9, .v dj), (16, .v (.int .i64 (k : Nat))), (17, .v (.int .i64 (i : Nat))), (20, .sl 1 (E sV VL)), (21, .v (.int .i64 (VL.length : Nat))), (22, .v (.int .i64 (j : Nat))), (26, .sl 1 (E cC l)), (27, .v (.int .i64 (l.length : Nat))), (28, .v (.int .i64 (q : Nat)))], [(.t 7 0, .arr 1 (E sV (V)) false), (.t 5 0, .arr 1 (E sV VO) false)]⟩ : St) a' w' S' ∧ Vs.Past S w S' w' ∧ V.length = VN.length + q ∧ Dks w' S' C1.w0.heap.size (L0 ++ (l.take q).map fun c => D ++ [c]) V
  refine At.block (At.loop IV (fun nn a1 w1 hI => ?_) (n := l.length) ⟨0, VN, S, I, by omega, by omega, hp, Vs.Past.refl _ _, rfl, by simpa using hV⟩)
  obtain ⟨q, V, S1, I1, hn, hq, hp1, p1, hVl, hV1⟩ := hI
  refine hp1.go (Vs.drF_ok Try.mixed _ _ _ _ _) hnt 1 _ (τ := ⟨[(29, .v (.bool (decide ((q : Nat) < (l.length : Nat))))), (0, .sl 1 (E cC l)), (5, .loc (.t 5 0) 0 VO.length), (7, .loc (.t 7 0) 0 (V).length), (9, .v dj), (16, .v (.int .i64 (k : Nat))), (17, .v (.int .i64 (i : Nat))), (20, .sl 1 (E sV VL)), (21, .v (.int .i64 (VL.length : Nat))), (22, .v (.int .i64 (j : Nat))), (26, .sl 1 (E cC l)), (27, .v (.int .i64 (l.length : Nat))), (28, .v (.int .i64 (q : Nat)))], [(.t 7 0, .arr 1 (E sV (V)) false), (.t 5 0, .arr 1 (E sV VO) false)]⟩) (X := True) (E := fun _ _ => False) (fun p hp => by
        simp only [List.mem_cons, List.not_mem_nil, or_false] at hp
        rcases hp with rfl | rfl
        · exact ⟨fun r hr => sV_flat r hr, rfl⟩
        · exact ⟨fun r hr => sV_flat r hr, rfl⟩) (fun C hC => ?_) (fun i σ h => h) (fun C a w hl hg => hg.no.elim) fun a2 w2 S2 p2 hp2 _ => ?_
  · simp -dsimp only [go_sem, reduceIte, reduceCtorEq, Nat.reduceEqDiff, Nat.reduceLT, Nat.reduceLeDiff, Nat.reduceAdd, Nat.reduceMul, Nat.reduceSub, Int.reduceToNat, Int.reduceNeg, cC, List.replicate_succ, List.replicate_zero, List.flatten_cons, List.flatten_nil, List.cons_append, List.nil_append, List.set_cons_zero, List.set_cons_succ, List.length_cons, List.length_nil, List.length_set]
    first | (simp [Vs.LeL, Vs.look, Vs.hlook]; done) | exact ⟨by simp [Vs.LeL, Vs.look, Vs.hlook], trivial⟩ | (and_intros <;> first | omega | (simp [Vs.LeL, Vs.look, Vs.hlook]; done) | trivial) | trace_state
  refine At.seq (hp2.cond (b := decide ((q : Nat) < (l.length : Nat))) rfl (fun ht => At.skip ?_) (fun hf => At.exit ?_))
  · have hlt : q < l.length := of_decide_eq_true ht
    show Vs.At Try.prog Try.f29.ntmps (Vs.drF Try.prog ⟨[]⟩ 10 OS24 (1, 33, 9) (0, 32, 7)) (.seq (.block 5 (.seq (.region [⟨some 30, .idxSl 1 (.tmp 26) (.tmp 28), none⟩, ⟨some 31, .load true 1 (.tmp 30), none⟩, ⟨some 11, .alloc [.v (.slice none 0 0)], none⟩, ⟨none, .store 1 (.tmp 11) (.tmp 31), none⟩] [0, 5, 7, 9, 11, 16, 17, 20, 21, 22, 26, 27, 28] []) (.naming 7 (.region [⟨some 32, .mv (.tmp 7), none⟩, ⟨some 33, .mv (.tmp 9), none⟩, ⟨some 34, .call (.func F.impl_newDeck) [(.tmp 33)] [], none⟩, ⟨some 35, .load true 1 (.tmp 11), none⟩, ⟨some 36, .call (.func F.impl_newCard) [(.tmp 35)] [], none⟩, ⟨some 37, .bslice 1 1 [.v (.slice none 0 0)] [(0, (.tmp 36))], none⟩, ⟨some 38, .append 1 24 (.tmp 34) (.tmp 37), none⟩, ⟨some 39, .bslice 1 1 [.v (.slice none 0 0)] [(0, (.tmp 38))], none⟩, ⟨some 40, .append 1 24 (.tmp 32) (.tmp 39), none⟩, ⟨some 7, .mv (.tmp 40), none⟩] [0, 5, 7, 9, 16, 17, 20, 21, 22, 26, 27, 28] [32, 33, 34, 35, 36, 37, 38, 39, 40])))) (.region [⟨some 41, .bin .add (.tmp 28) (.const (.int .i64 (1))), none⟩, ⟨some 28, .mv (.tmp 41), none⟩] [0, 5, 7, 9, 16, 17, 20, 21, 22, 26, 27, 28] [])) _ a2 w2
    have hpX := hp2.le (τ := ⟨[(0, .sl 1 (E cC l)), (5, .loc (.t 5 0) 0 VO.length), (7, .loc (.t 7 0) 0 (V).length), (9, .v dj), (16, .v (.int .i64 (k : Nat))), (17, .v (.int .i64 (i : Nat))), (20, .sl 1 (E sV VL)), (21, .v (.int .i64 (VL.length : Nat))), (22, .v (.int .i64 (j : Nat))), (26, .sl 1 (E cC l)), (27, .v (.int .i64 (l.length : Nat))), (28, .v (.int .i64 (q : Nat)))], [(.t 7 0, .arr 1 (E sV (V)) false), (.t 5 0, .arr 1 (E sV VO) false)]⟩) (by simp [Vs.LeL, Vs.look, Vs.hlook]) (fun p hp => by
      simp only [List.mem_cons, List.not_mem_nil, or_false] at hp
      rcases hp with rfl | rfl
      · exact ⟨fun r hr => sV_flat r hr, rfl⟩
      · exact ⟨fun r hr => sV_flat r hr, rfl⟩)
    have p12 := p1.trans p2
    refine stepI hnt hs hl hlt hDs hDs2 (by omega) (hd.past hS p12) (fun b hb => p12.sub b (hS b hb)) hpX (fun c a w h => by
      simp only [Exit.then, Exit.inBlock] at h
      exact hQ _ _ _ h) fun I' a' w' S' d' p' hpt hdk => ?_
    obtain ⟨m', g1, g2⟩ := hdk
    refine ⟨l.length - (q + 1), by omega, q + 1, V ++ [d'], S', I', rfl, by omega, hpt, p12.trans p', by simp [hVl]; omega, ?_⟩
    rw [take_succ hlt, List.map_append, ← List.append_assoc]
    exact ((hV1.past p2).past p').app (Dks.one g1 g2)
  · have hge : q = l.length := by have := of_decide_eq_false hf; omega
    subst hge
    simp only [Exit.then, Exit.inBlock, if_true]
    refine hN I1 a2 w2 S2 V (p1.trans p2) (hp2.le (by simp [Vs.LeL, Vs.look, Vs.hlook]) (fun p hp => by
      simp only [List.mem_cons, List.not_mem_nil, or_false] at hp
      rcases hp with rfl | rfl
      · exact ⟨fun r hr => sV_flat r hr, rfl⟩
      · exact ⟨fun r hr => sV_flat r hr, rfl⟩)) ?_
    rw [List.take_length] at hV1
    exact hV1.past p2

set_option maxHeartbeats 4000000 in
/-- the middle loop: each deck longer by each card -/
theorem loopM (hnt : C1.nt = Try.f29.ntmps) {Q : Exit → Act → World → Prop} {I : Vs.Envs} {a : Act} {w : World} {S : Nat → Prop} {l : List (List Int)} {k i : Nat} {VO VL : List Sl} {P : List (List (List Int))}
    (hs : ∀ x, x ∈ l → x.length ≤ 1048576) (hl : l.length ≤ 5) (hP : ∀ D, D ∈ P → smallC D ∧ D.length ≤ 1000) (hPl : P.length ≤ 625) (hPV : Dks w S C1.w0.heap.size P VL)
    (hp : Vs.Pt I C1 (⟨[(0, .sl 1 (E cC l)), (5, .loc (.t 5 0) 0 VO.length), (7, .loc (.t 7 0) 0 (([] : List Sl)).length), (16, .v (.int .i64 (k : Nat))), (17, .v (.int .i64 (i : Nat))), (20, .sl 1 (E sV VL)), (21, .v (.int .i64 (VL.length : Nat))), (22, .v (.int .i64 (0 : Nat)))], [(.t 7 0, .arr 1 (E sV (([] : List Sl))) false), (.t 5 0, .arr 1 (E sV VO) false)]⟩ : St) a w S) (hQ : ∀ c a w, ¬ Q (.panic c) a w)
    (hN : ∀ (I' : Vs.Envs) a' w' S' (VN' : List Sl), Vs.Past S w S' w' → Vs.Pt I' C1 (⟨[(0, .sl 1 (E cC l)), (5, .loc (.t 5 0) 0 VO.length), (7, .loc (.t 7 0) 0 (VN').length), (16, .v (.int .i64 (k : Nat))), (17, .v (.int .i64 (i : Nat))), (20, .sl 1 (E sV VL)), (21, .v (.int .i64 (VL.length : Nat))), (22, .v (.int .i64 (VL.length : Nat)))], [(.t 7 0, .arr 1 (E sV (VN')) false), (.t 5 0, .arr 1 (E sV VO) false)]⟩ : St) a' w' S' → Dks w' S' C1.w0.heap.size (nextD l P) VN' → Q .normal a' w') :
    Vs.At Try.prog Try.f29.ntmps (Vs.drF Try.prog ⟨[]⟩ 10 OS24 (1, 33, 9) (0, 32, 7)) (.block 2 (.loop (.seq (.region [⟨some 23, .bin .lss (.tmp 22) (.tmp 21), none⟩] [0, 5, 7, 16, 17, 20, 21, 22, 23] []) (.seq (.cond (.tmp 23) (.skip) (.exit 2)) (.seq (.block 3 (.seq (.region [⟨some 24, .idxSl 1 (.tmp 20) (.tmp 22), none⟩, ⟨some 25, .load false 1 (.tmp 24), none⟩, ⟨some 9, .mv (.tmp 25), none⟩] [0, 5, 7, 9, 16, 17, 20, 21, 22] []) (.seq (.region [⟨some 26, .mv (.tmp 0), none⟩, ⟨some 27, .len (.tmp 26), none⟩, ⟨some 28, .mv (.const (.int .i64 (0))), none⟩] [0, 5, 7, 9, 16, 17, 20, 21, 22, 26, 27, 28] []) (.block 4 (.loop (.seq (.region [⟨some 29, .bin .lss (.tmp 28) (.tmp 27), none⟩] [0, 5, 7, 9, 16, 17, 20, 21, 22, 26, 27, 28, 29] []) (.seq (.cond (.tmp 29) (.skip) (.exit 4)) (.seq (.block 5 (.seq (.region [⟨some 30, .idxSl 1 (.tmp 26) (.tmp 28), none⟩, ⟨some 31, .load true 1 (.tmp 30), none⟩, ⟨some 11, .alloc [.v (.slice none 0 0)], none⟩, ⟨none, .store 1 (.tmp 11) (.tmp 31), none⟩] [0, 5, 7, 9, 11, 16, 17, 20, 21, 22, 26, 27, 28] []) (.naming 7 (.region [⟨some 32, .mv (.tmp 7), none⟩, ⟨some 33, .mv (.tmp 9), none⟩, ⟨some 34, .call (.func F.impl_newDeck) [(.tmp 33)] [], none⟩, ⟨some 35, .load true 1 (.tmp 11), none⟩, ⟨some 36, .call (.func F.impl_newCard) [(.tmp 35)] [], none⟩, ⟨some 37, .bslice 1 1 [.v (.slice none 0 0)] [(0, (.tmp 36))], none⟩, ⟨some 38, .append 1 24 (.tmp 34) (.tmp 37), none⟩, ⟨some 39, .bslice 1 1 [.v (.slice none 0 0)] [(0, (.tmp 38))], none⟩, ⟨some 40, .append 1 24 (.tmp 32) (.tmp 39), none⟩, ⟨some 7, .mv (.tmp 40), none⟩] [0, 5, 7, 9, 16, 17, 20, 21, 22, 26, 27, 28] [32, 33, 34, 35, 36, 37, 38, 39, 40])))) (.region [⟨some 41, .bin .add (.tmp 28) (.const (.int .i64 (1))), none⟩, ⟨some 28, .mv (.tmp 41), none⟩] [0, 5, 7, 9, 16, 17, 20, 21, 22, 26, 27, 28] []))))))))) (.region [⟨some 42, .bin .add (.tmp 22) (.const (.int .i64 (1))), none⟩, ⟨some 22, .mv (.tmp 42), none⟩] [0, 5, 7, 16, 17, 20, 21, 22] [])))))) Q a w := by
  have hlP := hPV.1
  let IV : Nat → Act → World → Prop := fun nn a' w' => ∃ (j : Nat) (V : List Sl) (S' : Nat → Prop) (I' : Vs.Envs), nn = VL.length - j ∧ j ≤ VL.length ∧ Vs.Pt I' C1 (⟨[(0, .sl 1 (E cC l)), (5, .loc (.t 5 0) 0 VO.length), (7, .loc (.t 7 0) 0 (V).length), (16, .v (.int .i64 (k : Nat))), (17, .v (.int .i64 (i : Nat))), (20, .sl 1 (E sV VL)), (21, .v (.int .i64 (VL.length : Nat))), (22, .v (.int .i64 (j : Nat)))], [(.t 7 0, .arr 1 (E sV (V)) false), (.t 5 0, .arr 1 (E sV VO) false)]⟩ : St) a' w' S' ∧ Vs.Past S w S' w' ∧ Dks w' S' C1.w0.heap.size (nextD l (P.take j)) V
  refine At.block (At.loop IV (fun nn a1 w1 hI => ?_) (n := VL.length) ⟨0, [], S, I, by omega, by omega, hp, Vs.Past.refl _ _, by simpa [nextD] using Dks.nil⟩)
  obtain ⟨j, V, S1, I1, hn, hj, hp1, p1, hV1⟩ := hI
  refine hp1.go (Vs.drF_ok Try.mixed _ _ _ _ _) hnt 1 _ (τ := ⟨[(23, .v (.bool (decide ((j : Nat) < (VL.length : Nat))))), (0, .sl 1 (E cC l)), (5, .loc (.t 5 0) 0 VO.length), (7, .loc (.t 7 0) 0 (V).length), (16, .v (.int .i64 (k : Nat))), (17, .v (.int .i64 (i : Nat))), (20, .sl 1 (E sV VL)), (21, .v (.int .i64 (VL.length : Nat))), (22, .v (.int .i64 (j : Nat)))], [(.t 7 0, .arr 1 (E sV (V)) false), (.t 5 0, .arr 1 (E sV VO) false)]⟩) (X := True) (E := fun _ _ => False) (fun p hp => by
        simp only [List.mem_cons, List.not_mem_nil, or_false] at hp
        rcases hp with rfl | rfl
        · exact ⟨fun r hr => sV_flat r hr, rfl⟩
        · exact ⟨fun r hr => sV_flat r hr, rfl⟩) (fun C hC => ?_) (fun i σ h => h) (fun C a w hl hg => hg.no.elim) fun a2 w2 S2 p2 hp2 _ => ?_
  · simp -dsimp only [go_sem, reduceIte, reduceCtorEq, Nat.reduceEqDiff, Nat.reduceLT, Nat.reduceLeDiff, Nat.reduceAdd, Nat.reduceMul, Nat.reduceSub, Int.reduceToNat, Int.reduceNeg, cC, List.replicate_succ, List.replicate_zero, List.flatten_cons, List.flatten_nil, List.cons_append, List.nil_append, List.set_cons_zero, List.set_cons_succ, List.length_cons, List.length_nil, List.length_set]
    first | (simp [Vs.LeL, Vs.look, Vs.hlook]; done) | exact ⟨by simp [Vs.LeL, Vs.look, Vs.hlook], trivial⟩ | (and_intros <;> first | omega | (simp [Vs.LeL, Vs.look, Vs.hlook]; done) | trivial) | trace_state
  refine At.seq (hp2.cond (b := decide ((j : Nat) < (VL.length : Nat))) rfl (fun ht => At.skip ?_) (fun hf => At.exit ?_))
  · have hlt : j < VL.length := of_decide_eq_true ht
    have hlt2 : j < P.length := by omega
    have hVlen : V.length ≤ 3900 := by
      have h1 := hV1.1
      rw [nextD_length, List.length_take] at h1
      have h2 : min j P.length * l.length ≤ 625 * 5 := Nat.mul_le_mul (by omega) hl
      omega
    show Vs.At Try.prog Try.f29.ntmps (Vs.drF Try.prog ⟨[]⟩ 10 OS24 (1, 33, 9) (0, 32, 7)) (.seq (.block 3 (.seq (.region [⟨some 24, .idxSl 1 (.tmp 20) (.tmp 22), none⟩, ⟨some 25, .load false 1 (.tmp 24), none⟩, ⟨some 9, .mv (.tmp 25), none⟩] [0, 5, 7, 9, 16, 17, 20, 21, 22] []) (.seq (.region [⟨some 26, .mv (.tmp 0), none⟩, ⟨some 27, .len (.tmp 26), none⟩, ⟨some 28, .mv (.const (.int .i64 (0))), none⟩] [0, 5, 7, 9, 16, 17, 20, 21, 22, 26, 27, 28] []) (.block 4 (.loop (.seq (.region [⟨some 29, .bin .lss (.tmp 28) (.tmp 27), none⟩] [0, 5, 7, 9, 16, 17, 20, 21, 22, 26, 27, 28, 29] []) (.seq (.cond (.tmp 29) (.skip) (.exit 4)) (.seq (.block 5 (.seq (.region [⟨some 30, .idxSl 1 (.tmp 26) (.tmp 28), none⟩, ⟨some 31, .load true 1 (.tmp 30), none⟩, ⟨some 11, .alloc [.v (.slice none 0 0)], none⟩, ⟨none, .store 1 (.tmp 11) (.tmp 31), none⟩] [0, 5, 7, 9, 11, 16, 17, 20, 21, 22, 26, 27, 28] []) (.naming 7 (.region [⟨some 32, .mv (.tmp 7), none⟩, ⟨some 33, .mv (.tmp 9), none⟩, ⟨some 34, .call (.func F.impl_newDeck) [(.tmp 33)] [], none⟩, ⟨some 35, .load true 1 (.tmp 11), none⟩, ⟨some 36, .call (.func F.impl_newCard) [(.tmp 35)] [], none⟩, ⟨some 37, .bslice 1 1 [.v (.slice none 0 0)] [(0, (.tmp 36))], none⟩, ⟨some 38, .append 1 24 (.tmp 34) (.tmp 37), none⟩, ⟨some 39, .bslice 1 1 [.v (.slice none 0 0)] [(0, (.tmp 38))], none⟩, ⟨some 40, .append 1 24 (.tmp 32) (.tmp 39), none⟩, ⟨some 7, .mv (.tmp 40), none⟩] [0, 5, 7, 9, 16, 17, 20, 21, 22, 26, 27, 28] [32, 33, 34, 35, 36, 37, 38, 39, 40])))) (.region [⟨some 41, .bin .add (.tmp 28) (.const (.int .i64 (1))), none⟩, ⟨some 28, .mv (.tmp 41), none⟩] [0, 5, 7, 9, 16, 17, 20, 21, 22, 26, 27, 28] []))))))))) (.region [⟨some 42, .bin .add (.tmp 22) (.const (.int .i64 (1))), none⟩, ⟨some 22, .mv (.tmp 42), none⟩] [0, 5, 7, 16, 17, 20, 21, 22] [])) _ a2 w2
    have hgv : (E sV VL).getD j [] = [.v (slW VL[j])] := E_get hlt
    have hlv : (E sV VL).length = VL.length := E_len _
    have hlc : (E cC l).length = l.length := E_len _
    have hwj := wrap_succ hlt (by omega)
    refine At.seq (At.block ?_)
    refine hp2.go (Vs.drF_ok Try.mixed _ _ _ _ _) hnt 1 _ (τ := ⟨[(9, .v (slW VL[j])), (0, .sl 1 (E cC l)), (5, .loc (.t 5 0) 0 VO.length), (7, .loc (.t 7 0) 0 (V).length), (16, .v (.int .i64 (k : Nat))), (17, .v (.int .i64 (i : Nat))), (20, .sl 1 (E sV VL)), (21, .v (.int .i64 (VL.length : Nat))), (22, .v (.int .i64 (j : Nat)))], [(.t 7 0, .arr 1 (E sV (V)) false), (.t 5 0, .arr 1 (E sV VO) false)]⟩) (X := True) (E := fun _ _ => False) (fun p hp => by
          simp only [List.mem_cons, List.not_mem_nil, or_false] at hp
          rcases hp with rfl | rfl
          · exact ⟨fun r hr => sV_flat r hr, rfl⟩
          · exact ⟨fun r hr => sV_flat r hr, rfl⟩) (fun C hC => ?_) (fun i σ h => h) (fun C a w hl hg => hg.no.elim) fun a3 w3 S3 p3 hp3 _ => ?_
    · simp -dsimp only [go_sem, reduceIte, reduceCtorEq, Nat.reduceEqDiff, Nat.reduceLT, Nat.reduceLeDiff, Nat.reduceAdd, Nat.reduceMul, Nat.reduceSub, Int.reduceToNat, Int.reduceNeg, hgv, hlv, cC, List.replicate_succ, List.replicate_zero, List.flatten_cons, List.flatten_nil, List.cons_append, List.nil_append, List.set_cons_zero, List.set_cons_succ, List.length_cons, List.length_nil, List.length_set]
      first | (simp [Vs.LeL, Vs.look, Vs.hlook]; done) | exact ⟨by simp [Vs.LeL, Vs.look, Vs.hlook], trivial⟩ | (and_intros <;> first | omega | (simp [Vs.LeL, Vs.look, Vs.hlook]; done) | trivial) | trace_state
    show Vs.At Try.prog Try.f29.ntmps (Vs.drF Try.prog ⟨[]⟩ 10 OS24 (1, 33, 9) (0, 32, 7)) (.seq (.region [⟨some 26, .mv (.tmp 0), none⟩, ⟨some 27, .len (.tmp 26), none⟩, ⟨some 28, .mv (.const (.int .i64 (0))), none⟩] [0, 5, 7, 9, 16, 17, 20, 21, 22, 26, 27, 28] []) (.block 4 (.loop (.seq (.region [⟨some 29, .bin .lss (.tmp 28) (.tmp 27), none⟩] [0, 5, 7, 9, 16, 17, 20, 21, 22, 26, 27, 28, 29] []) (.seq (.cond (.tmp 29) (.skip) (.exit 4)) (.seq (.block 5 (.seq (.region [⟨some 30, .idxSl 1 (.tmp 26) (.tmp 28), none⟩, ⟨some 31, .load true 1 (.tmp 30), none⟩, ⟨some 11, .alloc [.v (.slice none 0 0)], none⟩, ⟨none, .store 1 (.tmp 11) (.tmp 31), none⟩] [0, 5, 7, 9, 11, 16, 17, 20, 21, 22, 26, 27, 28] []) (.naming 7 (.region [⟨some 32, .mv (.tmp 7), none⟩, ⟨some 33, .mv (.tmp 9), none⟩, ⟨some 34, .call (.func F.impl_newDeck) [(.tmp 33)] [], none⟩, ⟨some 35, .load true 1 (.tmp 11), none⟩, ⟨some 36, .call (.func F.impl_newCard) [(.tmp 35)] [], none⟩, ⟨some 37, .bslice 1 1 [.v (.slice none 0 0)] [(0, (.tmp 36))], none⟩, ⟨some 38, .append 1 24 (.tmp 34) (.tmp 37), none⟩, ⟨some 39, .bslice 1 1 [.v (.slice none 0 0)] [(0, (.tmp 38))], none⟩, ⟨some 40, .append 1 24 (.tmp 32) (.tmp 39), none⟩, ⟨some 7, .mv (.tmp 40), none⟩] [0, 5, 7, 9, 16, 17, 20, 21, 22, 26, 27, 28] [32, 33, 34, 35, 36, 37, 38, 39, 40])))) (.region [⟨some 41, .bin .add (.tmp 28) (.const (.int .i64 (1))), none⟩, ⟨some 28, .mv (.tmp 41), none⟩] [0, 5, 7, 9, 16, 17, 20, 21, 22, 26, 27, 28] []))))))) _ a3 w3
    refine hp3.go (Vs.drF_ok Try.mixed _ _ _ _ _) hnt 1 _ (τ := ⟨[(0, .sl 1 (E cC l)), (5, .loc (.t 5 0) 0 VO.length), (7, .loc (.t 7 0) 0 (V).length), (9, .v (slW VL[j])), (16, .v (.int .i64 (k : Nat))), (17, .v (.int .i64 (i : Nat))), (20, .sl 1 (E sV VL)), (21, .v (.int .i64 (VL.length : Nat))), (22, .v (.int .i64 (j : Nat))), (26, .sl 1 (E cC l)), (27, .v (.int .i64 (l.length : Nat))), (28, .v (.int .i64 (0 : Nat)))], [(.t 7 0, .arr 1 (E sV (V)) false), (.t 5 0, .arr 1 (E sV VO) false)]⟩) (X := True) (E := fun _ _ => False) (fun p hp => by
          simp only [List.mem_cons, List.not_mem_nil, or_false] at hp
          rcases hp with rfl | rfl
          · exact ⟨fun r hr => sV_flat r hr, rfl⟩
          · exact ⟨fun r hr => sV_flat r hr, rfl⟩) (fun C hC => ?_) (fun i σ h => h) (fun C a w hl hg => hg.no.elim) fun a4 w4 S4 p4 hp4 _ => ?_
    · simp -dsimp only [go_sem, reduceIte, reduceCtorEq, Nat.reduceEqDiff, Nat.reduceLT, Nat.reduceLeDiff, Nat.reduceAdd, Nat.reduceMul, Nat.reduceSub, Int.reduceToNat, Int.reduceNeg, hlc, cC, List.replicate_succ, List.replicate_zero, List.flatten_cons, List.flatten_nil, List.cons_append, List.nil_append, List.set_cons_zero, List.set_cons_succ, List.length_cons, List.length_nil, List.length_set]
      first | (simp [Vs.LeL, Vs.look, Vs.hlook]; done) | exact ⟨by simp [Vs.LeL, Vs.look, Vs.hlook], trivial⟩ | (and_intros <;> first | omega | (simp [Vs.LeL, Vs.look, Vs.hlook]; done) | trivial) | trace_state
    show Vs.At Try.prog Try.f29.ntmps (Vs.drF Try.prog ⟨[]⟩ 10 OS24 (1, 33, 9) (0, 32, 7)) (.block 4 (.loop (.seq (.region [⟨some 29, .bin .lss (.tmp 28) (.tmp 27), none⟩] [0, 5, 7, 9, 16, 17, 20, 21, 22, 26, 27, 28, 29] []) (.seq (.cond (.tmp 29) (.skip) (.exit 4)) (.seq (.block 5 (.seq (.region [⟨some 30, .idxSl 1 (.tmp 26) (.tmp 28), none⟩, ⟨some 31, .load true 1 (.tmp 30), none⟩, ⟨some 11, .alloc [.v (.slice none 0 0)], none⟩, ⟨none, .store 1 (.tmp 11) (.tmp 31), none⟩] [0, 5, 7, 9, 11, 16, 17, 20, 21, 22, 26, 27, 28] []) (.naming 7 (.region [⟨some 32, .mv (.tmp 7), none⟩, ⟨some 33, .mv (.tmp 9), none⟩, ⟨some 34, .call (.func F.impl_newDeck) [(.tmp 33)] [], none⟩, ⟨some 35, .load true 1 (.tmp 11), none⟩, ⟨some 36, .call (.func F.impl_newCard) [(.tmp 35)] [], none⟩, ⟨some 37, .bslice 1 1 [.v (.slice none 0 0)] [(0, (.tmp 36))], none⟩, ⟨some 38, .append 1 24 (.tmp 34) (.tmp 37), none⟩, ⟨some 39, .bslice 1 1 [.v (.slice none 0 0)] [(0, (.tmp 38))], none⟩, ⟨some 40, .append 1 24 (.tmp 32) (.tmp 39), none⟩, ⟨some 7, .mv (.tmp 40), none⟩] [0, 5, 7, 9, 16, 17, 20, 21, 22, 26, 27, 28] [32, 33, 34, 35, 36, 37, 38, 39, 40])))) (.region [⟨some 41, .bin .add (.tmp 28) (.const (.int .i64 (1))), none⟩, ⟨some 28, .mv (.tmp 41), none⟩] [0, 5, 7, 9, 16, 17, 20, 21, 22, 26, 27, 28] [])))))) _ a4 w4
    have p14 := ((p1.trans p2).trans p3).trans p4
    obtain ⟨m, g1, g2⟩ := hPV.2 j hlt
    have eP : P.getD j [] = P[j] := by simp [hlt2]
    have eV : VL.getD j default = VL[j] := by simp [hlt]
    rw [eP, eV] at g1
    obtain ⟨hD1, hD2⟩ := hP _ (List.getElem_mem hlt2)
    refine loopI hnt hs hl hD1 hD2 hVlen (g1.past (fun b hb => (g2 b hb).1) p14) (fun b hb => p14.sub b (g2 b hb).1) hp4 (((hV1.past p2).past p3).past p4) (fun c a w h => by
      simp only [Exit.then, Exit.inBlock] at h
      exact hQ _ _ _ h) fun I' a' w' S' VN' p' hpt hdk => ?_
    show Vs.At Try.prog Try.f29.ntmps (Vs.drF Try.prog ⟨[]⟩ 10 OS24 (1, 33, 9) (0, 32, 7)) (.region [⟨some 42, .bin .add (.tmp 22) (.const (.int .i64 (1))), none⟩, ⟨some 22, .mv (.tmp 42), none⟩] [0, 5, 7, 16, 17, 20, 21, 22] []) _ a' w'
    refine At.rg (hpt.rg (pre := [⟨some 42, .bin .add (.tmp 22) (.const (.int .i64 (1))), none⟩, ⟨some 22, .mv (.tmp 42), none⟩]) (post := []) hnt (τ := ⟨[(0, .sl 1 (E cC l)), (5, .loc (.t 5 0) 0 VO.length), (7, .loc (.t 7 0) 0 (VN').length), (16, .v (.int .i64 (k : Nat))), (17, .v (.int .i64 (i : Nat))), (20, .sl 1 (E sV VL)), (21, .v (.int .i64 (VL.length : Nat))), (22, .v (.int .i64 (j + 1 : Nat)))], [(.t 7 0, .arr 1 (E sV (VN')) false), (.t 5 0, .arr 1 (E sV VO) false)]⟩) (fun p hp => by
      simp only [List.mem_cons, List.not_mem_nil, or_false] at hp
      rcases hp with rfl | rfl
      · exact ⟨fun r hr => sV_flat r hr, rfl⟩
      · exact ⟨fun r hr => sV_flat r hr, rfl⟩) ?_ fun a7 w7 S7 p7 hp7 => RgL.nil ?_)
    · simp -dsimp only [go_sem, reduceIte, reduceCtorEq, Nat.reduceEqDiff, Nat.reduceLT, Nat.reduceLeDiff, Nat.reduceAdd, Nat.reduceMul, Nat.reduceSub, Int.reduceToNat, Int.reduceNeg, hwj, cC, List.replicate_succ, List.replicate_zero, List.flatten_cons, List.flatten_nil, List.cons_append, List.nil_append, List.set_cons_zero, List.set_cons_succ, List.length_cons, List.length_nil, List.length_set]
      first | (simp [Vs.LeL, Vs.look, Vs.hlook]; done) | exact ⟨by simp [Vs.LeL, Vs.look, Vs.hlook], trivial⟩ | (and_intros <;> first | omega | (simp [Vs.LeL, Vs.look, Vs.hlook]; done) | trivial) | trace_state
    refine ⟨VL.length - (j + 1), by omega, j + 1, VN', S7, I', rfl, by omega, hp7, (p14.trans p').trans p7, ?_⟩
    rw [nextD_take l hlt2]
    exact hdk.past p7
  · have hge : j = VL.length := by have := of_decide_eq_false hf; omega
    subst hge
    simp only [Exit.then, Exit.inBlock, if_true]
    refine hN I1 a2 w2 S2 V (p1.trans p2) (hp2.le (by simp [Vs.LeL, Vs.look, Vs.hlook]) (fun p hp => by
      simp only [List.mem_cons, List.not_mem_nil, or_false] at hp
      rcases hp with rfl | rfl
      · exact ⟨fun r hr => sV_flat r hr, rfl⟩
      · exact ⟨fun r hr => sV_flat r hr, rfl⟩)) ?_
    rw [← hlP, List.take_length] at hV1
    exact hV1.past p2
end Go.Proofs.Ytokfhfdnmnblfaa
