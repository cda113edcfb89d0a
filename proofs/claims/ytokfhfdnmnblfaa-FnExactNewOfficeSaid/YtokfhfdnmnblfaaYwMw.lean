/- A new office lies in memory of its own. -/
import Derived.Test.YtokfhfdnmnblfaaYwMv
import Derived.Test.YtokfhfdnmnblfaaYwRh
import Derived.Test.YtokfhfdnmnblfaaVuH
import Derived.Test.YtokfhfdnmnblfaaYuD
namespace Go.Proofs.Ytokfhfdnmnblfaa
open Go.Vs
set_option linter.unusedSectionVars false
variable [Vs.Envs]
set_option linter.unusedSimpArgs false
set_option linter.unusedVariables false
attribute [local irreducible] Vs.Fn
theorem has1 {f : FuncId} {fn : Func} {ac : ACode} (h : CodeIsR Try.prog f fn ac) : HasBody Try.prog f := Vs.CodeIsR.has h
def n6 : List Sl := List.replicate 6 (none, 0, 0)
def OS6 : List (List Nat) := [[0, 1, 2, 3, 4, 5], [0, 2, 1, 3, 4, 5], [0, 2, 3, 1, 4, 5], [2, 0, 1, 3, 4, 5], [2, 0, 3, 1, 4, 5], [2, 3, 0, 1, 4, 5]]
def T0 (l : List (List Int)) : List (List (List Int)) := l :: List.replicate 5 []
def tv6 (x : Sl) : List Sl := x :: List.replicate 5 (none, 0, 0)
theorem n6_set (x : Sl) : (E sV n6).set 0 [.v (.slice x.1 x.2.1 x.2.2)] = E sV (tv6 x) := rfl
variable {C1 : Ctx}

set_option maxHeartbeats 4000000 in
/-- the first tray's deck, in any order -/
theorem nwR (hnt : C1.nt = Try.f14.ntmps) {Q : Exit → Act → World → Prop} {I : Vs.Envs} {a : Act} {w : World} {S : Nat → Prop} {l : List (List Int)} (hk : smallC l)
    (hp : Vs.Pt I C1 (⟨[(0, .sl 1 (E cC l)), (2, .ptr (.t 2 0) 0 0), (4, .ptr (.t 4 0) 0 0)], [(.t 4 0, .var [.loc (.t 9 0) 0 6, .loc (.t 10 0) 0 0] false), (.t 10 0, .arr 1 [] false), (.t 9 0, .arr 1 (E sV n6) false), (.t 2 0, .var [.v (.slice none 0 0), .v (.slice none 0 0)] false)]⟩ : St) a w S)
    (hN : ∀ (I' : Vs.Envs) a' w' S' (x : Sl) (m : Vs.Mem), Vs.Past S w S' w' → Vs.Pt I' C1 (⟨[(2, .ptr (.t 2 0) 0 0), (4, .ptr (.t 4 0) 0 0)], [(.t 4 0, .var [.loc (.t 9 0) 0 6, .loc (.t 10 0) 0 0] false), (.t 10 0, .arr 1 [] false), (.t 9 0, .arr 1 (E sV (tv6 x)) false), (.t 2 0, .var [.v (.slice none 0 0), .v (.slice none 0 0)] false)]⟩ : St) a' w' S' → Vs.Dk w' (l.map (E cI)) (slW x) m → (∀ b, m.D b → S' b ∧ C1.w0.heap.size ≤ b) → Q .normal a' w') :
    Vs.At Try.prog Try.f14.ntmps (Vs.drO Try.prog 6 OS6) (.region [⟨some 12, .fieldAddr 0 (.tmp 4), none⟩, ⟨some 13, .load false 1 (.tmp 12), none⟩, ⟨some 14, .mv (.tmp 0), none⟩, ⟨some 15, .call (.func F.impl_newDeck) [(.tmp 14)] [], none⟩, ⟨some 16, .idxSl 1 (.tmp 13) (.const (.int .i64 (0))), none⟩, ⟨none, .store 1 (.tmp 16) (.tmp 15), none⟩] [2, 4] [12, 14, 13, 15]) Q a w := by
  refine At.rgs Try.mixed rfl (by decide +kernel) fun L hL => ?_
  have hp0 := hp.drew
  have p0 : Vs.Past S w S { w with drawn := w.drawn + 1 } := Vs.Past.drew
  generalize ({ w with drawn := w.drawn + 1 } : World) = w0 at hp0 p0
  simp only [OS6, List.mem_cons, List.not_mem_nil, or_false] at hL
  rcases hL with rfl | rfl | rfl | rfl | rfl | rfl
  · show RgL Try.prog _ ([⟨some 12, .fieldAddr 0 (.tmp 4), none⟩, ⟨some 13, .load false 1 (.tmp 12), none⟩, ⟨some 14, .mv (.tmp 0), none⟩] ++ ⟨some 15, .call (.func F.impl_newDeck) ([14].map .tmp) [], none⟩ :: [⟨some 16, .idxSl 1 (.tmp 13) (.const (.int .i64 (0))), none⟩, ⟨none, .store 1 (.tmp 16) (.tmp 15), none⟩]) Q _ _
    refine hp0.rg hnt (pre := [⟨some 12, .fieldAddr 0 (.tmp 4), none⟩, ⟨some 13, .load false 1 (.tmp 12), none⟩, ⟨some 14, .mv (.tmp 0), none⟩]) (post := ⟨some 15, .call (.func F.impl_newDeck) ([14].map .tmp) [], none⟩ :: [⟨some 16, .idxSl 1 (.tmp 13) (.const (.int .i64 (0))), none⟩, ⟨none, .store 1 (.tmp 16) (.tmp 15), none⟩]) (τ := ⟨[(14, .sl 1 (E cC l)), (13, .loc (.t 9 0) 0 6), (2, .ptr (.t 2 0) 0 0), (4, .ptr (.t 4 0) 0 0)], [(.t 4 0, .var [.loc (.t 9 0) 0 6, .loc (.t 10 0) 0 0] false), (.t 10 0, .arr 1 [] false), (.t 9 0, .arr 1 (E sV n6) false), (.t 2 0, .var [.v (.slice none 0 0), .v (.slice none 0 0)] false)]⟩) (fun p hp => by
        simp only [List.mem_cons, List.not_mem_nil, or_false] at hp
        rcases hp with rfl | rfl | rfl | rfl
        · exact ⟨rfl, rfl⟩
        · exact ⟨fun r hr => (by cases hr), rfl⟩
        · exact ⟨fun r hr => sV_flat r hr, rfl⟩
        · exact ⟨rfl, rfl⟩) ?_ fun a2 w2 S2 p2 hp2 => hp2.rgcall hnt (ts := [14]) (ys := [.sl 1 (E cC l)]) (has1 Cd.impl_newDeck_ok) rfl (fun i hi => by match i, hi with | 0, _ => rfl) (fun i hi => by match i, hi with | 0, _ => rfl) fun us hus hr => ?_
    · simp -dsimp only [go_sem, reduceIte, reduceCtorEq, Nat.reduceEqDiff, Nat.reduceLT, Nat.reduceLeDiff, Nat.reduceAdd, Nat.reduceMul, Nat.reduceSub, Int.reduceToNat, Int.reduceNeg, cC, List.replicate_succ, List.replicate_zero, List.flatten_cons, List.flatten_nil, List.cons_append, List.nil_append, List.set_cons_zero, List.set_cons_succ, List.length_cons, List.length_nil, List.length_set]
      first | (simp [Vs.LeL, Vs.look, Vs.hlook]; done) | (and_intros <;> first | omega | (simp [Vs.LeL, Vs.look, Vs.hlook]; done)) | trace_state
    obtain ⟨u0, rfl⟩ : ∃ u0, us = #[u0] := ⟨_, Vs.us1 hus rfl⟩
    refine (newDeck_dk l hk hp2.dom hp2.env (hr 0 Nat.zero_lt_one)).mono ?_
    rintro e w3 ⟨v, rfl, hg, m3, hd3, hn3, c3, ho3⟩
    refine ⟨v, rfl, ?_⟩
    obtain ⟨vb, vc, hv⟩ : ∃ b c, v = slW (b, m3.ss.length, c) := by
      obtain ⟨_, b, c, e, _⟩ := ho3.loc 1 _ false rfl
      exact ⟨b, c, by simpa [slW] using e⟩
    subst hv
    have hp3 := (hp2.grow hg (D := m3.D) (fun b hb => ⟨hn3 b hb, hd3.lt b hb⟩) [(13, .loc (.t 9 0) 0 6), (2, .ptr (.t 2 0) 0 0), (4, .ptr (.t 4 0) 0 0)] (fun p hp => by
        simp only [List.mem_cons, List.not_mem_nil, or_false] at hp
        rcases hp with rfl | rfl | rfl <;> exact ⟨rfl, .inl rfl⟩)).put (d := 15) (by rw [hnt, Cd.impl_NewOffice_nt]; omega) (slW (vb, m3.ss.length, vc))
    letI I3 := Vs.keepE (fun b => S2 b ∨ m3.D b) w3
    have hns := n6_set (vb, m3.ss.length, vc)
    have hnl : (E sV n6).length = 6 := rfl
    have hng : (E sV n6).getD 0 [] = [.v (.slice none 0 0)] := rfl
    refine hp3.rg hnt (pre := [⟨some 16, .idxSl 1 (.tmp 13) (.const (.int .i64 (0))), none⟩, ⟨none, .store 1 (.tmp 16) (.tmp 15), none⟩]) (post := []) (τ := ⟨[(2, .ptr (.t 2 0) 0 0), (4, .ptr (.t 4 0) 0 0)], [(.t 4 0, .var [.loc (.t 9 0) 0 6, .loc (.t 10 0) 0 0] false), (.t 10 0, .arr 1 [] false), (.t 9 0, .arr 1 (E sV (tv6 (vb, m3.ss.length, vc))) false), (.t 2 0, .var [.v (.slice none 0 0), .v (.slice none 0 0)] false)]⟩) (fun p hp => by
        simp only [List.mem_cons, List.not_mem_nil, or_false] at hp
        rcases hp with rfl | rfl | rfl | rfl
        · exact ⟨rfl, rfl⟩
        · exact ⟨fun r hr => (by cases hr), rfl⟩
        · exact ⟨fun r hr => sV_flat r hr, rfl⟩
        · exact ⟨rfl, rfl⟩) ?_ fun a4 w4 S4 p4 hp4 => RgL.nil ?_
    · simp only [slW]
      simp -dsimp only [go_sem, reduceIte, reduceCtorEq, Nat.reduceEqDiff, Nat.reduceLT, Nat.reduceLeDiff, Nat.reduceAdd, Nat.reduceMul, Nat.reduceSub, Int.reduceToNat, Int.reduceNeg, hns, hnl, hng, cC, List.replicate_succ, List.replicate_zero, List.flatten_cons, List.flatten_nil, List.cons_append, List.nil_append, List.set_cons_zero, List.set_cons_succ, List.length_cons, List.length_nil, List.length_set]
      first | (simp [Vs.LeL, Vs.look, Vs.hlook]; done) | (and_intros <;> first | omega | (simp [Vs.LeL, Vs.look, Vs.hlook]; done)) | trace_state
    refine hN I3 a4 w4 S4 (vb, m3.ss.length, vc) m3 (((p0.trans p2).trans (Vs.Past.grow hg hp2.dom)).trans p4) hp4 (hd3.past (S := fun b => S2 b ∨ m3.D b) (fun b hb => .inr hb) p4) fun b hb => ⟨p4.sub b (.inr hb), ?_⟩
    have := hn3 b hb
    have := hp2.size
    omega
  · show RgL Try.prog _ ([⟨some 12, .fieldAddr 0 (.tmp 4), none⟩, ⟨some 14, .mv (.tmp 0), none⟩, ⟨some 13, .load false 1 (.tmp 12), none⟩] ++ ⟨some 15, .call (.func F.impl_newDeck) ([14].map .tmp) [], none⟩ :: [⟨some 16, .idxSl 1 (.tmp 13) (.const (.int .i64 (0))), none⟩, ⟨none, .store 1 (.tmp 16) (.tmp 15), none⟩]) Q _ _
    refine hp0.rg hnt (pre := [⟨some 12, .fieldAddr 0 (.tmp 4), none⟩, ⟨some 14, .mv (.tmp 0), none⟩, ⟨some 13, .load false 1 (.tmp 12), none⟩]) (post := ⟨some 15, .call (.func F.impl_newDeck) ([14].map .tmp) [], none⟩ :: [⟨some 16, .idxSl 1 (.tmp 13) (.const (.int .i64 (0))), none⟩, ⟨none, .store 1 (.tmp 16) (.tmp 15), none⟩]) (τ := ⟨[(14, .sl 1 (E cC l)), (13, .loc (.t 9 0) 0 6), (2, .ptr (.t 2 0) 0 0), (4, .ptr (.t 4 0) 0 0)], [(.t 4 0, .var [.loc (.t 9 0) 0 6, .loc (.t 10 0) 0 0] false), (.t 10 0, .arr 1 [] false), (.t 9 0, .arr 1 (E sV n6) false), (.t 2 0, .var [.v (.slice none 0 0), .v (.slice none 0 0)] false)]⟩) (fun p hp => by
        simp only [List.mem_cons, List.not_mem_nil, or_false] at hp
        rcases hp with rfl | rfl | rfl | rfl
        · exact ⟨rfl, rfl⟩
        · exact ⟨fun r hr => (by cases hr), rfl⟩
        · exact ⟨fun r hr => sV_flat r hr, rfl⟩
        · exact ⟨rfl, rfl⟩) ?_ fun a2 w2 S2 p2 hp2 => hp2.rgcall hnt (ts := [14]) (ys := [.sl 1 (E cC l)]) (has1 Cd.impl_newDeck_ok) rfl (fun i hi => by match i, hi with | 0, _ => rfl) (fun i hi => by match i, hi with | 0, _ => rfl) fun us hus hr => ?_
    · simp -dsimp only [go_sem, reduceIte, reduceCtorEq, Nat.reduceEqDiff, Nat.reduceLT, Nat.reduceLeDiff, Nat.reduceAdd, Nat.reduceMul, Nat.reduceSub, Int.reduceToNat, Int.reduceNeg, cC, List.replicate_succ, List.replicate_zero, List.flatten_cons, List.flatten_nil, List.cons_append, List.nil_append, List.set_cons_zero, List.set_cons_succ, List.length_cons, List.length_nil, List.length_set]
      first | (simp [Vs.LeL, Vs.look, Vs.hlook]; done) | (and_intros <;> first | omega | (simp [Vs.LeL, Vs.look, Vs.hlook]; done)) | trace_state
    obtain ⟨u0, rfl⟩ : ∃ u0, us = #[u0] := ⟨_, Vs.us1 hus rfl⟩
    refine (newDeck_dk l hk hp2.dom hp2.env (hr 0 Nat.zero_lt_one)).mono ?_
    rintro e w3 ⟨v, rfl, hg, m3, hd3, hn3, c3, ho3⟩
    refine ⟨v, rfl, ?_⟩
    obtain ⟨vb, vc, hv⟩ : ∃ b c, v = slW (b, m3.ss.length, c) := by
      obtain ⟨_, b, c, e, _⟩ := ho3.loc 1 _ false rfl
      exact ⟨b, c, by simpa [slW] using e⟩
    subst hv
    have hp3 := (hp2.grow hg (D := m3.D) (fun b hb => ⟨hn3 b hb, hd3.lt b hb⟩) [(13, .loc (.t 9 0) 0 6), (2, .ptr (.t 2 0) 0 0), (4, .ptr (.t 4 0) 0 0)] (fun p hp => by
        simp only [List.mem_cons, List.not_mem_nil, or_false] at hp
        rcases hp with rfl | rfl | rfl <;> exact ⟨rfl, .inl rfl⟩)).put (d := 15) (by rw [hnt, Cd.impl_NewOffice_nt]; omega) (slW (vb, m3.ss.length, vc))
    letI I3 := Vs.keepE (fun b => S2 b ∨ m3.D b) w3
    have hns := n6_set (vb, m3.ss.length, vc)
    have hnl : (E sV n6).length = 6 := rfl
    have hng : (E sV n6).getD 0 [] = [.v (.slice none 0 0)] := rfl
    refine hp3.rg hnt (pre := [⟨some 16, .idxSl 1 (.tmp 13) (.const (.int .i64 (0))), none⟩, ⟨none, .store 1 (.tmp 16) (.tmp 15), none⟩]) (post := []) (τ := ⟨[(2, .ptr (.t 2 0) 0 0), (4, .ptr (.t 4 0) 0 0)], [(.t 4 0, .var [.loc (.t 9 0) 0 6, .loc (.t 10 0) 0 0] false), (.t 10 0, .arr 1 [] false), (.t 9 0, .arr 1 (E sV (tv6 (vb, m3.ss.length, vc))) false), (.t 2 0, .var [.v (.slice none 0 0), .v (.slice none 0 0)] false)]⟩) (fun p hp => by
        simp only [List.mem_cons, List.not_mem_nil, or_false] at hp
        rcases hp with rfl | rfl | rfl | rfl
        · exact ⟨rfl, rfl⟩
        · exact ⟨fun r hr => (by cases hr), rfl⟩
        · exact ⟨fun r hr => sV_flat r hr, rfl⟩
        · exact ⟨rfl, rfl⟩) ?_ fun a4 w4 S4 p4 hp4 => RgL.nil ?_
    · simp only [slW]
      simp -dsimp only [go_sem, reduceIte, reduceCtorEq, Nat.reduceEqDiff, Nat.reduceLT, Nat.reduceLeDiff, Nat.reduceAdd, Nat.reduceMul, Nat.reduceSub, Int.reduceToNat, Int.reduceNeg, hns, hnl, hng, cC, List.replicate_succ, List.replicate_zero, List.flatten_cons, List.flatten_nil, List.cons_append, List.nil_append, List.set_cons_zero, List.set_cons_succ, List.length_cons, List.length_nil, List.length_set]
      first | (simp [Vs.LeL, Vs.look, Vs.hlook]; done) | (and_intros <;> first | omega | (simp [Vs.LeL, Vs.look, Vs.hlook]; done)) | trace_state
    refine hN I3 a4 w4 S4 (vb, m3.ss.length, vc) m3 (((p0.trans p2).trans (Vs.Past.grow hg hp2.dom)).trans p4) hp4 (hd3.past (S := fun b => S2 b ∨ m3.D b) (fun b hb => .inr hb) p4) fun b hb => ⟨p4.sub b (.inr hb), ?_⟩
    have := hn3 b hb
    have := hp2.size
    omega
  · show RgL Try.prog _ ([⟨some 12, .fieldAddr 0 (.tmp 4), none⟩, ⟨some 14, .mv (.tmp 0), none⟩] ++ ⟨some 15, .call (.func F.impl_newDeck) ([14].map .tmp) [], none⟩ :: [⟨some 13, .load false 1 (.tmp 12), none⟩, ⟨some 16, .idxSl 1 (.tmp 13) (.const (.int .i64 (0))), none⟩, ⟨none, .store 1 (.tmp 16) (.tmp 15), none⟩]) Q _ _
    refine hp0.rg hnt (pre := [⟨some 12, .fieldAddr 0 (.tmp 4), none⟩, ⟨some 14, .mv (.tmp 0), none⟩]) (post := ⟨some 15, .call (.func F.impl_newDeck) ([14].map .tmp) [], none⟩ :: [⟨some 13, .load false 1 (.tmp 12), none⟩, ⟨some 16, .idxSl 1 (.tmp 13) (.const (.int .i64 (0))), none⟩, ⟨none, .store 1 (.tmp 16) (.tmp 15), none⟩]) (τ := ⟨[(14, .sl 1 (E cC l)), (12, .ptr (.t 4 0) 0 0), (2, .ptr (.t 2 0) 0 0), (4, .ptr (.t 4 0) 0 0)], [(.t 4 0, .var [.loc (.t 9 0) 0 6, .loc (.t 10 0) 0 0] false), (.t 10 0, .arr 1 [] false), (.t 9 0, .arr 1 (E sV n6) false), (.t 2 0, .var [.v (.slice none 0 0), .v (.slice none 0 0)] false)]⟩) (fun p hp => by
        simp only [List.mem_cons, List.not_mem_nil, or_false] at hp
        rcases hp with rfl | rfl | rfl | rfl
        · exact ⟨rfl, rfl⟩
        · exact ⟨fun r hr => (by cases hr), rfl⟩
        · exact ⟨fun r hr => sV_flat r hr, rfl⟩
        · exact ⟨rfl, rfl⟩) ?_ fun a2 w2 S2 p2 hp2 => hp2.rgcall hnt (ts := [14]) (ys := [.sl 1 (E cC l)]) (has1 Cd.impl_newDeck_ok) rfl (fun i hi => by match i, hi with | 0, _ => rfl) (fun i hi => by match i, hi with | 0, _ => rfl) fun us hus hr => ?_
    · simp -dsimp only [go_sem, reduceIte, reduceCtorEq, Nat.reduceEqDiff, Nat.reduceLT, Nat.reduceLeDiff, Nat.reduceAdd, Nat.reduceMul, Nat.reduceSub, Int.reduceToNat, Int.reduceNeg, cC, List.replicate_succ, List.replicate_zero, List.flatten_cons, List.flatten_nil, List.cons_append, List.nil_append, List.set_cons_zero, List.set_cons_succ, List.length_cons, List.length_nil, List.length_set]
      first | (simp [Vs.LeL, Vs.look, Vs.hlook]; done) | (and_intros <;> first | omega | (simp [Vs.LeL, Vs.look, Vs.hlook]; done)) | trace_state
    obtain ⟨u0, rfl⟩ : ∃ u0, us = #[u0] := ⟨_, Vs.us1 hus rfl⟩
    refine (newDeck_dk l hk hp2.dom hp2.env (hr 0 Nat.zero_lt_one)).mono ?_
    rintro e w3 ⟨v, rfl, hg, m3, hd3, hn3, c3, ho3⟩
    refine ⟨v, rfl, ?_⟩
    obtain ⟨vb, vc, hv⟩ : ∃ b c, v = slW (b, m3.ss.length, c) := by
      obtain ⟨_, b, c, e, _⟩ := ho3.loc 1 _ false rfl
      exact ⟨b, c, by simpa [slW] using e⟩
    subst hv
    have hp3 := (hp2.grow hg (D := m3.D) (fun b hb => ⟨hn3 b hb, hd3.lt b hb⟩) [(12, .ptr (.t 4 0) 0 0), (2, .ptr (.t 2 0) 0 0), (4, .ptr (.t 4 0) 0 0)] (fun p hp => by
        simp only [List.mem_cons, List.not_mem_nil, or_false] at hp
        rcases hp with rfl | rfl | rfl <;> exact ⟨rfl, .inl rfl⟩)).put (d := 15) (by rw [hnt, Cd.impl_NewOffice_nt]; omega) (slW (vb, m3.ss.length, vc))
    letI I3 := Vs.keepE (fun b => S2 b ∨ m3.D b) w3
    have hns := n6_set (vb, m3.ss.length, vc)
    have hnl : (E sV n6).length = 6 := rfl
    have hng : (E sV n6).getD 0 [] = [.v (.slice none 0 0)] := rfl
    refine hp3.rg hnt (pre := [⟨some 13, .load false 1 (.tmp 12), none⟩, ⟨some 16, .idxSl 1 (.tmp 13) (.const (.int .i64 (0))), none⟩, ⟨none, .store 1 (.tmp 16) (.tmp 15), none⟩]) (post := []) (τ := ⟨[(2, .ptr (.t 2 0) 0 0), (4, .ptr (.t 4 0) 0 0)], [(.t 4 0, .var [.loc (.t 9 0) 0 6, .loc (.t 10 0) 0 0] false), (.t 10 0, .arr 1 [] false), (.t 9 0, .arr 1 (E sV (tv6 (vb, m3.ss.length, vc))) false), (.t 2 0, .var [.v (.slice none 0 0), .v (.slice none 0 0)] false)]⟩) (fun p hp => by
        simp only [List.mem_cons, List.not_mem_nil, or_false] at hp
        rcases hp with rfl | rfl | rfl | rfl
        · exact ⟨rfl, rfl⟩
        · exact ⟨fun r hr => (by cases hr), rfl⟩
        · exact ⟨fun r hr => sV_flat r hr, rfl⟩
        · exact ⟨rfl, rfl⟩) ?_ fun a4 w4 S4 p4 hp4 => RgL.nil ?_
    · simp only [slW]
      simp -dsimp only [go_sem, reduceIte, reduceCtorEq, Nat.reduceEqDiff, Nat.reduceLT, Nat.reduceLeDiff, Nat.reduceAdd, Nat.reduceMul, Nat.reduceSub, Int.reduceToNat, Int.reduceNeg, hns, hnl, hng, cC, List.replicate_succ, List.replicate_zero, List.flatten_cons, List.flatten_nil, List.cons_append, List.nil_append, List.set_cons_zero, List.set_cons_succ, List.length_cons, List.length_nil, List.length_set]
      first | (simp [Vs.LeL, Vs.look, Vs.hlook]; done) | (and_intros <;> first | omega | (simp [Vs.LeL, Vs.look, Vs.hlook]; done)) | trace_state
    refine hN I3 a4 w4 S4 (vb, m3.ss.length, vc) m3 (((p0.trans p2).trans (Vs.Past.grow hg hp2.dom)).trans p4) hp4 (hd3.past (S := fun b => S2 b ∨ m3.D b) (fun b hb => .inr hb) p4) fun b hb => ⟨p4.sub b (.inr hb), ?_⟩
    have := hn3 b hb
    have := hp2.size
    omega
  · show RgL Try.prog _ ([⟨some 14, .mv (.tmp 0), none⟩, ⟨some 12, .fieldAddr 0 (.tmp 4), none⟩, ⟨some 13, .load false 1 (.tmp 12), none⟩] ++ ⟨some 15, .call (.func F.impl_newDeck) ([14].map .tmp) [], none⟩ :: [⟨some 16, .idxSl 1 (.tmp 13) (.const (.int .i64 (0))), none⟩, ⟨none, .store 1 (.tmp 16) (.tmp 15), none⟩]) Q _ _
    refine hp0.rg hnt (pre := [⟨some 14, .mv (.tmp 0), none⟩, ⟨some 12, .fieldAddr 0 (.tmp 4), none⟩, ⟨some 13, .load false 1 (.tmp 12), none⟩]) (post := ⟨some 15, .call (.func F.impl_newDeck) ([14].map .tmp) [], none⟩ :: [⟨some 16, .idxSl 1 (.tmp 13) (.const (.int .i64 (0))), none⟩, ⟨none, .store 1 (.tmp 16) (.tmp 15), none⟩]) (τ := ⟨[(14, .sl 1 (E cC l)), (13, .loc (.t 9 0) 0 6), (2, .ptr (.t 2 0) 0 0), (4, .ptr (.t 4 0) 0 0)], [(.t 4 0, .var [.loc (.t 9 0) 0 6, .loc (.t 10 0) 0 0] false), (.t 10 0, .arr 1 [] false), (.t 9 0, .arr 1 (E sV n6) false), (.t 2 0, .var [.v (.slice none 0 0), .v (.slice none 0 0)] false)]⟩) (fun p hp => by
        simp only [List.mem_cons, List.not_mem_nil, or_false] at hp
        rcases hp with rfl | rfl | rfl | rfl
        · exact ⟨rfl, rfl⟩
        · exact ⟨fun r hr => (by cases hr), rfl⟩
        · exact ⟨fun r hr => sV_flat r hr, rfl⟩
        · exact ⟨rfl, rfl⟩) ?_ fun a2 w2 S2 p2 hp2 => hp2.rgcall hnt (ts := [14]) (ys := [.sl 1 (E cC l)]) (has1 Cd.impl_newDeck_ok) rfl (fun i hi => by match i, hi with | 0, _ => rfl) (fun i hi => by match i, hi with | 0, _ => rfl) fun us hus hr => ?_
    · simp -dsimp only [go_sem, reduceIte, reduceCtorEq, Nat.reduceEqDiff, Nat.reduceLT, Nat.reduceLeDiff, Nat.reduceAdd, Nat.reduceMul, Nat.reduceSub, Int.reduceToNat, Int.reduceNeg, cC, List.replicate_succ, List.replicate_zero, List.flatten_cons, List.flatten_nil, List.cons_append, List.nil_append, List.set_cons_zero, List.set_cons_succ, List.length_cons, List.length_nil, List.length_set]
      first | (simp [Vs.LeL, Vs.look, Vs.hlook]; done) | (and_intros <;> first | omega | (simp [Vs.LeL, Vs.look, Vs.hlook]; done)) | trace_state
    obtain ⟨u0, rfl⟩ : ∃ u0, us = #[u0] := ⟨_, Vs.us1 hus rfl⟩
    refine (newDeck_dk l hk hp2.dom hp2.env (hr 0 Nat.zero_lt_one)).mono ?_
    rintro e w3 ⟨v, rfl, hg, m3, hd3, hn3, c3, ho3⟩
    refine ⟨v, rfl, ?_⟩
    obtain ⟨vb, vc, hv⟩ : ∃ b c, v = slW (b, m3.ss.length, c) := by
      obtain ⟨_, b, c, e, _⟩ := ho3.loc 1 _ false rfl
      exact ⟨b, c, by simpa [slW] using e⟩
    subst hv
    have hp3 := (hp2.grow hg (D := m3.D) (fun b hb => ⟨hn3 b hb, hd3.lt b hb⟩) [(13, .loc (.t 9 0) 0 6), (2, .ptr (.t 2 0) 0 0), (4, .ptr (.t 4 0) 0 0)] (fun p hp => by
        simp only [List.mem_cons, List.not_mem_nil, or_false] at hp
        rcases hp with rfl | rfl | rfl <;> exact ⟨rfl, .inl rfl⟩)).put (d := 15) (by rw [hnt, Cd.impl_NewOffice_nt]; omega) (slW (vb, m3.ss.length, vc))
    letI I3 := Vs.keepE (fun b => S2 b ∨ m3.D b) w3
    have hns := n6_set (vb, m3.ss.length, vc)
    have hnl : (E sV n6).length = 6 := rfl
    have hng : (E sV n6).getD 0 [] = [.v (.slice none 0 0)] := rfl
    refine hp3.rg hnt (pre := [⟨some 16, .idxSl 1 (.tmp 13) (.const (.int .i64 (0))), none⟩, ⟨none, .store 1 (.tmp 16) (.tmp 15), none⟩]) (post := []) (τ := ⟨[(2, .ptr (.t 2 0) 0 0), (4, .ptr (.t 4 0) 0 0)], [(.t 4 0, .var [.loc (.t 9 0) 0 6, .loc (.t 10 0) 0 0] false), (.t 10 0, .arr 1 [] false), (.t 9 0, .arr 1 (E sV (tv6 (vb, m3.ss.length, vc))) false), (.t 2 0, .var [.v (.slice none 0 0), .v (.slice none 0 0)] false)]⟩) (fun p hp => by
        simp only [List.mem_cons, List.not_mem_nil, or_false] at hp
        rcases hp with rfl | rfl | rfl | rfl
        · exact ⟨rfl, rfl⟩
        · exact ⟨fun r hr => (by cases hr), rfl⟩
        · exact ⟨fun r hr => sV_flat r hr, rfl⟩
        · exact ⟨rfl, rfl⟩) ?_ fun a4 w4 S4 p4 hp4 => RgL.nil ?_
    · simp only [slW]
      simp -dsimp only [go_sem, reduceIte, reduceCtorEq, Nat.reduceEqDiff, Nat.reduceLT, Nat.reduceLeDiff, Nat.reduceAdd, Nat.reduceMul, Nat.reduceSub, Int.reduceToNat, Int.reduceNeg, hns, hnl, hng, cC, List.replicate_succ, List.replicate_zero, List.flatten_cons, List.flatten_nil, List.cons_append, List.nil_append, List.set_cons_zero, List.set_cons_succ, List.length_cons, List.length_nil, List.length_set]
      first | (simp [Vs.LeL, Vs.look, Vs.hlook]; done) | (and_intros <;> first | omega | (simp [Vs.LeL, Vs.look, Vs.hlook]; done)) | trace_state
    refine hN I3 a4 w4 S4 (vb, m3.ss.length, vc) m3 (((p0.trans p2).trans (Vs.Past.grow hg hp2.dom)).trans p4) hp4 (hd3.past (S := fun b => S2 b ∨ m3.D b) (fun b hb => .inr hb) p4) fun b hb => ⟨p4.sub b (.inr hb), ?_⟩
    have := hn3 b hb
    have := hp2.size
    omega
  · show RgL Try.prog _ ([⟨some 14, .mv (.tmp 0), none⟩, ⟨some 12, .fieldAddr 0 (.tmp 4), none⟩] ++ ⟨some 15, .call (.func F.impl_newDeck) ([14].map .tmp) [], none⟩ :: [⟨some 13, .load false 1 (.tmp 12), none⟩, ⟨some 16, .idxSl 1 (.tmp 13) (.const (.int .i64 (0))), none⟩, ⟨none, .store 1 (.tmp 16) (.tmp 15), none⟩]) Q _ _
    refine hp0.rg hnt (pre := [⟨some 14, .mv (.tmp 0), none⟩, ⟨some 12, .fieldAddr 0 (.tmp 4), none⟩]) (post := ⟨some 15, .call (.func F.impl_newDeck) ([14].map .tmp) [], none⟩ :: [⟨some 13, .load false 1 (.tmp 12), none⟩, ⟨some 16, .idxSl 1 (.tmp 13) (.const (.int .i64 (0))), none⟩, ⟨none, .store 1 (.tmp 16) (.tmp 15), none⟩]) (τ := ⟨[(14, .sl 1 (E cC l)), (12, .ptr (.t 4 0) 0 0), (2, .ptr (.t 2 0) 0 0), (4, .ptr (.t 4 0) 0 0)], [(.t 4 0, .var [.loc (.t 9 0) 0 6, .loc (.t 10 0) 0 0] false), (.t 10 0, .arr 1 [] false), (.t 9 0, .arr 1 (E sV n6) false), (.t 2 0, .var [.v (.slice none 0 0), .v (.slice none 0 0)] false)]⟩) (fun p hp => by
        simp only [List.mem_cons, List.not_mem_nil, or_false] at hp
        rcases hp with rfl | rfl | rfl | rfl
        · exact ⟨rfl, rfl⟩
        · exact ⟨fun r hr => (by cases hr), rfl⟩
        · exact ⟨fun r hr => sV_flat r hr, rfl⟩
        · exact ⟨rfl, rfl⟩) ?_ fun a2 w2 S2 p2 hp2 => hp2.rgcall hnt (ts := [14]) (ys := [.sl 1 (E cC l)]) (has1 Cd.impl_newDeck_ok) rfl (fun i hi => by match i, hi with | 0, _ => rfl) (fun i hi => by match i, hi with | 0, _ => rfl) fun us hus hr => ?_
    · simp -dsimp only [go_sem, reduceIte, reduceCtorEq, Nat.reduceEqDiff, Nat.reduceLT, Nat.reduceLeDiff, Nat.reduceAdd, Nat.reduceMul, Nat.reduceSub, Int.reduceToNat, Int.reduceNeg, cC, List.replicate_succ, List.replicate_zero, List.flatten_cons, List.flatten_nil, List.cons_append, List.nil_append, List.set_cons_zero, List.set_cons_succ, List.length_cons, List.length_nil, List.length_set]
      first | (simp [Vs.LeL, Vs.look, Vs.hlook]; done) | (and_intros <;> first | omega | (simp [Vs.LeL, Vs.look, Vs.hlook]; done)) | trace_state
    obtain ⟨u0, rfl⟩ : ∃ u0, us = #[u0] := ⟨_, Vs.us1 hus rfl⟩
    refine (newDeck_dk l hk hp2.dom hp2.env (hr 0 Nat.zero_lt_one)).mono ?_
    rintro e w3 ⟨v, rfl, hg, m3, hd3, hn3, c3, ho3⟩
    refine ⟨v, rfl, ?_⟩
    obtain ⟨vb, vc, hv⟩ : ∃ b c, v = slW (b, m3.ss.length, c) := by
      obtain ⟨_, b, c, e, _⟩ := ho3.loc 1 _ false rfl
      exact ⟨b, c, by simpa [slW] using e⟩
    subst hv
    have hp3 := (hp2.grow hg (D := m3.D) (fun b hb => ⟨hn3 b hb, hd3.lt b hb⟩) [(12, .ptr (.t 4 0) 0 0), (2, .ptr (.t 2 0) 0 0), (4, .ptr (.t 4 0) 0 0)] (fun p hp => by
        simp only [List.mem_cons, List.not_mem_nil, or_false] at hp
        rcases hp with rfl | rfl | rfl <;> exact ⟨rfl, .inl rfl⟩)).put (d := 15) (by rw [hnt, Cd.impl_NewOffice_nt]; omega) (slW (vb, m3.ss.length, vc))
    letI I3 := Vs.keepE (fun b => S2 b ∨ m3.D b) w3
    have hns := n6_set (vb, m3.ss.length, vc)
    have hnl : (E sV n6).length = 6 := rfl
    have hng : (E sV n6).getD 0 [] = [.v (.slice none 0 0)] := rfl
    refine hp3.rg hnt (pre := [⟨some 13, .load false 1 (.tmp 12), none⟩, ⟨some 16, .idxSl 1 (.tmp 13) (.const (.int .i64 (0))), none⟩, ⟨none, .store 1 (.tmp 16) (.tmp 15), none⟩]) (post := []) (τ := ⟨[(2, .ptr (.t 2 0) 0 0), (4, .ptr (.t 4 0) 0 0)], [(.t 4 0, .var [.loc (.t 9 0) 0 6, .loc (.t 10 0) 0 0] false), (.t 10 0, .arr 1 [] false), (.t 9 0, .arr 1 (E sV (tv6 (vb, m3.ss.length, vc))) false), (.t 2 0, .var [.v (.slice none 0 0), .v (.slice none 0 0)] false)]⟩) (fun p hp => by
        simp only [List.mem_cons, List.not_mem_nil, or_false] at hp
        rcases hp with rfl | rfl | rfl | rfl
        · exact ⟨rfl, rfl⟩
        · exact ⟨fun r hr => (by cases hr), rfl⟩
        · exact ⟨fun r hr => sV_flat r hr, rfl⟩
        · exact ⟨rfl, rfl⟩) ?_ fun a4 w4 S4 p4 hp4 => RgL.nil ?_
    · simp only [slW]
      simp -dsimp only [go_sem, reduceIte, reduceCtorEq, Nat.reduceEqDiff, Nat.reduceLT, Nat.reduceLeDiff, Nat.reduceAdd, Nat.reduceMul, Nat.reduceSub, Int.reduceToNat, Int.reduceNeg, hns, hnl, hng, cC, List.replicate_succ, List.replicate_zero, List.flatten_cons, List.flatten_nil, List.cons_append, List.nil_append, List.set_cons_zero, List.set_cons_succ, List.length_cons, List.length_nil, List.length_set]
      first | (simp [Vs.LeL, Vs.look, Vs.hlook]; done) | (and_intros <;> first | omega | (simp [Vs.LeL, Vs.look, Vs.hlook]; done)) | trace_state
    refine hN I3 a4 w4 S4 (vb, m3.ss.length, vc) m3 (((p0.trans p2).trans (Vs.Past.grow hg hp2.dom)).trans p4) hp4 (hd3.past (S := fun b => S2 b ∨ m3.D b) (fun b hb => .inr hb) p4) fun b hb => ⟨p4.sub b (.inr hb), ?_⟩
    have := hn3 b hb
    have := hp2.size
    omega
  · show RgL Try.prog _ ([⟨some 14, .mv (.tmp 0), none⟩] ++ ⟨some 15, .call (.func F.impl_newDeck) ([14].map .tmp) [], none⟩ :: [⟨some 12, .fieldAddr 0 (.tmp 4), none⟩, ⟨some 13, .load false 1 (.tmp 12), none⟩, ⟨some 16, .idxSl 1 (.tmp 13) (.const (.int .i64 (0))), none⟩, ⟨none, .store 1 (.tmp 16) (.tmp 15), none⟩]) Q _ _
    refine hp0.rg hnt (pre := [⟨some 14, .mv (.tmp 0), none⟩]) (post := ⟨some 15, .call (.func F.impl_newDeck) ([14].map .tmp) [], none⟩ :: [⟨some 12, .fieldAddr 0 (.tmp 4), none⟩, ⟨some 13, .load false 1 (.tmp 12), none⟩, ⟨some 16, .idxSl 1 (.tmp 13) (.const (.int .i64 (0))), none⟩, ⟨none, .store 1 (.tmp 16) (.tmp 15), none⟩]) (τ := ⟨[(14, .sl 1 (E cC l)), (2, .ptr (.t 2 0) 0 0), (4, .ptr (.t 4 0) 0 0)], [(.t 4 0, .var [.loc (.t 9 0) 0 6, .loc (.t 10 0) 0 0] false), (.t 10 0, .arr 1 [] false), (.t 9 0, .arr 1 (E sV n6) false), (.t 2 0, .var [.v (.slice none 0 0), .v (.slice none 0 0)] false)]⟩) (fun p hp => by
        simp only [List.mem_cons, List.not_mem_nil, or_false] at hp
        rcases hp with rfl | rfl | rfl | rfl
        · exact ⟨rfl, rfl⟩
        · exact ⟨fun r hr => (by cases hr), rfl⟩
        · exact ⟨fun r hr => sV_flat r hr, rfl⟩
        · exact ⟨rfl, rfl⟩) ?_ fun a2 w2 S2 p2 hp2 => hp2.rgcall hnt (ts := [14]) (ys := [.sl 1 (E cC l)]) (has1 Cd.impl_newDeck_ok) rfl (fun i hi => by match i, hi with | 0, _ => rfl) (fun i hi => by match i, hi with | 0, _ => rfl) fun us hus hr => ?_
    · simp -dsimp only [go_sem, reduceIte, reduceCtorEq, Nat.reduceEqDiff, Nat.reduceLT, Nat.reduceLeDiff, Nat.reduceAdd, Nat.reduceMul, Nat.reduceSub, Int.reduceToNat, Int.reduceNeg, cC, List.replicate_succ, List.replicate_zero, List.flatten_cons, List.flatten_nil, List.cons_append, List.nil_append, List.set_cons_zero, List.set_cons_succ, List.length_cons, List.length_nil, List.length_set]
      first | (simp [Vs.LeL, Vs.look, Vs.hlook]; done) | (and_intros <;> first | omega | (simp [Vs.LeL, Vs.look, Vs.hlook]; done)) | trace_state
    obtain ⟨u0, rfl⟩ : ∃ u0, us = #[u0] := ⟨_, Vs.us1 hus rfl⟩
    refine (newDeck_dk l hk hp2.dom hp2.env (hr 0 Nat.zero_lt_one)).mono ?_
    rintro e w3 ⟨v, rfl, hg, m3, hd3, hn3, c3, ho3⟩
    refine ⟨v, rfl, ?_⟩
    obtain ⟨vb, vc, hv⟩ : ∃ b c, v = slW (b, m3.ss.length, c) := by
      obtain ⟨_, b, c, e, _⟩ := ho3.loc 1 _ false rfl
      exact ⟨b, c, by simpa [slW] using e⟩
    subst hv
    have hp3 := (hp2.grow hg (D := m3.D) (fun b hb => ⟨hn3 b hb, hd3.lt b hb⟩) [(2, .ptr (.t 2 0) 0 0), (4, .ptr (.t 4 0) 0 0)] (fun p hp => by
        simp only [List.mem_cons, List.not_mem_nil, or_false] at hp
        rcases hp with rfl | rfl <;> exact ⟨rfl, .inl rfl⟩)).put (d := 15) (by rw [hnt, Cd.impl_NewOffice_nt]; omega) (slW (vb, m3.ss.length, vc))
    letI I3 := Vs.keepE (fun b => S2 b ∨ m3.D b) w3
    have hns := n6_set (vb, m3.ss.length, vc)
    have hnl : (E sV n6).length = 6 := rfl
    have hng : (E sV n6).getD 0 [] = [.v (.slice none 0 0)] := rfl
    refine hp3.rg hnt (pre := [⟨some 12, .fieldAddr 0 (.tmp 4), none⟩, ⟨some 13, .load false 1 (.tmp 12), none⟩, ⟨some 16, .idxSl 1 (.tmp 13) (.const (.int .i64 (0))), none⟩, ⟨none, .store 1 (.tmp 16) (.tmp 15), none⟩]) (post := []) (τ := ⟨[(2, .ptr (.t 2 0) 0 0), (4, .ptr (.t 4 0) 0 0)], [(.t 4 0, .var [.loc (.t 9 0) 0 6, .loc (.t 10 0) 0 0] false), (.t 10 0, .arr 1 [] false), (.t 9 0, .arr 1 (E sV (tv6 (vb, m3.ss.length, vc))) false), (.t 2 0, .var [.v (.slice none 0 0), .v (.slice none 0 0)] false)]⟩) (fun p hp => by
        simp only [List.mem_cons, List.not_mem_nil, or_false] at hp
        rcases hp with rfl | rfl | rfl | rfl
        · exact ⟨rfl, rfl⟩
        · exact ⟨fun r hr => (by cases hr), rfl⟩
        · exact ⟨fun r hr => sV_flat r hr, rfl⟩
        · exact ⟨rfl, rfl⟩) ?_ fun a4 w4 S4 p4 hp4 => RgL.nil ?_
    · simp only [slW]
      simp -dsimp only [go_sem, reduceIte, reduceCtorEq, Nat.reduceEqDiff, Nat.reduceLT, Nat.reduceLeDiff, Nat.reduceAdd, Nat.reduceMul, Nat.reduceSub, Int.reduceToNat, Int.reduceNeg, hns, hnl, hng, cC, List.replicate_succ, List.replicate_zero, List.flatten_cons, List.flatten_nil, List.cons_append, List.nil_append, List.set_cons_zero, List.set_cons_succ, List.length_cons, List.length_nil, List.length_set]
      first | (simp [Vs.LeL, Vs.look, Vs.hlook]; done) | (and_intros <;> first | omega | (simp [Vs.LeL, Vs.look, Vs.hlook]; done)) | trace_state
    refine hN I3 a4 w4 S4 (vb, m3.ss.length, vc) m3 (((p0.trans p2).trans (Vs.Past.grow hg hp2.dom)).trans p4) hp4 (hd3.past (S := fun b => S2 b ∨ m3.D b) (fun b hb => .inr hb) p4) fun b hb => ⟨p4.sub b (.inr hb), ?_⟩
    have := hn3 b hb
    have := hp2.size
    omega

theorem rc_nil_any {S : Nat → Prop} {w : World} {v : Value} (h : RC S w (.sl 1 []) v) : ∀ S' w', RC S' w' (.sl 1 []) v := fun S' w' => by
  letI : Vs.Envs := ⟨[]⟩
  generalize hl : ([] : List (List AV)) = l at h
  cases h with
  | sl _ _ base cap x off xs hb hc ho hr hk hcap =>
    subst hl
    exact .sl 1 [] base cap x off xs (by simp) (by simp) (by simp) (by simp) (by simp) hcap
def noM : Vs.Mem := ⟨none, [], fun _ => none, fun _ => 0⟩
theorem noM_D {b : Nat} (h : noM.D b) : False := by
  rcases h with h | ⟨i, hi, _⟩
  · cases h
  · simp [noM] at hi
set_option maxHeartbeats 4000000 in
theorem NewOffice_of (l : List (List Int)) (hk : smallC l) (hd : deckB l = true) {S : Nat → Prop} {w : World} {vs : Array Value} (hS : ∀ b, S b → b < w.heap.size) (he : Env S w) (hvs : vs.size = 1) (hargs : ∀ j, j < 1 → RC S w (([.sl 1 (E cC l)] : List AV).getD j .junk) (vs.getD j undef)) :
    Calls Try.prog F.impl_NewOffice vs w fun e w' => ∃ (tb : Option Addr) (tc : Nat) (xt : Option Nat) (TV : List Sl) (M : Nat → Vs.Mem) (ov : Value), e = .returned (.tuple #[.agg #[.slice tb 6 tc, ov], .int .i64 0]) ∧ Vs.Grew w w' ∧ Of w' (T0 l) (.slice tb 6 tc) xt TV M ∧ TV.length = 6 ∧ (∀ b, OfD xt TV M b → w.heap.size ≤ b) ∧ ∀ S' w2, RC S' w2 (.sl 1 []) ov := by
  have VD := validDeck l hk.2 hk.1
  rw [hd] at VD
  obtain ⟨h1, _, _⟩ := Cd.impl_NewOffice_ok
  have h2 : Try.f14.body.bind (cCode Try.prog Try.f14.ntmps (Vs.drO Try.prog 6 OS6)) = some Cd.impl_NewOffice.bare := by kernel_rfl
  obtain ⟨body, hb, hc⟩ := Option.bind_eq_some_iff.1 h2
  have hz : (Try.f14.body.map (zB Try.f14.ntmps (Vs.drO Try.prog 6 OS6))) = some true := by kernel_rfl
  rw [hb] at hz
  refine Vs.Pt.calls (dr := (Vs.drO Try.prog 6 OS6)) (ac := Cd.impl_NewOffice) h1 hb hc (by simpa using hz) (args := [.sl 1 (E cC l)]) (by rw [Cd.impl_NewOffice_nt]; exact Nat.le_of_ble_eq_true rfl) hS he hvs hargs fun C1 a hnt hw0 hS0 hp => ?_
  subst hw0
  have hn6 : List.replicate 6 [AV.v (Value.slice none 0 0)] = E sV n6 := rfl
  unfold Cd.impl_NewOffice
  refine hp.go (Vs.drO_ok Try.mixed _ _) hnt 3 _ (τ := ⟨[(0, .sl 1 (E cC l)), (2, .ptr (.t 2 0) 0 0), (4, .ptr (.t 4 0) 0 0)], [(.t 4 0, .var [.loc (.t 9 0) 0 6, .loc (.t 10 0) 0 0] false), (.t 10 0, .arr 1 [] false), (.t 9 0, .arr 1 (E sV n6) false), (.t 2 0, .var [.v (.slice none 0 0), .v (.slice none 0 0)] false)]⟩) (X := True) (E := fun _ _ => False) (fun p hp => by
      simp only [List.mem_cons, List.not_mem_nil, or_false] at hp
      rcases hp with rfl | rfl | rfl | rfl
      · exact ⟨rfl, rfl⟩
      · exact ⟨fun r hr => (by cases hr), rfl⟩
      · exact ⟨fun r hr => sV_flat r hr, rfl⟩
      · exact ⟨rfl, rfl⟩) (fun C hC => ?_) (fun i σ h => h) (fun C a w hl hg => hg.no.elim) fun a3 w3 S3 p3 hp3 _ => ?_
  · simp -dsimp only [go_sem, reduceIte, reduceCtorEq, Nat.reduceEqDiff, Nat.reduceLT, Nat.reduceLeDiff, Nat.reduceAdd, Nat.reduceMul, Nat.reduceSub, Int.reduceToNat, Int.reduceNeg, hn6, cC]
    repeat' (first
      | (refine RgK.mk rfl ?_; simp -dsimp only [go_sem, reduceIte, reduceCtorEq, Nat.reduceEqDiff, Nat.reduceLT, Nat.reduceLeDiff, Nat.reduceAdd, Nat.reduceMul, Nat.reduceSub, Int.reduceToNat, Int.reduceNeg, hn6, cC])
      | (refine Br.mk (fun h => ?_) (fun h => ?_) <;> simp -dsimp only [go_sem, reduceIte, reduceCtorEq, Nat.reduceEqDiff, Nat.reduceLT, Nat.reduceLeDiff, Nat.reduceAdd, Nat.reduceMul, Nat.reduceSub, Int.reduceToNat, Int.reduceNeg, h, hn6, cC])
      | (refine CallK.flat (by first | exact VD) rfl ?_; simp -dsimp only [go_sem, reduceIte, reduceCtorEq, Nat.reduceEqDiff, Nat.reduceLT, Nat.reduceLeDiff, Nat.reduceAdd, Nat.reduceMul, Nat.reduceSub, Int.reduceToNat, Int.reduceNeg, hn6, cC])
      | (refine CallK.pure (by first | exact VD) ?_; simp -dsimp only [go_sem, reduceIte, reduceCtorEq, Nat.reduceEqDiff, Nat.reduceLT, Nat.reduceLeDiff, Nat.reduceAdd, Nat.reduceMul, Nat.reduceSub, Int.reduceToNat, Int.reduceNeg, hn6, cC])
      | (refine And.intro (by first | rfl | omega | decide | (refine ⟨?_, ?_⟩ <;> (first | rfl | omega | decide)) | (refine ⟨?_, ?_, ?_⟩ <;> (first | rfl | omega | decide)) | (refine ⟨?_, ?_, ?_, ?_⟩ <;> (first | rfl | omega | decide))) ?_; try simp -dsimp only [go_sem, reduceIte, reduceCtorEq, Nat.reduceEqDiff, Nat.reduceLT, Nat.reduceLeDiff, Nat.reduceAdd, Nat.reduceMul, Nat.reduceSub, Int.reduceToNat, Int.reduceNeg, hn6, cC])
      | fail)

    all_goals first | (simp [Vs.LeL, Vs.look, Vs.hlook]; done) | (and_intros <;> first | omega | rfl | (simp [Vs.LeL, Vs.look, Vs.hlook]; done)) | (simp [Vs.LeL, Vs.look, Vs.hlook, n6, Vs.E, sV, List.replicate]; done) | (and_intros <;> first | omega | rfl | (simp [Vs.LeL, Vs.look, Vs.hlook, n6, Vs.E, sV, List.replicate]; done)) | trace_state
  refine At.seq (nwR hnt hk hp3 fun I5 a5 w5 S5 x m p5 hp5 hdk hm => ?_)
  show Vs.At Try.prog Try.f14.ntmps (Vs.drO Try.prog 6 OS6) (Vs.dropS 4 Cd.impl_NewOffice) _ a5 w5
  refine hp5.go (Vs.drO_ok Try.mixed _ _) hnt 1 _ (τ := ⟨[(2, .ptr (.t 2 0) 0 0), (3, .v (.int .i64 0))], [(.t 2 0, .var [.loc (.t 9 0) 0 6, .loc (.t 10 0) 0 0] false), (.t 10 0, .arr 1 [] false), (.t 9 0, .arr 1 (E sV (tv6 x)) false)]⟩) (X := True) (E := fun _ _ => False) (fun p hp => by
      simp only [List.mem_cons, List.not_mem_nil, or_false] at hp
      rcases hp with rfl | rfl | rfl
      · exact ⟨rfl, rfl⟩
      · exact ⟨fun r hr => (by cases hr), rfl⟩
      · exact ⟨fun r hr => sV_flat r hr, rfl⟩) (fun C hC => ?_) (fun i σ h => h) (fun C a w hl hg => hg.no.elim) fun a6 w6 S6 p6 hp6 _ => ?_
  · unfold Cd.impl_NewOffice
    simp only [Vs.dropS]
    simp -dsimp only [go_sem, reduceIte, reduceCtorEq, Nat.reduceEqDiff, Nat.reduceLT, Nat.reduceLeDiff, Nat.reduceAdd, Nat.reduceMul, Nat.reduceSub, Int.reduceToNat, Int.reduceNeg, hn6, cC]
    first | (simp [Vs.LeL, Vs.look, Vs.hlook]; done) | exact ⟨by simp [Vs.LeL, Vs.look, Vs.hlook], trivial⟩ | trace_state
  obtain ⟨hdf, t, o, x1, x2, tb, tc, hrun, rfl, hroot, ho, hx1⟩ := hp6.resOff (fn := Try.f14) (n1 := .t 9 0) (n2 := .t 10 0) (l1 := 6) (l2 := 0) (c := .int .i64 0) rfl rfl (fun r hr => sV_flat r hr) (fun r hr => (by cases hr)) (by
    show Vs.resL Try.prog _ _ [_, _]
    simp -dsimp only [go_sem, reduceIte, reduceCtorEq, Nat.reduceEqDiff, Nat.reduceLT, Nat.reduceLeDiff, Nat.reduceAdd, Nat.reduceMul, Nat.reduceSub, Int.reduceToNat, Int.reduceNeg, hn6, cC]
    try simp [Vs.oneOr])
  have ho' : RC (fun b => x2 = some b) w6 (.sl 1 []) o := ho
  have hroot' : RC (fun b => x1 = some b) w6 (.sl 1 (E sV (tv6 x))) (.slice tb 6 tc) := hroot
  have hM0 : ∀ i b, (if i = 0 then m else noM).D b → i = 0 ∧ m.D b := fun i b h => by
    split at h
    · rename_i e; exact ⟨e, h⟩
    · exact (noM_D h).elim
  have pz := p6
  have hdk6 : Vs.Dk w6 (l.map (E cI)) (slW x) m := hdk.past (fun b hb => (hm b hb).1) p6
  refine At.ret ⟨.inl rfl, hdf, _, hrun, tb, tc, x1, tv6 x, fun i => if i = 0 then m else noM, o, rfl, hp6.out, ⟨hroot', rfl, fun i hi => ?_, fun i j b _ _ h1 h2 => ?_, fun i b _ h1 e => ?_, fun b hb => (hx1 b hb).2.1⟩, rfl, fun b hb => ?_, rc_nil_any ho'⟩
  · match i, hi with
    | 0, _ => exact hdk6
    | 1, _ => exact Vs.Dk.nil w6
    | 2, _ => exact Vs.Dk.nil w6
    | 3, _ => exact Vs.Dk.nil w6
    | 4, _ => exact Vs.Dk.nil w6
    | 5, _ => exact Vs.Dk.nil w6
  · rw [(hM0 i b h1).1, (hM0 j b h2).1]
  · exact (hx1 b e).2.2 (p6.sub b (hm b (hM0 i b h1).2).1)
  · rcases hb with hb | ⟨i, _, hb⟩
    · exact (hx1 b hb).1
    · exact (hm b (hM0 i b hb).2).2
end Go.Proofs.Ytokfhfdnmnblfaa
