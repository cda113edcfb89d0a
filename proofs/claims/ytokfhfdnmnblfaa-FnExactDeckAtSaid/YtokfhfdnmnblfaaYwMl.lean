/- The program's decks, each in memory of its own: the loops. -/
import Derived.Test.YtokfhfdnmnblfaaYwMj
namespace Go.Proofs.Ytokfhfdnmnblfaa
open Go.Vs
set_option linter.unusedSectionVars false
variable [Vs.Envs]
set_option linter.unusedSimpArgs false
set_option linter.unusedVariables false
attribute [local irreducible] Vs.Fn
def Dks (w : World) (S : Nat → Prop) (lo : Nat) (L : List (List (List Int))) (V : List Sl) : Prop := L.length = V.length ∧ ∀ i, i < V.length → ∃ m, Vs.Dk w ((L.getD i []).map (E cI)) (slW (V.getD i default)) m ∧ ∀ b, m.D b → S b ∧ lo ≤ b
theorem Dks.past {w w' : World} {S S' : Nat → Prop} {lo : Nat} {L : List (List (List Int))} {V : List Sl} (h : Dks w S lo L V) (hp : Vs.Past S w S' w') : Dks w' S' lo L V :=
  ⟨h.1, fun i hi => by
    obtain ⟨m, h1, h2⟩ := h.2 i hi
    exact ⟨m, h1.past (fun b hb => (h2 b hb).1) hp, fun b hb => ⟨hp.sub b (h2 b hb).1, (h2 b hb).2⟩⟩⟩
theorem Dks.app {w : World} {S : Nat → Prop} {lo : Nat} {L L' : List (List (List Int))} {V V' : List Sl} (h : Dks w S lo L V) (h' : Dks w S lo L' V') : Dks w S lo (L ++ L') (V ++ V') :=
  ⟨by simp [h.1, h'.1], fun i hi => by
    rcases Nat.lt_or_ge i V.length with hlt | hge
    · have hl : i < L.length := by rw [h.1]; exact hlt
      have e1 : (L ++ L').getD i [] = L.getD i [] := by simp [List.getElem?_append_left hl]
      have e2 : (V ++ V').getD i default = V.getD i default := by simp [List.getElem?_append_left hlt]
      rw [e1, e2]
      exact h.2 i hlt
    · have hi' : i - V.length < V'.length := by rw [List.length_append] at hi; omega
      have e1 : (L ++ L').getD i [] = L'.getD (i - V.length) [] := by simp [List.getElem?_append_right (show L.length ≤ i by rw [h.1]; exact hge), h.1]
      have e2 : (V ++ V').getD i default = V'.getD (i - V.length) default := by simp [List.getElem?_append_right hge]
      rw [e1, e2]
      exact h'.2 _ hi'⟩
theorem Dks.one {w : World} {S : Nat → Prop} {lo : Nat} {D : List (List Int)} {d : Sl} {m : Vs.Mem} (h1 : Vs.Dk w (D.map (E cI)) (slW d) m) (h2 : ∀ b, m.D b → S b ∧ lo ≤ b) : Dks w S lo [D] [d] :=
  ⟨rfl, fun i hi => by
    have : i = 0 := by simpa using hi
    subst this
    exact ⟨m, h1, h2⟩⟩
theorem Dks.nil {w : World} {S : Nat → Prop} {lo : Nat} : Dks w S lo [] [] := ⟨rfl, fun i hi => by simp at hi⟩
/-- an empty deck -/
theorem dk_empty {w : World} {x : Option Nat} {c : Nat} {v : Value} (h : Vs.Own (fun _ => False) w x c 1 [] v) (hx : ∀ b, x = some b → b < w.heap.size) : Vs.Dk w (([] : List (List Int)).map (E cI)) v ⟨x, [], fun _ => none, fun _ => 0⟩ :=
  ⟨h.rc, ⟨rfl, by simp, by simp⟩, fun b hb => by
    rcases hb with h | ⟨i, hi, _⟩
    · exact hx b h
    · simp at hi⟩
theorem D_empty {x : Option Nat} {b : Nat} (h : Vs.Mem.D ⟨x, [], fun _ => none, fun _ => 0⟩ b) : x = some b := by
  rcases h with h | ⟨i, hi, _⟩
  · exact h
  · simp at hi
theorem past_or {S D : Nat → Prop} {w : World} : Vs.Past S w (fun b => S b ∨ D b) w := ⟨fun _ h => .inl h, fun _ _ => rfl, Nat.le_refl _⟩
theorem agg_sl {S : Nat → Prop} {w : World} {r : List (List AV)} {u : Value} (h : RC S w (.agg [.sl 1 r]) u) : ∃ cs : Sl, u = .agg #[slW cs] ∧ RC S w (.sl 1 r) (slW cs) := by
  cases h with
  | agg _ us hl hr =>
    have h0 : RC S w (.sl 1 r) (us.getD 0 undef) := hr 0 (by simp)
    obtain ⟨ul⟩ := us
    match ul, hl with
    | [x], _ =>
      have e : (#[x] : Array Value).getD 0 undef = x := rfl
      rw [e] at h0
      have hx : ∃ cs : Sl, x = slW cs := by
        cases h0 with
        | sl _ _ base cap => exact ⟨(base, _, cap), rfl⟩
      obtain ⟨cs, rfl⟩ := hx
      exact ⟨cs, rfl, h0⟩

variable {C1 : Ctx}
set_option maxHeartbeats 4000000 in
/-- one turn of the innermost loop -/
theorem stepI (hnt : C1.nt = Try.f29.ntmps) {Q : Exit → Act → World → Prop} {I : Vs.Envs} {a : Act} {w : World} {S : Nat → Prop} {l : List (List Int)} {k i j q : Nat} {VO VL VN : List Sl} {dj : Value} {D : List (List Int)} {m : Vs.Mem}
    (hs : ∀ x, x ∈ l → x.length ≤ 1048576) (hl : l.length ≤ 5) (hq : q < l.length) (hDs : smallC D) (hDs2 : D.length ≤ 1000) (hVN : VN.length ≤ 4000) (hd : Vs.Dk w (D.map (E cI)) dj m) (hS : ∀ b, m.D b → S b)
    (hp : Vs.Pt I C1 (⟨[(0, .sl 1 (E cC l)), (5, .loc (.t 5 0) 0 VO.length), (7, .loc (.t 7 0) 0 VN.length), (9, .v dj), (16, .v (.int .i64 (k : Nat))), (17, .v (.int .i64 (i : Nat))), (20, .sl 1 (E sV VL)), (21, .v (.int .i64 (VL.length : Nat))), (22, .v (.int .i64 (j : Nat))), (26, .sl 1 (E cC l)), (27, .v (.int .i64 (l.length : Nat))), (28, .v (.int .i64 (q : Nat)))], [(.t 7 0, .arr 1 (E sV VN) false), (.t 5 0, .arr 1 (E sV VO) false)]⟩ : St) a w S) (hQ : ∀ c a w, ¬ Q (.panic c) a w)
    (hN : ∀ (I' : Vs.Envs) a' w' S' (d' : Sl), Vs.Past S w S' w' → Vs.Pt I' C1 (⟨[(0, .sl 1 (E cC l)), (5, .loc (.t 5 0) 0 VO.length), (7, .loc (.t 7 0) 0 (VN ++ [d']).length), (9, .v dj), (16, .v (.int .i64 (k : Nat))), (17, .v (.int .i64 (i : Nat))), (20, .sl 1 (E sV VL)), (21, .v (.int .i64 (VL.length : Nat))), (22, .v (.int .i64 (j : Nat))), (26, .sl 1 (E cC l)), (27, .v (.int .i64 (l.length : Nat))), (28, .v (.int .i64 (q + 1 : Nat)))], [(.t 7 0, .arr 1 (E sV (VN ++ [d'])) false), (.t 5 0, .arr 1 (E sV VO) false)]⟩ : St) a' w' S' → (∃ m', Vs.Dk w' ((D ++ [l[q]]).map (E cI)) (slW d') m' ∧ ∀ b, m'.D b → S' b ∧ C1.w0.heap.size ≤ b) → Q .normal a' w') :
    Vs.At Try.prog Try.f29.ntmps (Vs.drF Try.prog ⟨[]⟩ 10 OS24 (1, 33, 9) (0, 32, 7)) (.seq (.block 5 (.seq (.region [⟨some 30, .idxSl 1 (.tmp 26) (.tmp 28), none⟩, ⟨some 31, .load true 1 (.tmp 30), none⟩, ⟨some 11, .alloc [.v (.slice none 0 0)], none⟩, ⟨none, .store 1 (.tmp 11) (.tmp 31), none⟩] [0, 5, 7, 9, 11, 16, 17, 20, 21, 22, 26, 27, 28] [])
      (.naming 7 (.region [⟨some 32, .mv (.tmp 7), none⟩, ⟨some 33, .mv (.tmp 9), none⟩, ⟨some 34, .call (.func F.impl_newDeck) [(.tmp 33)] [], none⟩, ⟨some 35, .load true 1 (.tmp 11), none⟩, ⟨some 36, .call (.func F.impl_newCard) [(.tmp 35)] [], none⟩, ⟨some 37, .bslice 1 1 [.v (.slice none 0 0)] [(0, (.tmp 36))], none⟩, ⟨some 38, .append 1 24 (.tmp 34) (.tmp 37), none⟩, ⟨some 39, .bslice 1 1 [.v (.slice none 0 0)] [(0, (.tmp 38))], none⟩, ⟨some 40, .append 1 24 (.tmp 32) (.tmp 39), none⟩, ⟨some 7, .mv (.tmp 40), none⟩] [0, 5, 7, 9, 16, 17, 20, 21, 22, 26, 27, 28] [32, 33, 34, 35, 36, 37, 38, 39, 40])))) (.region [⟨some 41, .bin .add (.tmp 28) (.const (.int .i64 (1))), none⟩, ⟨some 28, .mv (.tmp 41), none⟩] [0, 5, 7, 9, 16, 17, 20, 21, 22, 26, 27, 28] [])) Q a w := by
  have hgt : (E cC l).getD q [] = [.sl 1 (E cI l[q])] := E_get hq
  have hlL : (E cC l).length = l.length := E_len _
  have hwq := wrap_succ hq (by omega)
  refine At.seq (At.block (At.seq (At.rg (hp.rg hnt (pre := [⟨some 30, .idxSl 1 (.tmp 26) (.tmp 28), none⟩, ⟨some 31, .load true 1 (.tmp 30), none⟩]) (post := [⟨some 11, .alloc [.v (.slice none 0 0)], none⟩, ⟨none, .store 1 (.tmp 11) (.tmp 31), none⟩]) (τ := ⟨[(31, .agg [.sl 1 (E cI l[q])]), (0, .sl 1 (E cC l)), (5, .loc (.t 5 0) 0 VO.length), (7, .loc (.t 7 0) 0 VN.length), (9, .v dj), (16, .v (.int .i64 (k : Nat))), (17, .v (.int .i64 (i : Nat))), (20, .sl 1 (E sV VL)), (21, .v (.int .i64 (VL.length : Nat))), (22, .v (.int .i64 (j : Nat))), (26, .sl 1 (E cC l)), (27, .v (.int .i64 (l.length : Nat))), (28, .v (.int .i64 (q : Nat)))], [(.t 7 0, .arr 1 (E sV VN) false), (.t 5 0, .arr 1 (E sV VO) false)]⟩) (fun p hp => by
      simp only [List.mem_cons, List.not_mem_nil, or_false] at hp
      rcases hp with rfl | rfl
      · exact ⟨fun r hr => sV_flat r hr, rfl⟩
      · exact ⟨fun r hr => sV_flat r hr, rfl⟩) ?_ fun a1 w1 S1 p1 hp1 => ?_))))
  · simp -dsimp only [go_sem, reduceIte, reduceCtorEq, Nat.reduceEqDiff, Nat.reduceLT, Nat.reduceLeDiff, Nat.reduceAdd, Nat.reduceMul, Nat.reduceSub, Int.reduceToNat, Int.reduceNeg, hgt, hlL, cC, cC, List.replicate_succ, List.replicate_zero, List.flatten_cons, List.flatten_nil, List.cons_append, List.nil_append, List.set_cons_zero, List.set_cons_succ, List.length_cons, List.length_nil, List.length_set]
    and_intros
    all_goals first | omega | (simp [Vs.LeL, Vs.look, Vs.hlook]; done) | trace_state
  obtain ⟨cs, hcs, rcs⟩ := agg_sl (hp1.val (t := 31) rfl)
  have r0 : RC S1 w1 (.sl 1 (E cC l)) (a1.tmps.getD 0 undef) := hp1.val (t := 0) rfl
  have r26 : RC S1 w1 (.sl 1 (E cC l)) (a1.tmps.getD 26 undef) := hp1.val (t := 26) rfl
  have r20 : RC S1 w1 (.sl 1 (E sV VL)) (a1.tmps.getD 20 undef) := hp1.val (t := 20) rfl
  have hpS : ∃ l0 l1 lg, l0 = a1.tmps.getD 0 undef ∧ l1 = a1.tmps.getD 26 undef ∧ lg = a1.tmps.getD 20 undef ∧ Pt (Vs.keepE S1 w1) C1 (⟨[(31, .agg [.v (slW cs)]), (0, .v l0), (5, .loc (.t 5 0) 0 VO.length), (7, .loc (.t 7 0) 0 VN.length), (9, .v dj), (16, .v (.int .i64 (k : Nat))), (17, .v (.int .i64 (i : Nat))), (20, .v lg), (21, .v (.int .i64 (VL.length : Nat))), (22, .v (.int .i64 (j : Nat))), (26, .v l1), (27, .v (.int .i64 (l.length : Nat))), (28, .v (.int .i64 (q : Nat)))], [(.t 7 0, .arr 1 (E sV VN) false), (.t 5 0, .arr 1 (E sV VO) false)]⟩ : St) a1 w1 S1 := by
    refine ⟨_, _, _, rfl, rfl, rfl, hp1.set [(31, .agg [.v (slW cs)]), (0, .v (a1.tmps.getD 0 undef)), (5, .loc (.t 5 0) 0 VO.length), (7, .loc (.t 7 0) 0 VN.length), (9, .v dj), (16, .v (.int .i64 (k : Nat))), (17, .v (.int .i64 (i : Nat))), (20, .v (a1.tmps.getD 20 undef)), (21, .v (.int .i64 (VL.length : Nat))), (22, .v (.int .i64 (j : Nat))), (26, .v (a1.tmps.getD 26 undef)), (27, .v (.int .i64 (l.length : Nat))), (28, .v (.int .i64 (q : Nat)))] (fun p hp => ?_)⟩
    simp only [List.mem_cons, List.not_mem_nil, or_false] at hp
    rcases hp with rfl | rfl | rfl | rfl | rfl | rfl | rfl | rfl | rfl | rfl | rfl | rfl | rfl
    · right
      show RC S1 w1 (.agg [.v (slW cs)]) (a1.tmps.getD 31 undef)
      rw [hcs]
      exact .agg _ _ rfl fun j hj => by
        obtain rfl : j = 0 := by simpa using hj
        exact .v _
    · exact .inr (.v _)
    · exact .inl ⟨rfl, rfl⟩
    · exact .inl ⟨rfl, rfl⟩
    · exact .inl ⟨rfl, rfl⟩
    · exact .inl ⟨rfl, rfl⟩
    · exact .inl ⟨rfl, rfl⟩
    · exact .inr (.v _)
    · exact .inl ⟨rfl, rfl⟩
    · exact .inl ⟨rfl, rfl⟩
    · exact .inr (.v _)
    · exact .inl ⟨rfl, rfl⟩
    · exact .inl ⟨rfl, rfl⟩
  obtain ⟨l0, l1, lg, e0, e1, e2, hpS⟩ := hpS
  rw [← e0] at r0
  rw [← e1] at r26
  rw [← e2] at r20
  letI I1 := Vs.keepE S1 w1
  refine hpS.rg (pre := [⟨some 11, .alloc [.v (.slice none 0 0)], none⟩, ⟨none, .store 1 (.tmp 11) (.tmp 31), none⟩]) (post := []) hnt (τ := ⟨[(11, .ptr (.t 11 0) 0 0), (0, .v l0), (5, .loc (.t 5 0) 0 VO.length), (7, .loc (.t 7 0) 0 VN.length), (9, .v dj), (16, .v (.int .i64 (k : Nat))), (17, .v (.int .i64 (i : Nat))), (20, .v lg), (21, .v (.int .i64 (VL.length : Nat))), (22, .v (.int .i64 (j : Nat))), (26, .v l1), (27, .v (.int .i64 (l.length : Nat))), (28, .v (.int .i64 (q : Nat)))], [(.t 11 0, .var [.v (slW cs)] false), (.t 7 0, .arr 1 (E sV VN) false), (.t 5 0, .arr 1 (E sV VO) false)]⟩) (fun p hp => by
      simp only [List.mem_cons, List.not_mem_nil, or_false] at hp
      rcases hp with rfl | rfl | rfl
      · exact ⟨rfl, rfl⟩
      · exact ⟨fun r hr => sV_flat r hr, rfl⟩
      · exact ⟨fun r hr => sV_flat r hr, rfl⟩) ?_ fun a2 w2 S2 p2 hp2 => RgL.nil ?_
  · simp only [slW]
    simp -dsimp only [go_sem, reduceIte, reduceCtorEq, Nat.reduceEqDiff, Nat.reduceLT, Nat.reduceLeDiff, Nat.reduceAdd, Nat.reduceMul, Nat.reduceSub, Int.reduceToNat, Int.reduceNeg, cC, List.replicate_succ, List.replicate_zero, List.flatten_cons, List.flatten_nil, List.cons_append, List.nil_append, List.set_cons_zero, List.set_cons_succ, List.length_cons, List.length_nil, List.length_set]
    first | (simp [Vs.LeL, Vs.look, Vs.hlook]; done) | (and_intros <;> first | omega | (simp [Vs.LeL, Vs.look, Vs.hlook]; done)) | trace_state
  have p02 := p1.trans p2
  show Vs.At Try.prog Try.f29.ntmps (Vs.drF Try.prog ⟨[]⟩ 10 OS24 (1, 33, 9) (0, 32, 7)) (.naming 7 (.region [⟨some 32, .mv (.tmp 7), none⟩, ⟨some 33, .mv (.tmp 9), none⟩, ⟨some 34, .call (.func F.impl_newDeck) [(.tmp 33)] [], none⟩, ⟨some 35, .load true 1 (.tmp 11), none⟩, ⟨some 36, .call (.func F.impl_newCard) [(.tmp 35)] [], none⟩, ⟨some 37, .bslice 1 1 [.v (.slice none 0 0)] [(0, (.tmp 36))], none⟩, ⟨some 38, .append 1 24 (.tmp 34) (.tmp 37), none⟩, ⟨some 39, .bslice 1 1 [.v (.slice none 0 0)] [(0, (.tmp 38))], none⟩, ⟨some 40, .append 1 24 (.tmp 32) (.tmp 39), none⟩, ⟨some 7, .mv (.tmp 40), none⟩] [0, 5, 7, 9, 16, 17, 20, 21, 22, 26, 27, 28] [32, 33, 34, 35, 36, 37, 38, 39, 40])) _ a2 w2
  refine At.naming (turn hnt hDs hDs2 hVN (hs _ (List.getElem_mem hq)) hp2 (hd.past hS p02) (fun b hb => p02.sub b (hS b hb)) (p2.rcS rcs) (fun c a w h => by
    simp only [Exit.then, Exit.inBlock] at h
    exact hQ _ _ _ h) fun I' a' w' S' d' p' hpt hdk => ?_)
  have hp5 := (hpt.ren (n := .t 40 0) (m := .t 7 0) (by decide) (by rfl) (fun p hp => by
    have e : p ∈ [((.t 7 0 : Vs.Name), Blk.arr 1 (E sV (VN ++ [d'])) false), (.t 5 0, .arr 1 (E sV VO) false)] := by simpa [Vs.renL, Vs.rnB, Vs.nmF] using hp
    simp only [List.mem_cons, List.not_mem_nil, or_false] at e
    rcases e with rfl | rfl
    · exact ⟨fun r hr => sV_flat r hr, rfl⟩
    · exact ⟨fun r hr => sV_flat r hr, rfl⟩)).le (τ := ⟨[(0, .v l0), (5, .loc (.t 5 0) 0 VO.length), (7, .loc (.t 7 0) 0 (VN.length + 1)), (9, .v dj), (16, .v (.int .i64 (k : Nat))), (17, .v (.int .i64 (i : Nat))), (20, .v lg), (21, .v (.int .i64 (VL.length : Nat))), (22, .v (.int .i64 (j : Nat))), (26, .v l1), (27, .v (.int .i64 (l.length : Nat))), (28, .v (.int .i64 (q : Nat)))], [(.t 7 0, .arr 1 (E sV (VN ++ [d'])) false), (.t 5 0, .arr 1 (E sV VO) false)]⟩) (by simp [Vs.LeL, Vs.look, Vs.hlook, Vs.renL, Vs.rnB, Vs.nmF, Vs.rn, Vs.rnL]) (fun p hp => by
      simp only [List.mem_cons, List.not_mem_nil, or_false] at hp
      rcases hp with rfl | rfl
      · exact ⟨fun r hr => sV_flat r hr, rfl⟩
      · exact ⟨fun r hr => sV_flat r hr, rfl⟩)
  have q0 : RC S' w' (.sl 1 (E cC l)) (a'.tmps.getD 0 undef) := by rw [hp5.valv (t := 0) rfl]; exact p'.rcS (p2.rcS r0)
  have q26 : RC S' w' (.sl 1 (E cC l)) (a'.tmps.getD 26 undef) := by rw [hp5.valv (t := 26) rfl]; exact p'.rcS (p2.rcS r26)
  have q20 : RC S' w' (.sl 1 (E sV VL)) (a'.tmps.getD 20 undef) := by rw [hp5.valv (t := 20) rfl]; exact p'.rcS (p2.rcS r20)
  have hp6 := hp5.set [(0, .sl 1 (E cC l)), (5, .loc (.t 5 0) 0 VO.length), (7, .loc (.t 7 0) 0 (VN.length + 1)), (9, .v dj), (16, .v (.int .i64 (k : Nat))), (17, .v (.int .i64 (i : Nat))), (20, .sl 1 (E sV VL)), (21, .v (.int .i64 (VL.length : Nat))), (22, .v (.int .i64 (j : Nat))), (26, .sl 1 (E cC l)), (27, .v (.int .i64 (l.length : Nat))), (28, .v (.int .i64 (q : Nat)))] (fun p hp => by
    simp only [List.mem_cons, List.not_mem_nil, or_false] at hp
    rcases hp with rfl | rfl | rfl | rfl | rfl | rfl | rfl | rfl | rfl | rfl | rfl | rfl
    · exact .inr q0
    · exact .inl ⟨rfl, rfl⟩
    · exact .inl ⟨rfl, rfl⟩
    · exact .inl ⟨rfl, rfl⟩
    · exact .inl ⟨rfl, rfl⟩
    · exact .inl ⟨rfl, rfl⟩
    · exact .inr q20
    · exact .inl ⟨rfl, rfl⟩
    · exact .inl ⟨rfl, rfl⟩
    · exact .inr q26
    · exact .inl ⟨rfl, rfl⟩
    · exact .inl ⟨rfl, rfl⟩)
  letI I6 := Vs.keepE S' w'
  show Vs.At Try.prog Try.f29.ntmps (Vs.drF Try.prog ⟨[]⟩ 10 OS24 (1, 33, 9) (0, 32, 7)) (.region [⟨some 41, .bin .add (.tmp 28) (.const (.int .i64 (1))), none⟩, ⟨some 28, .mv (.tmp 41), none⟩] [0, 5, 7, 9, 16, 17, 20, 21, 22, 26, 27, 28] []) Q a' w'
  refine At.rg (hp6.rg (pre := [⟨some 41, .bin .add (.tmp 28) (.const (.int .i64 (1))), none⟩, ⟨some 28, .mv (.tmp 41), none⟩]) (post := []) hnt (τ := ⟨[(0, .sl 1 (E cC l)), (5, .loc (.t 5 0) 0 VO.length), (7, .loc (.t 7 0) 0 (VN ++ [d']).length), (9, .v dj), (16, .v (.int .i64 (k : Nat))), (17, .v (.int .i64 (i : Nat))), (20, .sl 1 (E sV VL)), (21, .v (.int .i64 (VL.length : Nat))), (22, .v (.int .i64 (j : Nat))), (26, .sl 1 (E cC l)), (27, .v (.int .i64 (l.length : Nat))), (28, .v (.int .i64 (q + 1 : Nat)))], [(.t 7 0, .arr 1 (E sV (VN ++ [d'])) false), (.t 5 0, .arr 1 (E sV VO) false)]⟩) (fun p hp => by
      simp only [List.mem_cons, List.not_mem_nil, or_false] at hp
      rcases hp with rfl | rfl
      · exact ⟨fun r hr => sV_flat r hr, rfl⟩
      · exact ⟨fun r hr => sV_flat r hr, rfl⟩) ?_ fun a7 w7 S7 p7 hp7 => RgL.nil ?_)
  · simp -dsimp only [go_sem, reduceIte, reduceCtorEq, Nat.reduceEqDiff, Nat.reduceLT, Nat.reduceLeDiff, Nat.reduceAdd, Nat.reduceMul, Nat.reduceSub, Int.reduceToNat, Int.reduceNeg, hwq, List.length_append, cC, List.replicate_succ, List.replicate_zero, List.flatten_cons, List.flatten_nil, List.cons_append, List.nil_append, List.set_cons_zero, List.set_cons_succ, List.length_cons, List.length_nil, List.length_set]
    first | (simp [Vs.LeL, Vs.look, Vs.hlook]; done) | trace_state
  obtain ⟨m', g1, g2⟩ := hdk
  exact hN I6 a7 w7 S7 d' ((p02.trans p').trans p7) hp7 ⟨m', g1.past (fun b hb => (g2 b hb).1) p7, fun b hb => ⟨p7.sub b (g2 b hb).1, (g2 b hb).2⟩⟩
end Go.Proofs.Ytokfhfdnmnblfaa

namespace Go.Proofs.Ytokfhfdnmnblfaa
open Go.Vs
set_option linter.unusedSectionVars false
variable [Vs.Envs]
set_option linter.unusedSimpArgs false
set_option linter.unusedVariables false
attribute [local irreducible] Vs.Fn
variable {C1 : Ctx}
/-- the first region: no cards, twice -/
theorem startD (hnt : C1.nt = Try.f29.ntmps) {Q : Exit → Act → World → Prop} {I : Vs.Envs} {a : Act} {w : World} {S : Nat → Prop} {l : List (List Int)} {k : Nat}
    (hp : Vs.Pt I C1 (⟨[(0, .sl 1 (E cC l)), (1, .v (.int .i64 (k : Nat)))], []⟩ : St) a w S)
    (hN : ∀ (I' : Vs.Envs) a' w' S' (VO VL : List Sl), Vs.Past S w S' w' → Vs.Pt I' C1 (⟨[(0, .sl 1 (E cC l)), (1, .v (.int .i64 (k : Nat))), (5, .loc (.t 5 0) 0 VO.length), (6, .sl 1 (E sV VL))], [(.t 5 0, .arr 1 (E sV VO) false)]⟩ : St) a' w' S' → Dks w' S' C1.w0.heap.size [[]] VO → Dks w' S' C1.w0.heap.size [[]] VL → Q .normal a' w') :
    Vs.At Try.prog Try.f29.ntmps (Vs.drF Try.prog ⟨[]⟩ 10 OS24 (1, 33, 9) (0, 32, 7)) (.region [⟨some 12, .bslice 1 0 [.v (.slice none 0 0)] [], none⟩, ⟨some 13, .bslice 1 1 [.v (.slice none 0 0)] [(0, (.tmp 12))], none⟩, ⟨some 14, .bslice 1 0 [.v (.slice none 0 0)] [], none⟩, ⟨some 15, .bslice 1 1 [.v (.slice none 0 0)] [(0, (.tmp 14))], none⟩, ⟨some 5, .mv (.tmp 13), none⟩, ⟨some 6, .mv (.tmp 15), none⟩] [0, 1, 5, 6] []) Q a w := by
  refine At.rg (hp.rg hnt (pre := [⟨some 12, .bslice 1 0 [.v (.slice none 0 0)] [], none⟩]) (post := [⟨some 13, .bslice 1 1 [.v (.slice none 0 0)] [(0, (.tmp 12))], none⟩, ⟨some 14, .bslice 1 0 [.v (.slice none 0 0)] [], none⟩, ⟨some 15, .bslice 1 1 [.v (.slice none 0 0)] [(0, (.tmp 14))], none⟩, ⟨some 5, .mv (.tmp 13), none⟩, ⟨some 6, .mv (.tmp 15), none⟩]) (τ := ⟨[(12, .loc (.t 12 0) 0 0), (0, .sl 1 (E cC l)), (1, .v (.int .i64 (k : Nat)))], [(.t 12 0, .arr 1 [] false)]⟩) (fun p hp => by
      simp only [List.mem_cons, List.not_mem_nil, or_false] at hp
      subst hp
      exact ⟨fun r hr => (by cases hr), rfl⟩) ?_ fun a1 w1 S1 p1 hp1 => ?_)
  · simp -dsimp only [go_sem, reduceIte, reduceCtorEq, Nat.reduceEqDiff, Nat.reduceLT, Nat.reduceLeDiff, Nat.reduceAdd, Nat.reduceMul, Nat.reduceSub, Int.reduceToNat, Int.reduceNeg, cC, List.replicate_succ, List.replicate_zero, List.flatten_cons, List.flatten_nil, List.cons_append, List.nil_append, List.set_cons_zero, List.set_cons_succ, List.length_cons, List.length_nil, List.length_set]
    first | (simp [Vs.LeL, Vs.look, Vs.hlook]; done) | exact ⟨by simp [Vs.LeL, Vs.look, Vs.hlook], trivial⟩ | (and_intros <;> first | omega | (simp [Vs.LeL, Vs.look, Vs.hlook]; done) | trivial) | trace_state
  obtain ⟨s0, x0, c0, ⟨b0, m0, k0, rfl⟩, how0, hx0, hP0⟩ := hp1.buryS (n := .t 12 0) (k := 1) (rows := []) rfl (fun r hr => by cases hr) (t := 12) rfl (fun p hp => by simp [Vs.killL] at hp)
  have hp2 := (hP0 [(12, .v (.slice b0 m0 k0)), (0, .sl 1 (E cC l)), (1, .v (.int .i64 (k : Nat)))] (fun p hp => by
    simp only [List.mem_cons, List.not_mem_nil, or_false] at hp
    rcases hp with rfl | rfl | rfl
    · exact .inr (.inr rfl)
    · exact .inr (.inl ⟨rfl, rfl⟩)
    · exact .inl ⟨rfl, rfl⟩)).le (τ := ⟨[(12, .v (.slice b0 m0 k0)), (0, .sl 1 (E cC l)), (1, .v (.int .i64 (k : Nat)))], []⟩) (by simp [Vs.LeL, Vs.look, Vs.hlook]) (fun p hp => by cases hp)
  letI I2 := Vs.keepE (fun b => S1 b ∨ x0 = some b) w1
  refine hp2.rg hnt (pre := [⟨some 13, .bslice 1 1 [.v (.slice none 0 0)] [(0, (.tmp 12))], none⟩, ⟨some 14, .bslice 1 0 [.v (.slice none 0 0)] [], none⟩]) (post := [⟨some 15, .bslice 1 1 [.v (.slice none 0 0)] [(0, (.tmp 14))], none⟩, ⟨some 5, .mv (.tmp 13), none⟩, ⟨some 6, .mv (.tmp 15), none⟩]) (τ := ⟨[(13, .loc (.t 13 0) 0 1), (14, .loc (.t 14 0) 0 0), (0, .sl 1 (E cC l)), (1, .v (.int .i64 (k : Nat)))], [(.t 14 0, .arr 1 [] false), (.t 13 0, .arr 1 (E sV [(b0, m0, k0)]) false)]⟩) (fun p hp => by
      simp only [List.mem_cons, List.not_mem_nil, or_false] at hp
      rcases hp with rfl | rfl
      · exact ⟨fun r hr => (by cases hr), rfl⟩
      · exact ⟨fun r hr => sV_flat r hr, rfl⟩) ?_ fun a3 w3 S3 p3 hp3 => ?_
  · simp -dsimp only [go_sem, reduceIte, reduceCtorEq, Nat.reduceEqDiff, Nat.reduceLT, Nat.reduceLeDiff, Nat.reduceAdd, Nat.reduceMul, Nat.reduceSub, Int.reduceToNat, Int.reduceNeg, sV, E, List.map_cons, List.map_nil, cC, List.replicate_succ, List.replicate_zero, List.flatten_cons, List.flatten_nil, List.cons_append, List.nil_append, List.set_cons_zero, List.set_cons_succ, List.length_cons, List.length_nil, List.length_set]
    first | (simp [Vs.LeL, Vs.look, Vs.hlook]; done) | exact ⟨by simp [Vs.LeL, Vs.look, Vs.hlook], trivial⟩ | (and_intros <;> first | omega | (simp [Vs.LeL, Vs.look, Vs.hlook]; done) | trivial) | trace_state
  obtain ⟨s1, x1, c1, ⟨b1, m1, k1, rfl⟩, how1, hx1, hP1⟩ := hp3.buryS (n := .t 14 0) (k := 1) (rows := []) rfl (fun r hr => by cases hr) (t := 14) rfl (fun p hp => by
    have e : p = ((.t 13 0 : Vs.Name), Blk.arr 1 (E sV [(b0, m0, k0)]) false) := by simpa [Vs.killL, Vs.scrB] using hp
    rw [e]
    exact ⟨fun r hr => sV_flat r hr, rfl⟩)
  have hp4 := (hP1 [(13, .loc (.t 13 0) 0 1), (14, .v (.slice b1 m1 k1)), (0, .sl 1 (E cC l)), (1, .v (.int .i64 (k : Nat)))] (fun p hp => by
    simp only [List.mem_cons, List.not_mem_nil, or_false] at hp
    rcases hp with rfl | rfl | rfl | rfl
    · exact .inl ⟨rfl, rfl⟩
    · exact .inr (.inr rfl)
    · exact .inr (.inl ⟨rfl, rfl⟩)
    · exact .inl ⟨rfl, rfl⟩)).le (τ := ⟨[(13, .loc (.t 13 0) 0 1), (14, .v (.slice b1 m1 k1)), (0, .sl 1 (E cC l)), (1, .v (.int .i64 (k : Nat)))], [(.t 13 0, .arr 1 (E sV [(b0, m0, k0)]) false)]⟩) (by simp [Vs.LeL, Vs.look, Vs.hlook, Vs.killL, Vs.scrB]) (fun p hp => by
      simp only [List.mem_cons, List.not_mem_nil, or_false] at hp
      subst hp
      exact ⟨fun r hr => sV_flat r hr, rfl⟩)
  letI I4 := Vs.keepE (fun b => S3 b ∨ x1 = some b) w3
  refine hp4.rg hnt (pre := [⟨some 15, .bslice 1 1 [.v (.slice none 0 0)] [(0, (.tmp 14))], none⟩, ⟨some 5, .mv (.tmp 13), none⟩, ⟨some 6, .mv (.tmp 15), none⟩]) (post := []) (τ := ⟨[(5, .loc (.t 13 0) 0 1), (6, .loc (.t 15 0) 0 1), (0, .sl 1 (E cC l)), (1, .v (.int .i64 (k : Nat)))], [(.t 15 0, .arr 1 (E sV [(b1, m1, k1)]) false), (.t 13 0, .arr 1 (E sV [(b0, m0, k0)]) false)]⟩) (fun p hp => by
      simp only [List.mem_cons, List.not_mem_nil, or_false] at hp
      rcases hp with rfl | rfl
      · exact ⟨fun r hr => sV_flat r hr, rfl⟩
      · exact ⟨fun r hr => sV_flat r hr, rfl⟩) ?_ fun a5 w5 S5 p5 hp5 => RgL.nil ?_
  · simp -dsimp only [go_sem, reduceIte, reduceCtorEq, Nat.reduceEqDiff, Nat.reduceLT, Nat.reduceLeDiff, Nat.reduceAdd, Nat.reduceMul, Nat.reduceSub, Int.reduceToNat, Int.reduceNeg, sV, E, List.map_cons, List.map_nil, cC, List.replicate_succ, List.replicate_zero, List.flatten_cons, List.flatten_nil, List.cons_append, List.nil_append, List.set_cons_zero, List.set_cons_succ, List.length_cons, List.length_nil, List.length_set]
    first | (simp [Vs.LeL, Vs.look, Vs.hlook]; done) | exact ⟨by simp [Vs.LeL, Vs.look, Vs.hlook], trivial⟩ | (and_intros <;> first | omega | (simp [Vs.LeL, Vs.look, Vs.hlook]; done) | trivial) | trace_state
  obtain ⟨lg, x2, c2, ⟨b2, m2, k2, rfl⟩, how2, hx2, hP2⟩ := hp5.buryS (n := .t 15 0) (k := 1) (rows := E sV [(b1, m1, k1)]) rfl (fun r hr => sV_flat r hr) (t := 6) rfl (fun p hp => by
    have e : p = ((.t 13 0 : Vs.Name), Blk.arr 1 (E sV [(b0, m0, k0)]) false) := by simpa [Vs.killL, Vs.scrB] using hp
    rw [e]
    exact ⟨fun r hr => sV_flat r hr, rfl⟩)
  have hp6 := (hP2 [(5, .loc (.t 13 0) 0 1), (6, .v (.slice b2 m2 k2)), (0, .sl 1 (E cC l)), (1, .v (.int .i64 (k : Nat)))] (fun p hp => by
    simp only [List.mem_cons, List.not_mem_nil, or_false] at hp
    rcases hp with rfl | rfl | rfl | rfl
    · exact .inl ⟨rfl, rfl⟩
    · exact .inr (.inr rfl)
    · exact .inr (.inl ⟨rfl, rfl⟩)
    · exact .inl ⟨rfl, rfl⟩)).le (τ := ⟨[(5, .loc (.t 13 0) 0 1), (6, .v (.slice b2 m2 k2)), (0, .sl 1 (E cC l)), (1, .v (.int .i64 (k : Nat)))], [(.t 13 0, .arr 1 (E sV [(b0, m0, k0)]) false)]⟩) (by simp [Vs.LeL, Vs.look, Vs.hlook, Vs.killL, Vs.scrB]) (fun p hp => by
      simp only [List.mem_cons, List.not_mem_nil, or_false] at hp
      subst hp
      exact ⟨fun r hr => sV_flat r hr, rfl⟩)
  have hp7 := (hp6.ren (n := .t 13 0) (m := .t 5 0) (by decide) (by rfl) (fun p hp => by
    have e : p = ((.t 5 0 : Vs.Name), Blk.arr 1 (E sV [(b0, m0, k0)]) false) := by simpa [Vs.renL, Vs.rnB, Vs.nmF] using hp
    rw [e]
    exact ⟨fun r hr => sV_flat r hr, rfl⟩)).le (τ := ⟨[(5, .loc (.t 5 0) 0 1), (6, .v (.slice b2 m2 k2)), (0, .sl 1 (E cC l)), (1, .v (.int .i64 (k : Nat)))], [(.t 5 0, .arr 1 (E sV [(b0, m0, k0)]) false)]⟩) (by simp [Vs.LeL, Vs.look, Vs.hlook, Vs.renL, Vs.rnB, Vs.nmF, Vs.rn, Vs.rnL]) (fun p hp => by
      simp only [List.mem_cons, List.not_mem_nil, or_false] at hp
      subst hp
      exact ⟨fun r hr => sV_flat r hr, rfl⟩)
  have q0 : RC (fun b => S5 b ∨ x2 = some b) w5 (.sl 1 (E cC l)) (a5.tmps.getD 0 undef) := hp7.val (t := 0) rfl
  have q6 : RC (fun b => S5 b ∨ x2 = some b) w5 (.sl 1 (E sV [(b1, m1, k1)])) (a5.tmps.getD 6 undef) := by
    rw [hp7.valv (t := 6) rfl]
    exact how2.rc.mono (fun b hb => .inr hb) fun _ _ => rfl
  have hp8 := hp7.set [(0, .sl 1 (E cC l)), (1, .v (.int .i64 (k : Nat))), (5, .loc (.t 5 0) 0 1), (6, .sl 1 (E sV [(b1, m1, k1)]))] (fun p hp => by
    simp only [List.mem_cons, List.not_mem_nil, or_false] at hp
    rcases hp with rfl | rfl | rfl | rfl
    · exact .inr q0
    · exact .inl ⟨rfl, rfl⟩
    · exact .inl ⟨rfl, rfl⟩
    · exact .inr q6)
  have pA : Vs.Past (fun b => S1 b ∨ x0 = some b) w1 (fun b => S5 b ∨ x2 = some b) w5 := ((p3.trans past_or).trans p5).trans past_or
  have pB : Vs.Past (fun b => S3 b ∨ x1 = some b) w3 (fun b => S5 b ∨ x2 = some b) w5 := p5.trans past_or
  refine hN _ a5 w5 _ [(b0, m0, k0)] [(b1, m1, k1)] ((p1.trans past_or).trans pA) hp8 ?_ ?_
  · exact (Dks.one (D := []) (m := ⟨x0, [], fun _ => none, fun _ => 0⟩) (S := fun b => S1 b ∨ x0 = some b) (dk_empty how0 fun b hb => (hx0 b hb).2.1) fun b hb => ⟨.inr (D_empty hb), (hx0 b (D_empty hb)).1⟩).past pA
  · exact (Dks.one (D := []) (m := ⟨x1, [], fun _ => none, fun _ => 0⟩) (S := fun b => S3 b ∨ x1 = some b) (dk_empty how1 fun b hb => (hx1 b hb).2.1) fun b hb => ⟨.inr (D_empty hb), (hx1 b (D_empty hb)).1⟩).past pB
end Go.Proofs.Ytokfhfdnmnblfaa
