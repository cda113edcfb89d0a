/- The program's decks, each in memory of its own: one turn. -/
import Derived.Test.YtokfhfdnmnblfaaYwMb
import Derived.Test.YtokfhfdnmnblfaaVuG
import Derived.Test.YtokfhfdnmnblfaaYuU
import Derived.Test.YtokfhfdnmnblfaaYwRh
namespace Go.Proofs.Ytokfhfdnmnblfaa
open Go.Vs
set_option linter.unusedSectionVars false
variable [Vs.Envs]
set_option linter.unusedSimpArgs false
set_option linter.unusedVariables false
attribute [local irreducible] Vs.Fn
abbrev Sl := Option Addr × Nat × Nat
def slW (x : Sl) : Value := .slice x.1 x.2.1 x.2.2
def sV (x : Sl) : List AV := [.v (.slice x.1 x.2.1 x.2.2)]
theorem sV_flat {V : List Sl} : ∀ r, r ∈ E sV V → Vs.flatL r = true := fun r hr => by
  obtain ⟨x, _, rfl⟩ := List.mem_map.1 hr
  rfl
theorem cI_flat {l : List Int} : ∀ r, r ∈ E cI l → Vs.flatL r = true := fun r hr => by
  obtain ⟨x, _, rfl⟩ := List.mem_map.1 hr
  rfl
def OS24 : List (List Nat) := [[0, 1, 2, 3, 4, 5, 6, 7, 8, 9], [0, 1, 3, 2, 4, 5, 6, 7, 8, 9], [0, 3, 1, 2, 4, 5, 6, 7, 8, 9], [1, 0, 2, 3, 4, 5, 6, 7, 8, 9], [1, 0, 3, 2, 4, 5, 6, 7, 8, 9], [1, 2, 0, 3, 4, 5, 6, 7, 8, 9], [1, 2, 3, 0, 4, 5, 6, 7, 8, 9], [1, 2, 3, 4, 0, 5, 6, 7, 8, 9], [1, 2, 3, 4, 5, 0, 6, 7, 8, 9], [1, 2, 3, 4, 5, 6, 0, 7, 8, 9], [1, 2, 3, 4, 5, 6, 7, 0, 8, 9], [1, 3, 0, 2, 4, 5, 6, 7, 8, 9], [1, 3, 2, 0, 4, 5, 6, 7, 8, 9], [1, 3, 2, 4, 0, 5, 6, 7, 8, 9], [1, 3, 2, 4, 5, 0, 6, 7, 8, 9], [1, 3, 2, 4, 5, 6, 0, 7, 8, 9], [1, 3, 2, 4, 5, 6, 7, 0, 8, 9], [3, 0, 1, 2, 4, 5, 6, 7, 8, 9], [3, 1, 0, 2, 4, 5, 6, 7, 8, 9], [3, 1, 2, 0, 4, 5, 6, 7, 8, 9], [3, 1, 2, 4, 0, 5, 6, 7, 8, 9], [3, 1, 2, 4, 5, 0, 6, 7, 8, 9], [3, 1, 2, 4, 5, 6, 0, 7, 8, 9], [3, 1, 2, 4, 5, 6, 7, 0, 8, 9]]
theorem OS24_two (L : List Nat) (h : L ∈ OS24) : L.filter (fun i => i != 1 && i != 0) = [2, 3, 4, 5, 6, 7, 8, 9] ∨ L.filter (fun i => i != 1 && i != 0) = [3, 2, 4, 5, 6, 7, 8, 9] := by
  have := List.all_eq_true.1 (show (OS24.all fun L => L.filter (fun i => i != 1 && i != 0) == [2, 3, 4, 5, 6, 7, 8, 9] || L.filter (fun i => i != 1 && i != 0) == [3, 2, 4, 5, 6, 7, 8, 9]) = true from by decide +kernel) L h
  simpa using this
theorem OS24_in (L : List Nat) (h : L ∈ OS24) : 1 ∈ L ∧ 0 ∈ L ∧ L.Nodup := by
  have := List.all_eq_true.1 (show (OS24.all fun L => L.contains 1 && L.contains 0 && decide L.Nodup) = true from by decide +kernel) L h
  simpa [and_assoc] using this
theorem slw_of {w : World} {l : List (List Int)} {v : Value} {m : Vs.Mem} (hd : Vs.Dk w (l.map (E cI)) v m) : ∃ lv : List Sl, lv.length = l.length ∧ m.ss = lv.map slW := by
  have hl : l.length = m.ss.length := by simpa using hd.rows.len
  have hs : ∀ s, s ∈ m.ss → ∃ b n c, s = .slice b n c := fun s hs => by
    obtain ⟨i, hi, rfl⟩ := List.mem_iff_getElem.1 hs
    have := (hd.rows.row i hi).loc 1 _ false rfl
    obtain ⟨_, b, c, e, _⟩ := this
    exact ⟨_, _, _, by simpa [hi] using e⟩
  rw [hl]
  generalize m.ss = ss at hs
  clear hd hl
  induction ss with
  | nil => exact ⟨[], rfl, rfl⟩
  | cons s t ih =>
    obtain ⟨b, n, c, rfl⟩ := hs s List.mem_cons_self
    obtain ⟨lv, g1, g2⟩ := ih fun s h => hs s (List.mem_cons_of_mem _ h)
    exact ⟨(b, n, c) :: lv, by simp [g1], by simp [g2, slW]⟩
theorem sV_map (V : List Sl) : (V.map slW).map (fun s => [AV.v s]) = E sV V := by rw [List.map_map]; rfl
theorem sV_app (V : List Sl) (x : Sl) : E sV V ++ [[.v (.slice x.1 x.2.1 x.2.2)]] = E sV (V ++ [x]) := by rw [E_append]; rfl

variable {C1 : Ctx} {Q : Exit → Act → World → Prop}
set_option maxHeartbeats 2000000 in
/-- behind the copies of the deck and of the card -/
theorem turnB {I : Vs.Envs} (hnt : C1.nt = Try.f29.ntmps) {a : Act} {w : World} {S : Nat → Prop} {D : List (List Int)} {c : List Int} {m : Vs.Mem} {lv VN VO : List Sl} {l0 l1 dj lg z1 z2 z3 z4 z5 z6 : Value}
    (hDl : D.length ≤ 1000) (hVN : VN.length ≤ 4000) (hc : c.length ≤ 1048576)
    (hp : Vs.Pt I C1 (⟨[(36, .agg [.loc (.t 36 0) 0 c.length]), (34, .loc (.t 34 0) 0 lv.length), (32, .loc (.t 7 0) 0 VN.length), (0, .v l0), (5, .loc (.t 5 0) 0 VO.length), (9, .v dj), (16, .v z1), (17, .v z2), (20, .v lg), (21, .v z3), (22, .v z4), (26, .v l1), (27, .v z5), (28, .v z6)], [(.t 36 0, .arr 1 (E cI c) false), (.t 34 0, .arr 1 (E sV lv) false), (.t 7 0, .arr 1 (E sV VN) false), (.t 5 0, .arr 1 (E sV VO) false)]⟩ : St) a w S)
    (hlv : lv.length = D.length) (hss : m.ss = lv.map slW) (hrows : Vs.OwnL (fun _ => False) w 1 (D.map (E cI)) m.ss m.xs m.cs) (hxS : ∀ i b, i < m.ss.length → m.xs i = some b → S b) (hge : ∀ i b, i < m.ss.length → m.xs i = some b → C1.w0.heap.size ≤ b)
    (hN : ∀ (I' : Vs.Envs) a' w' S' (d' : Sl), Vs.Past S w S' w' → Vs.Pt I' C1 (⟨[(7, .loc (.t 40 0) 0 (VN.length + 1)), (0, .v l0), (5, .loc (.t 5 0) 0 VO.length), (9, .v dj), (16, .v z1), (17, .v z2), (20, .v lg), (21, .v z3), (22, .v z4), (26, .v l1), (27, .v z5), (28, .v z6)], [(.t 40 0, .arr 1 (E sV (VN ++ [d'])) false), (.t 5 0, .arr 1 (E sV VO) false)]⟩ : St) a' w' S' → (∃ m', Vs.Dk w' ((D ++ [c]).map (E cI)) (slW d') m' ∧ ∀ b, m'.D b → S' b ∧ C1.w0.heap.size ≤ b) → Q .normal a' w') :
    RgL Try.prog Try.f29.ntmps ([⟨some 37, .bslice 1 1 [.v (.slice none 0 0)] [(0, (.tmp 36))], none⟩, ⟨some 38, .append 1 24 (.tmp 34) (.tmp 37), none⟩] ++ [⟨some 39, .bslice 1 1 [.v (.slice none 0 0)] [(0, (.tmp 38))], none⟩, ⟨some 40, .append 1 24 (.tmp 32) (.tmp 39), none⟩, ⟨some 7, .mv (.tmp 40), none⟩]) Q a w := by
  have hcl : (E cI c).length = c.length := E_len _
  -- the card is hidden
  rw [← hcl] at hp
  obtain ⟨s, x6, c6, ⟨sb, sm, sc, rfl⟩, how6, hx6, hP6⟩ := hp.bury (n := .t 36 0) (k := 1) (rows := E cI c) rfl cI_flat (t := 36) rfl (by
    simp only [Vs.killL]
    intro p hp
    simp [Vs.scrB] at hp
    rcases hp with rfl | rfl | rfl
    · exact ⟨fun r hr => sV_flat r hr, rfl⟩
    · exact ⟨fun r hr => sV_flat r hr, rfl⟩
    · exact ⟨fun r hr => sV_flat r hr, rfl⟩)
  have hp6 := hP6 [(36, .agg [.v (.slice sb sm sc)]), (34, .loc (.t 34 0) 0 lv.length), (32, .loc (.t 7 0) 0 VN.length), (0, .v l0), (5, .loc (.t 5 0) 0 VO.length), (9, .v dj), (16, .v z1), (17, .v z2), (20, .v lg), (21, .v z3), (22, .v z4), (26, .v l1), (27, .v z5), (28, .v z6)] (fun p hp => by
      simp only [List.mem_cons, List.not_mem_nil, or_false] at hp
      rcases hp with rfl | rfl | rfl | rfl | rfl | rfl | rfl | rfl | rfl | rfl | rfl | rfl | rfl | rfl
      · exact .inr (.inr rfl)
      all_goals exact .inl ⟨rfl, rfl⟩)
  letI I6 := Vs.keepE (fun b => S b ∨ x6 = some b) w
  have hx6l : ∀ b, x6 = some b → S b ∨ x6 = some b := fun b h => .inr h
  have hap := sV_app lv (sb, sm, sc)
  have hla : (E sV (lv ++ [(sb, sm, sc)])).length = lv.length + 1 := by rw [E_len, List.length_append]; rfl
  have hle : (E sV lv).length = lv.length := E_len _
  have hp6' := hp6.le (τ := ⟨[(36, .agg [.v (.slice sb sm sc)]), (34, .loc (.t 34 0) 0 lv.length), (32, .loc (.t 7 0) 0 VN.length), (0, .v l0), (5, .loc (.t 5 0) 0 VO.length), (9, .v dj), (16, .v z1), (17, .v z2), (20, .v lg), (21, .v z3), (22, .v z4), (26, .v l1), (27, .v z5), (28, .v z6)], [(.t 34 0, .arr 1 (E sV lv) false), (.t 7 0, .arr 1 (E sV VN) false), (.t 5 0, .arr 1 (E sV VO) false)]⟩) (by simp [Vs.LeL, Vs.look, Vs.hlook, Vs.killL, Vs.scrB]) (fun p hp => by
      simp only [List.mem_cons, List.not_mem_nil, or_false] at hp
      rcases hp with rfl | rfl | rfl
      · exact ⟨fun r hr => sV_flat r hr, rfl⟩
      · exact ⟨fun r hr => sV_flat r hr, rfl⟩
      · exact ⟨fun r hr => sV_flat r hr, rfl⟩)
  refine hp6'.rg (pre := [⟨some 37, .bslice 1 1 [.v (.slice none 0 0)] [(0, (.tmp 36))], none⟩, ⟨some 38, .append 1 24 (.tmp 34) (.tmp 37), none⟩]) (post := [⟨some 39, .bslice 1 1 [.v (.slice none 0 0)] [(0, (.tmp 38))], none⟩, ⟨some 40, .append 1 24 (.tmp 32) (.tmp 39), none⟩, ⟨some 7, .mv (.tmp 40), none⟩]) hnt (τ := ⟨[(38, .loc (.t 38 0) 0 (E sV (lv ++ [(sb, sm, sc)])).length), (32, .loc (.t 7 0) 0 VN.length), (0, .v l0), (5, .loc (.t 5 0) 0 VO.length), (9, .v dj), (16, .v z1), (17, .v z2), (20, .v lg), (21, .v z3), (22, .v z4), (26, .v l1), (27, .v z5), (28, .v z6)], [(.t 38 0, .arr 1 (E sV (lv ++ [(sb, sm, sc)])) false), (.t 7 0, .arr 1 (E sV VN) false), (.t 5 0, .arr 1 (E sV VO) false)]⟩) (fun p hp => by
      simp only [List.mem_cons, List.not_mem_nil, or_false] at hp
      rcases hp with rfl | rfl | rfl
      · exact ⟨fun r hr => sV_flat r hr, rfl⟩
      · exact ⟨fun r hr => sV_flat r hr, rfl⟩
      · exact ⟨fun r hr => sV_flat r hr, rfl⟩) ?_ fun a7 w7 S7 p7 hp7 => ?_
  · simp -dsimp only [go_sem, reduceIte, reduceCtorEq, Nat.reduceEqDiff, Nat.reduceLT, Nat.reduceLeDiff, Nat.reduceAdd, Nat.reduceMul, Nat.reduceSub, Int.reduceToNat, Int.reduceNeg, hap, hle, hla, cC, List.replicate_succ, List.replicate_zero, List.flatten_cons, List.flatten_nil, List.cons_append, List.nil_append, List.set_cons_zero, List.set_cons_succ, List.length_cons, List.length_nil, List.length_set]
    and_intros
    all_goals first | omega | (simp [Vs.LeL, Vs.look, Vs.hlook, hla]; done) | trace_state
  obtain ⟨d, x8, c8, ⟨db, dm, dc, rfl⟩, how8, hx8, hP8⟩ := hp7.buryS (n := .t 38 0) (k := 1) (rows := E sV (lv ++ [(sb, sm, sc)])) rfl sV_flat (t := 38) rfl (by
    simp only [Vs.killL]
    intro p hp
    simp [Vs.scrB] at hp
    rcases hp with rfl | rfl
    · exact ⟨fun r hr => sV_flat r hr, rfl⟩
    · exact ⟨fun r hr => sV_flat r hr, rfl⟩)
  have hp8 := hP8 [(38, .v (.slice db dm dc)), (32, .loc (.t 7 0) 0 VN.length), (0, .v l0), (5, .loc (.t 5 0) 0 VO.length), (9, .v dj), (16, .v z1), (17, .v z2), (20, .v lg), (21, .v z3), (22, .v z4), (26, .v l1), (27, .v z5), (28, .v z6)] (fun p hp => by
      simp only [List.mem_cons, List.not_mem_nil, or_false] at hp
      rcases hp with rfl | rfl | rfl | rfl | rfl | rfl | rfl | rfl | rfl | rfl | rfl | rfl | rfl
      · exact .inr (.inr rfl)
      all_goals exact .inl ⟨rfl, rfl⟩)
  have hp8' := hp8.le (τ := ⟨[(38, .v (.slice db dm dc)), (32, .loc (.t 7 0) 0 VN.length), (0, .v l0), (5, .loc (.t 5 0) 0 VO.length), (9, .v dj), (16, .v z1), (17, .v z2), (20, .v lg), (21, .v z3), (22, .v z4), (26, .v l1), (27, .v z5), (28, .v z6)], [(.t 7 0, .arr 1 (E sV VN) false), (.t 5 0, .arr 1 (E sV VO) false)]⟩) (by simp [Vs.LeL, Vs.look, Vs.hlook, Vs.killL, Vs.scrB]) (fun p hp => by
      simp only [List.mem_cons, List.not_mem_nil, or_false] at hp
      rcases hp with rfl | rfl
      · exact ⟨fun r hr => sV_flat r hr, rfl⟩
      · exact ⟨fun r hr => sV_flat r hr, rfl⟩)
  letI I8 := Vs.keepE (fun b => S7 b ∨ x8 = some b) w7
  have hap2 := sV_app VN (db, dm, dc)
  have hlv2 : (E sV VN).length = VN.length := E_len _
  refine hp8'.rg (pre := [⟨some 39, .bslice 1 1 [.v (.slice none 0 0)] [(0, (.tmp 38))], none⟩, ⟨some 40, .append 1 24 (.tmp 32) (.tmp 39), none⟩, ⟨some 7, .mv (.tmp 40), none⟩]) (post := []) hnt (τ := ⟨[(7, .loc (.t 40 0) 0 (VN.length + 1)), (0, .v l0), (5, .loc (.t 5 0) 0 VO.length), (9, .v dj), (16, .v z1), (17, .v z2), (20, .v lg), (21, .v z3), (22, .v z4), (26, .v l1), (27, .v z5), (28, .v z6)], [(.t 40 0, .arr 1 (E sV (VN ++ [(db, dm, dc)])) false), (.t 5 0, .arr 1 (E sV VO) false)]⟩) (fun p hp => by
      simp only [List.mem_cons, List.not_mem_nil, or_false] at hp
      rcases hp with rfl | rfl
      · exact ⟨fun r hr => sV_flat r hr, rfl⟩
      · exact ⟨fun r hr => sV_flat r hr, rfl⟩) ?_ fun a9 w9 S9 p9 hp9 => RgL.nil ?_
  · simp -dsimp only [go_sem, reduceIte, reduceCtorEq, Nat.reduceEqDiff, Nat.reduceLT, Nat.reduceLeDiff, Nat.reduceAdd, Nat.reduceMul, Nat.reduceSub, Int.reduceToNat, Int.reduceNeg, hap2, hlv2, cC, List.replicate_succ, List.replicate_zero, List.flatten_cons, List.flatten_nil, List.cons_append, List.nil_append, List.set_cons_zero, List.set_cons_succ, List.length_cons, List.length_nil, List.length_set]
    and_intros
    all_goals first | omega | (simp [Vs.LeL, Vs.look, Vs.hlook]; done) | trace_state
  have pS9 : ∀ b, (S b ∨ x6 = some b) → S9 b := fun b hb => p9.sub b (.inl (p7.sub b hb))
  have old9 : ∀ b, (S b ∨ x6 = some b) → w9.heap[b]? = w.heap[b]? := fun b hb => (p9.old b (.inl (p7.sub b hb))).trans (p7.old b hb)
  have hsz : w.heap.size ≤ w9.heap.size := Nat.le_trans p7.size p9.size
  refine hN I8 a9 w9 S9 (db, dm, dc) ⟨fun b hb => pS9 b (.inl hb), fun b hb => old9 b (.inl hb), hsz⟩ hp9 ?_
  have hsn := hrows.snoc how6 (fun i b hi hb e => (hx6 b e).2.2 (hxS i b hi hb))
  have hin : ∀ i b, i < (m.ss ++ [Value.slice sb sm sc]).length → (if i = m.ss.length then x6 else m.xs i) = some b → (S b ∨ x6 = some b) ∧ C1.w0.heap.size ≤ b := fun i b hi hb => by
    simp only [List.length_append, List.length_singleton] at hi
    split at hb
    · exact ⟨.inr hb, (hx6 b hb).1⟩
    · exact ⟨.inl (hxS i b (by omega) hb), hge i b (by omega) hb⟩
  refine ⟨⟨x8, m.ss ++ [.slice sb sm sc], fun i => if i = m.ss.length then x6 else m.xs i, fun i => if i = m.ss.length then c6 else m.cs i⟩, ⟨?_, ?_, fun b hb => ?_⟩, fun b hb => ?_⟩
  · have e : ((m.ss ++ [Value.slice sb sm sc]).map fun s => [AV.v s]) = E sV (lv ++ [(sb, sm, sc)]) := by rw [hss, ← hap, ← sV_map, List.map_append]; rfl
    show RC _ w9 (.sl 1 ((m.ss ++ [Value.slice sb sm sc]).map fun s => [AV.v s])) _
    rw [e]
    exact how8.rc.mono (fun _ h => h) fun b hb => p9.old b (.inr hb)
  · show Vs.OwnL _ w9 1 ((D ++ [c]).map (E cI)) _ _ _
    rw [List.map_append]
    exact hsn.mono (fun i b hi hb e => (hx8 b e).2.2 (p7.sub b (hin i b hi hb).1)) fun i b hi hb => old9 b (hin i b hi hb).1
  · rcases hb with hb | ⟨i, hi, hb⟩
    · exact Nat.lt_of_lt_of_le (hx8 b hb).2.1 p9.size
    · exact hp9.dom b (pS9 b (hin i b hi hb).1)
  · rcases hb with hb | ⟨i, hi, hb⟩
    · exact ⟨p9.sub b (.inr hb), (hx8 b hb).1⟩
    · exact ⟨pS9 b (hin i b hi hb).1, (hin i b hi hb).2⟩

set_option maxHeartbeats 4000000 in
/-- a deck longer by one card, in either order -/
theorem turn {I : Vs.Envs} (hnt : C1.nt = Try.f29.ntmps) {a : Act} {w : World} {S : Nat → Prop} {D : List (List Int)} {c : List Int} {m : Vs.Mem} {cs : Sl} {VN VO : List Sl} {l0 l1 dj lg z1 z2 z3 z4 z5 z6 : Value}
    (hDs : smallC D) (hDs2 : D.length ≤ 1000) (hVN : VN.length ≤ 4000) (hc : c.length ≤ 1048576)
    (hp : Vs.Pt I C1 (⟨[(11, .ptr (.t 11 0) 0 0), (0, .v l0), (5, .loc (.t 5 0) 0 VO.length), (7, .loc (.t 7 0) 0 VN.length), (9, .v dj), (16, .v z1), (17, .v z2), (20, .v lg), (21, .v z3), (22, .v z4), (26, .v l1), (27, .v z5), (28, .v z6)], [(.t 11 0, .var [.v (slW cs)] false), (.t 7 0, .arr 1 (E sV VN) false), (.t 5 0, .arr 1 (E sV VO) false)]⟩ : St) a w S) (hd : Vs.Dk w (D.map (E cI)) dj m) (hS : ∀ b, m.D b → S b) (hcs : RC S w (.sl 1 (E cI c)) (slW cs)) (hQ : ∀ c a w, ¬ Q (.panic c) a w)
    (hN : ∀ (I' : Vs.Envs) a' w' S' (d' : Sl), Vs.Past S w S' w' → Vs.Pt I' C1 (⟨[(7, .loc (.t 40 0) 0 (VN.length + 1)), (0, .v l0), (5, .loc (.t 5 0) 0 VO.length), (9, .v dj), (16, .v z1), (17, .v z2), (20, .v lg), (21, .v z3), (22, .v z4), (26, .v l1), (27, .v z5), (28, .v z6)], [(.t 40 0, .arr 1 (E sV (VN ++ [d'])) false), (.t 5 0, .arr 1 (E sV VO) false)]⟩ : St) a' w' S' → (∃ m', Vs.Dk w' ((D ++ [c]).map (E cI)) (slW d') m' ∧ ∀ b, m'.D b → S' b ∧ C1.w0.heap.size ≤ b) → Q .normal a' w') :
    At Try.prog Try.f29.ntmps (Vs.drF Try.prog ⟨[]⟩ 10 OS24 (1, 33, 9) (0, 32, 7)) (.region [⟨some 32, .mv (.tmp 7), none⟩, ⟨some 33, .mv (.tmp 9), none⟩, ⟨some 34, .call (.func F.impl_newDeck) [(.tmp 33)] [], none⟩, ⟨some 35, .load true 1 (.tmp 11), none⟩, ⟨some 36, .call (.func F.impl_newCard) [(.tmp 35)] [], none⟩, ⟨some 37, .bslice 1 1 [.v (.slice none 0 0)] [(0, (.tmp 36))], none⟩, ⟨some 38, .append 1 24 (.tmp 34) (.tmp 37), none⟩, ⟨some 39, .bslice 1 1 [.v (.slice none 0 0)] [(0, (.tmp 38))], none⟩, ⟨some 40, .append 1 24 (.tmp 32) (.tmp 39), none⟩, ⟨some 7, .mv (.tmp 40), none⟩] [0, 5, 7, 9, 16, 17, 20, 21, 22, 26, 27, 28] [32, 33, 34, 35, 36, 37, 38, 39, 40]) Q a w := by
  refine At.rgsF Try.mixed (OS := OS24) rfl (by decide +kernel) (by decide) OS24_in hQ fun L L' hL hL' => ?_
  have hp1 : Vs.Pt I C1 (⟨[(32, .loc (.t 7 0) 0 VN.length), (33, .v dj), (11, .ptr (.t 11 0) 0 0), (0, .v l0), (5, .loc (.t 5 0) 0 VO.length), (7, .loc (.t 7 0) 0 VN.length), (9, .v dj), (16, .v z1), (17, .v z2), (20, .v lg), (21, .v z3), (22, .v z4), (26, .v l1), (27, .v z5), (28, .v z6)], [(.t 11 0, .var [.v (slW cs)] false), (.t 7 0, .arr 1 (E sV VN) false), (.t 5 0, .arr 1 (E sV VO) false)]⟩ : St) _ _ S := ((hp.drew).mv (d := 33) (s := 9) (by rw [hnt, Cd.impl_decksOf_nt]; omega)).mv (d := 32) (s := 7) (by rw [hnt, Cd.impl_decksOf_nt]; omega)
  rcases OS24_two L hL with e | e
  · rw [hL', e]
    show RgL Try.prog _ (⟨some 34, .call (.func F.impl_newDeck) ([33].map .tmp) [], none⟩ :: ⟨some 35, .load true 1 (.tmp 11), none⟩ :: ⟨some 36, .call (.func F.impl_newCard) [(.tmp 35)] [], none⟩ :: ([⟨some 37, .bslice 1 1 [.v (.slice none 0 0)] [(0, (.tmp 36))], none⟩, ⟨some 38, .append 1 24 (.tmp 34) (.tmp 37), none⟩] ++ [⟨some 39, .bslice 1 1 [.v (.slice none 0 0)] [(0, (.tmp 38))], none⟩, ⟨some 40, .append 1 24 (.tmp 32) (.tmp 39), none⟩, ⟨some 7, .mv (.tmp 40), none⟩])) Q _ _
    have p1 : Vs.Past S { w with drawn := w.drawn + 1 } S { w with drawn := w.drawn + 1 } := Vs.Past.refl _ _
    generalize hw1 : ({ w with drawn := w.drawn + 1 } : World) = w1 at hp1
    rw [hw1] at p1
    have p0' : Vs.Past S w S w1 := hw1 ▸ Vs.Past.drew
    refine hp1.rgcall hnt (ts := [33]) (ys := [.v dj]) (Vs.CodeIsR.has Cd.impl_newDeck_ok) rfl (fun i hi => by match i, hi with | 0, _ => rfl) (fun i hi => by match i, hi with | 0, _ => rfl) fun us hus hr => ?_
    obtain rfl := Vs.us1 hus (Vs.rc_v (hr 0 Nat.zero_lt_one))
    have hdw : Vs.Dk w1 (D.map (E cI)) dj m := hd.past hS p0'
    refine (newDeck_dk D hDs hp1.dom hp1.env (by rw [← deckE]; exact hdw.rd.mono (fun b hb => p0'.sub b (hS b hb)) fun _ _ => rfl)).mono ?_
    rintro e w3 ⟨v, rfl, hg, m3, hd3, hn3, c3, ho3⟩
    refine ⟨v, rfl, ?_⟩
    have hw1 : C1.w0.heap.size ≤ w1.heap.size := hp1.size
    have hp2 := (hp1.grow hg (D := m3.D) (fun b hb => ⟨hn3 b hb, hd3.lt b hb⟩) [(11, .ptr (.t 11 0) 0 0), (32, .loc (.t 7 0) 0 VN.length), (0, .v l0), (5, .loc (.t 5 0) 0 VO.length), (9, .v dj), (16, .v z1), (17, .v z2), (20, .v lg), (21, .v z3), (22, .v z4), (26, .v l1), (27, .v z5), (28, .v z6)] (fun p hp => by
          simp only [List.mem_cons, List.not_mem_nil, or_false] at hp
          rcases hp with rfl | rfl | rfl | rfl | rfl | rfl | rfl | rfl | rfl | rfl | rfl | rfl | rfl <;> exact ⟨rfl, .inl rfl⟩)).put (d := 34) (by rw [hnt, Cd.impl_decksOf_nt]; omega) v
    obtain ⟨lv, hlv, hss⟩ := slw_of hd3
    have hrow : (m3.ss.map fun s => [AV.v s]) = E sV lv := by rw [hss, sV_map]
    rw [hrow] at ho3
    have hS0w : ∀ b, C1.S0 b → b < w1.heap.size := fun b hb => hp1.dom b (hp1.sub b hb)
    have hp3 := hp2.adopt (n := .t 34 0) rfl ho3 (fun b hb => ⟨by have := hn3 b (.inl hb); omega, .inr (.inl hb), fun h => by have := hS0w b h; have := hn3 b (.inl hb); omega⟩) (t := 34) rfl (fun p hp => by
        simp only [List.mem_cons, List.not_mem_nil, or_false] at hp
        rcases hp with rfl | rfl | rfl | rfl | rfl | rfl | rfl | rfl | rfl | rfl | rfl | rfl | rfl | rfl <;> rfl)
    rw [E_len] at hp3
    have hsub3 : ∀ b, S b → (S b ∨ m3.D b) ∧ m3.x0 ≠ some b := fun b hb => ⟨.inl hb, fun e => by have := hn3 b (.inl e); have := hp1.dom b hb; omega⟩
    have hxs3 : ∀ i b, i < m3.ss.length → m3.xs i = some b → (S b ∨ m3.D b) ∧ m3.x0 ≠ some b := fun i b hi hb => ⟨.inr (.inr ⟨i, hi, hb⟩), fun e => (hd3.rows.row i hi).no hb e⟩
    have hcs3 : RC (fun b => (S b ∨ m3.D b) ∧ m3.x0 ≠ some b) w3 (.sl 1 (E cI c)) (slW cs) := (p0'.rcS hcs).mono hsub3 fun b hb => hg.old b (hp1.dom b hb)
    have hdom3 := hp3.dom
    letI I3 := Vs.keepE (fun b => (S b ∨ m3.D b) ∧ m3.x0 ≠ some b) w3
    have NK : Vs.Fn Try.prog F.impl_newCard [] [.agg [.v (slW cs)]] (.agg [.loc (.b 0) 0 c.length]) [some (.arr 1 (E cI c) false)] := Vs.Fn.knownR (newCardO c hc) rfl fun j hj => by
      match j, hj with
      | 0, _ =>
        refine .inr ⟨rfl, fun S' w' u he' hu => ?_⟩
        cases hu with
        | agg _ us hl2 hr2 =>
          refine .agg _ us hl2 fun j hj => ?_
          obtain rfl : j = 0 := by simpa [cC] using hj
          have h3 := Vs.rc_v (hr2 0 (by simp))
          rw [h3]
          exact Vs.keepE_known hdom3 he' hcs3
    refine hp3.rg (pre := [⟨some 35, .load true 1 (.tmp 11), none⟩, ⟨some 36, .call (.func F.impl_newCard) [(.tmp 35)] [], none⟩]) (post := [⟨some 37, .bslice 1 1 [.v (.slice none 0 0)] [(0, (.tmp 36))], none⟩, ⟨some 38, .append 1 24 (.tmp 34) (.tmp 37), none⟩] ++ [⟨some 39, .bslice 1 1 [.v (.slice none 0 0)] [(0, (.tmp 38))], none⟩, ⟨some 40, .append 1 24 (.tmp 32) (.tmp 39), none⟩, ⟨some 7, .mv (.tmp 40), none⟩]) hnt (τ := ⟨[(36, .agg [.loc (.t 36 0) 0 c.length]), (34, .loc (.t 34 0) 0 lv.length), (32, .loc (.t 7 0) 0 VN.length), (0, .v l0), (5, .loc (.t 5 0) 0 VO.length), (9, .v dj), (16, .v z1), (17, .v z2), (20, .v lg), (21, .v z3), (22, .v z4), (26, .v l1), (27, .v z5), (28, .v z6)], [(.t 36 0, .arr 1 (E cI c) false), (.t 34 0, .arr 1 (E sV lv) false), (.t 7 0, .arr 1 (E sV VN) false), (.t 5 0, .arr 1 (E sV VO) false)]⟩) (fun p hp => by
          simp only [List.mem_cons, List.not_mem_nil, or_false] at hp
          rcases hp with rfl | rfl | rfl | rfl
          · exact ⟨fun r hr => cI_flat r hr, rfl⟩
          · exact ⟨fun r hr => sV_flat r hr, rfl⟩
          · exact ⟨fun r hr => sV_flat r hr, rfl⟩
          · exact ⟨fun r hr => sV_flat r hr, rfl⟩) ?_ fun a4 w4 S4 p4 hp4 => ?_
    · simp -dsimp only [go_sem, reduceIte, reduceCtorEq, Nat.reduceEqDiff, Nat.reduceLT, Nat.reduceLeDiff, Nat.reduceAdd, Nat.reduceMul, Nat.reduceSub, Int.reduceToNat, Int.reduceNeg, cC, List.replicate_succ, List.replicate_zero, List.flatten_cons, List.flatten_nil, List.cons_append, List.nil_append, List.set_cons_zero, List.set_cons_succ, List.length_cons, List.length_nil, List.length_set, E_len, slW]
      refine CallK.own NK rfl ?_
      simp -dsimp only [go_sem, reduceIte, reduceCtorEq, Nat.reduceEqDiff, Nat.reduceLT, Nat.reduceLeDiff, Nat.reduceAdd, Nat.reduceMul, Nat.reduceSub, Int.reduceToNat, Int.reduceNeg, cC, List.replicate_succ, List.replicate_zero, List.flatten_cons, List.flatten_nil, List.cons_append, List.nil_append, List.set_cons_zero, List.set_cons_succ, List.length_cons, List.length_nil, List.length_set, E_len, slW]
      simp [Vs.LeL, Vs.look, Vs.hlook]
    refine turnB hnt (hDs2) hVN hc hp4 (m := m3) hlv hss (hd3.rows.mono (fun _ _ _ _ h => h) fun i b hi hb => p4.old b (hxs3 i b hi hb)) (fun i b hi hb => p4.sub b (hxs3 i b hi hb)) (fun i b hi hb => by have := hn3 b (.inr ⟨i, hi, hb⟩); omega) fun I' a' w' S' d' p' hpt hdk => hN I' a' w' S' d' ?_ hpt hdk
    refine ⟨fun b hb => p'.sub b (p4.sub b (hsub3 b (p0'.sub b hb))), fun b hb => ?_, Nat.le_trans p0'.size (Nat.le_trans hg.size (Nat.le_trans p4.size p'.size))⟩
    rw [p'.old b (p4.sub b (hsub3 b (p0'.sub b hb))), p4.old b (hsub3 b (p0'.sub b hb)), hg.old b (hp1.dom b (p0'.sub b hb)), p0'.old b hb]
  · rw [hL', e]
    show RgL Try.prog _ (⟨some 35, .load true 1 (.tmp 11), none⟩ :: ⟨some 34, .call (.func F.impl_newDeck) ([33].map .tmp) [], none⟩ :: ⟨some 36, .call (.func F.impl_newCard) [(.tmp 35)] [], none⟩ :: ([⟨some 37, .bslice 1 1 [.v (.slice none 0 0)] [(0, (.tmp 36))], none⟩, ⟨some 38, .append 1 24 (.tmp 34) (.tmp 37), none⟩] ++ [⟨some 39, .bslice 1 1 [.v (.slice none 0 0)] [(0, (.tmp 38))], none⟩, ⟨some 40, .append 1 24 (.tmp 32) (.tmp 39), none⟩, ⟨some 7, .mv (.tmp 40), none⟩])) Q _ _
    refine hp1.rg (pre := [⟨some 35, .load true 1 (.tmp 11), none⟩]) (post := ⟨some 34, .call (.func F.impl_newDeck) ([33].map .tmp) [], none⟩ :: ⟨some 36, .call (.func F.impl_newCard) [(.tmp 35)] [], none⟩ :: ([⟨some 37, .bslice 1 1 [.v (.slice none 0 0)] [(0, (.tmp 36))], none⟩, ⟨some 38, .append 1 24 (.tmp 34) (.tmp 37), none⟩] ++ [⟨some 39, .bslice 1 1 [.v (.slice none 0 0)] [(0, (.tmp 38))], none⟩, ⟨some 40, .append 1 24 (.tmp 32) (.tmp 39), none⟩, ⟨some 7, .mv (.tmp 40), none⟩])) hnt (τ := ⟨[(35, .agg [.v (slW cs)]), (32, .loc (.t 7 0) 0 VN.length), (33, .v dj), (11, .ptr (.t 11 0) 0 0), (0, .v l0), (5, .loc (.t 5 0) 0 VO.length), (7, .loc (.t 7 0) 0 VN.length), (9, .v dj), (16, .v z1), (17, .v z2), (20, .v lg), (21, .v z3), (22, .v z4), (26, .v l1), (27, .v z5), (28, .v z6)], [(.t 11 0, .var [.v (slW cs)] false), (.t 7 0, .arr 1 (E sV VN) false), (.t 5 0, .arr 1 (E sV VO) false)]⟩) (fun p hp => by
          simp only [List.mem_cons, List.not_mem_nil, or_false] at hp
          rcases hp with rfl | rfl | rfl
          · exact ⟨rfl, rfl⟩
          · exact ⟨fun r hr => sV_flat r hr, rfl⟩
          · exact ⟨fun r hr => sV_flat r hr, rfl⟩) ?_ fun a1 w1 S1 p1 hp1 => ?_
    · simp -dsimp only [go_sem, reduceIte, reduceCtorEq, Nat.reduceEqDiff, Nat.reduceLT, Nat.reduceLeDiff, Nat.reduceAdd, Nat.reduceMul, Nat.reduceSub, Int.reduceToNat, Int.reduceNeg, cC, List.replicate_succ, List.replicate_zero, List.flatten_cons, List.flatten_nil, List.cons_append, List.nil_append, List.set_cons_zero, List.set_cons_succ, List.length_cons, List.length_nil, List.length_set]
      simp [Vs.LeL, Vs.look, Vs.hlook]
    have p0' : Vs.Past S w S1 w1 := (Vs.Past.drew (w := w)).trans p1
    refine hp1.rgcall hnt (ts := [33]) (ys := [.v dj]) (Vs.CodeIsR.has Cd.impl_newDeck_ok) rfl (fun i hi => by match i, hi with | 0, _ => rfl) (fun i hi => by match i, hi with | 0, _ => rfl) fun us hus hr => ?_
    obtain rfl := Vs.us1 hus (Vs.rc_v (hr 0 Nat.zero_lt_one))
    have hdw : Vs.Dk w1 (D.map (E cI)) dj m := hd.past hS p0'
    refine (newDeck_dk D hDs hp1.dom hp1.env (by rw [← deckE]; exact hdw.rd.mono (fun b hb => p0'.sub b (hS b hb)) fun _ _ => rfl)).mono ?_
    rintro e w3 ⟨v, rfl, hg, m3, hd3, hn3, c3, ho3⟩
    refine ⟨v, rfl, ?_⟩
    have hw1 : C1.w0.heap.size ≤ w1.heap.size := hp1.size
    have hp2 := (hp1.grow hg (D := m3.D) (fun b hb => ⟨hn3 b hb, hd3.lt b hb⟩) [(35, .agg [.v (slW cs)]), (11, .ptr (.t 11 0) 0 0), (32, .loc (.t 7 0) 0 VN.length), (0, .v l0), (5, .loc (.t 5 0) 0 VO.length), (9, .v dj), (16, .v z1), (17, .v z2), (20, .v lg), (21, .v z3), (22, .v z4), (26, .v l1), (27, .v z5), (28, .v z6)] (fun p hp => by
          simp only [List.mem_cons, List.not_mem_nil, or_false] at hp
          rcases hp with rfl | rfl | rfl | rfl | rfl | rfl | rfl | rfl | rfl | rfl | rfl | rfl | rfl | rfl <;> exact ⟨rfl, .inl rfl⟩)).put (d := 34) (by rw [hnt, Cd.impl_decksOf_nt]; omega) v
    obtain ⟨lv, hlv, hss⟩ := slw_of hd3
    have hrow : (m3.ss.map fun s => [AV.v s]) = E sV lv := by rw [hss, sV_map]
    rw [hrow] at ho3
    have hS0w : ∀ b, C1.S0 b → b < w1.heap.size := fun b hb => hp1.dom b (hp1.sub b hb)
    have hp3 := hp2.adopt (n := .t 34 0) rfl ho3 (fun b hb => ⟨by have := hn3 b (.inl hb); omega, .inr (.inl hb), fun h => by have := hS0w b h; have := hn3 b (.inl hb); omega⟩) (t := 34) rfl (fun p hp => by
        simp only [List.mem_cons, List.not_mem_nil, or_false] at hp
        rcases hp with rfl | rfl | rfl | rfl | rfl | rfl | rfl | rfl | rfl | rfl | rfl | rfl | rfl | rfl | rfl <;> rfl)
    rw [E_len] at hp3
    have hsub3 : ∀ b, S1 b → (S1 b ∨ m3.D b) ∧ m3.x0 ≠ some b := fun b hb => ⟨.inl hb, fun e => by have := hn3 b (.inl e); have := hp1.dom b hb; omega⟩
    have hxs3 : ∀ i b, i < m3.ss.length → m3.xs i = some b → (S1 b ∨ m3.D b) ∧ m3.x0 ≠ some b := fun i b hi hb => ⟨.inr (.inr ⟨i, hi, hb⟩), fun e => (hd3.rows.row i hi).no hb e⟩
    have hcs3 : RC (fun b => (S1 b ∨ m3.D b) ∧ m3.x0 ≠ some b) w3 (.sl 1 (E cI c)) (slW cs) := (p0'.rcS hcs).mono hsub3 fun b hb => hg.old b (hp1.dom b hb)
    have hdom3 := hp3.dom
    letI I3 := Vs.keepE (fun b => (S1 b ∨ m3.D b) ∧ m3.x0 ≠ some b) w3
    have NK : Vs.Fn Try.prog F.impl_newCard [] [.agg [.v (slW cs)]] (.agg [.loc (.b 0) 0 c.length]) [some (.arr 1 (E cI c) false)] := Vs.Fn.knownR (newCardO c hc) rfl fun j hj => by
      match j, hj with
      | 0, _ =>
        refine .inr ⟨rfl, fun S' w' u he' hu => ?_⟩
        cases hu with
        | agg _ us hl2 hr2 =>
          refine .agg _ us hl2 fun j hj => ?_
          obtain rfl : j = 0 := by simpa [cC] using hj
          have h3 := Vs.rc_v (hr2 0 (by simp))
          rw [h3]
          exact Vs.keepE_known hdom3 he' hcs3
    refine hp3.rg (pre := [⟨some 36, .call (.func F.impl_newCard) [(.tmp 35)] [], none⟩]) (post := [⟨some 37, .bslice 1 1 [.v (.slice none 0 0)] [(0, (.tmp 36))], none⟩, ⟨some 38, .append 1 24 (.tmp 34) (.tmp 37), none⟩] ++ [⟨some 39, .bslice 1 1 [.v (.slice none 0 0)] [(0, (.tmp 38))], none⟩, ⟨some 40, .append 1 24 (.tmp 32) (.tmp 39), none⟩, ⟨some 7, .mv (.tmp 40), none⟩]) hnt (τ := ⟨[(36, .agg [.loc (.t 36 0) 0 c.length]), (34, .loc (.t 34 0) 0 lv.length), (32, .loc (.t 7 0) 0 VN.length), (0, .v l0), (5, .loc (.t 5 0) 0 VO.length), (9, .v dj), (16, .v z1), (17, .v z2), (20, .v lg), (21, .v z3), (22, .v z4), (26, .v l1), (27, .v z5), (28, .v z6)], [(.t 36 0, .arr 1 (E cI c) false), (.t 34 0, .arr 1 (E sV lv) false), (.t 7 0, .arr 1 (E sV VN) false), (.t 5 0, .arr 1 (E sV VO) false)]⟩) (fun p hp => by
          simp only [List.mem_cons, List.not_mem_nil, or_false] at hp
          rcases hp with rfl | rfl | rfl | rfl
          · exact ⟨fun r hr => cI_flat r hr, rfl⟩
          · exact ⟨fun r hr => sV_flat r hr, rfl⟩
          · exact ⟨fun r hr => sV_flat r hr, rfl⟩
          · exact ⟨fun r hr => sV_flat r hr, rfl⟩) ?_ fun a4 w4 S4 p4 hp4 => ?_
    · simp -dsimp only [go_sem, reduceIte, reduceCtorEq, Nat.reduceEqDiff, Nat.reduceLT, Nat.reduceLeDiff, Nat.reduceAdd, Nat.reduceMul, Nat.reduceSub, Int.reduceToNat, Int.reduceNeg, cC, List.replicate_succ, List.replicate_zero, List.flatten_cons, List.flatten_nil, List.cons_append, List.nil_append, List.set_cons_zero, List.set_cons_succ, List.length_cons, List.length_nil, List.length_set, E_len, slW]
      refine CallK.own NK rfl ?_
      simp -dsimp only [go_sem, reduceIte, reduceCtorEq, Nat.reduceEqDiff, Nat.reduceLT, Nat.reduceLeDiff, Nat.reduceAdd, Nat.reduceMul, Nat.reduceSub, Int.reduceToNat, Int.reduceNeg, cC, List.replicate_succ, List.replicate_zero, List.flatten_cons, List.flatten_nil, List.cons_append, List.nil_append, List.set_cons_zero, List.set_cons_succ, List.length_cons, List.length_nil, List.length_set, E_len, slW]
      simp [Vs.LeL, Vs.look, Vs.hlook]
    refine turnB hnt (hDs2) hVN hc hp4 (m := m3) hlv hss (hd3.rows.mono (fun _ _ _ _ h => h) fun i b hi hb => p4.old b (hxs3 i b hi hb)) (fun i b hi hb => p4.sub b (hxs3 i b hi hb)) (fun i b hi hb => by have := hn3 b (.inr ⟨i, hi, hb⟩); omega) fun I' a' w' S' d' p' hpt hdk => hN I' a' w' S' d' ?_ hpt hdk
    refine ⟨fun b hb => p'.sub b (p4.sub b (hsub3 b (p0'.sub b hb))), fun b hb => ?_, Nat.le_trans p0'.size (Nat.le_trans hg.size (Nat.le_trans p4.size p'.size))⟩
    rw [p'.old b (p4.sub b (hsub3 b (p0'.sub b hb))), p4.old b (hsub3 b (p0'.sub b hb)), hg.old b (hp1.dom b (p0'.sub b hb)), p0'.old b hb]
end Go.Proofs.Ytokfhfdnmnblfaa
