/- The call of a function by its contract. -/
import Derived.Test.YtpdmjalhahblmaaDoorVsJ
namespace Go.Vs
set_option linter.unusedSectionVars false
variable [Envs]
variable {P : Program} {C : Ctx} {σ : FSt} {a : Act} {w : World} {S : Nat → Prop} {ρ : Name → Option Nat} {κ : Name → Nat} {h : Name → Option Blk}

def convB (h : Name → Option Blk) (E : List Name) : Blk → Option (Blk × List Name)
  | .var c z => (mapO (conv h 8 E false) c).map fun p => (.var p.1 z, p.2)
  | .arr k l z => some (.arr k l z, [])

def blksO (h : Name → Option Blk) (E : List Name) : List Name → Option (List Blk × List Name)
  | [] => some ([], [])
  | n :: r => match (h n).bind (convB h E), blksO h E r with
    | some (b, L), some (bs, L') => if b.fz then none else some (b :: bs, L ++ L')
    | _, _ => none

theorem blksO_spec (h : Name → Option Blk) (E : List Name) : ∀ {B : List Name} {bs : List Blk} {L : List Name}, blksO h E B = some (bs, L) → bs.length = B.length ∧
    (∀ (j : Nat) (n : Name), B[j]? = some n → ∃ b b' Lj, h n = some b ∧ convB h E b = some (b', Lj) ∧ bs[j]? = some b' ∧ b'.fz = false ∧ ∀ m, m ∈ Lj → m ∈ L) ∧
    ∀ m, m ∈ L → ∃ (n : Name) (b b' : Blk) (Lj : List Name), n ∈ B ∧ h n = some b ∧ convB h E b = some (b', Lj) ∧ m ∈ Lj
  | [], bs, L, hb => by
    simp only [blksO, Option.some.injEq, Prod.mk.injEq] at hb
    obtain ⟨rfl, rfl⟩ := hb
    exact ⟨rfl, by simp, by simp⟩
  | n :: r, bs, L, hb => by
    simp only [blksO] at hb
    split at hb
    · rename_i b' L1 bs' L2 h1 h2
      split at hb
      · cases hb
      · rename_i hz
        simp only [Option.some.injEq, Prod.mk.injEq] at hb
        obtain ⟨rfl, rfl⟩ := hb
        obtain ⟨h3, h4, h5⟩ := blksO_spec h E h2
        cases hn : h n with
        | none => rw [hn] at h1; cases h1
        | some b =>
          rw [hn] at h1
          refine ⟨by simp [h3], fun j m hj => ?_, fun m hm => ?_⟩
          · cases j with
            | zero =>
              simp only [List.getElem?_cons_zero, Option.some.injEq] at hj
              subst hj
              exact ⟨b, b', L1, hn, h1, by simp, by simpa using hz, fun m hm => List.mem_append_left _ hm⟩
            | succ j =>
              obtain ⟨b, b2, Lj, g1, g2, g3, g4, g5⟩ := h4 j m (by simpa using hj)
              exact ⟨b, b2, Lj, g1, g2, by simpa using g3, g4, fun m hm => List.mem_append_right _ (g5 m hm)⟩
          · rcases List.mem_append.1 hm with hm | hm
            · exact ⟨n, b, b', L1, by simp, hn, h1, hm⟩
            · obtain ⟨n', b1, b2, Lj, g1, g2, g3, g4⟩ := h5 m hm
              exact ⟨n', b1, b2, Lj, List.mem_cons_of_mem _ g1, g2, g3, g4⟩
    · cases hb

def phi (B : List Name) (d n : Nat) : Name → Option Name
  | .b j => if j < B.length then B[j]? else if j < n then some (.t d j) else none
  | .t _ _ => none

def frz : Blk → Blk
  | .var c _ => .var c true
  | .arr k l _ => .arr k l true

theorem frz_same (b : Blk) : b.same (frz b) := by cases b <;> simp [frz, Blk.same]

/-- The blocks behind a call. -/
def aft (h : Name → Option Blk) (B : List Name) (d : Nat) (hout : List (Option Blk)) (fz : Bool) (L : List Name) (m : Name) : Option Blk :=
  match idxN B m with
  | some j => (hout.getD j none).map (rnB (phi B d hout.length))
  | none => match m with
    | .t d' j => if d' = d ∧ B.length ≤ j ∧ j < hout.length then (hout.getD j none).map (rnB (phi B d hout.length)) else if fz = true ∧ m ∈ L then (h m).map frz else h m
    | .b _ => if fz = true ∧ m ∈ L then (h m).map frz else h m

theorem idxN_get : ∀ {B : List Name} {j : Nat} {n : Name}, B.Nodup → B[j]? = some n → idxN B n = some j
  | [], j, n, _, h => by simp at h
  | m :: r, 0, n, _, h => by simp only [List.getElem?_cons_zero, Option.some.injEq] at h; simp [idxN, h]
  | m :: r, j + 1, n, hnd, h => by
    simp only [List.getElem?_cons_succ] at h
    have hne : ¬ m = n := by
      rintro rfl
      exact (List.nodup_cons.1 hnd).1 (List.mem_of_getElem? h)
    simp [idxN, hne, idxN_get (List.nodup_cons.1 hnd).2 h]

/-- A call by a contract. 'd': the slot of the result; 'B': the names that are handed over to be written. -/
def callW (P : Program) (σ : FSt) (d : Nat) (fv : AV) (xs : List AV) (B : List Name) (K : FSt → AV → Prop) : Prop :=
  match fv with
  | .fn f caps => match mapO (conv σ.h 8 B false) (xs ++ caps), blksO σ.h B B with
    | some (ys, L1), some (hin, L2) => ∃ r hout fz, Fn P f hin ys r hout ∧ (fz = false → (L1 ++ L2 = [] ∨ (flat r = true ∧ ∀ b, some b ∈ hout → flatB b))) ∧
        (∀ j, B.length ≤ j → j < hout.length → FreshF (.t d j) σ) ∧ K ⟨σ.s, aft σ.h B d hout fz (L1 ++ L2)⟩ (rn (phi B d hout.length) r)
    | _, _ => False
  | _ => False

theorem call_sound (hok : OK C σ a w S ρ κ) {d : Nat} {f : FuncId} {caps xs : List AV} {B : List Name} {K : FSt → AV → Prop} (hnd : B.Nodup) (hv : callW P σ d (.fn f caps) xs B K) {vs : Array Value}
    (hl : vs.size = (xs ++ caps).length) (hr : ∀ j, j < (xs ++ caps).length → RV S w ρ κ σ.h ((xs ++ caps).getD j .junk) (vs.getD j undef)) :
    Calls P f vs w fun e w' => ∃ σ' x v S' ρ' κ', e = .returned v ∧ K σ' x ∧ OK C σ' a w' S' ρ' κ' ∧ RV S' w' ρ' κ' σ'.h x v := by
  simp only [callW] at hv
  split at hv
  · rename_i ys L1 hin L2 hys hbs
    obtain ⟨r, hout, fz, hfn, hflat, hfresh, hK⟩ := hv
    generalize hLd : L1 ++ L2 = L at hK hflat
    have hL1 : ∀ n, n ∈ L1 → n ∈ L := fun n hn => hLd ▸ List.mem_append_left _ hn
    have hL2 : ∀ n, n ∈ L2 → n ∈ L := fun n hn => hLd ▸ List.mem_append_right _ hn
    obtain ⟨hbl, hbj, hbm⟩ := blksO_spec _ _ hbs
    -- the world as the callee sees it
    let S1 : Nat → Prop := fun y => S y ∨ ∃ n, n ∈ L ∧ ρ n = some y
    let ρ0 : Name → Option Nat := fun m => match m with | .b j => (B[j]?).bind ρ | .t _ _ => none
    let κ0 : Name → Nat := fun m => match m with | .b j => ((B[j]?).map κ).getD 0 | .t _ _ => 0
    have hS1 : ∀ y, S y → S1 y := fun y hy => .inl hy
    have hE : ∀ j n, B[j]? = some n → ρ0 (.b j) = ρ n ∧ κ0 (.b j) = κ n ∧ ∀ b', Hn (hin.map some) (.b j) = some b' → ∃ b, σ.h n = some b ∧ b.same b' := by
      intro j n hj
      refine ⟨by simp [ρ0, hj], by simp [κ0, hj], fun b' hb' => ?_⟩
      obtain ⟨b, b2, Lj, g1, g2, g3, _, _⟩ := hbj j n hj
      have : b' = b2 := by
        simp only [Hn, List.getD, List.getElem?_map, g3, Option.map_some, Option.getD_some, Option.some.injEq] at hb'
        exact hb'.symm
      subst this
      refine ⟨b, g1, ?_⟩
      cases b with
      | var c z =>
        simp only [convB] at g2
        cases hm : mapO (conv σ.h 8 B false) c with
        | none => rw [hm] at g2; cases g2
        | some p =>
          rw [hm] at g2
          simp only [Option.map_some, Option.some.injEq, Prod.mk.injEq] at g2
          rw [← g2.1]
          exact ((mapO_spec hm).1).symm
      | arr k l z =>
        simp only [convB, Option.some.injEq, Prod.mk.injEq] at g2
        rw [← g2.1]; exact Blk.same_refl _
    have spec := conv_spec hok.hok hS1 (κ' := κ0) hE 8
    have hlent : ∀ n, n ∈ L → n ∉ B ∧ (σ.h n).isSome := by
      intro n hn
      have hLS : ∀ m, m ∈ L → ∀ y, ρ m = some y → S1 y := fun m hm y hy => .inr ⟨m, hm, hy⟩
      rw [← hLd] at hn
      rcases List.mem_append.1 hn with hn | hn
      · obtain ⟨j, hj, Lj, g1, g2⟩ := mapO_mem hys n hn
        obtain ⟨Lj', g1', g3⟩ := (mapO_spec hys).2 j hj
        rw [g1] at g1'
        simp only [Option.some.injEq, Prod.mk.injEq, true_and] at g1'
        subst g1'
        exact (spec false _ _ _ _ g1 (fun m hm => hLS m (hL1 m (g3 m hm))) (hr j hj)).2.2 n g2
      · obtain ⟨n', b, b', Lj, g1, g2, g3, g4⟩ := hbm n hn
        cases b with
        | arr k l z =>
          simp only [convB, Option.some.injEq, Prod.mk.injEq] at g3
          rw [← g3.2] at g4; simp at g4
        | var c z =>
          simp only [convB] at g3
          cases hm : mapO (conv σ.h 8 B false) c with
          | none => rw [hm] at g3; cases g3
          | some p =>
            obtain ⟨c', Lp⟩ := p
            rw [hm] at g3
            simp only [Option.map_some, Option.some.injEq, Prod.mk.injEq] at g3
            obtain ⟨_, rfl⟩ := g3
            obtain ⟨j, hj, Lj, g5, g6⟩ := mapO_mem hm n g4
            obtain ⟨x, cs, T, fr, q1, q2, q3, q4, _, q5, q6, q7⟩ := hok.hok.blk n' _ g2
            obtain ⟨i, hi⟩ := List.mem_iff_getElem?.1 g1
            obtain ⟨b1, b2, Lb, p1, p2, p3, p4, p5⟩ := hbj i n' hi
            rw [g2] at p1
            obtain rfl := Option.some.inj p1
            simp only [convB, hm, Option.map_some, Option.some.injEq, Prod.mk.injEq] at p2
            obtain ⟨_, rfl⟩ := p2
            obtain ⟨Lj', g5', g7⟩ := (mapO_spec hm).2 j hj
            rw [g5] at g5'
            simp only [Option.some.injEq, Prod.mk.injEq, true_and] at g5'
            subst g5'
            exact (spec false _ _ _ _ g5 (fun m hm => hLS m (hL2 m (p5 m (g7 m hm)))) (q7 j hj).2).2.2 n g6
    have hLS : ∀ m, m ∈ L → ∀ y, ρ m = some y → S1 y := fun m hm y hy => .inr ⟨m, hm, hy⟩
    -- a handed block is no memory that stays
    have hBS : ∀ n b, n ∈ B → σ.h n = some b → b.fz = false → ∀ x, ρ n = some x → ¬ S1 x := by
      rintro n b hn hb hz x hx (hs | ⟨m, hm, hmx⟩)
      · have := hok.hok.blk n b hb
        cases b with
        | var c z =>
          obtain ⟨y, _, _, _, g1, _, _, g2, _⟩ := this
          obtain rfl := Option.some.inj (hx.symm.trans g1)
          exact g2 hz hs
        | arr k l z =>
          obtain ⟨_, ⟨g1, _⟩ | ⟨y, _, _, _, g1, _, _, g2, _⟩⟩ := this
          · rw [hx] at g1; cases g1
          · obtain rfl := Option.some.inj (hx.symm.trans g1)
            exact g2 hz hs
      · have := hok.hok.inj m n x (hlent m hm).2 (by simp [hb]) hmx hx
        subst this
        exact (hlent m hm).1 hn
    have hBfz : ∀ (j : Nat) (n : Name), B[j]? = some n → ∃ b, σ.h n = some b ∧ b.fz = false := by
      intro j n hj
      obtain ⟨b, b', Lj, g1, g2, g3, g4, g5⟩ := hbj j n hj
      refine ⟨b, g1, ?_⟩
      cases b with
      | var c z =>
        simp only [convB] at g2
        cases hm : mapO (conv σ.h 8 B false) c with
        | none => rw [hm] at g2; cases g2
        | some p =>
          rw [hm] at g2
          simp only [Option.map_some, Option.some.injEq, Prod.mk.injEq] at g2
          rw [← g2.1] at g4; exact g4
      | arr k l z =>
        simp only [convB, Option.some.injEq, Prod.mk.injEq] at g2
        rw [← g2.1] at g4; exact g4
    have hHn : ∀ j b', Hn (hin.map some) (.b j) = some b' → ∃ n b Lj, B[j]? = some n ∧ σ.h n = some b ∧ convB σ.h B b = some (b', Lj) ∧ (∀ m, m ∈ Lj → m ∈ L2) ∧ b'.fz = false := by
      intro j b' hb'
      have hj : j < B.length := by
        rw [← hbl]
        rcases Nat.lt_or_ge j hin.length with h' | h'
        · exact h'
        · simp [Hn, List.getD, List.getElem?_eq_none h'] at hb'
      obtain ⟨b, b2, Lj, g1, g2, g3, g4, g5⟩ := hbj j B[j] (by simp [hj])
      have : b' = b2 := by
        simp only [Hn, List.getD, List.getElem?_map, g3, Option.map_some, Option.getD_some, Option.some.injEq] at hb'
        exact hb'.symm
      subst this
      exact ⟨B[j], b, Lj, by simp [hj], g1, g2, g5, g4⟩
    have hok1 : HOK S1 w ρ0 κ0 (Hn (hin.map some)) := by
      refine ⟨fun m b' hb' => ?_, fun m m' x h1 h2 h3 h4 => ?_, ?_, hok.hok.env.mono (fun _ h => .inl h) fun _ _ => rfl⟩
      · cases m with
        | t => simp [Hn] at hb'
        | b j =>
          obtain ⟨n, b, Lj, g0, g1, g2, g5, g4⟩ := hHn j b' hb'
          obtain ⟨e1, e2, _⟩ := hE j n g0
          have hb := hok.hok.blk n b g1
          have hnS := hBS n b (List.mem_of_getElem? g0) g1
          cases b with
          | var c z =>
            simp only [convB] at g2
            cases hm : mapO (conv σ.h 8 B false) c with
            | none => rw [hm] at g2; cases g2
            | some p =>
              obtain ⟨c', Lp⟩ := p
              rw [hm] at g2
              simp only [Option.map_some, Option.some.injEq, Prod.mk.injEq] at g2
              obtain ⟨rfl, rfl⟩ := g2
              obtain ⟨x, cs, T, fr, q1, q2, q3, q4, q4', q5, q6, q7⟩ := hb
              obtain ⟨l1, l2⟩ := mapO_spec hm
              refine ⟨x, cs, T, fr, by rw [e1]; exact q1, q2, q3, fun hz => hnS hz x q1, fun hz => .inl (q4' hz), by rw [e2]; exact q5, by omega, fun i hi => ⟨(q7 i (by omega)).1, ?_⟩⟩
              obtain ⟨Li, l3, l4⟩ := l2 i (by omega)
              exact (spec false _ _ _ _ l3 (fun m hm => hLS m (hL2 m (g5 m (l4 m hm)))) (q7 i (by omega)).2).1 rfl
          | arr k l z =>
            simp only [convB, Option.some.injEq, Prod.mk.injEq] at g2
            obtain ⟨rfl, rfl⟩ := g2
            obtain ⟨q0, ⟨q1, q2⟩ | ⟨x, cs, T, fr, q1, q2, q3, q4, q4', q5, q6, q7⟩⟩ := hb
            · exact ⟨q0, .inl ⟨by rw [e1]; exact q1, q2⟩⟩
            · exact ⟨q0, .inr ⟨x, cs, T, fr, by rw [e1]; exact q1, q2, q3, fun hz => hnS hz x q1, fun hz => .inl (q4' hz), by rw [e2]; exact q5, q6, fun i j hi hj => ⟨(q7 i j hi hj).1, (q7 i j hi hj).2.mono hS1 fun _ _ => rfl⟩⟩⟩
      · cases m with
        | t => simp [Hn] at h1
        | b j =>
          cases m' with
          | t => simp [Hn] at h2
          | b j' =>
            obtain ⟨b1, hb1⟩ := Option.isSome_iff_exists.1 h1
            obtain ⟨b2, hb2⟩ := Option.isSome_iff_exists.1 h2
            obtain ⟨n, b, _, g0, g1, _⟩ := hHn j b1 hb1
            obtain ⟨n', b', _, g0', g1', _⟩ := hHn j' b2 hb2
            rw [(hE j n g0).1] at h3
            rw [(hE j' n' g0').1] at h4
            obtain rfl := hok.hok.inj n n' x (by simp [g1]) (by simp [g1']) h3 h4
            congr 1
            have e1 := idxN_get hnd g0
            have e2 := idxN_get hnd g0'
            rw [e1] at e2; exact Option.some.inj e2
      · rintro y (hy | ⟨n, hn, hy⟩)
        · exact hok.hok.dom y hy
        · exact hok.hok.lt (hlent n hn).2 hy
    have hmut : ∀ x, MutOf ρ0 hin x ↔ ∃ n, n ∈ B ∧ ρ n = some x := by
      intro x
      constructor
      · rintro ⟨j, hj, hx⟩
        have hjB : j < B.length := by omega
        refine ⟨B[j], by simp, ?_⟩
        simpa [ρ0, hjB] using hx
      · rintro ⟨n, hn, hx⟩
        obtain ⟨j, hj⟩ := List.mem_iff_getElem?.1 hn
        refine ⟨j, ?_, by simp [ρ0, hj, hx]⟩
        rw [hbl]
        exact (List.getElem?_eq_some_iff.1 hj).1
    obtain ⟨hyl, hyj⟩ := mapO_spec hys
    have hcall := hfn.2 S1 w ρ0 κ0 vs hok1 (fun b hb => by
      obtain ⟨j, hj⟩ := List.mem_iff_getElem?.1 hb
      have : Hn (hin.map some) (.b j) = some b := by simp [Hn, List.getD, hj]
      obtain ⟨_, _, _, _, _, _, _, hz⟩ := hHn j b this
      exact hz) (by omega) (fun j hj => by
      obtain ⟨Lj, l3, l4⟩ := hyj j (by omega)
      exact (spec false _ _ _ _ l3 (fun m hm => hLS m (hL1 m (l4 m hm))) (hr j (by omega))).1 rfl)
    refine hcall.mono ?_
    rintro e w' ⟨v, S', ρ', κ', rfl, hpost, hrv⟩
    let S2 : Nat → Prop := fun y => S' y ∧ (fz = true ∨ ¬ ∃ n, n ∈ L ∧ ρ n = some y ∧ ¬ S y)
    let ρ2 : Name → Option Nat := fun m => match idxN B m with
      | some j => ρ' (.b j)
      | none => match m with
        | .t d' j => if d' = d ∧ B.length ≤ j ∧ j < hout.length then ρ' (.b j) else ρ (.t d' j)
        | .b i => ρ (.b i)
    let κ2 : Name → Nat := fun m => match idxN B m with
      | some j => κ' (.b j)
      | none => match m with
        | .t d' j => if d' = d ∧ B.length ≤ j ∧ j < hout.length then κ' (.b j) else κ (.t d' j)
        | .b i => κ (.b i)
    let h2 := aft σ.h B d hout fz L
    have hnew : ∀ j, B.length ≤ j → j < hout.length → idxN B (.t d j) = none := by
      intro j h1 h3
      cases hi : idxN B (.t d j) with
      | none => rfl
      | some i =>
        obtain ⟨b, hb, _⟩ := hBfz i _ (idxN_some hi)
        rw [(hfresh j h1 h3).1.1] at hb; cases hb
    -- the three kinds of names
    have kB : ∀ (j : Nat) (m : Name), B[j]? = some m → ρ2 m = ρ' (.b j) ∧ κ2 m = κ' (.b j) ∧ h2 m = (hout.getD j none).map (rnB (phi B d hout.length)) := by
      intro j m hj
      have hi := idxN_get hnd hj
      simp only [ρ2, κ2, h2, aft, hi, and_self]
    have kN : ∀ j, B.length ≤ j → j < hout.length → ρ2 (.t d j) = ρ' (.b j) ∧ κ2 (.t d j) = κ' (.b j) ∧ h2 (.t d j) = (hout.getD j none).map (rnB (phi B d hout.length)) := by
      intro j h1 h3
      have hi := hnew j h1 h3
      simp only [ρ2, κ2, h2, aft, hi, h1, h3, and_self, if_true]
    have kO : ∀ m, m ∉ B → (∀ j, B.length ≤ j → j < hout.length → m ≠ .t d j) → ρ2 m = ρ m ∧ κ2 m = κ m ∧ h2 m = if fz = true ∧ m ∈ L then (σ.h m).map frz else σ.h m := by
      intro m hm hn
      have hi : idxN B m = none := by
        cases hi : idxN B m with
        | none => rfl
        | some j => exact absurd (List.mem_of_getElem? (idxN_some hi)) hm
      cases m with
      | b i => simp only [ρ2, κ2, h2, aft, hi, and_self]
      | t d' j =>
        have hc : ¬ (d' = d ∧ B.length ≤ j ∧ j < hout.length) := by
          rintro ⟨rfl, h1, h3⟩; exact hn j h1 h3 rfl
        simp only [ρ2, κ2, h2, aft, hi, if_neg hc, and_self]
    have hφ : ∀ n m, phi B d hout.length n = some m → ρ2 m = ρ' n ∧ κ2 m = κ' n ∧ ∀ b', h2 m = some b' → ∃ b, Hn hout n = some b ∧ b.same b' := by
      intro n m hn
      cases n with
      | t => simp [phi] at hn
      | b j =>
        have fin : ρ2 m = ρ' (.b j) ∧ κ2 m = κ' (.b j) ∧ h2 m = (hout.getD j none).map (rnB (phi B d hout.length)) := by
          simp only [phi] at hn
          split at hn
          · exact kB j m hn
          · split at hn
            · obtain rfl := Option.some.inj hn
              exact kN j (by omega) (by omega)
            · cases hn
        refine ⟨fin.1, fin.2.1, fun b' hb' => ?_⟩
        rw [fin.2.2] at hb'
        cases hj : hout.getD j none with
        | none => rw [hj] at hb'; cases hb'
        | some b =>
          rw [hj] at hb'
          obtain rfl := Option.some.inj hb'
          exact ⟨b, hj, rnB_same _ _⟩
    have hnm : ∀ m, (∀ j, B.length ≤ j → j < hout.length → m ≠ .t d j) → NameOK ρ ρ2 κ κ2 σ.h h2 m := by
      intro m hn b' hb'
      by_cases hm : m ∈ B
      · obtain ⟨j, hj⟩ := List.mem_iff_getElem?.1 hm
        obtain ⟨e1, e2, e3⟩ := kB j m hj
        rw [e3] at hb'
        cases hjo : hout.getD j none with
        | none => rw [hjo] at hb'; cases hb'
        | some b =>
          rw [hjo] at hb'
          obtain rfl := Option.some.inj hb'
          have hjl : j < hin.length := by rw [hbl]; exact (List.getElem?_eq_some_iff.1 hj).1
          obtain ⟨k1, k2, bi, k3, k4⟩ := hpost.keep j b hjl hjo
          obtain ⟨g1, g2, g3⟩ := hE j m hj
          obtain ⟨b0, g4, g5⟩ := g3 bi (by simp [Hn, List.getD, k3])
          exact ⟨by rw [e1, k1, g1], by rw [e2, k2, g2], b0, g4, Blk.same_trans (Blk.same_trans g5 k4) (rnB_same _ _)⟩
      · obtain ⟨e1, e2, e3⟩ := kO m hm hn
        rw [e3] at hb'
        refine ⟨e1, e2, ?_⟩
        split at hb'
        · cases hb0 : σ.h m with
          | none => rw [hb0] at hb'; cases hb'
          | some b0 =>
            rw [hb0] at hb'
            obtain rfl := Option.some.inj hb'
            exact ⟨b0, rfl, frz_same _⟩
        · exact ⟨b', hb', b'.same_refl⟩
    have hSS2 : ∀ y, S y → S2 y := fun y hy => ⟨hpost.sub y (hS1 y hy), .inr fun ⟨_, _, _, hn⟩ => hn hy⟩
    have hnotMut : ∀ y, S y → ¬ MutOf ρ0 hin y := by
      intro y hy hm
      obtain ⟨n, hn, hx⟩ := (hmut y).1 hm
      obtain ⟨j, hj⟩ := List.mem_iff_getElem?.1 hn
      obtain ⟨b, hb, hz⟩ := hBfz j n hj
      exact hBS n b hn hb hz y hx (.inl hy)
    have hSw : ∀ y, S y → w'.heap[y]? = w.heap[y]? := fun y hy => hpost.old y (hok.hok.dom y hy) (hnotMut y hy)
    have hfl : fz = false → L ≠ [] → flat r = true ∧ ∀ b, some b ∈ hout → flatB b := by
      intro h1 h3
      rcases hflat h1 with h | h
      · exact absurd h h3
      · exact h
    -- a reading of the callee's is one of ours
    have back : ∀ (x : AV) (u : Value), (fz = false → L ≠ [] → flat x = true) → RV S' w' ρ' κ' (Hn hout) x u → RV S2 w' ρ2 κ2 h2 (rn (phi B d hout.length) x) u := by
      intro x u hfx hx
      have hx2 := hx.ren (φ := phi B d hout.length) hφ
      by_cases hz : fz = true
      · exact hx2.mono (fun y hy => ⟨hy, .inl hz⟩) (fun _ _ => rfl) fun _ _ => NameOK.refl _ _ _ _
      · by_cases hl : L = []
        · exact hx2.mono (fun y hy => ⟨hy, .inr (by rintro ⟨n, hn, _⟩; rw [hl] at hn; cases hn)⟩) (fun _ _ => rfl) fun _ _ => NameOK.refl _ _ _ _
        · exact (hx.flat (S' := S2) (hfx (by simpa using hz) hl)).ren hφ
    have backC : ∀ (x : AV) (u : Value), (fz = false → L ≠ [] → flat x = true) → RC S' w' x u → RC S2 w' x u := by
      intro x u hfx hx
      by_cases hz : fz = true
      · exact hx.mono (fun y hy => ⟨hy, .inl hz⟩) fun _ _ => rfl
      · by_cases hl : L = []
        · exact hx.mono (fun y hy => ⟨hy, .inr (by rintro ⟨n, hn, _⟩; rw [hl] at hn; cases hn)⟩) fun _ _ => rfl
        · exact hx.flat (hfx (by simpa using hz) hl)
    have hmineB : ∀ j x, (hout.getD j none).isSome → ρ' (.b j) = some x → w.heap.size ≤ x ∨ ∃ n, n ∈ B ∧ ρ n = some x := by
      intro j x h1 h3
      rcases hpost.mine j x h1 h3 with h | h
      · exact .inl h
      · exact .inr ((hmut x).1 h)
    -- a block of the callee's is none of the noted ones
    have hnoted : ∀ j x, (hout.getD j none).isSome → ρ' (.b j) = some x → ¬ ∃ n, n ∈ L ∧ ρ n = some x ∧ ¬ S x := by
      rintro j x h1 h3 ⟨n, hn, hx, _⟩
      rcases hmineB j x h1 h3 with h | ⟨n', hn', hx'⟩
      · exact absurd (hok.hok.lt (hlent n hn).2 hx) (by omega)
      · obtain ⟨i, hi⟩ := List.mem_iff_getElem?.1 hn'
        obtain ⟨b, hb, _⟩ := hBfz i n' hi
        obtain rfl := hok.hok.inj n n' x (hlent n hn).2 (by simp [hb]) hx hx'
        exact (hlent n hn).1 hn'
    have blkC : ∀ j b m, hout.getD j none = some b → ρ2 m = ρ' (.b j) → κ2 m = κ' (.b j) → BlkOK S2 w' ρ2 κ2 h2 m (rnB (phi B d hout.length) b) := by
      intro j b m hj e1 e2
      have hb := hpost.hok.blk (.b j) b hj
      have hsome : (hout.getD j none).isSome := by rw [hj]; rfl
      have hfb : fz = false → L ≠ [] → flatB b := fun h1 h3 => (hfl h1 h3).2 b (by
        refine List.mem_of_getElem? (i := j) ?_
        cases ho : hout[j]? with
        | none => simp [List.getD, ho] at hj
        | some o => simp [List.getD, ho] at hj; rw [← hj])
      cases b with
      | var c z =>
        obtain ⟨x, cs, T, fr, q1, q2, q3, q4, q4', q5, q6, q7⟩ := hb
        refine ⟨x, cs, T, fr, by rw [e1]; exact q1, q2, q3, fun hz hs => q4 hz hs.1, fun hz => ⟨q4' hz, .inr (hnoted j x hsome q1)⟩, by rw [e2]; exact q5, by rw [rnL_length]; exact q6, fun i hi => ?_⟩
        rw [rnL_length] at hi
        rw [rnL_getD _ _ _ hi]
        exact ⟨(q7 i hi).1, back _ _ (fun h1 h3 => flatL_getD (hfb h1 h3)) (q7 i hi).2⟩
      | arr k l z =>
        obtain ⟨q0, ⟨q1, q2⟩ | ⟨x, cs, T, fr, q1, q2, q3, q4, q4', q5, q6, q7⟩⟩ := hb
        · exact ⟨q0, .inl ⟨by rw [e1]; exact q1, q2⟩⟩
        · refine ⟨q0, .inr ⟨x, cs, T, fr, by rw [e1]; exact q1, q2, q3, fun hz hs => q4 hz hs.1, fun hz => ⟨q4' hz, .inr (hnoted j x hsome q1)⟩, by rw [e2]; exact q5, q6, fun i j' hi hj' => ⟨(q7 i j' hi hj').1, backC _ _ (fun h1 h3 => flatL_getD ?_) (q7 i j' hi hj').2⟩⟩⟩
          exact hfb h1 h3 _ (by simp [List.getD, hi])
    -- which names live, and where
    have live : ∀ m b', h2 m = some b' → (∃ j b, hout.getD j none = some b ∧ b' = rnB (phi B d hout.length) b ∧ ρ2 m = ρ' (.b j) ∧ κ2 m = κ' (.b j) ∧ phi B d hout.length (.b j) = some m) ∨
        (m ∉ B ∧ (∀ j, B.length ≤ j → j < hout.length → m ≠ .t d j) ∧ ρ2 m = ρ m ∧ κ2 m = κ m ∧ ∃ b, σ.h m = some b ∧ b' = if fz = true ∧ m ∈ L then frz b else b) := by
      intro m b' hb'
      by_cases hm : m ∈ B
      · obtain ⟨j, hj⟩ := List.mem_iff_getElem?.1 hm
        obtain ⟨e1, e2, e3⟩ := kB j m hj
        rw [e3] at hb'
        cases hjo : hout.getD j none with
        | none => rw [hjo] at hb'; cases hb'
        | some b =>
          rw [hjo] at hb'
          exact .inl ⟨j, b, hjo, (Option.some.inj hb').symm, e1, e2, by simp only [phi, if_pos (List.getElem?_eq_some_iff.1 hj).1, hj]⟩
      · by_cases hn : ∃ j, B.length ≤ j ∧ j < hout.length ∧ m = .t d j
        · obtain ⟨j, h1, h3, rfl⟩ := hn
          obtain ⟨e1, e2, e3⟩ := kN j h1 h3
          rw [e3] at hb'
          cases hjo : hout.getD j none with
          | none => rw [hjo] at hb'; cases hb'
          | some b =>
            rw [hjo] at hb'
            exact .inl ⟨j, b, hjo, (Option.some.inj hb').symm, e1, e2, by simp [phi, h3, show ¬ j < B.length by omega]⟩
        · have hn' : ∀ j, B.length ≤ j → j < hout.length → m ≠ .t d j := fun j h1 h3 e => hn ⟨j, h1, h3, e⟩
          obtain ⟨e1, e2, e3⟩ := kO m hm hn'
          rw [e3] at hb'
          refine .inr ⟨hm, hn', e1, e2, ?_⟩
          by_cases hc : fz = true ∧ m ∈ L
          · rw [if_pos hc] at hb'
            cases hb0 : σ.h m with
            | none => rw [hb0] at hb'; cases hb'
            | some b0 => rw [hb0] at hb'; exact ⟨b0, rfl, by rw [if_pos hc]; exact (Option.some.inj hb').symm⟩
          · rw [if_neg hc] at hb'
            exact ⟨b', hb', by rw [if_neg hc]⟩
    have oldx : ∀ m b x, m ∉ B → σ.h m = some b → ρ m = some x → w'.heap[x]? = w.heap[x]? := by
      intro m b x hm hb hx
      refine hpost.old x (hok.hok.lt (by simp [hb]) hx) fun hmu => ?_
      obtain ⟨n, hn, hx'⟩ := (hmut x).1 hmu
      obtain ⟨i, hi⟩ := List.mem_iff_getElem?.1 hn
      obtain ⟨b', hb', _⟩ := hBfz i n hi
      obtain rfl := hok.hok.inj m n x (by simp [hb]) (by simp [hb']) hx hx'
      exact hm hn
    have hok2 : HOK S2 w' ρ2 κ2 h2 := by
      refine ⟨fun m b' hb' => ?_, fun m m' x h1 h3 h4 h5 => ?_, fun y hy => hpost.hok.dom y hy.1, hok.hok.env.mono hSS2 hSw⟩
      · rcases live m b' hb' with ⟨j, b, hj, rfl, e1, e2, _⟩ | ⟨hm, hn, e1, e2, b, hb, rfl⟩
        · exact blkC j b m hj e1 e2
        · have hb0 := hok.hok.blk m b hb
          have hmono : ∀ b2 : Blk, ((b2 = b ∧ ¬ (fz = true ∧ m ∈ L)) ∨ (b2 = frz b ∧ fz = true ∧ m ∈ L)) → (∀ n, b2.has n = b.has n) → BlkOK S2 w' ρ2 κ2 h2 m b2 := by
            intro b2 hb2 hhas
            have hnames : ∀ n, b.has n = true → NameOK ρ ρ2 κ κ2 σ.h h2 n := fun n hn' => hnm n fun j h1 h3 e => by
              subst e
              rw [(hfresh j h1 h3).2.2 m b hb] at hn'; cases hn'
            have hS2 : ∀ x, ρ m = some x → S2 x → b2.fz = false → S x := by
              rintro x hx ⟨hs, hs2⟩ hz
              rcases hpost.new x hs with (h | ⟨n, hn', hx'⟩) | h | h
              · exact h
              · obtain rfl := hok.hok.inj m n x (by simp [hb]) (hlent n hn').2 hx hx'
                rcases hs2 with h | h
                · rcases hb2 with ⟨rfl, hc⟩ | ⟨rfl, _, _⟩
                  · exact absurd ⟨h, hn'⟩ hc
                  · cases b <;> simp [frz, Blk.fz] at hz
                · exact Classical.byContradiction fun hns => h ⟨m, hn', hx, hns⟩
              · exact absurd (hok.hok.lt (by simp [hb]) hx) (by omega)
              · obtain ⟨n, hn', hx'⟩ := (hmut x).1 h
                obtain ⟨i, hi⟩ := List.mem_iff_getElem?.1 hn'
                obtain ⟨b'', hb'', _⟩ := hBfz i n hi
                obtain rfl := hok.hok.inj m n x (by simp [hb]) (by simp [hb'']) hx hx'
                exact absurd hn' hm
            have hS2' : ∀ x, ρ m = some x → b2.fz = true → (b.fz = true → S x) → S2 x := by
              intro x hx hz hzS
              rcases hb2 with ⟨rfl, _⟩ | ⟨rfl, hfz, hmL⟩
              · exact hSS2 x (hzS hz)
              · exact ⟨hpost.sub x (.inr ⟨m, hmL, hx⟩), .inl hfz⟩
            cases b with
            | var c z =>
              obtain ⟨x, cs, T, fr, q1, q2, q3, q4, q4', q5, q6, q7⟩ := hb0
              have : ∃ z2, b2 = .var c z2 := by rcases hb2 with ⟨rfl, _⟩ | ⟨rfl, _⟩ <;> exact ⟨_, rfl⟩
              obtain ⟨z2, rfl⟩ := this
              refine ⟨x, cs, T, fr, by rw [e1]; exact q1, by rw [oldx m _ x hm hb q1]; exact q2, q3, fun hz hs => ?_, fun hz => hS2' x q1 hz q4', by rw [e2]; exact q5, q6, fun i hi => ⟨(q7 i hi).1, (q7 i hi).2.mono hSS2 hSw fun n hn' => hnames n ?_⟩⟩
              · have hs' := hS2 x q1 hs hz
                rcases hb2 with ⟨hb2, _⟩ | ⟨hb2, _⟩
                · simp only [Blk.var.injEq, true_and] at hb2; subst hb2; exact q4 hz hs'
                · simp [frz] at hb2; rw [hb2] at hz; cases hz
              · cases hc : hasL n c with
                | true => simp [Blk.has, hc]
                | false => rw [hasL_getD hc] at hn'; cases hn'
            | arr k l z =>
              obtain ⟨q0, hq⟩ := hb0
              have : ∃ z2, b2 = .arr k l z2 := by rcases hb2 with ⟨rfl, _⟩ | ⟨rfl, _⟩ <;> exact ⟨_, rfl⟩
              obtain ⟨z2, rfl⟩ := this
              rcases hq with ⟨q1, q2⟩ | ⟨x, cs, T, fr, q1, q2, q3, q4, q4', q5, q6, q7⟩
              · exact ⟨q0, .inl ⟨by rw [e1]; exact q1, q2⟩⟩
              · refine ⟨q0, .inr ⟨x, cs, T, fr, by rw [e1]; exact q1, by rw [oldx m _ x hm hb q1]; exact q2, q3, fun hz hs => ?_, fun hz => hS2' x q1 hz q4', by rw [e2]; exact q5, q6, fun i j hi hj => ⟨(q7 i j hi hj).1, (q7 i j hi hj).2.mono hSS2 hSw⟩⟩⟩
                have hs' := hS2 x q1 hs hz
                rcases hb2 with ⟨hb2, _⟩ | ⟨hb2, _⟩
                · simp only [Blk.arr.injEq, true_and] at hb2; subst hb2; exact q4 hz hs'
                · simp [frz] at hb2; rw [hb2] at hz; cases hz
          by_cases hc : fz = true ∧ m ∈ L
          · rw [if_pos hc]; exact hmono _ (.inr ⟨rfl, hc⟩) (by intro n; cases b <;> rfl)
          · rw [if_neg hc]; exact hmono _ (.inl ⟨rfl, hc⟩) (fun _ => rfl)
      · obtain ⟨b1, hb1⟩ := Option.isSome_iff_exists.1 h1
        obtain ⟨b3, hb3⟩ := Option.isSome_iff_exists.1 h3
        have mixed : ∀ (j : Nat) (b : Blk) (m' : Name) (b'' : Blk), hout.getD j none = some b → ρ' (.b j) = some x → m' ∉ B → σ.h m' = some b'' → ρ m' = some x → False := by
          intro j b m' b'' hj hx hm' hb'' hx'
          rcases hmineB j x (by rw [hj]; rfl) hx with h | ⟨n, hn, hxn⟩
          · exact absurd (hok.hok.lt (by simp [hb'']) hx') (by omega)
          · obtain ⟨i, hi⟩ := List.mem_iff_getElem?.1 hn
            obtain ⟨bi, hbi, _⟩ := hBfz i n hi
            obtain rfl := hok.hok.inj m' n x (by simp [hb'']) (by simp [hbi]) hx' hxn
            exact hm' hn
        rcases live m b1 hb1 with ⟨j, b, hj, _, e1, _, e3⟩ | ⟨hm, _, e1, _, b, hb, _⟩ <;> rcases live m' b3 hb3 with ⟨j', b', hj', _, e1', _, e3'⟩ | ⟨hm', _, e1', _, b', hb', _⟩
        · rw [e1] at h4; rw [e1'] at h5
          have := hpost.hok.inj (.b j) (.b j') x (by simp only [Hn]; rw [hj]; rfl) (by simp only [Hn]; rw [hj']; rfl) h4 h5
          rw [this] at e3
          exact Option.some.inj (e3.symm.trans e3')
        · rw [e1] at h4; rw [e1'] at h5
          exact (mixed j b m' b' hj h4 hm' hb' h5).elim
        · rw [e1] at h4; rw [e1'] at h5
          exact (mixed j' b' m b hj' h5 hm hb h4).elim
        · rw [e1] at h4; rw [e1'] at h5
          exact hok.hok.inj m m' x (by simp [hb]) (by simp [hb']) h4 h5
    have hBmine : ∀ n x, n ∈ B → ρ n = some x → C.w0.heap.size ≤ x ∨ C.Mut x := by
      intro n x hn hx
      obtain ⟨i, hi⟩ := List.mem_iff_getElem?.1 hn
      obtain ⟨b, hb, _⟩ := hBfz i n hi
      exact hok.mine n x (by simp [hb]) hx
    refine ⟨_, _, v, S2, ρ2, κ2, rfl, hK, ⟨hok.nt, hok.defers, fun t => ?_, hok2, Nat.le_trans hok.size hpost.size, fun y hy hm => ?_, fun m x h1 h3 => ?_, fun y hy => hSS2 y (hok.S0 y hy), fun y hy => ?_, ⟨hpost.out.1.trans hok.out.1, hpost.out.2.trans hok.out.2⟩, fun j b' hb' => ?_⟩, back r v (fun h1 h3 => (hfl h1 h3).1) hrv⟩
    · refine (hok.slots t).mono hSS2 hSw fun m hm => hnm m fun j h1 h3 e => ?_
      subst e
      rw [(hfresh j h1 h3).2.1 t] at hm; cases hm
    · rw [hpost.old y (Nat.lt_of_lt_of_le hy hok.size) fun hmu => ?_]
      · exact hok.old y hy hm
      · obtain ⟨n, hn, hx⟩ := (hmut y).1 hmu
        rcases hBmine n y hn hx with h | h
        · omega
        · exact hm h
    · obtain ⟨b1, hb1⟩ := Option.isSome_iff_exists.1 h1
      rcases live m b1 hb1 with ⟨j, b, hj, _, e1, _, _⟩ | ⟨hm, _, e1, _, b, hb, _⟩
      · rw [e1] at h3
        rcases hmineB j x (by rw [hj]; rfl) h3 with h | ⟨n, hn, hx⟩
        · exact .inl (Nat.le_trans hok.size h)
        · exact hBmine n x hn hx
      · rw [e1] at h3
        exact hok.mine m x (by simp [hb]) h3
    · rcases hpost.new y hy.1 with (h | ⟨n, hn, hx⟩) | h | h
      · exact hok.Snew y h
      · rcases hok.mine n y (hlent n hn).2 hx with h | h
        · exact .inr (.inl h)
        · exact .inr (.inr h)
      · exact .inr (.inl (Nat.le_trans hok.size h))
      · obtain ⟨n, hn, hx⟩ := (hmut y).1 h
        rcases hBmine n y hn hx with h | h
        · exact .inr (.inl h)
        · exact .inr (.inr h)
    · obtain ⟨e1, e2, b0, h1, h2⟩ := hnm (.b j) (fun _ _ _ => by simp) b' hb'
      obtain ⟨e3, e4, b1, h3, h4⟩ := hok.keep j b0 h1
      exact ⟨e1.trans e3, e2.trans e4, b1, h3, Blk.same_trans h4 h2⟩
  · exact hv.elim
end Go.Vs
