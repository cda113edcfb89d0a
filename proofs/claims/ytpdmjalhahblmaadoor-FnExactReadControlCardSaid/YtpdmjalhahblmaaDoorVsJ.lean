/- Contracts of functions, and the call. -/
import Derived.Test.YtpdmjalhahblmaaDoorVsI
namespace Go.Vs
set_option linter.unusedSectionVars false
variable [Envs]
variable {P : Program} {C : Ctx} {σ : FSt} {a : Act} {w : World} {S : Nat → Prop} {ρ : Name → Option Nat} {κ : Name → Nat} {h : Name → Option Blk}

def idxN : List Name → Name → Option Nat
  | [], _ => none
  | m :: r, n => if m = n then some 0 else (idxN r n).map (· + 1)

theorem idxN_some : ∀ {E : List Name} {n : Name} {j : Nat}, idxN E n = some j → E[j]? = some n
  | [], _, _, h => by simp [idxN] at h
  | m :: r, n, j, h => by
    simp only [idxN] at h
    split at h
    · obtain rfl := Option.some.inj h; simpa using ‹m = n›
    · cases hr : idxN r n with
      | none => rw [hr] at h; simp at h
      | some i =>
        rw [hr] at h
        simp only [Option.map_some, Option.some.injEq] at h
        subst h
        simpa using idxN_some hr

theorem idxN_none : ∀ {E : List Name} {n : Name}, idxN E n = none → n ∉ E
  | [], _, _ => by simp
  | m :: r, n, h => by
    simp only [idxN] at h
    split at h
    · cases h
    · rename_i hne
      have : idxN r n = none := by simpa using h
      simp only [List.mem_cons, not_or]
      exact ⟨fun e => hne e.symm, idxN_none this⟩

def mapO (f : AV → Option (AV × List Name)) : List AV → Option (List AV × List Name)
  | [] => some ([], [])
  | x :: r => match f x, mapO f r with
    | some (y, L), some (ys, L') => some (y :: ys, L ++ L')
    | _, _ => none

theorem mapO_spec {f : AV → Option (AV × List Name)} : ∀ {c c' : List AV} {L : List Name}, mapO f c = some (c', L) → c'.length = c.length ∧
    ∀ j, j < c.length → ∃ Lj, f (c.getD j .junk) = some (c'.getD j .junk, Lj) ∧ ∀ n, n ∈ Lj → n ∈ L
  | [], c', L, h => by
    simp only [mapO, Option.some.injEq, Prod.mk.injEq] at h
    obtain ⟨rfl, rfl⟩ := h
    exact ⟨rfl, by simp⟩
  | x :: r, c', L, h => by
    simp only [mapO] at h
    split at h
    · rename_i y L1 ys L2 h1 h2
      simp only [Option.some.injEq, Prod.mk.injEq] at h
      obtain ⟨rfl, rfl⟩ := h
      obtain ⟨h3, h4⟩ := mapO_spec h2
      refine ⟨by simp [h3], fun j hj => ?_⟩
      cases j with
      | zero => exact ⟨L1, by simpa using h1, fun n hn => List.mem_append_left _ hn⟩
      | succ j =>
        obtain ⟨Lj, h5, h6⟩ := h4 j (by simpa using hj)
        exact ⟨Lj, by simpa using h5, fun n hn => List.mem_append_right _ (h6 n hn)⟩
    · cases h

theorem mapO_mem {f : AV → Option (AV × List Name)} : ∀ {cs cs' : List AV} {L : List Name}, mapO f cs = some (cs', L) → ∀ n, n ∈ L → ∃ j, j < cs.length ∧ ∃ Lj, f (cs.getD j .junk) = some (cs'.getD j .junk, Lj) ∧ n ∈ Lj
  | [], cs', L, hm, n, hn => by simp only [mapO, Option.some.injEq, Prod.mk.injEq] at hm; obtain ⟨_, rfl⟩ := hm; simp at hn
  | x :: r, cs', L, hm, n, hn => by
    simp only [mapO] at hm
    split at hm
    · rename_i y L1 ys L2 h1 h2
      simp only [Option.some.injEq, Prod.mk.injEq] at hm
      obtain ⟨rfl, rfl⟩ := hm
      rcases List.mem_append.1 hn with hn | hn
      · exact ⟨0, by simp, L1, by simpa using h1, hn⟩
      · obtain ⟨j, hj, Lj, g, hg⟩ := mapO_mem h2 n hn
        exact ⟨j + 1, by simpa using hj, Lj, by simpa using g, hg⟩
    · cases hm

/-- A value handed on: the names of the list become the callee's; whatever else is reached is closed, and noted. -/
def conv (h : Name → Option Blk) : Nat → List Name → Bool → AV → Option (AV × List Name)
  | 0, _, _, _ => none
  | _ + 1, _, c, .junk => if c then none else some (.junk, [])
  | _ + 1, E, c, .loc n off len => match idxN E n with
    | some j => if c then none else some (.loc (.b j) off len, [])
    | none => match h n with
      | some (.arr k l _) => some (.sl k ((l.drop off).take len), [n])
      | _ => none
  | m + 1, E, c, .ptr n e o => match idxN E n with
    | some j => if c then none else some (.ptr (.b j) e o, [])
    | none => match h n with
      | some (.arr _ l _) => some (.ro ((l.getD e []).drop o), [n])
      | some (.var cs _) => (mapO (conv h m E true) cs).map fun p => (.ro (p.1.drop o), n :: p.2)
      | none => none
  | m + 1, E, c, .fn f cs => (mapO (conv h m E c) cs).map fun p => (.fn f p.1, p.2)
  | m + 1, E, c, .agg cs => (mapO (conv h m E c) cs).map fun p => (.agg p.1, p.2)
  | m + 1, E, c, .tup cs => (mapO (conv h m E c) cs).map fun p => (.tup p.1, p.2)
  | _ + 1, _, _, .v x => some (.v x, [])
  | _ + 1, _, _, .sl k l => some (.sl k l, [])
  | _ + 1, _, _, .ro c => some (.ro c, [])

theorem conv_ext (S : Nat → Prop) {S' : Nat → Prop} (hS : ∀ b, S b → S' b) {x : AV} {v : Value} (h : RC S w x v) : RC S' w x v := h.mono hS fun _ _ => rfl

theorem conv_spec (hok : HOK S w ρ κ h) {S' : Nat → Prop} (hS : ∀ b, S b → S' b) {E : List Name} {ρ' : Name → Option Nat} {κ' : Name → Nat} {h' : Name → Option Blk}
    (hE : ∀ j n, E[j]? = some n → ρ' (.b j) = ρ n ∧ κ' (.b j) = κ n ∧ ∀ b', h' (.b j) = some b' → ∃ b, h n = some b ∧ b.same b') :
    ∀ (m : Nat) (c : Bool) (x x' : AV) (L : List Name) (v : Value), conv h m E c x = some (x', L) → (∀ n, n ∈ L → ∀ y, ρ n = some y → S' y) → RV S w ρ κ h x v →
      (c = false → RV S' w ρ' κ' h' x' v) ∧ (c = true → RC S' w x' v) ∧ ∀ n, n ∈ L → n ∉ E ∧ (h n).isSome := by
  intro m
  induction m with
  | zero => intro c x x' L v hc; simp [conv] at hc
  | succ m ih =>
    intro c x x' L v hc hL hx
    have lists : ∀ (cs cs' : List AV) (L : List Name) (vs : Array Value), mapO (conv h m E c) cs = some (cs', L) → (∀ n, n ∈ L → ∀ y, ρ n = some y → S' y) → (∀ j, j < cs.length → RV S w ρ κ h (cs.getD j .junk) (vs.getD j undef)) →
        cs'.length = cs.length ∧ (c = false → ∀ j, j < cs'.length → RV S' w ρ' κ' h' (cs'.getD j .junk) (vs.getD j undef)) ∧ (c = true → ∀ j, j < cs'.length → RC S' w (cs'.getD j .junk) (vs.getD j undef)) ∧ ∀ n, n ∈ L → n ∉ E ∧ (h n).isSome := by
      intro cs
      induction cs with
      | nil =>
        intro cs' L vs hm _ _
        simp only [mapO, Option.some.injEq, Prod.mk.injEq] at hm
        obtain ⟨rfl, rfl⟩ := hm
        exact ⟨rfl, by simp, by simp, by simp⟩
      | cons x r ihr =>
        intro cs' L vs hm hL hr
        simp only [mapO] at hm
        split at hm
        · rename_i y L1 ys L2 h1 h2
          simp only [Option.some.injEq, Prod.mk.injEq] at hm
          obtain ⟨rfl, rfl⟩ := hm
          have g1 := ih c x y L1 (vs.getD 0 undef) h1 (fun n hn => hL n (List.mem_append_left _ hn)) (by simpa using hr 0 (by simp))
          have g2 := ihr ys L2 (vs.extract 1 vs.size) h2 (fun n hn => hL n (List.mem_append_right _ hn)) (fun j hj => by
            have := hr (j + 1) (by simpa using hj)
            have e : (vs.extract 1 vs.size).getD j undef = vs.getD (j + 1) undef := by
              simp [Array.getElem?_extract, Nat.add_comm 1 j]
              split
              · rfl
              · simp [Array.getElem?_eq_none (show vs.size ≤ j + 1 by omega)]
            rw [e]; simpa using this)
          have e : ∀ j, (vs.extract 1 vs.size).getD j undef = vs.getD (j + 1) undef := by
            intro j
            simp [Array.getElem?_extract, Nat.add_comm 1 j]
            split
            · rfl
            · simp [Array.getElem?_eq_none (show vs.size ≤ j + 1 by omega)]
          refine ⟨by simp [g2.1], fun hc j hj => ?_, fun hc j hj => ?_, fun n hn => ?_⟩
          · cases j with
            | zero => simpa using g1.1 hc
            | succ j => have := g2.2.1 hc j (by simpa using hj); rw [e] at this; simpa using this
          · cases j with
            | zero => simpa using g1.2.1 hc
            | succ j => have := g2.2.2.1 hc j (by simpa using hj); rw [e] at this; simpa using this
          · rcases List.mem_append.1 hn with hn | hn
            · exact g1.2.2 n hn
            · exact g2.2.2.2 n hn
        · cases hm
    have clos : ∀ x' : AV, RC S' w x' v → (c = false → RV S' w ρ' κ' h' x' v) ∧ (c = true → RC S' w x' v) := fun x' hr => ⟨fun _ => .clo hr, fun _ => hr⟩
    cases x with
    | v y =>
      simp only [conv, Option.some.injEq, Prod.mk.injEq] at hc
      obtain ⟨rfl, rfl⟩ := hc
      obtain rfl := inv_v hx
      exact ⟨(clos _ (.v _)).1, (clos _ (.v _)).2, by simp⟩
    | sl k l =>
      simp only [conv, Option.some.injEq, Prod.mk.injEq] at hc
      obtain ⟨rfl, rfl⟩ := hc
      have := conv_ext S hS (inv_sl hx)
      exact ⟨(clos _ this).1, (clos _ this).2, by simp⟩
    | ro l =>
      simp only [conv, Option.some.injEq, Prod.mk.injEq] at hc
      obtain ⟨rfl, rfl⟩ := hc
      have := conv_ext S hS (inv_ro hx)
      exact ⟨(clos _ this).1, (clos _ this).2, by simp⟩
    | junk =>
      simp only [conv] at hc
      split at hc
      · cases hc
      · rename_i hcf
        simp only [Option.some.injEq, Prod.mk.injEq] at hc
        obtain ⟨rfl, rfl⟩ := hc
        exact ⟨fun _ => .junk _, fun h => absurd h hcf, by simp⟩
    | fn f cs =>
      simp only [conv] at hc
      cases hm : mapO (conv h m E c) cs with
      | none => rw [hm] at hc; cases hc
      | some p =>
        obtain ⟨cs', L'⟩ := p
        rw [hm] at hc
        simp only [Option.map_some, Option.some.injEq, Prod.mk.injEq] at hc
        obtain ⟨rfl, rfl⟩ := hc
        obtain ⟨vs, rfl, hl, hr⟩ := inv_fn hx
        obtain ⟨g1, g2, g3, g4⟩ := lists cs cs' L' vs hm hL hr
        exact ⟨fun hc => .fn _ _ _ (by omega) (g2 hc), fun hc => .fn _ _ _ (by omega) (g3 hc), g4⟩
    | agg cs =>
      simp only [conv] at hc
      cases hm : mapO (conv h m E c) cs with
      | none => rw [hm] at hc; cases hc
      | some p =>
        obtain ⟨cs', L'⟩ := p
        rw [hm] at hc
        simp only [Option.map_some, Option.some.injEq, Prod.mk.injEq] at hc
        obtain ⟨rfl, rfl⟩ := hc
        obtain ⟨vs, rfl, hl, hr⟩ := inv_agg hx
        obtain ⟨g1, g2, g3, g4⟩ := lists cs cs' L' vs hm hL hr
        exact ⟨fun hc => .agg _ _ (by omega) (g2 hc), fun hc => .agg _ _ (by omega) (g3 hc), g4⟩
    | tup cs =>
      simp only [conv] at hc
      cases hm : mapO (conv h m E c) cs with
      | none => rw [hm] at hc; cases hc
      | some p =>
        obtain ⟨cs', L'⟩ := p
        rw [hm] at hc
        simp only [Option.map_some, Option.some.injEq, Prod.mk.injEq] at hc
        obtain ⟨rfl, rfl⟩ := hc
        obtain ⟨vs, rfl, hl, hr⟩ := inv_tup hx
        obtain ⟨g1, g2, g3, g4⟩ := lists cs cs' L' vs hm hL hr
        exact ⟨fun hc => .tup _ _ (by omega) (g2 hc), fun hc => .tup _ _ (by omega) (g3 hc), g4⟩
    | loc n off len =>
      simp only [conv] at hc
      split at hc
      · rename_i j hj
        split at hc
        · cases hc
        · rename_i hcf
          simp only [Option.some.injEq, Prod.mk.injEq] at hc
          obtain ⟨rfl, rfl⟩ := hc
          refine ⟨fun _ => .loc _ _ _ _ fun k l z hb => ?_, fun h => absurd h hcf, by simp⟩
          obtain ⟨e1, e2, e3⟩ := hE j n (idxN_some hj)
          obtain ⟨b, hb', hs⟩ := e3 _ hb
          cases b with
          | var => simp [Blk.same] at hs
          | arr k' l' z' =>
            simp only [Blk.same] at hs
            obtain ⟨rfl, hll⟩ := hs
            have := inv_loc hx _ _ _ hb'
            rw [e1, e2, ← hll]; exact this
      · rename_i hj
        split at hc
        · rename_i k l z hb
          simp only [Option.some.injEq, Prod.mk.injEq] at hc
          obtain ⟨rfl, rfl⟩ := hc
          have hro : rowsO k h (.loc n off len) = some ((l.drop off).take len) := by simp [rowsO, hb]
          obtain ⟨base, cap, rfl, hk, b, o, hb1, hb2⟩ := rows_of hok hx hro
          obtain ⟨hle, base', cap', hv', hlc, hcap, hbase, _⟩ := inv_loc hx _ _ _ hb
          simp only [Value.slice.injEq] at hv'
          obtain ⟨rfl, hlen, rfl⟩ := hv'
          have : RC S' w (.sl k ((l.drop off).take len)) (.slice base ((l.drop off).take len).length cap) := by
            refine .sl k _ base cap b o (fun m => (w.cell? ⟨b, o + m, none⟩).getD undef) (fun hne => ?_) (fun i j hi hj => ?_) (fun i j hi hj => ?_) (fun i j hi hj => ?_) hk ⟨by omega, hcap⟩
            · refine ⟨(hb1 hne).1, ?_⟩
              obtain ⟨y, hy, hyb⟩ := hbase (by
                rcases Nat.eq_zero_or_pos len with h0 | h0
                · subst h0; simp at hne
                · exact h0)
              have := (hb1 hne).1.symm.trans hyb
              simp only [Option.some.injEq, Addr.mk.injEq] at this
              obtain ⟨rfl, _⟩ := this
              exact hL n (by simp) _ hy
            all_goals
              obtain ⟨u, hu, ho, hr⟩ := hb2 i j hi hj
              simp only [hu, Option.getD_some]
            · exact ho
            · exact hr.mono hS fun _ _ => rfl
          exact ⟨(clos _ this).1, (clos _ this).2, fun m hm => by
            simp only [List.mem_singleton] at hm
            subst hm
            exact ⟨idxN_none hj, by simp [hb]⟩⟩
        · cases hc
    | ptr n e o =>
      simp only [conv] at hc
      split at hc
      · rename_i j hj
        split at hc
        · cases hc
        · rename_i hcf
          simp only [Option.some.injEq, Prod.mk.injEq] at hc
          obtain ⟨rfl, rfl⟩ := hc
          refine ⟨fun _ => .ptr _ _ _ _ fun b' hb => ?_, fun h => absurd h hcf, by simp⟩
          obtain ⟨e1, e2, e3⟩ := hE j n (idxN_some hj)
          obtain ⟨b, hb', hs⟩ := e3 _ hb
          obtain ⟨y, hy, hv⟩ := inv_ptr hx _ hb'
          exact ⟨y, by rw [e1]; exact hy, by rw [← Blk.same_k hs]; exact hv⟩
      · rename_i hj
        split at hc
        · rename_i k l z hb
          simp only [Option.some.injEq, Prod.mk.injEq] at hc
          obtain ⟨rfl, rfl⟩ := hc
          obtain ⟨y, hy, rfl⟩ := inv_ptr hx _ hb
          have hcells := fun j (hj : j < ((Blk.arr k l z).row e).length) => hok.cells hb hy (e := e) (j := j) hj
          simp only [Blk.row, Blk.k] at hcells
          have : RC S' w (.ro ((l.getD e []).drop o)) (.pointer (some ⟨y, e * k + o, none⟩)) := by
            refine .ro _ y _ (fun m => (w.cell? ⟨y, e * k + o + m, none⟩).getD undef) (hL n (by simp) _ hy) (fun j hj => ?_) (fun j hj => ?_) fun j hj => ?_
            all_goals
              simp only [List.length_drop] at hj
              obtain ⟨u, hu, ho, hr⟩ := hcells (o + j) (by omega)
              rw [← Nat.add_assoc] at hu
              simp only [hu, Option.getD_some]
            · exact ho
            · have e1 : ((l.getD e []).drop o).getD j .junk = (l.getD e []).getD (o + j) .junk := by simp [List.getD]
              rw [e1]
              obtain ⟨h0, ⟨h1, h2⟩ | ⟨y', cs, T, fr, h1, h2, h3, h4, _, h5, h6, h7⟩⟩ := hok.blk n _ hb
              · rw [h1] at hy; cases hy
              · have he : e < l.length := by
                  rcases Nat.lt_or_ge e l.length with h' | h'
                  · exact h'
                  · simp [List.getD, List.getElem?_eq_none h'] at hj
                have hjk : o + j < k := by rw [← h0 e he]; omega
                have hx7 := (h7 e (o + j) he hjk).2
                obtain rfl := Option.some.inj (hy.symm.trans h1)
                have hlt : e * k + (o + j) < cs.size := by
                  have : (e + 1) * k ≤ l.length * k := Nat.mul_le_mul_right _ he
                  rw [Nat.succ_mul] at this; omega
                have hu2 := cell_of_row h2 hlt
                rw [← Nat.add_assoc, hu] at hu2
                rw [Option.some.inj hu2, Nat.add_assoc]
                exact hx7.mono hS fun _ _ => rfl
          exact ⟨(clos _ this).1, (clos _ this).2, fun m hm => by
            simp only [List.mem_singleton] at hm
            subst hm
            exact ⟨idxN_none hj, by simp [hb]⟩⟩
        · rename_i cs z hb
          cases hm : mapO (conv h m E true) cs with
          | none => rw [hm] at hc; cases hc
          | some p =>
            obtain ⟨cs', L'⟩ := p
            rw [hm] at hc
            simp only [Option.map_some, Option.some.injEq, Prod.mk.injEq] at hc
            obtain ⟨rfl, rfl⟩ := hc
            obtain ⟨y, hy, rfl⟩ := inv_ptr hx _ hb
            obtain ⟨y', cur, T, fr, h1, h2, h3, h4, _, h5, h6, h7⟩ := hok.blk n _ hb
            obtain rfl := Option.some.inj (hy.symm.trans h1)
            obtain ⟨g1, g2⟩ := mapO_spec hm
            have key : ∀ j, j < cs.length → RC S' w (cs'.getD j .junk) (cur.getD j undef) := fun j hj => by
              obtain ⟨Lj, g3, g4⟩ := g2 j hj
              exact (ih true _ _ _ _ g3 (fun n hn => hL n (List.mem_cons_of_mem _ (g4 n hn))) (h7 j hj).2).2.1 rfl
            have : RC S' w (.ro (cs'.drop o)) (.pointer (some ⟨y, e * (Blk.var cs z).k + o, none⟩)) := by
              simp only [Blk.k, Nat.mul_zero, Nat.zero_add]
              refine .ro _ y _ (fun m => cur.getD (o + m) undef) (hL n (by simp) _ hy) (fun j hj => ?_) (fun j hj => ?_) fun j hj => ?_
              all_goals
                simp only [List.length_drop, g1] at hj
              · exact cell_of_row h2 (by omega)
              · exact (h7 (o + j) (by omega)).1
              · have e1 : (cs'.drop o).getD j .junk = cs'.getD (o + j) .junk := by simp [List.getD]
                rw [e1]
                exact key (o + j) (by omega)
            refine ⟨(clos _ this).1, (clos _ this).2, fun m' hm' => ?_⟩
            rcases List.mem_cons.1 hm' with rfl | hm'
            · exact ⟨idxN_none hj, by simp [hb]⟩
            · -- it comes out of one of the cells
              have : ∀ (cs cs' : List AV) (L : List Name), mapO (conv h m E true) cs = some (cs', L) → ∀ n, n ∈ L → ∃ j, j < cs.length ∧ ∃ Lj, conv h m E true (cs.getD j .junk) = some (cs'.getD j .junk, Lj) ∧ n ∈ Lj := by
                intro cs
                induction cs with
                | nil => intro cs' L hm n hn; simp only [mapO, Option.some.injEq, Prod.mk.injEq] at hm; obtain ⟨_, rfl⟩ := hm; simp at hn
                | cons x r ihr =>
                  intro cs' L hm n hn
                  simp only [mapO] at hm
                  split at hm
                  · rename_i y L1 ys L2 h1 h2
                    simp only [Option.some.injEq, Prod.mk.injEq] at hm
                    obtain ⟨rfl, rfl⟩ := hm
                    rcases List.mem_append.1 hn with hn | hn
                    · exact ⟨0, by simp, L1, by simpa using h1, hn⟩
                    · obtain ⟨j, hj, Lj, g, hg⟩ := ihr _ _ h2 n hn
                      exact ⟨j + 1, by simpa using hj, Lj, by simpa using g, hg⟩
                  · cases hm
              obtain ⟨j, hj', Lj, g3, hg⟩ := this _ _ _ hm _ hm'
              have hL' : ∀ n, n ∈ Lj → ∀ y, ρ n = some y → S' y := by
                obtain ⟨Lj', g3', g4'⟩ := g2 j hj'
                rw [g3] at g3'
                simp only [Option.some.injEq, Prod.mk.injEq, true_and] at g3'
                subst g3'
                exact fun n hn => hL n (List.mem_cons_of_mem _ (g4' n hn))
              exact (ih true _ _ _ _ g3 hL' (h7 j hj').2).2.2 _ hg
        · cases hc

/-! ## renaming -/
mutual
def rn (φ : Name → Option Name) : AV → AV
  | .loc n off len => match φ n with | some m => .loc m off len | none => .junk
  | .ptr n e o => match φ n with | some m => .ptr m e o | none => .junk
  | .fn f c => .fn f (rnL φ c)
  | .agg c => .agg (rnL φ c)
  | .tup c => .tup (rnL φ c)
  | x => x
def rnL (φ : Name → Option Name) : List AV → List AV
  | [] => []
  | x :: r => rn φ x :: rnL φ r
end

theorem rnL_length (φ : Name → Option Name) : ∀ c : List AV, (rnL φ c).length = c.length
  | [] => rfl
  | x :: r => by simp [rnL, rnL_length φ r]
theorem rnL_getD (φ : Name → Option Name) : ∀ (c : List AV) (j : Nat), j < c.length → (rnL φ c).getD j .junk = rn φ (c.getD j .junk)
  | [], j, h => by simp at h
  | x :: r, 0, _ => by simp [rnL]
  | x :: r, j + 1, h => by simpa [rnL] using rnL_getD φ r j (by simpa using h)

def rnB (φ : Name → Option Name) : Blk → Blk
  | .var c z => .var (rnL φ c) z
  | b => b

theorem rnB_same (φ : Name → Option Name) (b : Blk) : b.same (rnB φ b) := by
  cases b <;> simp [rnB, Blk.same, rnL_length]

theorem rn_clo {S : Nat → Prop} {w : World} (φ : Name → Option Name) {x : AV} {v : Value} (h : RC S w x v) : RC S w (rn φ x) v := by
  induction h with
  | v x => simpa [rn] using .v x
  | sl k l base cap x off xs hb hc ho hr hk hcap ih => simpa [rn] using .sl k l base cap x off xs hb hc ho hr hk hcap
  | ro c x off xs hS hc ho hr ih => simpa [rn] using .ro c x off xs hS hc ho hr
  | fn f c vs hl hr ih =>
    simp only [rn]
    refine .fn _ _ _ (by rw [rnL_length]; exact hl) fun j hj => ?_
    rw [rnL_length] at hj; rw [rnL_getD φ c j hj]; exact ih j hj
  | agg c vs hl hr ih =>
    simp only [rn]
    refine .agg _ _ (by rw [rnL_length]; exact hl) fun j hj => ?_
    rw [rnL_length] at hj; rw [rnL_getD φ c j hj]; exact ih j hj
  | tup c vs hl hr ih =>
    simp only [rn]
    refine .tup _ _ (by rw [rnL_length]; exact hl) fun j hj => ?_
    rw [rnL_length] at hj; rw [rnL_getD φ c j hj]; exact ih j hj

theorem RV.ren {S : Nat → Prop} {w : World} {ρ ρ' : Name → Option Nat} {κ κ' : Name → Nat} {h h' : Name → Option Blk} {φ : Name → Option Name}
    (hφ : ∀ n m, φ n = some m → ρ' m = ρ n ∧ κ' m = κ n ∧ ∀ b', h' m = some b' → ∃ b, h n = some b ∧ b.same b') {x : AV} {v : Value} (hx : RV S w ρ κ h x v) : RV S w ρ' κ' h' (rn φ x) v := by
  induction hx with
  | junk v => simpa [rn] using .junk v
  | clo hx => exact .clo (rn_clo φ hx)
  | loc n off len v hv =>
    simp only [rn]
    split
    · rename_i m hm
      obtain ⟨e1, e2, e3⟩ := hφ n m hm
      refine .loc _ _ _ _ fun k l z hb => ?_
      obtain ⟨b, hb', hs⟩ := e3 _ hb
      cases b with
      | var => simp [Blk.same] at hs
      | arr k' l' z' =>
        simp only [Blk.same] at hs
        obtain ⟨rfl, hll⟩ := hs
        have := hv _ _ _ hb'
        rw [e1, e2, ← hll]; exact this
    · exact .junk _
  | ptr n e c v hv =>
    simp only [rn]
    split
    · rename_i m hm
      obtain ⟨e1, e2, e3⟩ := hφ n m hm
      refine .ptr _ _ _ _ fun b' hb => ?_
      obtain ⟨b, hb', hs⟩ := e3 _ hb
      obtain ⟨y, hy, hv⟩ := hv _ hb'
      exact ⟨y, by rw [e1]; exact hy, by rw [← Blk.same_k hs]; exact hv⟩
    · exact .junk _
  | fn f c vs hl hr ih =>
    simp only [rn]
    refine .fn _ _ _ (by rw [rnL_length]; exact hl) fun j hj => ?_
    rw [rnL_length] at hj; rw [rnL_getD φ c j hj]; exact ih j hj
  | agg c vs hl hr ih =>
    simp only [rn]
    refine .agg _ _ (by rw [rnL_length]; exact hl) fun j hj => ?_
    rw [rnL_length] at hj; rw [rnL_getD φ c j hj]; exact ih j hj
  | tup c vs hl hr ih =>
    simp only [rn]
    refine .tup _ _ (by rw [rnL_length]; exact hl) fun j hj => ?_
    rw [rnL_length] at hj; rw [rnL_getD φ c j hj]; exact ih j hj

/-! ## values that hold no memory that stays -/
mutual
def flat : AV → Bool
  | .sl _ _ => false
  | .ro _ => false
  | .fn _ c => flatL c
  | .agg c => flatL c
  | .tup c => flatL c
  | _ => true
def flatL : List AV → Bool
  | [] => true
  | x :: r => flat x && flatL r
end
theorem flatL_getD : ∀ {c : List AV} {j : Nat}, flatL c = true → flat (c.getD j .junk) = true
  | [], j, _ => by simp [flat]
  | x :: r, 0, h => by simp [flatL] at h; simpa using h.1
  | x :: r, j + 1, h => by simp [flatL] at h; simpa using flatL_getD (c := r) (j := j) h.2

theorem RC.flat {S S' : Nat → Prop} {w : World} {x : AV} {v : Value} (h : RC S w x v) (hf : flat x = true) : RC S' w x v := by
  induction h with
  | v x => exact .v x
  | sl => simp [Vs.flat] at hf
  | ro => simp [Vs.flat] at hf
  | fn f c vs hl hr ih => simp only [Vs.flat] at hf; exact .fn _ _ _ hl fun j hj => ih j hj (flatL_getD hf)
  | agg c vs hl hr ih => simp only [Vs.flat] at hf; exact .agg _ _ hl fun j hj => ih j hj (flatL_getD hf)
  | tup c vs hl hr ih => simp only [Vs.flat] at hf; exact .tup _ _ hl fun j hj => ih j hj (flatL_getD hf)

theorem RV.flat {S S' : Nat → Prop} {w : World} {ρ : Name → Option Nat} {κ : Name → Nat} {h : Name → Option Blk} {x : AV} {v : Value} (hx : RV S w ρ κ h x v) (hf : flat x = true) : RV S' w ρ κ h x v := by
  induction hx with
  | junk v => exact .junk v
  | clo hx => exact .clo (hx.flat hf)
  | loc n off len v hv => exact .loc _ _ _ _ hv
  | ptr n e c v hv => exact .ptr _ _ _ _ hv
  | fn f c vs hl hr ih => simp only [Vs.flat] at hf; exact .fn _ _ _ hl fun j hj => ih j hj (flatL_getD hf)
  | agg c vs hl hr ih => simp only [Vs.flat] at hf; exact .agg _ _ hl fun j hj => ih j hj (flatL_getD hf)
  | tup c vs hl hr ih => simp only [Vs.flat] at hf; exact .tup _ _ hl fun j hj => ih j hj (flatL_getD hf)

def flatB : Blk → Prop
  | .var c _ => flatL c = true
  | .arr _ l _ => ∀ r, r ∈ l → flatL r = true

/-! ## contracts -/
def Hn (l : List (Option Blk)) : Name → Option Blk
  | .b j => l.getD j none
  | .t _ _ => none

def MutOf (ρ : Name → Option Nat) (hin : List Blk) (x : Nat) : Prop := ∃ j, j < hin.length ∧ ρ (.b j) = some x

structure Post (S : Nat → Prop) (w : World) (ρ : Name → Option Nat) (κ : Name → Nat) (hin : List Blk) (S' : Nat → Prop) (w' : World) (ρ' : Name → Option Nat) (κ' : Name → Nat) (hout : List (Option Blk)) : Prop where
  hok : HOK S' w' ρ' κ' (Hn hout)
  size : w.heap.size ≤ w'.heap.size
  old : ∀ b, b < w.heap.size → ¬ MutOf ρ hin b → w'.heap[b]? = w.heap[b]?
  sub : ∀ b, S b → S' b
  new : ∀ b, S' b → S b ∨ w.heap.size ≤ b ∨ MutOf ρ hin b
  mine : ∀ j x, (hout.getD j none).isSome → ρ' (.b j) = some x → w.heap.size ≤ x ∨ MutOf ρ hin x
  out : w'.os = w.os ∧ w'.output = w.output
  keep : ∀ j b', j < hin.length → hout.getD j none = some b' → ρ' (.b j) = ρ (.b j) ∧ κ' (.b j) = κ (.b j) ∧ ∃ b, hin[j]? = some b ∧ b.same b'

def HasBody (P : Program) (f : FuncId) : Prop := ∃ fn b, P.funcs[f]? = some fn ∧ fn.body = some b ∧ fn.name ≠ "runtime.NumGoroutine"

/-- WHAT A FUNCTION DOES: handed these values, and these blocks to write, it returns this value and leaves these blocks; all else is as it was. -/
def Fn (P : Program) (f : FuncId) (hin : List Blk) (args : List AV) (r : AV) (hout : List (Option Blk)) : Prop :=
  HasBody P f ∧ ∀ (S : Nat → Prop) (w : World) (ρ : Name → Option Nat) (κ : Name → Nat) (vs : Array Value), HOK S w ρ κ (Hn (hin.map some)) → (∀ b, b ∈ hin → b.fz = false) → vs.size = args.length →
    (∀ j, j < args.length → RV S w ρ κ (Hn (hin.map some)) (args.getD j .junk) (vs.getD j undef)) →
    Calls P f vs w fun e w' => ∃ v S' ρ' κ', e = .returned v ∧ Post S w ρ κ hin S' w' ρ' κ' hout ∧ RV S' w' ρ' κ' (Hn hout) r v

end Go.Vs
