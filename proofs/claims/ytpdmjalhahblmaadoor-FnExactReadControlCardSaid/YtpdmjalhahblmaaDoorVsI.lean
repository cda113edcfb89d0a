/- A name is forgotten; append. -/
import Derived.Test.YtpdmjalhahblmaaDoorVsH
namespace Go.Vs
set_option linter.unusedSectionVars false
variable [Envs]
variable {P : Program} {C : Ctx} {σ : FSt} {a : Act} {w : World} {S : Nat → Prop} {ρ : Name → Option Nat} {κ : Name → Nat} {h : Name → Option Blk}

def scr (n : Name) (x : AV) : AV := if x.has n then .junk else x

def scrB (n : Name) : Blk → Blk
  | .var c z => .var (c.map (scr n)) z
  | b => b

def killF (n : Name) (σ : FSt) : FSt := ⟨fun t => scr n (σ.s t), fun m => if m = n then none else (σ.h m).map (scrB n)⟩

theorem OK.kill (hok : OK C σ a w S ρ κ) (n : Name) : OK C (killF n σ) a w S ρ κ := by
  have hsame : ∀ c : Blk, c.same (scrB n c) := by
    intro c; cases c <;> simp [scrB, Blk.same]
  have hn : ∀ m, NameOK ρ ρ κ κ σ.h (killF n σ).h m := by
    intro m b' hb'
    simp only [killF] at hb'
    split at hb'
    · cases hb'
    · cases hm : σ.h m with
      | none => rw [hm] at hb'; cases hb'
      | some c =>
        rw [hm] at hb'
        simp only [Option.map_some, Option.some.injEq] at hb'
        subst hb'
        exact ⟨rfl, rfl, c, hm ▸ rfl, hsame c⟩
  have hrv : ∀ x v, RV S w ρ κ σ.h x v → RV S w ρ κ (killF n σ).h (scr n x) v := by
    intro x v hx
    unfold scr; split
    · exact .junk _
    · exact hx.mono (fun _ h => h) (fun _ _ => rfl) fun m _ => hn m
  have hsome : ∀ m, ((killF n σ).h m).isSome → (σ.h m).isSome := by
    intro m hm
    simp only [killF] at hm
    split at hm
    · cases hm
    · simpa using hm
  refine ⟨hok.nt, hok.defers, fun t => hrv _ _ (hok.slots t), ⟨fun m b' hb' => ?_, fun m m' y h1 h2 h3 h4 => hok.hok.inj m m' y (hsome m h1) (hsome m' h2) h3 h4, hok.hok.dom, hok.hok.env⟩, hok.size, hok.old,
    fun m y h1 h2 => hok.mine m y (hsome m h1) h2, hok.S0, hok.Snew, hok.out, fun j b' hb' => ?_⟩
  rotate_left
  · obtain ⟨_, _, c, h1, h2⟩ := hn (.b j) b' hb'
    obtain ⟨e1, e2, b0, h3, h4⟩ := hok.keep j c h1
    exact ⟨e1, e2, b0, h3, Blk.same_trans h4 h2⟩
  simp only [killF] at hb'
  split at hb'
  · cases hb'
  · cases hm : σ.h m with
    | none => rw [hm] at hb'; cases hb'
    | some c =>
      rw [hm] at hb'
      simp only [Option.map_some, Option.some.injEq] at hb'
      subst hb'
      have hc := hok.hok.blk m c hm
      cases c with
      | var c z =>
        obtain ⟨x, cs, T, fr, h1, h2, h3, h4, h4', h5, h6, h7⟩ := hc
        refine ⟨x, cs, T, fr, h1, h2, h3, h4, h4', h5, by simpa using h6, fun j hj => ?_⟩
        simp only [List.length_map] at hj
        have e : (c.map (scr n)).getD j .junk = scr n (c.getD j .junk) := by simp [List.getD, hj]
        rw [e]
        exact ⟨(h7 j hj).1, hrv _ _ (h7 j hj).2⟩
      | arr k l z => exact hc

/-- A block under a name that nothing bears; the block may be one that was there. -/
theorem OK.add2 (hok : OK C σ a w S ρ κ) {w' : World} {n : Name} (hf : FreshF n σ) {b : Blk} {ox : Option Nat} {kn : Nat} (hsz : w.heap.size ≤ w'.heap.size)
    (hw : ∀ y, y < w.heap.size → ox ≠ some y → w'.heap[y]? = w.heap[y]?) (ho : w'.os = w.os ∧ w'.output = w.output)
    (hox : ∀ x, ox = some x → (∀ m, (σ.h m).isSome → ρ m ≠ some x) ∧ ¬ S x ∧ (C.w0.heap.size ≤ x ∨ C.Mut x))
    (hb : ∀ ρ' κ' h', ρ' n = ox → κ' n = kn → (∀ m, m ≠ n → NameOK ρ ρ' κ κ' σ.h h' m) → BlkOK S w' ρ' κ' h' n b) :
    OK C ⟨σ.s, hput σ.h n (some b)⟩ a w' S (fun m => if m = n then ox else ρ m) (fun m => if m = n then kn else κ m) := by
  have hn : ∀ m, m ≠ n → NameOK ρ (fun m => if m = n then ox else ρ m) κ (fun m => if m = n then kn else κ m) σ.h (hput σ.h n (some b)) m := by
    intro m hm b' hb'
    simp only [hput, hm, if_false] at hb' ⊢
    exact ⟨trivial, trivial, b', hb', b'.same_refl⟩
  have hSw : ∀ y, S y → w'.heap[y]? = w.heap[y]? := fun y hy => hw y (hok.hok.dom y hy) fun e => (hox y e).2.1 hy
  refine ⟨hok.nt, hok.defers, fun t => ?_, ⟨fun m c hc => ?_, fun m m' y h1 h2 h3 h4 => ?_, fun y hy => Nat.lt_of_lt_of_le (hok.hok.dom y hy) hsz, hok.hok.env.mono (fun _ h => h) hSw⟩, Nat.le_trans hok.size hsz, fun y hy hm => ?_, fun m y h1 h2 => ?_, hok.S0, hok.Snew, ⟨ho.1.trans hok.out.1, ho.2.trans hok.out.2⟩, fun j c hc => ?_⟩
  rotate_right
  · have e : Name.b j ≠ n := fun e => hf.1.2 j e.symm
    simp only [hput, e, if_false] at hc ⊢
    exact hok.keep j c hc
  · refine (hok.slots t).mono (fun _ h => h) hSw fun m hm => hn m ?_
    rintro rfl
    rw [hf.2.1 t] at hm; cases hm
  · by_cases hmn : m = n
    · subst hmn
      simp only [hput, if_true] at hc
      obtain rfl := Option.some.inj hc
      exact hb _ _ _ (by simp) (by simp) hn
    · simp only [hput, hmn, if_false] at hc
      refine (hok.hok.blk m c hc).mono (fun _ h => h) (fun _ _ h => h) hSw (fun y hy => hw y (hok.hok.lt (by simp [hc]) hy) fun e => (hox y e).1 m (by simp [hc]) hy) (by simp [hmn]) (by simp [hmn]) fun m' hm' => hn m' ?_
      rintro rfl
      rw [hf.2.2 m c hc] at hm'; cases hm'
  · by_cases e1 : m = n <;> by_cases e2 : m' = n
    · rw [e1, e2]
    · simp only [e1, if_true] at h3
      simp only [hput, e2, if_false] at h2 h4
      exact absurd h4 ((hox y h3).1 m' h2)
    · simp only [e2, if_true] at h4
      simp only [hput, e1, if_false] at h1 h3
      exact absurd h3 ((hox y h4).1 m h1)
    · simp only [hput, e1, e2, if_false] at h1 h2 h3 h4
      exact hok.hok.inj m m' y h1 h2 h3 h4
  · by_cases e : ox = some y
    · rcases (hox y e).2.2 with h | h
      · omega
      · exact absurd h hm
    · rw [hw y (Nat.lt_of_lt_of_le hy hok.size) e]; exact hok.old y hy hm
  · by_cases e : m = n
    · simp only [e, if_true] at h2
      exact (hox y h2).2.2
    · simp only [hput, e, if_false] at h1 h2
      exact hok.mine m y h1 h2

theorem rows_of {x : AV} {v : Value} (hok : HOK S w ρ κ h) (hx : RV S w ρ κ h x v) {k : Nat} {l : List (List AV)} (hl : rowsO k h x = some l) :
    ∃ base cap, v = .slice base l.length cap ∧ (∀ i, i < l.length → (l.getD i []).length = k) ∧
      ∃ b off, (l ≠ [] → base = some ⟨b, off, none⟩ ∧ b < w.heap.size) ∧ ∀ i j, i < l.length → j < k → ∃ u, w.cell? ⟨b, off + (i * k + j), none⟩ = some u ∧ u.oneCell' = true ∧ RC S w ((l.getD i []).getD j .junk) u := by
  unfold rowsO at hl
  split at hl
  · rename_i k' l'
    split at hl
    · rename_i hk; subst hk
      obtain rfl := Option.some.inj hl
      cases inv_sl hx with
      | sl _ _ base cap b off xs hb hc ho hr hk hcap =>
        exact ⟨base, cap, rfl, hk, b, off, fun hne => ⟨(hb hne).1, hok.dom _ (hb hne).2⟩, fun i j hi hj => ⟨_, hc i j hi hj, ho i j hi hj, hr i j hi hj⟩⟩
    · cases hl
  · rename_i n off len
    split at hl
    · rename_i k' l' z hb
      split at hl
      · rename_i hk; subst hk
        obtain rfl := Option.some.inj hl
        obtain ⟨hle, base, cap, rfl, hlc, hcap, hbase, _⟩ := inv_loc hx _ _ _ hb
        have hlen : ((l'.drop off).take len).length = len := by simp; omega
        have hget : ∀ i, i < len → ((l'.drop off).take len).getD i [] = l'.getD (off + i) [] := by
          intro i hi; simp [List.getD, hi]
        obtain ⟨h0, h1⟩ := hok.blk n _ hb
        refine ⟨base, cap, by rw [hlen], fun i hi => ?_, ?_⟩
        · rw [hlen] at hi; rw [hget i hi]; exact h0 _ (by omega)
        · rcases h1 with ⟨h1, h2⟩ | ⟨x, cs, T, fr, h1, h2, h3, h4, _, h5, h6, h7⟩
          · subst h2
            simp only [List.length_nil] at hle
            exact ⟨0, 0, fun hne => absurd (List.length_eq_zero_iff.1 (by rw [hlen]; omega)) hne, fun i j hi => by rw [hlen] at hi; omega⟩
          · refine ⟨x, off * k', fun hne => ?_, fun i j hi hj => ?_⟩
            · have hpos : 0 < len := by
                rcases Nat.eq_zero_or_pos len with h0 | h0
                · exact absurd (List.length_eq_zero_iff.1 (by rw [hlen]; exact h0)) hne
                · exact h0
              obtain ⟨y, hy, rfl⟩ := hbase hpos
              obtain rfl := Option.some.inj (h1.symm.trans hy)
              exact ⟨rfl, lt_of_heap h2⟩
            · rw [hlen] at hi
              have := h7 (off + i) j (by omega) hj
              have hlt : (off + i) * k' + j < cs.size := by
                have : (off + i + 1) * k' ≤ l'.length * k' := Nat.mul_le_mul_right _ (by omega)
                rw [Nat.succ_mul] at this; omega
              rw [hget i hi]
              have e : off * k' + (i * k' + j) = (off + i) * k' + j := by rw [Nat.add_mul]; omega
              exact ⟨_, by rw [e]; exact cell_of_row h2 hlt, this⟩
      · cases hl
    · cases hl
  · obtain rfl := Option.some.inj hl
    obtain rfl := inv_v hx
    exact ⟨none, 0, rfl, by simp, 0, 0, by simp, by simp⟩
  · cases hl

/-- the m-th cell of rows -/
def rowCell (k : Nat) (l : List (List AV)) (m : Nat) : AV := (l.getD (m / k) []).getD (m % k) .junk

theorem div_lt_rows {k n m : Nat} (h : m < n * k) : m / k < n ∧ m % k < k ∧ m / k * k + m % k = m := by
  have hk : 0 < k := by
    rcases Nat.eq_zero_or_pos k with h0 | h0
    · subst h0; omega
    · exact h0
  refine ⟨(Nat.div_lt_iff_lt_mul hk).2 h, Nat.mod_lt _ hk, ?_⟩
  have := Nat.div_add_mod m k
  rw [Nat.mul_comm] at this; exact this

/-- A slice whose first cells are these. -/
structure Reads (S : Nat → Prop) (w : World) (base : Option Addr) (k : Nat) (l : List (List AV)) (f : Nat → Value) : Prop where
  rows : ∀ i, i < l.length → (l.getD i []).length = k
  cell : ∀ w' : World, w'.heap = w.heap → ∀ m, m < l.length * k → ∃ b off, base = some ⟨b, off, none⟩ ∧ w'.cell? ⟨b, off + m, none⟩ = some (f m)
  one : ∀ m, m < l.length * k → (f m).oneCell' = true
  rc : ∀ m, m < l.length * k → RC S w (rowCell k l m) (f m)

theorem reads_of {x : AV} {v : Value} (hok : HOK S w ρ κ h) (hx : RV S w ρ κ h x v) {k : Nat} {l : List (List AV)} (hl : rowsO k h x = some l) :
    ∃ base cap f, v = .slice base l.length cap ∧ Reads S w base k l f := by
  obtain ⟨base, cap, rfl, hrow, b, off, hb, hc⟩ := rows_of hok hx hl
  refine ⟨base, cap, fun m => (w.cell? ⟨b, off + m, none⟩).getD undef, rfl, hrow, fun w' hw m hm => ?_, fun m hm => ?_, fun m hm => ?_⟩
  all_goals
    obtain ⟨h1, h2, h3⟩ := div_lt_rows hm
    obtain ⟨u, hu, ho, hr⟩ := hc _ _ h1 h2
    rw [h3] at hu
  · refine ⟨b, off, (hb (by rintro rfl; simp at hm)).1, ?_⟩
    have : w'.cell? ⟨b, off + m, none⟩ = w.cell? ⟨b, off + m, none⟩ := by simp [World.cell?, hw]
    rw [this, hu]; rfl
  · simp only [hu, Option.getD_some]; exact ho
  · simp only [hu, Option.getD_some]; exact hr

theorem Reads.first {base : Option Addr} {k : Nat} {l : List (List AV)} {f : Nat → Value} (hr : Reads S w base k l f) (cap : Nat) {w' : World} (hw : w'.heap = w.heap) :
    (Builtin.firstCells k l.length (.slice base l.length cap)).run P w' = .ok ((List.range (l.length * k)).map f).toArray w' := by
  cases base with
  | none =>
    have : l.length * k = 0 := by
      rcases Nat.eq_zero_or_pos (l.length * k) with h | h
      · exact h
      · obtain ⟨_, _, h, _⟩ := hr.cell w rfl 0 h; cases h
    simp [Builtin.firstCells, this]
  | some b =>
    simp only [Builtin.firstCells]
    refine run_loadCells w' b (l.length * k) f fun j hj => ?_
    obtain ⟨x, off, h1, h2⟩ := hr.cell w' hw j hj
    obtain rfl := Option.some.inj h1
    rw [addr_add]; exact h2

theorem rowCell_append {k : Nat} {l l' : List (List AV)} {m : Nat} (hm : m < (l ++ l').length * k) :
    rowCell k (l ++ l') m = if m < l.length * k then rowCell k l m else rowCell k l' (m - l.length * k) := by
  obtain ⟨h1, h2, h3⟩ := div_lt_rows hm
  have hk : 0 < k := by omega
  unfold rowCell
  by_cases h : m < l.length * k
  · rw [if_pos h]
    have := (Nat.div_lt_iff_lt_mul hk).2 h
    simp [List.getD, List.getElem?_append_left this]
  · rw [if_neg h]
    have hge : l.length ≤ m / k := (Nat.le_div_iff_mul_le hk).2 (by omega)
    have e1 : (m - l.length * k) / k = m / k - l.length := by rw [Nat.mul_comm]; exact Nat.sub_mul_div _ _ _
    have e2 : (m - l.length * k) % k = m % k := by rw [Nat.mul_comm]; exact Nat.sub_mul_mod (by rw [Nat.mul_comm]; omega)
    rw [e1, e2]
    simp [List.getD, List.getElem?_append_right hge]

theorem arr_of_cells {k : Nat} {l : List (List AV)} {cs : Array Value} (hc : ∀ m, m < l.length * k → (cs.getD m undef).oneCell' = true ∧ RC S w (rowCell k l m) (cs.getD m undef)) :
    ∀ i j, i < l.length → j < k → (cs.getD (i * k + j) undef).oneCell' = true ∧ RC S w ((l.getD i []).getD j .junk) (cs.getD (i * k + j) undef) := by
  intro i j hi hj
  have hlt : i * k + j < l.length * k := by
    have : (i + 1) * k ≤ l.length * k := Nat.mul_le_mul_right _ hi
    rw [Nat.succ_mul] at this; omega
  have := hc _ hlt
  unfold rowCell at this
  have e1 : (i * k + j) / k = i := by
    rw [Nat.mul_comm, Nat.mul_add_div (by omega), Nat.div_eq_of_lt hj]; omega
  have e2 : (i * k + j) % k = j := by rw [Nat.mul_comm, Nat.mul_add_mod, Nat.mod_eq_of_lt hj]
  rw [e1, e2] at this
  exact this

/-- What append starts from: nothing, or a row of the walk's own, all of it. -/
def baseO (k : Nat) (h : Name → Option Blk) : AV → Option (Option Name × List (List AV))
  | .v (.slice none 0 0) => some (none, [])
  | .loc n off len => match h n with
    | some (.arr k' l z) => if k' = k ∧ off = 0 ∧ len = l.length ∧ z = false then some (some n, l) else none
    | _ => none
  | _ => none

def killO : Option Name → FSt → FSt
  | some n, σ => killF n σ
  | none, σ => σ

def wrA (k bytes : Nat) (σ : FSt) (d : Name) (A X : Operand) (K : FSt → AV → Prop) : Prop :=
  match baseO k σ.h (evO σ.s A), rowsO k σ.h (evO σ.s X) with
  | some (on, l), some l' => ((l.length + l'.length) * bytes ≤ 2 ^ 47 ∧ l.length + l'.length < 2 ^ 62) ∧
      K ⟨(killO on σ).s, hput (killO on σ).h d (some (.arr k (l ++ l') false))⟩ (.loc d 0 (l.length + l'.length))
  | _, _ => False

theorem wr_append (hok : OK C σ a w S ρ κ) {t t2 e e2 : TypeId} {ty : TypeId} {i : TypeInfo} {zv : Value} (hu : P.underlying t = some (.slice e)) (hu2 : P.underlying t2 = some (.slice e2)) (hi : P.info? e = some i) (hz : i.zero = some zv) (hzs : zv.cells.size = i.size) {A X : Operand} {d : Name} {K : FSt → AV → Prop}
    (hf : ∀ on l, baseO i.size σ.h (evO σ.s A) = some (on, l) → FreshF d (killO on σ)) (hv : wrA i.size i.bytes σ d A X K) :
    ∃ σ' x v w' ρ' κ', K σ' x ∧ (Builtin.append_ #[t, t2] ty #[a.eval A, a.eval X]).run P w = .ok v w' ∧ OK C σ' a w' S ρ' κ' ∧ RV S w' ρ' κ' σ'.h x v := by
  have hA := hok.ev A
  have hX := hok.ev X
  generalize a.eval A = va at hA ⊢
  generalize a.eval X = vx at hX ⊢
  simp only [wrA] at hv
  split at hv
  · rename_i on l l' hbo hro
    obtain ⟨⟨hby, hln⟩, hK⟩ := hv
    have hfr := hf _ _ hbo
    obtain ⟨xb, xc, f', rfl, hR'⟩ := reads_of hok.hok hX hro
    -- the base
    have hbase : ∃ base cap f, va = .slice base l.length cap ∧ Reads S w base i.size l f ∧ cap < 2 ^ 63 ∧
        ((on = none ∧ base = none ∧ cap = 0 ∧ l = []) ∨ ∃ n z, on = some n ∧ σ.h n = some (.arr i.size l false) ∧ z = () ∧ ((ρ n = none ∧ base = none ∧ cap = 0) ∨ ∃ x, ρ n = some x ∧ base = some ⟨x, 0, none⟩ ∧ cap * i.size ≤ κ n)) := by
      unfold baseO at hbo
      split at hbo
      · rename_i hev
        simp only [Option.some.injEq, Prod.mk.injEq] at hbo
        obtain ⟨rfl, rfl⟩ := hbo
        rw [hev] at hA
        obtain rfl := inv_v hA
        exact ⟨none, 0, fun _ => undef, rfl, ⟨by simp, by simp, by simp, by simp⟩, by omega, .inl ⟨rfl, rfl, rfl, rfl⟩⟩
      · rename_i n off len hev
        split at hbo
        · rename_i k' l2 z hb
          split at hbo
          · rename_i hcond
            obtain ⟨rfl, rfl, rfl, rfl⟩ := hcond
            simp only [Option.some.injEq, Prod.mk.injEq] at hbo
            obtain ⟨rfl, rfl⟩ := hbo
            rw [hev] at hA
            have hro' : rowsO i.size σ.h (.loc n 0 l2.length) = some l2 := by simp [rowsO, hb]
            obtain ⟨base, cap, f, hva, hR⟩ := reads_of hok.hok hA hro'
            obtain ⟨_, base', cap', hva', _, hcap, _, hfull⟩ := inv_loc hA _ _ _ hb
            rw [hva] at hva'
            simp only [Value.slice.injEq, true_and] at hva'
            obtain ⟨rfl, rfl⟩ := hva'
            exact ⟨base, cap, f, hva, hR, hcap, .inr ⟨n, (), rfl, hb, rfl, hfull rfl rfl⟩⟩
          · cases hbo
        · cases hbo
      · cases hbo
    obtain ⟨base, cap, f, rfl, hR, hcap, hcase⟩ := hbase
    have hokk : OK C (killO on σ) a w S ρ κ := by
      cases on with
      | none => exact hok
      | some n => exact hok.kill n
    have hrows : ∀ j, j < (l ++ l').length → ((l ++ l').getD j []).length = i.size := by
      intro j hj
      simp only [List.length_append] at hj
      by_cases h1 : j < l.length
      · simpa [List.getD, List.getElem?_append_left h1] using hR.rows j h1
      · simpa [List.getD, List.getElem?_append_right (Nat.le_of_not_lt h1)] using hR'.rows (j - l.length) (by omega)
    have hfirst' := fun w' hw => hR'.first (P := P) xc (w' := w') hw
    have hfirst := fun w' hw => hR.first (P := P) cap (w' := w') hw
    have hcellsN : (l ++ l').length * i.size = l.length * i.size + l'.length * i.size := by rw [List.length_append, Nat.add_mul]
    have hone' : ∀ v ∈ (List.range (l'.length * i.size)).map f', v.oneCell' = true := by
      intro v hv
      obtain ⟨m, hm, rfl⟩ := List.mem_map.1 hv
      exact hR'.one m (by simpa using hm)
    by_cases hroom : l.length + l'.length ≤ cap
    · -- there is room: the row is written where it lies, or nothing is written
      have hnil : base = none → cap = 0 → l = [] → ∃ σ' x v w' ρ' κ', K σ' x ∧ (Builtin.append_ #[t, t2] ty #[.slice base l.length cap, .slice xb l'.length xc]).run P w = .ok v w' ∧ OK C σ' a w' S ρ' κ' ∧ RV S w' ρ' κ' σ'.h x v := by
        rintro rfl rfl rfl
        obtain rfl : l' = [] := by simpa using hroom
        have hff := hfirst' w rfl
        simp only [List.length_nil, Nat.zero_mul, List.range_zero, List.map_nil] at hff
        refine ⟨_, _, .slice none 0 0, w, _, _, hK, ?_, hokk.add2 hfr (b := .arr i.size [] false) (ox := none) (kn := 0) (Nat.le_refl _) (fun _ _ _ => rfl) ⟨rfl, rfl⟩ (by simp) (fun ρ' κ' h' e1 e2 _ => ⟨by simp, .inl ⟨e1, rfl⟩⟩), ?_⟩
        · simp [Builtin.append_, run_underlying hu, run_underlying hu2, sizeOf, typeInfo, hi, Builtin.lenOf, hff]
        · refine .loc _ _ _ _ fun k' l2 z hb => ?_
          simp only [hput, if_true, Option.some.injEq, Blk.arr.injEq] at hb
          obtain ⟨rfl, rfl, rfl⟩ := hb
          exact ⟨by simp, none, 0, rfl, by omega, by omega, fun h => absurd h (by simp), fun _ _ => .inl ⟨by simp, rfl, rfl⟩⟩
      rcases hcase with ⟨rfl, hbn, hc0, hl0⟩ | ⟨n, _, rfl, hb, _, ⟨hρ, hbn, hc0⟩ | ⟨x, hρ, rfl, hck⟩⟩
      · exact hnil hbn hc0 hl0
      · obtain ⟨_, ⟨_, hl0⟩ | ⟨x, _, _, _, hx, _⟩⟩ := hok.hok.blk n _ hb
        · exact hnil hbn hc0 hl0
        · rw [hρ] at hx; cases hx
      · -- written in place
        obtain ⟨hk0, ⟨h1, h2⟩ | ⟨y, cur, T, fr, h1, h2, h3, h4, _, h5, h6, h7⟩⟩ := hok.hok.blk n _ hb
        · rw [hρ] at h1; cases h1
        obtain rfl := Option.some.inj (hρ.symm.trans h1)
        have hfit : l.length * i.size + l'.length * i.size ≤ cur.size := by
          rw [h5, ← Nat.add_mul]
          exact Nat.le_trans (Nat.mul_le_mul_right _ hroom) hck
        have hst := run_storeCells (P := P) (o := l.length * i.size) ((List.range (l'.length * i.size)).map f') 0 cur w h2 h3 (by simp; omega) hone'
        simp only [Nat.add_zero] at hst
        have hff := hfirst' w rfl
        have hS : ¬ S x := h4 rfl
        have hsz : (layV cur (l.length * i.size) ((List.range (l'.length * i.size)).map f')).size = cur.size := size_layV _ _ _
        have hget := fun m => getD_layV ((List.range (l'.length * i.size)).map f') cur (l.length * i.size) m (by simp; omega)
        simp only [List.length_map, List.length_range] at hget
        refine ⟨_, _, .slice (some ⟨x, 0, none⟩) (l.length + l'.length) cap, setBlk w x (.cells (layV cur (l.length * i.size) ((List.range (l'.length * i.size)).map f')) T fr), _, _, hK, ?_,
          hokk.add2 hfr (b := .arr i.size (l ++ l') false) (ox := some x) (kn := κ n) (by rw [setBlk_size]; exact Nat.le_refl _) (fun y _ hne => setBlk_ne _ _ (fun e => hne (e ▸ rfl))) ⟨rfl, rfl⟩ ?_ ?_, ?_⟩
        · simp [Builtin.append_, run_underlying hu, run_underlying hu2, sizeOf, typeInfo, hi, Builtin.lenOf, hff, hroom, addr_add, hst]
        · intro x' hx'
          obtain rfl := Option.some.inj hx'
          refine ⟨fun m hm he => ?_, hS, hok.mine n x (by simp [hb]) hρ⟩
          simp only [killO, killF] at hm
          split at hm
          · cases hm
          · rename_i hmn
            exact hmn (hok.hok.inj m n x (by simpa using hm) (by simp [hb]) he hρ)
        · intro ρ' κ' h' e1 e2 _
          refine ⟨hrows, .inr ⟨x, _, T, fr, e1, setBlk_eq _ h2, by rw [hsz]; exact h3, fun _ => hS, by simp, by rw [hsz, h5, e2], by rw [hcellsN, hsz]; exact hfit, arr_of_cells fun m hm => ?_⟩⟩
          have hSw : ∀ y, S y → (setBlk w x (.cells (layV cur (l.length * i.size) ((List.range (l'.length * i.size)).map f')) T fr)).heap[y]? = w.heap[y]? := fun y hy => setBlk_ne _ _ (fun e => hS (e ▸ hy))
          rw [rowCell_append hm, hget m]
          rw [hcellsN] at hm
          by_cases hml : m < l.length * i.size
          · rw [if_pos hml, if_neg (by omega)]
            obtain ⟨g1, g2, g3⟩ := div_lt_rows hml
            have := h7 _ _ g1 g2
            rw [g3] at this
            exact ⟨this.1, this.2.mono (fun _ h => h) hSw⟩
          · rw [if_neg hml, if_pos (by omega)]
            have hm' : m - l.length * i.size < l'.length * i.size := by omega
            have e : ((List.range (l'.length * i.size)).map f').getD (m - l.length * i.size) undef = f' (m - l.length * i.size) := by simp [List.getD, hm']
            rw [e]
            exact ⟨hR'.one _ hm', (hR'.rc _ hm').mono (fun _ h => h) hSw⟩
        · refine .loc _ _ _ _ fun k' l2 z hb2 => ?_
          simp only [hput, if_true, Option.some.injEq, Blk.arr.injEq] at hb2
          obtain ⟨rfl, rfl, rfl⟩ := hb2
          refine ⟨by simp, _, _, rfl, hroom, hcap, fun _ => ⟨x, by simp, by simp⟩, fun _ _ => .inr ⟨x, by simp, rfl, by simpa using hck⟩⟩
    · -- it grows
      have hgrow : cap < l.length + l'.length := by omega
      have hff := hfirst' w.drew rfl
      have hff0 := hfirst w.drew rfl
      have hfits := growslice_fits (bytes := i.bytes) hgrow (by omega)
      have n63 : ¬ (9223372036854775807 < (l.length : Int) + (l'.length : Int)) := by omega
      have n48 : ¬ (281474976710656 < Builtin.nextslicecap (l.length + l'.length) cap * i.bytes) := by omega
      have hn : ¬ (l.length + l'.length ≤ cap) := by omega
      have hge := grownCap_ge w (l.length + l'.length) cap e
      have hle := grownCap_le_maxLen w (l.length + l'.length) cap e (by unfold maxLen; omega)
      unfold maxLen at hle
      have hszz := size_zeroCells zv.cells (grownCap w (l.length + l'.length) cap e - (l.length + l'.length))
      generalize hcsd : ((List.range (l.length * i.size)).map f).toArray ++ ((List.range (l'.length * i.size)).map f').toArray ++ Builtin.zeroCells zv.cells (grownCap w (l.length + l'.length) cap e - (l.length + l'.length)) = cs
      have hcsz : cs.size = grownCap w (l.length + l'.length) cap e * i.size := by
        rw [← hcsd]
        simp only [Array.size_append, List.size_toArray, List.length_map, List.length_range, hszz, hzs]
        rw [← Nat.add_mul, ← Nat.add_mul]
        congr 1; omega
      have hget : ∀ m, m < l.length * i.size + l'.length * i.size → cs.getD m undef = if m < l.length * i.size then f m else f' (m - l.length * i.size) := by
        intro m hm
        rw [← hcsd]
        by_cases h1 : m < l.length * i.size
        · rw [if_pos h1]
          simp [Array.getElem?_append, h1, show m < l.length * i.size + l'.length * i.size by omega]
        · rw [if_neg h1]
          simp [Array.getElem?_append, hm, List.getElem_append, h1]
      have hex : Ext w (w.drew.alloc (.cells cs e)) := (Ext.of_heap (w' := w.drew) rfl rfl rfl).trans (Ext.push w.drew _)
      obtain ⟨ρ', κ', hok', hrv⟩ := hokk.addArr hex hfr (k := i.size) (l := l ++ l') (cs := cs) (T := e) (fr := (0, 0)) (x := w.heap.size) (cap := grownCap w (l.length + l'.length) cap e) (Nat.le_refl _) (heap_push w.drew _) (fun j _ hj => by omega)
        hrows (by rw [hcsz, List.length_append]; exact Nat.mul_le_mul_right _ hge) (arr_of_cells fun m hm => by
          rw [rowCell_append hm]
          rw [hcellsN] at hm
          rw [hget m hm]
          by_cases h1 : m < l.length * i.size
          · rw [if_pos h1, if_pos h1]; exact ⟨hR.one _ h1, hR.rc _ h1⟩
          · rw [if_neg h1, if_neg h1]; exact ⟨hR'.one _ (by omega), hR'.rc _ (by omega)⟩) ⟨by rw [List.length_append]; exact hge, by omega, by rw [hcsz]; exact Nat.le_refl _⟩
      refine ⟨_, _, _, _, ρ', κ', hK, ?_, hok', by rw [← List.length_append]; exact hrv⟩
      simp [Builtin.append_, run_underlying hu, run_underlying hu2, sizeOf, typeInfo, zeroValue, hi, hz, Builtin.lenOf, hn, n63, n48, Question.forced, hff, hff0, newRow]
      rw [← hcsd]
      exact ⟨rfl, by rw [Array.append_assoc]; rfl⟩
  · exact hv.elim
end Go.Vs
