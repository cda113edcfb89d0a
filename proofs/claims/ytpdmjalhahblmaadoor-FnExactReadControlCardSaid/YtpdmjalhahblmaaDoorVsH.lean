/- The operations that write: stores, append. -/
import Derived.Test.YtpdmjalhahblmaaDoorVsG
import Derived.Laws.Append
import Derived.Laws.AppendOwn
namespace Go.Vs
set_option linter.unusedSectionVars false
variable [Envs]
variable {P : Program} {C : Ctx} {σ : FSt} {a : Act} {w : World} {S : Nat → Prop} {ρ : Name → Option Nat} {κ : Name → Nat} {h : Name → Option Blk}

def setBlk (w : World) (x : Nat) (o : Obj) : World := { w with heap := w.heap.setIfInBounds x o }

theorem setBlk_size (w : World) (x : Nat) (o : Obj) : (setBlk w x o).heap.size = w.heap.size := by simp [setBlk]
theorem setBlk_ne (w : World) {x y : Nat} (o : Obj) (hne : y ≠ x) : (setBlk w x o).heap[y]? = w.heap[y]? := by
  simp [setBlk, Array.getElem?_setIfInBounds_ne (Ne.symm hne)]
theorem lt_of_heap {w : World} {x : Nat} {o : Obj} (h : w.heap[x]? = some o) : x < w.heap.size := by
  rcases Nat.lt_or_ge x w.heap.size with h' | h'
  · exact h'
  · simp [Array.getElem?_eq_none h'] at h
theorem setBlk_eq {w : World} {x : Nat} {o' : Obj} (o : Obj) (hx : w.heap[x]? = some o') : (setBlk w x o).heap[x]? = some o := by
  simp [setBlk, lt_of_heap hx]

def layV : Array Value → Nat → List Value → Array Value
  | cs, _, [] => cs
  | cs, o, v :: r => layV (cs.setIfInBounds o v) (o + 1) r

theorem size_layV : ∀ (vs : List Value) (cs : Array Value) (o : Nat), (layV cs o vs).size = cs.size
  | [], _, _ => rfl
  | v :: r, cs, o => by rw [layV, size_layV r]; simp

theorem getD_layV : ∀ (vs : List Value) (cs : Array Value) (o j : Nat), o + vs.length ≤ cs.size → (layV cs o vs).getD j undef = if o ≤ j ∧ j < o + vs.length then vs.getD (j - o) undef else cs.getD j undef
  | [], cs, o, j, _ => by
    have : ¬ (o ≤ j ∧ j < o + ([] : List Value).length) := by simp
    rw [layV, if_neg this]
  | x :: r, cs, o, j, h => by
    simp only [List.length_cons] at h
    rw [layV, getD_layV r _ _ _ (by simp; omega)]
    simp only [List.length_cons]
    by_cases h1 : o + 1 ≤ j ∧ j < o + 1 + r.length
    · rw [if_pos h1, if_pos (by omega)]
      have : j - o = (j - (o + 1)) + 1 := by omega
      rw [this]; simp
    · rw [if_neg h1]
      by_cases h2 : j = o
      · subst h2
        rw [if_pos (by omega)]
        simp [show j < cs.size by omega]
      · rw [if_neg (by omega)]
        simp [Array.getElem?_setIfInBounds_ne (Ne.symm h2)]

theorem setCell_blk {x o : Nat} {cs : Array Value} {T : TypeId} {fr : Nat × Nat} (hx : w.heap[x]? = some (.cells cs T fr)) (v : Value) :
    w.setCell ⟨x, o, none⟩ v = setBlk w x (.cells (cs.setIfInBounds o v) T fr) := by
  unfold World.setCell setBlk
  congr 1
  apply Array.ext_getElem?
  intro i
  by_cases hi : i = x
  · subst hi
    have hlt := lt_of_heap hx
    have : w.heap[i] = .cells cs T fr := by simpa [hlt] using hx
    simp [Array.getElem_modify, hlt, this]
  · simp [Array.getElem?_modify, Array.getElem?_setIfInBounds_ne (Ne.symm hi), Ne.symm hi]

theorem setBlk_setBlk (w : World) (x : Nat) (o o' : Obj) : setBlk (setBlk w x o) x o' = setBlk w x o' := by
  unfold setBlk
  simp

theorem run_storeCells {x o : Nat} {T : TypeId} {fr : Nat × Nat} : ∀ (vs : List Value) (i : Nat) (cs : Array Value) (w : World), w.heap[x]? = some (.cells cs T fr) → Thaw fr cs.size →
    o + i + vs.length ≤ cs.size → (∀ v ∈ vs, v.oneCell' = true) → (storeCells ⟨x, o, none⟩ vs i).run P w = .ok () (setBlk w x (.cells (layV cs (o + i) vs) T fr))
  | [], i, cs, w, hx, _, _, _ => by
    have : setBlk w x (.cells cs T fr) = w := by
      unfold setBlk
      have hlt := lt_of_heap hx
      have h1 : w.heap[x] = .cells cs T fr := by simpa [hlt] using hx
      congr 1
      rw [← h1]
      apply Array.ext_getElem?
      intro j
      by_cases hj : j = x
      · subst hj; simp [hlt]
      · simp [Array.getElem?_setIfInBounds_ne (Ne.symm hj)]
    simp [storeCells, layV, this]
  | v :: r, i, cs, w, hx, ht, hl, h1 => by
    simp only [List.length_cons] at hl
    have hcell : w.cell? ⟨x, o + i, none⟩ = some (cs.getD (o + i) undef) := cell_of_row hx (by omega)
    have hfr : w.frozen? ⟨x, o + i, none⟩ = false := by
      have := ht (o + i) (by omega)
      simp only [World.frozen?, hx]
      simp only [Bool.and_eq_false_iff, decide_eq_false_iff_not]
      by_cases h : fr.1 ≤ o + i
      · exact .inr (fun h' => this ⟨h, h'⟩)
      · exact .inl h
    have hs := run_store P w ⟨x, o + i, none⟩ v .plain (h1 v (by simp))
    rw [hcell] at hs
    simp only [hfr, Bool.false_eq_true, if_false] at hs
    rw [setCell_blk hx] at hs
    simp only [storeCells, addr_add, Sem.run_bind, hs, Result.andThen_ok]
    have hx' := setBlk_eq (.cells (cs.setIfInBounds (o + i) v) T fr) hx
    rw [run_storeCells r (i + 1) (cs.setIfInBounds (o + i) v) _ hx' (by simpa using ht) (by simp; omega) (fun u hu => h1 u (by simp [hu])), setBlk_setBlk]
    rfl

/-- A block's content is written, its shape stays. -/
theorem OK.write (hok : OK C σ a w S ρ κ) {n : Name} {b b' : Blk} {x : Nat} {w' : World} (hb : σ.h n = some b) (hx : ρ n = some x) (hS : ¬ S x) (hsz : w'.heap.size = w.heap.size)
    (hw : ∀ y, y ≠ x → w'.heap[y]? = w.heap[y]?) (ho : w'.os = w.os ∧ w'.output = w.output) (hsame : b.same b')
    (hbk : ∀ h', (∀ m, NameOK ρ ρ κ κ σ.h h' m) → BlkOK S w' ρ κ h' n b') : OK C ⟨σ.s, hput σ.h n (some b')⟩ a w' S ρ κ := by
  have hn : ∀ m, NameOK ρ ρ κ κ σ.h (hput σ.h n (some b')) m := by
    intro m c hc
    by_cases hm : m = n
    · subst hm
      simp only [hput, if_true] at hc
      obtain rfl := Option.some.inj hc
      exact ⟨rfl, rfl, b, hb, hsame⟩
    · simp only [hput, hm, if_false] at hc
      exact ⟨rfl, rfl, c, hc, c.same_refl⟩
  have hSw : ∀ y, S y → w'.heap[y]? = w.heap[y]? := fun y hy => hw y (fun e => hS (e ▸ hy))
  refine ⟨hok.nt, hok.defers, fun t => (hok.slots t).mono (fun _ h => h) hSw fun m _ => hn m, ⟨fun m c hc => ?_, fun m m' y h1 h2 h3 h4 => ?_, fun y hy => (by rw [hsz]; exact hok.hok.dom y hy), hok.hok.env.mono (fun _ h => h) hSw⟩,
    (by rw [hsz]; exact hok.size), fun y hy hm => ?_, fun m y h1 h2 => ?_, hok.S0, hok.Snew, ⟨ho.1.trans hok.out.1, ho.2.trans hok.out.2⟩, fun j c hc => ?_⟩
  rotate_right
  · obtain ⟨_, _, c0, h1, h2⟩ := hn (.b j) c hc
    obtain ⟨e1, e2, b0, h3, h4⟩ := hok.keep j c0 h1
    exact ⟨e1, e2, b0, h3, Blk.same_trans h4 h2⟩
  · by_cases hm : m = n
    · subst hm
      simp only [hput, if_true] at hc
      obtain rfl := Option.some.inj hc
      exact hbk _ hn
    · simp only [hput, hm, if_false] at hc
      refine (hok.hok.blk m c hc).mono (fun _ h => h) (fun _ _ h => h) hSw (fun y hy => hw y ?_) rfl rfl fun m' _ => hn m'
      rintro rfl
      exact hm (hok.hok.inj m n y (by simp [hc]) (by simp [hb]) hy hx)
  · have key : ∀ m, (hput σ.h n (some b') m).isSome → (σ.h m).isSome := by
      intro m hm'
      by_cases hm : m = n
      · subst hm; simp [hb]
      · simpa [hput, hm] using hm'
    exact hok.hok.inj m m' y (key m h1) (key m' h2) h3 h4
  · rcases hok.mine n x (by simp [hb]) hx with h | h
    · rw [hw y (by omega)]; exact hok.old y hy hm
    · rw [hw y (fun e => hm (e ▸ h))]; exact hok.old y hy hm
  · by_cases hm : m = n
    · subst hm; exact hok.mine m y (by simp [hb]) h2
    · simp only [hput, hm, if_false] at h1
      exact hok.mine m y h1 h2

def Blk.setRow : Blk → Nat → List AV → Blk
  | .var _ z, _, r => .var r z
  | .arr k l z, e, r => .arr k (l.set e r) z

def Blk.okc : Blk → List AV → Bool
  | .var _ _, _ => true
  | .arr _ _ _, c => isCloL c

/-- rows that are made zero again -/
def clrL (l : List (List AV)) (off len : Nat) (z : List AV) : List (List AV) := l.take off ++ (List.replicate len z ++ l.drop (off + len))
theorem clrL_length {l : List (List AV)} {off len : Nat} {z : List AV} (h : off + len ≤ l.length) : (clrL l off len z).length = l.length := by simp [clrL]; omega
theorem clrL_zero (l : List (List AV)) (off : Nat) (z : List AV) : clrL l off 0 z = l := by simp [clrL]
theorem clrL_getD {l : List (List AV)} {off len : Nat} {z : List AV} (h : off + len ≤ l.length) (i : Nat) : (clrL l off len z).getD i [] = if off ≤ i ∧ i < off + len then z else l.getD i [] := by
  simp only [clrL, List.getD_eq_getElem?_getD, List.getElem?_append, List.getElem?_take, List.getElem?_replicate, List.getElem?_drop, List.length_take, List.length_replicate]
  by_cases h1 : i < off
  · rw [if_pos (by omega), if_pos h1, if_neg (by omega)]
  · rw [if_neg (by omega)]
    by_cases h2 : i < off + len
    · rw [if_pos (by omega), if_pos (by omega), if_pos (by omega)]; rfl
    · rw [if_neg (by omega), if_neg (by omega), show off + len + (i - min off l.length - len) = i by omega]

def wrC (k : Nat) (z : List AV) (ev : Operand → AV) (h : Name → Option Blk) (X : Operand) (K : (Name → Option Blk) → Prop) : Prop :=
  match ev X with
  | .loc n off len => match h n with
    | some (.arr k' l fz) => (fz = false ∧ k' = k ∧ z.length = k ∧ (z.all fun x => oneB h x && isClo x) = true ∧ off + len ≤ l.length) ∧ K (hput h n (some (.arr k (clrL l off len z) false)))
    | _ => False
  | _ => False

theorem wr_clr (hok : OK C σ a w S ρ κ) {t e ty : TypeId} {i : TypeInfo} {zv : Value} (hu : P.underlying t = some (.slice e)) (hi : P.info? e = some i) (hz : i.zero = some zv) {X : Operand} {K : (Name → Option Blk) → Prop}
    (hv : wrC i.size (zv.cells.toList.map fun x => .v x) (evO σ.s) σ.h X K) :
    ∃ h' w', K h' ∧ (Builtin.clear_ #[t] ty #[a.eval X]).run P w = .ok (.tuple #[]) w' ∧ OK C ⟨σ.s, h'⟩ a w' S ρ κ := by
  have hX := hok.ev X
  generalize a.eval X = vx at hX ⊢
  simp only [wrC] at hv
  split at hv
  · rename_i n off len hc
    rw [hc] at hX
    split at hv
    · rename_i k' l fz hb
      obtain ⟨⟨rfl, rfl, hzl, hall, hle⟩, hK⟩ := hv
      obtain ⟨_, base, cap, rfl, hlc, hcap, hbase, _⟩ := inv_loc hX _ _ _ hb
      cases len with
      | zero =>
        refine ⟨_, w, hK, ?_, ?_⟩
        · cases base <;> simp [Builtin.clear_, run_underlying hu]
        · have : hput σ.h n (some (.arr i.size (clrL l off 0 (zv.cells.toList.map fun x => .v x)) false)) = σ.h := by
            funext m
            rw [clrL_zero]
            by_cases hm : m = n
            · subst hm; simp [hput, hb]
            · simp [hput, hm]
          rw [this]; exact hok
      | succ len =>
        obtain ⟨x, hx, rfl⟩ := hbase (by omega)
        obtain ⟨h0, ⟨h1, h2⟩ | ⟨y, cur, T', fr, h1, h2, h3, h4, _, h5, h6, h7⟩⟩ := hok.hok.blk n _ hb
        · rw [h1] at hx; cases hx
        obtain rfl := Option.some.inj (hx.symm.trans h1)
        have hzs : zv.cells.size = i.size := by simpa using hzl
        have hlen : (Builtin.zeroCells zv.cells (len + 1)).size = (len + 1) * i.size := by simp [Builtin.zeroCells, hzs]
        have hget : ∀ j, j < (len + 1) * i.size → (Builtin.zeroCells zv.cells (len + 1)).getD j undef = zv.cells.getD (j % i.size) undef := by
          intro j hj
          have := range_cells zv.cells (len + 1) i.size hzs j hj
          unfold Builtin.zeroCells
          rw [hzs] at this ⊢
          exact this
        have hcv : ∀ j, j < i.size → (zv.cells.getD j undef).oneCell' = true ∧ RC S w ((zv.cells.toList.map fun x => AV.v x).getD j .junk) (zv.cells.getD j undef) := by
          intro j hj
          have hjl : j < (zv.cells.toList.map fun x => AV.v x).length := by rw [hzl]; exact hj
          have h8 := (cells_v (S := S) (w := w) (ρ := ρ) (κ := κ) (h := σ.h) zv.cells).2 j hjl
          have h9 := all_getD hall hjl
          simp only [Bool.and_eq_true] at h9
          exact ⟨one_val h8 h9.1, h8.closed h9.2⟩
        have hmul : (off + (len + 1)) * i.size ≤ l.length * i.size := Nat.mul_le_mul_right _ hle
        rw [Nat.add_mul] at hmul
        have hone : ∀ v ∈ (Builtin.zeroCells zv.cells (len + 1)).toList, v.oneCell' = true := by
          intro v hv
          obtain ⟨j, hj, rfl⟩ := List.mem_iff_getElem.1 hv
          simp only [Array.length_toList, hlen] at hj
          have hk0 : 0 < i.size := by
            rcases Nat.eq_zero_or_pos i.size with h | h
            · rw [h] at hj; omega
            · exact h
          have := (hcv (j % i.size) (Nat.mod_lt _ hk0)).1
          rw [← hget j hj] at this
          have hj' : j < (Builtin.zeroCells zv.cells (len + 1)).size := by rw [hlen]; exact hj
          simpa [hj'] using this
        have hst := run_storeCells (P := P) (o := off * i.size) (Builtin.zeroCells zv.cells (len + 1)).toList 0 cur w h2 h3 (by simp only [Array.length_toList, hlen]; omega) hone
        refine ⟨_, setBlk w x (.cells (layV cur (off * i.size + 0) (Builtin.zeroCells zv.cells (len + 1)).toList) T' fr), hK, ?_, ?_⟩
        rotate_left
        · refine hok.write hb hx (h4 rfl) (setBlk_size _ _ _) (fun y hy => setBlk_ne _ _ hy) ⟨rfl, rfl⟩ (by simp [Blk.same, clrL_length hle]) fun h' hn => ?_
          have hSw : ∀ y, S y → (setBlk w x (.cells (layV cur (off * i.size + 0) (Builtin.zeroCells zv.cells (len + 1)).toList) T' fr)).heap[y]? = w.heap[y]? := fun y hy => setBlk_ne _ _ (fun e => h4 rfl (e ▸ hy))
          refine ⟨fun p hp => ?_, .inr ⟨x, _, T', fr, hx, setBlk_eq _ h2, by rw [size_layV]; exact h3, fun _ => h4 rfl, by simp, by rw [size_layV]; exact h5, by rw [size_layV, clrL_length hle]; exact h6, fun p j hp hj => ?_⟩⟩
          · rw [clrL_length hle] at hp
            rw [clrL_getD hle]
            split
            · exact hzl
            · exact h0 p hp
          · rw [clrL_length hle] at hp
            rw [clrL_getD hle, getD_layV _ _ _ _ (by simp only [Array.length_toList, hlen]; omega)]
            simp only [Array.length_toList, hlen, Nat.add_zero]
            by_cases hin : off ≤ p ∧ p < off + (len + 1)
            · have g1 : off * i.size ≤ p * i.size := Nat.mul_le_mul_right _ hin.1
              have g2 : (p + 1) * i.size ≤ (off + (len + 1)) * i.size := Nat.mul_le_mul_right _ hin.2
              rw [Nat.succ_mul, Nat.add_mul] at g2
              rw [if_pos hin, if_pos (by omega)]
              have e1 : p * i.size + j - off * i.size = (p - off) * i.size + j := by
                rw [Nat.sub_mul]; omega
              have e2 : ((p - off) * i.size + j) % i.size = j := by rw [Nat.mul_comm, Nat.mul_add_mod, Nat.mod_eq_of_lt hj]
              have e3 : (p - off) * i.size + j < (len + 1) * i.size := by rw [Nat.sub_mul]; omega
              have := hget _ e3
              rw [e2] at this
              have e4 : (Builtin.zeroCells zv.cells (len + 1)).toList.getD (p * i.size + j - off * i.size) undef = zv.cells.getD j undef := by
                rw [e1, ← this, getD_toList]
              rw [e4]
              exact ⟨(hcv j hj).1, (hcv j hj).2.mono (fun _ h => h) hSw⟩
            · have : ¬ (off * i.size ≤ p * i.size + j ∧ p * i.size + j < off * i.size + (len + 1) * i.size) := by
                rintro ⟨g1, g2⟩
                rcases Nat.lt_or_ge p off with hlt' | hge
                · have : (p + 1) * i.size ≤ off * i.size := Nat.mul_le_mul_right _ hlt'
                  rw [Nat.succ_mul] at this; omega
                · have : (off + (len + 1)) * i.size ≤ p * i.size := Nat.mul_le_mul_right _ (by omega)
                  rw [Nat.add_mul] at this; omega
              rw [if_neg hin, if_neg this]
              exact ⟨(h7 p j hp hj).1, (h7 p j hp hj).2.mono (fun _ h => h) hSw⟩
        · simp [Builtin.clear_, run_underlying hu, zeroValue, typeInfo, hi, hz, hst]
    · exact hv.elim
  · exact hv.elim

/-- a store -/
def wrS (k : Nat) (ev : Operand → AV) (h : Name → Option Blk) (A X : Operand) (K : (Name → Option Blk) → Prop) : Prop :=
  match ev A with
  | .ptr n e c => match h n, cellsO h (ev X) with
    | some b, some cs => (b.fz = false ∧ 0 < k ∧ cs.length = k ∧ c + k ≤ (b.row e).length ∧ b.okc cs = true) ∧ K (hput h n (some (b.setRow e (lay (b.row e) c cs))))
    | _, _ => False
  | _ => False

theorem getD_set_row (l : List (List AV)) (e i : Nat) (r : List AV) (he : e < l.length) : (l.set e r).getD i [] = if i = e then r else l.getD i [] := by
  by_cases h : i = e
  · subst h; simp [List.getD, he]
  · rw [if_neg h]; simp [List.getD, List.getElem?_set_ne (Ne.symm h)]

theorem wr_store (hok : OK C σ a w S ρ κ) {T : TypeId} {k : Nat} (hk : szOf P T = some k) {A X : Operand} {K : (Name → Option Blk) → Prop} (hv : wrS k (evO σ.s) σ.h A X K) :
    ∃ h' w', K h' ∧ (Instr.storeAt T (a.eval A) (a.eval X)).run P w = .ok () w' ∧ OK C ⟨σ.s, h'⟩ a w' S ρ κ := by
  have hA := hok.ev A
  have hX := hok.ev X
  generalize a.eval A = va at hA ⊢
  generalize a.eval X = vx at hX ⊢
  simp only [wrS] at hv
  split at hv
  · rename_i n e c hc
    rw [hc] at hA
    split at hv
    · rename_i b cs hb hcs
      obtain ⟨⟨hz, hk0, hlen, hle, hclo⟩, hK⟩ := hv
      obtain ⟨⟨hcl, hcr⟩, hone⟩ := cells_of hX hcs
      obtain ⟨x, hx, rfl⟩ := inv_ptr hA _ hb
      have hbk := hok.hok.blk n b hb
      have hvone : ∀ v ∈ vx.cells.toList, v.oneCell' = true := by
        intro v hv
        obtain ⟨j, hj, rfl⟩ := List.mem_iff_getElem.1 hv
        simp only [Array.length_toList] at hj
        have := hone j (by omega)
        simpa [hj] using this
      have hstore : ∀ (cur : Array Value) (T' : TypeId) (fr : Nat × Nat), w.heap[x]? = some (.cells cur T' fr) → Thaw fr cur.size → e * b.k + c + k ≤ cur.size →
          (Instr.storeAt T (.pointer (some ⟨x, e * b.k + c, none⟩)) vx).run P w = .ok () (setBlk w x (.cells (layV cur (e * b.k + c) vx.cells.toList) T' fr)) := by
        intro cur T' fr hh ht hle'
        have hs := run_storeCells (P := P) (o := e * b.k + c) vx.cells.toList 0 cur w hh ht (by simp; omega) hvone
        have : ¬ (vx.cells.size ≠ k) := by omega
        simp only [Nat.add_zero] at hs
        simp [Instr.storeAt, Instr.sureAddr, storeVar, run_sizeOf hk, ← hcl, hlen, hs]
      cases b with
      | var rc z =>
        simp only [Blk.fz] at hz
        subst hz
        obtain ⟨y, cur, T', fr, h1, h2, h3, h4, _, h5, h6, h7⟩ := hbk
        obtain rfl := Option.some.inj (hx.symm.trans h1)
        have he : e = 0 := by
          cases e with
          | zero => rfl
          | succ e => simp [Blk.row] at hle; omega
        subst he
        simp only [Blk.row, Blk.k, Nat.mul_zero, Nat.zero_add] at hle hstore hK ⊢
        refine ⟨_, _, hK, hstore cur T' fr h2 h3 (by omega), ?_⟩
        refine hok.write hb hx (h4 rfl) (setBlk_size _ _ _) (fun y hy => setBlk_ne _ _ hy) ⟨rfl, rfl⟩ (by simp [Blk.same, Blk.setRow, length_lay]) fun h' hn => ?_
        have hSw : ∀ y, S y → (setBlk w x (.cells (layV cur c vx.cells.toList) T' fr)).heap[y]? = w.heap[y]? := fun y hy => setBlk_ne _ _ (fun e => h4 rfl (e ▸ hy))
        refine ⟨x, layV cur c vx.cells.toList, T', fr, hx, setBlk_eq _ h2, by rw [size_layV]; exact h3, fun _ => h4 rfl, by simp, by rw [size_layV]; exact h5, by rw [size_layV, length_lay]; exact h6, fun j hj => ?_⟩
        rw [length_lay] at hj
        rw [getD_lay _ _ _ _ (by omega), getD_layV _ _ _ _ (by simp; omega)]
        simp only [Array.length_toList, ← hcl]
        by_cases hj2 : c ≤ j ∧ j < c + cs.length
        · rw [if_pos hj2, if_pos hj2, getD_toList]
          exact ⟨hone _ (by omega), (hcr _ (by omega)).mono (fun _ h => h) hSw fun m _ => hn m⟩
        · rw [if_neg hj2, if_neg hj2]
          exact ⟨(h7 j hj).1, (h7 j hj).2.mono (fun _ h => h) hSw fun m _ => hn m⟩
      | arr k' l z =>
        simp only [Blk.fz] at hz
        subst hz
        simp only [Blk.row, Blk.k] at hle hstore hK ⊢
        have he : e < l.length := by
          rcases Nat.lt_or_ge e l.length with h' | h'
          · exact h'
          · simp [List.getD, List.getElem?_eq_none h'] at hle; omega
        obtain ⟨h0, ⟨h1, h2⟩ | ⟨y, cur, T', fr, h1, h2, h3, h4, _, h5, h6, h7⟩⟩ := hbk
        · subst h2; simp at he
        obtain rfl := Option.some.inj (hx.symm.trans h1)
        have hrow : (l.getD e []).length = k' := h0 e he
        have hlt : e * k' + k' ≤ cur.size := by
          have : (e + 1) * k' ≤ l.length * k' := Nat.mul_le_mul_right _ he
          rw [Nat.succ_mul] at this; omega
        refine ⟨_, _, hK, hstore cur T' fr h2 h3 (by omega), ?_⟩
        refine hok.write hb hx (h4 rfl) (setBlk_size _ _ _) (fun y hy => setBlk_ne _ _ hy) ⟨rfl, rfl⟩ (by simp [Blk.same, Blk.setRow]) fun h' hn => ?_
        have hSw : ∀ y, S y → (setBlk w x (.cells (layV cur (e * k' + c) vx.cells.toList) T' fr)).heap[y]? = w.heap[y]? := fun y hy => setBlk_ne _ _ (fun e => h4 rfl (e ▸ hy))
        refine ⟨fun i hi => ?_, .inr ⟨x, layV cur (e * k' + c) vx.cells.toList, T', fr, hx, setBlk_eq _ h2, by rw [size_layV]; exact h3, fun _ => h4 rfl, by simp, by rw [size_layV]; exact h5, by rw [size_layV]; simpa using h6, fun i j hi hj => ?_⟩⟩
        · simp only [List.length_set] at hi
          rw [getD_set_row _ _ _ _ he]
          by_cases hie : i = e
          · subst hie; rw [if_pos rfl, length_lay]; exact hrow
          · rw [if_neg hie]; exact h0 i hi
        · simp only [List.length_set] at hi
          rw [getD_set_row _ _ _ _ he, getD_layV _ _ _ _ (by simp; omega)]
          simp only [Array.length_toList, ← hcl]
          by_cases hie : i = e
          · subst hie
            rw [if_pos rfl, getD_lay _ _ _ _ (by omega)]
            by_cases hj2 : c ≤ j ∧ j < c + cs.length
            · rw [if_pos hj2, if_pos (by omega), getD_toList]
              have e1 : i * k' + j - (i * k' + c) = j - c := by omega
              rw [e1]
              exact ⟨hone _ (by omega), ((hcr _ (by omega)).closed (isCloL_getD hclo (by omega))).mono (fun _ h => h) hSw⟩
            · rw [if_neg hj2, if_neg (by omega)]
              exact ⟨(h7 i j hi hj).1, (h7 i j hi hj).2.mono (fun _ h => h) hSw⟩
          · rw [if_neg hie]
            have : ¬ (e * k' + c ≤ i * k' + j ∧ i * k' + j < e * k' + c + cs.length) := by
              rintro ⟨g1, g2⟩
              rcases Nat.lt_or_ge i e with hlt' | hge
              · have : (i + 1) * k' ≤ e * k' := Nat.mul_le_mul_right _ hlt'
                rw [Nat.succ_mul] at this; omega
              · have : (e + 1) * k' ≤ i * k' := Nat.mul_le_mul_right _ (by omega)
                rw [Nat.succ_mul] at this; omega
            rw [if_neg this]
            exact ⟨(h7 i j hi hj).1, (h7 i j hi hj).2.mono (fun _ h => h) hSw⟩
    · exact hv.elim
  · exact hv.elim
end Go.Vs
