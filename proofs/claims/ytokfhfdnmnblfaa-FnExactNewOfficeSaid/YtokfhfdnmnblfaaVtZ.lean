/- A row that is written while its walk does not know it. -/
import Derived.Test.YtokfhfdnmnblfaaVtW
namespace Go.Vs
set_option linter.unusedSectionVars false
variable [Envs]
set_option linter.unusedVariables false
variable {P : Program} {C : Ctx} {a : Act} {w : World} {S : Nat → Prop} {ρ : Name → Option Nat} {κ : Name → Nat}

/-- What a slot is known to read as may be put into the state. -/
theorem OK.know {σ : FSt} (hok : OK C σ a w S ρ κ) {t : Nat} {x : AV} (hx : RV S w ρ κ σ.h x (a.tmps.getD t undef)) : OK C ⟨upd σ.s (some t) x, σ.h⟩ a w S ρ κ := by
  refine { hok with slots := fun u => ?_ }
  simp only [upd]
  by_cases hu : u = t
  · subst hu; simp only [if_true]; exact hx
  · simp only [hu, if_false]; exact hok.slots u

/-- A row of flat cells reads by its own block alone. -/
theorem OK.expose {σ : FSt} (hok : OK C σ a w S ρ κ) {n : Name} {k : Nat} {rows : List (List AV)} {z : Bool} (hb : σ.h n = some (.arr k rows z)) (hfl : ∀ r, r ∈ rows → flatL r = true) {v : Value} (hv : RV S w ρ κ σ.h (.loc n 0 rows.length) v) :
    RC (fun b => ρ n = some b) w (.sl k rows) v := by
  have hl := inv_loc hv k rows z hb
  obtain ⟨_, base, cap, rfl, h1, h2, h3, _⟩ := hl
  obtain ⟨hrk, hblk⟩ := hok.hok.blk n _ hb
  rcases hblk with ⟨hn, rfl⟩ | ⟨x, cs, T, fr, g1, g2, g3, _, _, g5, g6, g7⟩
  · refine .sl k [] base cap 0 0 (fun _ => undef) (by simp) (by simp) (by simp) (by simp) (by simp) ⟨by omega, h2⟩
  · refine .sl k rows base cap x 0 (fun i => cs.getD i undef) (fun hne => ?_) (fun i j hi hj => ?_) (fun i j hi hj => (g7 i j hi hj).1) (fun i j hi hj => ?_) hrk ⟨by omega, h2⟩
    · obtain ⟨y, hy, hbase⟩ := h3 (List.length_pos_iff.2 hne)
      rw [g1] at hy
      obtain rfl := Option.some.inj hy
      exact ⟨by rw [hbase]; simp, g1⟩
    · have hlt : i * k + j < cs.size := by
        have : i * k + k ≤ rows.length * k := by rw [← Nat.succ_mul]; exact Nat.mul_le_mul_right k hi
        omega
      simp [World.cell?, g2, hlt]
    · refine ((g7 i j hi hj).2).flat ?_
      have hm : rows.getD i [] ∈ rows := by
        rw [List.getD_eq_getElem?_getD, List.getElem?_eq_getElem hi]; exact List.getElem_mem _
      exact flatL_getD (hfl _ hm)

/-- The name of a row is forgotten: the row is hidden memory from here on. -/
theorem OK.hide {σ : St} (hok : OK C σ.f a w S ρ κ) {n : Name} {k : Nat} {rows : List (List AV)} (hb : σ.f.h n = some (.arr k rows false)) (hfl : ∀ r, r ∈ rows → flatL r = true) {v : Value} (hv : RV S w ρ κ σ.f.h (.loc n 0 rows.length) v) :
    OK (C.anew w S (killL n σ).f.h ρ) (killL n σ).f a w S ρ κ ∧ Hid (C.anew w S (killL n σ).f.h ρ) (fun b => ρ n = some b) (.sl k rows) v ∧ Later C (C.anew w S (killL n σ).f.h ρ) := by
  have hk : OK C (killL n σ).f a w S ρ κ := by rw [killL_f]; exact hok.kill n
  refine ⟨hk.anew, ⟨hok.expose hb hfl hv, fun b h => hok.hok.lt (n := n) (by rw [hb]; rfl) h, fun b h => ⟨fun hs => ?_, fun hm => ?_⟩⟩, hk.later⟩
  · obtain ⟨_, ⟨hn, _⟩ | ⟨x, cs, T, fr, g1, g2, g3, g4, _⟩⟩ := hok.hok.blk n _ hb
    · rw [hn] at h; cases h
    · rw [g1] at h
      obtain rfl := Option.some.inj h
      exact g4 rfl hs
  · obtain ⟨m, h1, h2⟩ := hm
    have hmn : m ≠ n := by
      rintro rfl
      rw [killL_f] at h1
      simp [killF] at h1
    have hs : (σ.f.h m).isSome := by
      rw [killL_f] at h1
      simp only [killF, hmn, if_false] at h1
      cases hx : σ.f.h m with
      | none => rw [hx] at h1; simp at h1
      | some b => rfl
    exact hmn (hok.hok.inj m n b hs (by rw [hb]; rfl) h2 h)
/-- Hidden memory stays hidden in a context that began later. -/
theorem Hid.later {C' : Ctx} {D : Nat → Prop} {x : AV} {v : Value} (hh : Hid C D x v) {σ : FSt} (hok : OK C σ a w S ρ κ) (h0 : C'.w0 = w) (h1 : ∀ b, C'.S0 b → S b) (h2 : ∀ b, C'.Mut b → ∃ n, (σ.h n).isSome ∧ ρ n = some b) : Hid C' D x v := by
  obtain ⟨g1, g2, g3, g4⟩ := hh.same hok
  refine ⟨by rw [h0]; exact hh.now hok, fun b hb => by rw [h0]; exact g2 b hb, fun b hb => ⟨fun hs => g3 b hb (h1 b hs), fun hm => ?_⟩⟩
  obtain ⟨n, e1, e2⟩ := h2 b hm
  exact g4 b hb n e1 e2

variable {nt : Nat} {dr : Nat → Array Oper → Option (List Nat)} {Q : Exit → Act → World → Prop}
theorem GoodL.le {τ : St} (h : GoodL C (fun σ => LeL σ τ) a w) : ∃ S ρ κ, OK C τ.f a w S ρ κ := by
  obtain ⟨σ, S, ρ, κ, h1, h2⟩ := h
  exact ⟨S, ρ, κ, h2.le h1⟩
theorem GoodL.no (h : GoodL C (fun _ => False) a w) : False := by
  obtain ⟨_, _, _, _, h, _⟩ := h
  exact h
/-- a first piece by the framework, up to a state that is told -/
theorem At.step {x y : ACode} {σ : St} (τ : St) (hdr : DrawOK P dr) (hok : OK C σ.f a w S ρ κ) (hnt : C.nt = nt) (hv : wpc P C dr x (fun σ' => LeL σ' τ) (fun _ _ => False) σ)
    (h : ∀ (a : Act) (w : World) (S : Nat → Prop) (ρ : Name → Option Nat) (κ : Name → Nat), OK C τ.f a w S ρ κ → At P nt dr y Q a w) : At P nt dr (.seq x y) Q a w :=
  At.seq (At.fw hdr hok hnt hv (fun a w hg => by obtain ⟨S, ρ, κ, h1⟩ := hg.le; exact h a w S ρ κ h1) (fun i a w hg => hg.no.elim) (fun a w hg => hg.no.elim))
end Go.Vs

namespace Go.Vs
set_option linter.unusedSectionVars false
variable [Envs]
set_option linter.unusedVariables false
variable {P : Program} {C : Ctx} {a : Act} {w : World} {S : Nat → Prop} {ρ : Name → Option Nat} {κ : Name → Nat}

theorem OK.graft {σ : FSt} (hok : OK C σ a w S ρ κ) {n : Name} {ss : List Value} {xs : List AV} {z : Bool} (hb : σ.h n = some (.arr 1 (ss.map fun s => [AV.v s]) z)) {D : Nat → Prop} (hh : Hid C D (.tup xs) (.tuple ss.toArray)) {v : Value} (hv : RV S w ρ κ σ.h (.loc n 0 ss.length) v) :
    RC (fun b => D b ∨ ρ n = some b) w (.sl 1 (xs.map fun x => [x])) v := by
  have hn := hh.now hok
  obtain ⟨hl, hr⟩ : xs.length = ss.length ∧ ∀ j, j < xs.length → RC D w (xs.getD j .junk) (ss.toArray.getD j undef) := by
    cases hn with
    | tup _ _ hl hr => exact ⟨by simpa using hl, hr⟩
  have hlo := inv_loc hv 1 _ z hb
  obtain ⟨_, base, cap, rfl, h1, h2, h3, _⟩ := hlo
  obtain ⟨hrk, hblk⟩ := hok.hok.blk n _ hb
  have e : ss.length = (xs.map fun x => [x]).length := by simp [hl]
  rcases hblk with ⟨hn, hnil⟩ | ⟨x, cs, T, fr, g1, g2, g3, _, _, g5, g6, g7⟩
  · have : ss = [] := by simpa using hnil
    subst this
    have : xs = [] := by simpa using hl
    subst this
    refine .sl 1 [] base cap 0 0 (fun _ => undef) (by simp) (by simp) (by simp) (by simp) (by simp) ⟨by omega, h2⟩
  · rw [e]
    have hlm : (xs.map fun x => [x]).length = ss.length := e.symm
    have hls : (ss.map fun s => [AV.v s]).length = ss.length := by simp
    refine .sl 1 _ base cap x 0 (fun i => cs.getD i undef) (fun hne => ?_) (fun i j hi hj => ?_) (fun i j hi hj => (g7 i j (by omega) hj).1) (fun i j hi hj => ?_) (fun i hi => ?_) ⟨by omega, h2⟩
    · have : 0 < ss.length := by have := List.length_pos_iff.2 hne; omega
      obtain ⟨y, hy, hbase⟩ := h3 (by omega)
      rw [g1] at hy
      obtain rfl := Option.some.inj hy
      exact ⟨by simpa using hbase, .inr g1⟩
    · have hlt : i + j < cs.size := by omega
      simp [World.cell?, g2, hlt]
    · have hi' : i < ss.length := by omega
      obtain rfl : j = 0 := by omega
      have := (g7 i 0 (by omega) (by omega)).2
      have e1 : ((ss.map fun s => [AV.v s]).getD i []).getD 0 .junk = .v ss[i] := by simp [hi']
      rw [e1] at this
      rw [inv_v (ρ := ρ) (κ := κ) (h := σ.h) (.clo this)]
      have e2 : ((xs.map fun x => [x]).getD i []).getD 0 .junk = xs.getD i .junk := by
        have : i < xs.length := by omega
        simp [this]
      rw [e2]
      have := hr i (by omega)
      have e3 : ss.toArray.getD i undef = ss[i] := by simp [hi']
      rw [e3] at this
      exact this.mono (fun _ h => .inl h) fun _ _ => rfl
    · have : i < xs.length := by omega
      simp [this]

/-- A value reads as a row of flat cells in a block of its own, which may be written. -/
structure Own (S : Nat → Prop) (w : World) (x : Option Nat) (c : Nat) (k : Nat) (rows : List (List AV)) (v : Value) : Prop where
  loc : LocOK (fun _ => x) (fun _ => c) (fun _ => some (.arr k rows false)) (.b 0) 0 rows.length v
  blk : BlkOK S w (fun _ => x) (fun _ => c) (fun _ => some (.arr k rows false)) (.b 0) (.arr k rows false)
  fl : ∀ r, r ∈ rows → flatL r = true

/-- from a walk that knows the row -/
theorem OK.own {σ : FSt} (hok : OK C σ a w S ρ κ) {n : Name} {k : Nat} {rows : List (List AV)} (hb : σ.h n = some (.arr k rows false)) (hfl : ∀ r, r ∈ rows → flatL r = true) {v : Value} (hv : RV S w ρ κ σ.h (.loc n 0 rows.length) v) :
    Own S w (ρ n) (κ n) k rows v := by
  refine ⟨fun k' l' z' hl => ?_, hok.hok.blk n _ hb, hfl⟩
  obtain ⟨rfl, rfl, rfl⟩ : k = k' ∧ rows = l' ∧ false = z' := by simpa using hl
  exact inv_loc hv k rows false hb

/-- in another world, and by another set -/
theorem Own.mono {S' : Nat → Prop} {w' : World} {x : Option Nat} {c k : Nat} {rows : List (List AV)} {v : Value} (h : Own S w x c k rows v) (hS : ∀ b, x = some b → ¬ S' b) (hw : ∀ b, x = some b → w'.heap[b]? = w.heap[b]?) : Own S' w' x c k rows v := by
  refine ⟨h.loc, ?_, h.fl⟩
  obtain ⟨hk, hb⟩ := h.blk
  refine ⟨hk, ?_⟩
  rcases hb with hb | ⟨y, cs, T, fr, g1, g2, g3, g4, g4', g5, g6, g7⟩
  · exact .inl hb
  · have g1' : x = some y := g1
    refine .inr ⟨y, cs, T, fr, g1, by rw [hw y g1']; exact g2, g3, fun _ => hS y g1', fun h => (by cases h), g5, g6, fun i j hi hj => ⟨(g7 i j hi hj).1, ?_⟩⟩
    refine RC.mono (S := fun _ => False) (w := w) (fun _ h => h.elim) (fun _ h => h.elim) (((g7 i j hi hj).2).flat (flatL_getD (h.fl _ ?_)))
    rw [List.getD_eq_getElem?_getD, List.getElem?_eq_getElem hi]; exact List.getElem_mem _

/-- rows, each in a block of its own -/
structure OwnL (S : Nat → Prop) (w : World) (k : Nat) (ls : List (List (List AV))) (ss : List Value) (xs : Nat → Option Nat) (cs : Nat → Nat) : Prop where
  len : ls.length = ss.length
  row : ∀ i, i < ss.length → Own S w (xs i) (cs i) k (ls.getD i []) (ss.getD i undef)
  dif : ∀ i j b, i < ss.length → j < ss.length → xs i = some b → xs j = some b → i = j

theorem OwnL.mono {S' : Nat → Prop} {w' : World} {k : Nat} {ls : List (List (List AV))} {ss : List Value} {xs : Nat → Option Nat} {cs : Nat → Nat} (h : OwnL S w k ls ss xs cs) (hS : ∀ i b, i < ss.length → xs i = some b → ¬ S' b) (hw : ∀ i b, i < ss.length → xs i = some b → w'.heap[b]? = w.heap[b]?) : OwnL S' w' k ls ss xs cs :=
  ⟨h.len, fun i hi => (h.row i hi).mono (fun b hb => hS i b hi hb) (fun b hb => hw i b hi hb), h.dif⟩

theorem OwnL.snoc {k : Nat} {ls : List (List (List AV))} {ss : List Value} {xs : Nat → Option Nat} {cs : Nat → Nat} (h : OwnL S w k ls ss xs cs) {x : Option Nat} {c : Nat} {r : List (List AV)} {s : Value} (hr : Own S w x c k r s) (hd : ∀ i b, i < ss.length → xs i = some b → x ≠ some b) :
    OwnL S w k (ls ++ [r]) (ss ++ [s]) (fun i => if i = ss.length then x else xs i) (fun i => if i = ss.length then c else cs i) := by
  refine ⟨by simp [h.len], fun i hi => ?_, fun i j b hi hj h1 h2 => ?_⟩
  · rcases Nat.lt_or_ge i ss.length with hlt | hge
    · have hne : i ≠ ss.length := by omega
      have e1 : (ls ++ [r]).getD i [] = ls.getD i [] := by simp [List.getElem?_append_left (show i < ls.length by rw [h.len]; exact hlt)]
      have e2 : (ss ++ [s]).getD i undef = ss.getD i undef := by simp [List.getElem?_append_left hlt]
      simp only [hne, if_false]
      rw [e1, e2]
      exact h.row i hlt
    · have hi' : i = ss.length := by simp at hi; omega
      subst hi'
      have e1 : (ls ++ [r]).getD ss.length [] = r := by simp [← h.len]
      have e2 : (ss ++ [s]).getD ss.length undef = s := by simp
      simp only [if_true]
      rw [e1, e2]
      exact hr
  · simp only [List.length_append, List.length_singleton] at hi hj
    by_cases hi' : i = ss.length <;> by_cases hj' : j = ss.length
    · omega
    · simp only [hi', hj', if_true, if_false] at h1 h2
      exact (hd j b (by omega) h2 h1).elim
    · simp only [hi', hj', if_true, if_false] at h1 h2
      exact (hd i b (by omega) h1 h2).elim
    · simp only [hi', hj', if_false] at h1 h2
      exact h.dif i j b (by omega) (by omega) h1 h2

/-- A row that a struct of one slice holds is hidden, behind the rows hidden before. -/
theorem OK.bury {σ : St} (hok : OK C σ.f a w S ρ κ) {n : Name} {k : Nat} {rows : List (List AV)} (hb : hlook σ.h n = some (.arr k rows false)) (hfl : ∀ r, r ∈ rows → flatL r = true) {t : Nat} (ht : look σ.s t = .agg [.loc n 0 rows.length])
    {D : Nat → Prop} {xs : List AV} {ss : List Value} (hh : Hid C D (.tup xs) (.tuple ss.toArray)) :
    ∃ s C', Later C C' ∧ OK C' (⟨(t, .agg [.v s]) :: (killL n σ).s, (killL n σ).h⟩ : St).f a w S ρ κ ∧ Hid C' (fun b => D b ∨ ρ n = some b) (.tup (xs ++ [.sl k rows])) (.tuple (ss ++ [s]).toArray) ∧ (∃ b n c, s = .slice b n c) ∧ C'.w0 = w ∧ C'.S0 = S ∧ Own S w (ρ n) (κ n) k rows s := by
  have hs := hok.slots t
  rw [show σ.f.s t = _ from ht] at hs
  obtain ⟨vs, hv, hsz, hr⟩ := inv_agg hs
  have hr0 : RV S w ρ κ σ.f.h (.loc n 0 rows.length) (vs.getD 0 undef) := hr 0 (by simp)
  obtain ⟨h1, h2, h3⟩ := hok.hide hb hfl hr0
  have hx : RV S w ρ κ (killL n σ).f.h (.agg [.v (vs.getD 0 undef)]) (a.tmps.getD t undef) := by
    rw [hv]
    refine .agg _ _ hsz fun j hj => ?_
    obtain rfl : j = 0 := by simpa using hj
    exact .clo (.v _)
  refine ⟨vs.getD 0 undef, _, h3, h1.know hx, ?_⟩
  have hold := hh.later hok (C' := C.anew w S (killL n σ).f.h ρ) rfl (fun _ h => h) (fun b hm => by
    obtain ⟨m, q1, q2⟩ := hm
    refine ⟨m, ?_, q2⟩
    rw [killL_f] at q1
    simp only [killF] at q1
    split at q1
    · cases q1
    · cases hx : σ.f.h m with
      | none => rw [hx] at q1; cases q1
      | some b => rfl)
  have hsl : ∀ {S' : Nat → Prop} {w' : World} (v : Value), RC S' w' (.sl k rows) v → ∃ b n c, v = .slice b n c := fun v h => by
    cases h with
    | sl => exact ⟨_, _, _, rfl⟩
  refine ⟨⟨?_, fun b hb => hb.elim (hold.lt b) (h2.lt b), fun b hb => hb.elim (hold.no b) (h2.no b)⟩, hsl _ h2.rd, rfl, rfl, hok.own hb hfl hr0⟩
  have g2 := h2.rd
  have g1 := hold.rd
  generalize (C.anew w S (killL n σ).f.h ρ).w0 = W at g1 g2 ⊢
  cases g1 with
  | tup _ _ hl hr =>
    have hl' : xs.length = ss.length := by simpa using hl
    refine .tup _ _ (by simp [hl']) fun j hj => ?_
    rcases Nat.lt_or_ge j xs.length with h | h
    · have e1 : (xs ++ [AV.sl k rows]).getD j .junk = xs.getD j .junk := by simp [List.getElem?_append_left h]
      have e2 : (ss ++ [vs.getD 0 undef]).toArray.getD j undef = ss.toArray.getD j undef := by simp [List.getElem?_append_left (show j < ss.length by omega)]
      rw [e1, e2]
      exact (hr j h).mono (fun _ h => .inl h) fun _ _ => rfl
    · have hj' : j = xs.length := by simp at hj; omega
      have e1 : (xs ++ [AV.sl k rows]).getD j .junk = .sl k rows := by simp [hj']
      have e2 : (ss ++ [vs.getD 0 undef]).toArray.getD j undef = vs.getD 0 undef := by simp [hj', hl']
      rw [e1, e2]
      exact g2.mono (fun _ h => .inr h) fun _ _ => rfl
end Go.Vs

namespace Go.Vs
set_option linter.unusedSectionVars false
variable [Envs]
set_option linter.unusedVariables false
variable {P : Program} {C : Ctx} {a : Act} {w : World} {S : Nat → Prop} {ρ : Name → Option Nat} {κ : Name → Nat}

/-- A call that writes one row, of which the caller knows no name. -/
theorem calls_own {f : FuncId} {k : Nat} {rows rows' : List (List AV)} {u k0 : Value} (hfn : Fn P f [.arr k rows false] [.loc (.b 0) 0 rows.length, .v k0] (.v u) [some (.arr k rows' false)]) (hfl : ∀ r, r ∈ rows' → flatL r = true)
    {x : Option Nat} {c : Nat} {v : Value} (ho : Own S w x c k rows v) (hS : ∀ b, S b → b < w.heap.size) (he : Env S w) :
    Calls P f #[v, k0] w fun e w' => e = .returned u ∧ w.heap.size ≤ w'.heap.size ∧ (∀ b, b < w.heap.size → x ≠ some b → w'.heap[b]? = w.heap[b]?) ∧ (w'.os = w.os ∧ w'.output = w.output) ∧ Own S w' x c k rows' v ∧ rows'.length = rows.length := by
  have hN : ∀ n b, Hn ([Blk.arr k rows false].map some) n = some b → n = .b 0 ∧ b = .arr k rows false := by
    intro n b hb
    match n, hb with
    | .b 0, hb => exact ⟨rfl, by simpa [Hn] using hb.symm⟩
    | .b (j + 1), hb => simp [Hn] at hb
    | .t _ _, hb => simp [Hn] at hb
  refine (hfn.2 S w (fun _ => x) (fun _ => c) #[v, k0] ⟨fun n b hb => ?_, fun n m y hn hm _ _ => ?_, hS, he⟩ (by simp [Blk.fz]) rfl fun j hj => ?_).mono ?_
  · obtain ⟨rfl, rfl⟩ := hN n b hb
    exact ho.blk
  · obtain ⟨b, hb⟩ := Option.isSome_iff_exists.1 hn
    obtain ⟨b', hb'⟩ := Option.isSome_iff_exists.1 hm
    rw [(hN n b hb).1, (hN m b' hb').1]
  · match j, hj with
    | 0, _ => exact .loc _ _ _ _ fun k' l' z' hl => ho.loc k' l' z' hl
    | 1, _ => exact .clo (.v _)
  rintro e w' ⟨v', S', ρ', κ', rfl, hp, hr⟩
  rw [inv_v hr]
  obtain ⟨e1, e2, b, hb, hs⟩ := hp.keep 0 (.arr k rows' false) (by simp) rfl
  have hbe : b = .arr k rows false := by simpa using hb.symm
  subst hbe
  simp only [Blk.same] at hs
  obtain ⟨_, hlen⟩ := hs
  refine ⟨rfl, hp.size, fun b hb hx => hp.old b hb ?_, hp.out, ⟨fun k' l' z' hl => ?_, ?_, hfl⟩, hlen.symm⟩
  · rintro ⟨j, hj, hjx⟩
    exact hx hjx
  · obtain ⟨rfl, rfl, rfl⟩ : k = k' ∧ rows' = l' ∧ false = z' := by simpa using hl
    have := ho.loc k rows false rfl
    rw [← hlen]
    exact this
  · obtain ⟨hk, hb⟩ := hp.hok.blk (.b 0) (.arr k rows' false) rfl
    refine ⟨hk, ?_⟩
    rcases hb with ⟨hb, hn⟩ | ⟨y, cs, T, fr, g1, g2, g3, g4, g4', g5, g6, g7⟩
    · exact .inl ⟨by rw [← hb, e1], hn⟩
    · refine .inr ⟨y, cs, T, fr, by rw [← g1, e1], g2, g3, fun _ hs => g4 rfl (hp.sub _ hs), fun h => (by cases h), by rw [g5, e2], g6, fun i j hi hj => ⟨(g7 i j hi hj).1, ((g7 i j hi hj).2).flat (flatL_getD (hfl _ ?_))⟩⟩
      rw [List.getD_eq_getElem?_getD, List.getElem?_eq_getElem hi]; exact List.getElem_mem _

/-- the context begun where hidden blocks were written is later than one that may write them -/
theorem OK.wroteM {C1 : Ctx} {σ : FSt} {D : Nat → Prop} (hl : Later C1 C) (hD : ∀ b, D b → C1.w0.heap.size ≤ b ∨ C1.Mut b) (hok : OK C σ a w S ρ κ) {w' : World} (hs : w.heap.size ≤ w'.heap.size)
    (hw : ∀ b, b < w.heap.size → ¬ D b → w'.heap[b]? = w.heap[b]?) (ho : w'.os = w.os ∧ w'.output = w.output) : Later C1 (C.anew w' S σ.h ρ) := by
  have h1 := hok.back hl
  refine ⟨hl.nt, Nat.le_trans h1.size hs, fun b hb hm => ?_, fun b hb => ?_, h1.S0, h1.Snew, ⟨ho.1.trans h1.out.1, ho.2.trans h1.out.2⟩, hl.base⟩
  · show w'.heap[b]? = _
    rw [hw b (Nat.lt_of_lt_of_le hb h1.size) fun hd => (by rcases hD b hd with h | h; omega; exact hm h)]
    exact h1.old b hb hm
  · obtain ⟨n, g1, g2⟩ := hb
    exact h1.mine n b g1 g2

/-- blocks are hidden, whatever they hold -/
theorem OK.hid {σ : FSt} (hok : OK C σ a w S ρ κ) {D : Nat → Prop} (h1 : ∀ b, D b → b < w.heap.size) (h2 : ∀ b, D b → ¬ S b) (h3 : ∀ b, D b → ∀ n, (σ.h n).isSome → ρ n ≠ some b) : Hid (C.anew w S σ.h ρ) D (.v undef) undef :=
  ⟨.v _, h1, fun b hb => ⟨h2 b hb, fun ⟨n, g1, g2⟩ => h3 b hb n g1 g2⟩⟩
/-- one of many rows was written -/
theorem OwnL.write {w' : World} {k : Nat} {ls : List (List (List AV))} {ss : List Value} {xs : Nat → Option Nat} {cs : Nat → Nat} (h : OwnL S w k ls ss xs cs) {i : Nat} (hi : i < ss.length) {r : List (List AV)} (hr : Own S w' (xs i) (cs i) k r (ss.getD i undef))
    (hw : ∀ j b, j < ss.length → xs j = some b → xs i ≠ some b → w'.heap[b]? = w.heap[b]?) (hS : ∀ j b, j < ss.length → xs j = some b → ¬ S b) : OwnL S w' k (ls.set i r) ss xs cs := by
  refine ⟨by simp [h.len], fun j hj => ?_, h.dif⟩
  by_cases hji : j = i
  · subst hji
    have e : (ls.set j r).getD j [] = r := by simp [show j < ls.length by rw [h.len]; exact hj]
    rw [e]
    exact hr
  · have e : (ls.set i r).getD j [] = ls.getD j [] := by
      simp only [List.getD_eq_getElem?_getD]
      rw [List.getElem?_set_ne (Ne.symm hji)]
    rw [e]
    exact (h.row j hj).mono (fun b hb => hS j b hj hb) fun b hb => hw j b hj hb fun hx => hji (h.dif j i b hj hi hb hx)

/-- what is written in a block of its own is not what a walk knows -/
theorem Own.no {x : Option Nat} {c k : Nat} {rows : List (List AV)} {v : Value} (h : Own S w x c k rows v) {b : Nat} (hb : x = some b) : ¬ S b := by
  obtain ⟨_, ⟨g, _⟩ | ⟨y, cs, T, fr, g1, g2, g3, g4, _⟩⟩ := h.blk
  · have g' : x = none := g
    rw [g'] at hb; cases hb
  · have g1' : x = some y := g1
    rw [g1'] at hb
    obtain rfl := Option.some.inj hb
    exact g4 rfl
theorem Fn.has {f : FuncId} {hin : List Blk} {args : List AV} {r : AV} {hout : List (Option Blk)} (h : Fn P f hin args r hout) : HasBody P f := h.1
end Go.Vs
