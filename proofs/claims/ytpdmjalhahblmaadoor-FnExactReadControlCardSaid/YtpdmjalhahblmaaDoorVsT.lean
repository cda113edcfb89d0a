/- Reading operations and operations that make memory, off some names. -/
import Derived.Test.YtpdmjalhahblmaaDoorVsS
namespace Go.Vs
set_option linter.unusedSectionVars false
variable [Envs]
variable {N : Name → Prop} {h h' : Name → Option Blk} {ev ev' : Operand → AV}

theorem rowsO_agr (ha : Agr N h h') {k : Nat} {x : AV} (ho : Off N x) : rowsO k h x = rowsO k h' x := by
  cases x <;> try rfl
  case v x => unfold rowsO; split <;> first | rfl | simp_all
  case loc n off len =>
    simp only [rowsO]
    cases hx : h n with
    | none => rw [ha.none ho.loc hx]
    | some b =>
      obtain ⟨b', hb', e⟩ := ha.some ho.loc hx
      rw [hb']
      cases b with
      | var c z => obtain ⟨z', rfl⟩ := frz_var e; rfl
      | arr k l z => obtain ⟨z', rfl⟩ := frz_arr e; rfl

theorem rd_agr (ha : Agr N h h') {op : AOp} {K : AV → Prop} (he : ∀ o, o ∈ opnds op → ev o = ev' o ∧ Off N (ev o)) (hk : rd ev h K op) : rd ev' h' K op := by
  cases op
  case mv x => simpa only [rd, (he x (by simp [opnds])).1] using hk
  case pick c a b =>
    simp only [rd] at hk ⊢
    rw [← (he c (by simp [opnds])).1, ← (he a (by simp [opnds])).1, ← (he b (by simp [opnds])).1]
    exact hk
  case load g k a =>
    have ⟨e1, e2⟩ := he a (by simp [opnds])
    simp only [rd, ← e1] at hk ⊢
    split at hk
    · exact hk
    · rename_i n e c hx
      rw [hx] at e2
      split at hk
      · rename_i b hb
        obtain ⟨b', hb', hf⟩ := ha.some e2.ptr hb
        simp only [hb', frz_row hf]
        exact hk
      · exact hk.elim
    · exact hk.elim
  case fieldAddr off x =>
    have ⟨e1, e2⟩ := he x (by simp [opnds])
    simp only [rd, ← e1] at hk ⊢
    split at hk
    · rename_i n e c hx
      rw [hx] at e2
      split at hk
      · rename_i b hb
        obtain ⟨b', hb', hf⟩ := ha.some e2.ptr hb
        simp only [hb']
        exact hk
      · exact hk.elim
    · exact hk
    · exact hk.elim
  case loadV g k a =>
    have ⟨e1, e2⟩ := he a (by simp [opnds])
    simp only [rd, ← e1] at hk ⊢
    split at hk
    · rename_i n e c hx
      rw [hx] at e2
      split at hk
      · rename_i cs z hb
        obtain ⟨b', hb', hf⟩ := ha.some e2.ptr hb
        obtain ⟨z', rfl⟩ := frz_var hf
        simp only [hb']
        have er : (Blk.var cs z').row e = (Blk.var cs z).row e := by cases e <;> rfl
        rw [er]
        exact hk
      · exact hk.elim
    · exact hk.elim
  case fieldV off x =>
    have ⟨e1, e2⟩ := he x (by simp [opnds])
    simp only [rd, ← e1] at hk ⊢
    split at hk
    · rename_i n e c hx
      rw [hx] at e2
      split at hk
      · rename_i cs z hb
        obtain ⟨b', hb', hf⟩ := ha.some e2.ptr hb
        obtain ⟨z', rfl⟩ := frz_var hf
        simp only [hb']
        exact hk
      · exact hk.elim
    · exact hk.elim
  case field g off k x => simpa only [rd, (he x (by simp [opnds])).1] using hk
  case idxSl k x i =>
    have ⟨e1, e2⟩ := he x (by simp [opnds])
    have ⟨e3, _⟩ := he i (by simp [opnds])
    simp only [rd, ← e1, ← e3] at hk ⊢
    split at hk
    · exact hk
    · rename_i n off len kk i' hx hi
      rw [hx] at e2
      split at hk
      · rename_i k' l z hb
        obtain ⟨b', hb', hf⟩ := ha.some e2.loc hb
        obtain ⟨z', rfl⟩ := frz_arr hf
        simp only [hb']
        exact hk
      · exact hk.elim
    · exact hk.elim
  case idxArr n k x i =>
    have ⟨e1, e2⟩ := he x (by simp [opnds])
    have ⟨e3, _⟩ := he i (by simp [opnds])
    simp only [rd, ← e1, ← e3] at hk ⊢
    split at hk
    · exact hk
    · rename_i m e c kk i' hx hi
      rw [hx] at e2
      split at hk
      · rename_i b hb
        obtain ⟨b', hb', hf⟩ := ha.some e2.ptr hb
        simp only [hb']
        exact hk
      · exact hk.elim
    · exact hk.elim
  case idxAgg g n k x i => simpa only [rd, (he x (by simp [opnds])).1, (he i (by simp [opnds])).1] using hk
  case idxStr x i => simpa only [rd, (he x (by simp [opnds])).1, (he i (by simp [opnds])).1] using hk
  case bin o x y => simpa only [rd, (he x (by simp [opnds])).1, (he y (by simp [opnds])).1] using hk
  case binS o x y => simpa only [rd, (he x (by simp [opnds])).1, (he y (by simp [opnds])).1] using hk
  case binB o x y => simpa only [rd, (he x (by simp [opnds])).1, (he y (by simp [opnds])).1] using hk
  case un o x => simpa only [rd, (he x (by simp [opnds])).1] using hk
  case conv k x => simpa only [rd, (he x (by simp [opnds])).1] using hk
  case len x =>
    have ⟨e1, e2⟩ := he x (by simp [opnds])
    simp only [rd, ← e1] at hk ⊢
    split at hk
    · exact hk
    · rename_i n off len hx
      rw [hx] at e2
      split at hk
      · rename_i k' l z hb
        obtain ⟨b', hb', hf⟩ := ha.some e2.loc hb
        obtain ⟨z', rfl⟩ := frz_arr hf
        simp only [hb']
        exact hk
      · exact hk.elim
    · exact hk
    · exact hk.elim
  case lenS x => simpa only [rd, (he x (by simp [opnds])).1] using hk
  case lenC n => exact hk
  case slc k x lo hi =>
    have ⟨e1, e2⟩ := he x (by simp [opnds])
    have e3 : lo.map ev = lo.map ev' := by
      cases lo with
      | none => rfl
      | some o => simp [(he o (by simp [opnds])).1]
    have e4 : hi.map ev = hi.map ev' := by
      cases hi with
      | none => rfl
      | some o => simp [(he o (by simp [opnds])).1]
    simp only [rd, ← e1, ← e3, ← e4] at hk ⊢
    split at hk
    · exact hk
    · rename_i n off len hx
      rw [hx] at e2
      split at hk
      · rename_i k' l z hb
        obtain ⟨b', hb', hf⟩ := ha.some e2.loc hb
        obtain ⟨z', rfl⟩ := frz_arr hf
        simp only [hb']
        exact hk
      · exact hk.elim
    · exact hk.elim
  case sstr x lo hi =>
    have ⟨e1, e2⟩ := he x (by simp [opnds])
    have e3 : lo.map ev = lo.map ev' := by
      cases lo with
      | none => rfl
      | some o => simp [(he o (by simp [opnds])).1]
    have e4 : hi.map ev = hi.map ev' := by
      cases hi with
      | none => rfl
      | some o => simp [(he o (by simp [opnds])).1]
    simpa only [rd, ← e1, ← e3, ← e4] using hk
  case nilc x =>
    have ⟨e1, e2⟩ := he x (by simp [opnds])
    simp only [rd, ← e1] at hk ⊢
    split at hk
    · exact hk
    · rename_i n e c hx
      rw [hx] at e2
      split at hk
      · rename_i b hb
        obtain ⟨b', hb', hf⟩ := ha.some e2.ptr hb
        simp only [hb']
        exact hk
      · exact hk.elim
    · exact hk
    · exact hk.elim
  case extract x i => simpa only [rd, (he x (by simp [opnds])).1] using hk
  case build z ps =>
    simp only [rd] at hk ⊢
    exact layAll_agr ha (fun p hp => he _ (by simp only [opnds, List.mem_map]; exact ⟨p, hp, rfl⟩)) hk
  case mkfn f cs =>
    simp only [rd] at hk ⊢
    rw [← List.map_congr_left (f := ev) (g := ev') fun o ho => (he o (by simpa [opnds] using ho)).1]
    exact hk
  case mm mx x y => simpa only [rd, (he x (by simp [opnds])).1, (he y (by simp [opnds])).1] using hk
  case b2s x =>
    have ⟨e1, e2⟩ := he x (by simp [opnds])
    simp only [rd, ← e1, ← rowsO_agr ha e2] at hk ⊢
    exact hk
  case eqA neg ks x y => simpa only [rd, (he x (by simp [opnds])).1, (he y (by simp [opnds])).1] using hk
  case idxB x y => simpa only [rd, (he x (by simp [opnds])).1, (he y (by simp [opnds])).1] using hk
  all_goals exact hk.elim

theorem binI_point {op : BinOp} {k k' : IntKind} {a b : Int} {K : AV → Prop} (hk : binI op k k' a b K) : ∃ x : Value, K (.v x) ∧ ∀ K' : AV → Prop, K' (.v x) → binI op k k' a b K' := by
  cases op <;> simp only [binI] at hk ⊢ <;> exact ⟨_, hk.2, fun _ hx => ⟨hk.1, hx⟩⟩
theorem binStr_point {op : BinOp} {a b : ByteArray} {K : AV → Prop} (hk : binStr op a b K) : ∃ x : Value, K (.v x) ∧ ∀ K' : AV → Prop, K' (.v x) → binStr op a b K' := by
  cases op <;> simp only [binStr] at hk ⊢ <;> first
    | exact hk.elim
    | exact ⟨_, hk.2, fun _ hx => ⟨hk.1, hx⟩⟩
    | exact ⟨_, hk, fun _ hx => hx⟩
theorem binBool_point {op : BinOp} {a b : Bool} {K : AV → Prop} (hk : binBool op a b K) : ∃ x : Value, K (.v x) ∧ ∀ K' : AV → Prop, K' (.v x) → binBool op a b K' := by
  cases op <;> simp only [binBool] at hk ⊢ <;> first
    | exact hk.elim
    | exact ⟨_, hk, fun _ hx => hx⟩

/-- Names of these alone; none in what is closed. -/
inductive Nm : (Name → Prop) → AV → Prop
  | junk (p : Name → Prop) : Nm p .junk
  | v (p : Name → Prop) (x : Value) : Nm p (.v x)
  | sl (p : Name → Prop) (k : Nat) (l : List (List AV)) (hl : ∀ r, r ∈ l → ∀ x, x ∈ r → Nm (fun _ => False) x) : Nm p (.sl k l)
  | ro (p : Name → Prop) (c : List AV) (hc : ∀ x, x ∈ c → Nm (fun _ => False) x) : Nm p (.ro c)
  | loc (p : Name → Prop) (n : Name) (off len : Nat) (hn : p n) : Nm p (.loc n off len)
  | ptr (p : Name → Prop) (n : Name) (e c : Nat) (hn : p n) : Nm p (.ptr n e c)
  | fn (p : Name → Prop) (f : FuncId) (c : List AV) (hc : ∀ x, x ∈ c → Nm p x) : Nm p (.fn f c)
  | agg (p : Name → Prop) (c : List AV) (hc : ∀ x, x ∈ c → Nm p x) : Nm p (.agg c)
  | tup (p : Name → Prop) (c : List AV) (hc : ∀ x, x ∈ c → Nm p x) : Nm p (.tup c)

def NmL (p : Name → Prop) (c : List AV) : Prop := ∀ x, x ∈ c → Nm p x
def NmB (p : Name → Prop) : Blk → Prop
  | .var c _ => NmL p c
  | .arr _ l _ => ∀ r, r ∈ l → NmL (fun _ => False) r

theorem Nm.mono {p q : Name → Prop} {x : AV} (hx : Nm p x) (hpq : ∀ n, p n → q n) : Nm q x := by
  induction hx with
  | junk => exact .junk _
  | v => exact .v _ _
  | sl _ k l hl _ => exact .sl _ k l hl
  | ro _ c hc _ => exact .ro _ c hc
  | loc _ n off len hn => exact .loc _ n off len (hpq n hn)
  | ptr _ n e c hn => exact .ptr _ n e c (hpq n hn)
  | fn _ f c hc ih => exact .fn _ f c fun x hx => ih x hx hpq
  | agg _ c hc ih => exact .agg _ c fun x hx => ih x hx hpq
  | tup _ c hc ih => exact .tup _ c fun x hx => ih x hx hpq

theorem Nm.off {p : Name → Prop} {x : AV} (hx : Nm p x) (hp : ∀ n, p n → ¬ N n) : Off N x := by
  induction hx with
  | junk => exact Off.junk
  | v => exact Off.v _
  | sl => exact Off.sl _ _
  | ro => exact Off.ro _
  | loc _ n off len hn => exact Off.mk_loc (hp n hn)
  | ptr _ n e c hn => exact Off.mk_ptr (hp n hn)
  | fn _ f c hc ih => exact Off.mk_fn (OffL.of_mem fun x hx => ih x hx hp)
  | agg _ c hc ih => exact Off.mk_agg (OffL.of_mem fun x hx => ih x hx hp)
  | tup _ c hc ih => exact Off.mk_tup (OffL.of_mem fun x hx => ih x hx hp)

theorem Nm.of_off {p : Name → Prop} {x : AV} (hx : Nm p x) (ho : Off N x) : Nm (fun n => ¬ N n) x := by
  induction hx with
  | junk => exact .junk _
  | v => exact .v _ _
  | sl _ k l hl _ => exact .sl _ k l hl
  | ro _ c hc _ => exact .ro _ c hc
  | loc _ n off len hn => exact .loc _ n off len ho.loc
  | ptr _ n e c hn => exact .ptr _ n e c ho.ptr
  | fn _ f c hc ih => exact .fn _ f c fun x hx => ih x hx (ho.fn.mem x hx)
  | agg _ c hc ih => exact .agg _ c fun x hx => ih x hx (ho.agg.mem x hx)
  | tup _ c hc ih => exact .tup _ c fun x hx => ih x hx (ho.tup.mem x hx)

theorem Nm.getD {p : Name → Prop} {c : List AV} (hc : NmL p c) (j : Nat) : Nm p (c.getD j .junk) := by
  rcases Nat.lt_or_ge j c.length with h | h
  · have : c.getD j .junk = c[j] := by simp [List.getD, h]
    rw [this]; exact hc _ (List.getElem_mem h)
  · have : c.getD j .junk = .junk := by simp [List.getD, h]
    rw [this]; exact .junk _
theorem NmL.drop {p : Name → Prop} {c : List AV} (hc : NmL p c) (j : Nat) : NmL p (c.drop j) := fun x hx => hc x (List.mem_of_mem_drop hx)
theorem NmL.take {p : Name → Prop} {c : List AV} (hc : NmL p c) (j : Nat) : NmL p (c.take j) := fun x hx => hc x (List.mem_of_mem_take hx)
theorem NmL.mk {p : Name → Prop} {g : Bool} {c : List AV} (hc : NmL p c) : Nm p (AV.mk g c) := by
  cases g
  · cases c with
    | nil => exact .junk _
    | cons x r => exact hc x (by simp)
  · exact .agg _ c hc
theorem NmL.closed {p : Name → Prop} {c : List AV} (hc : NmL (fun _ => False) c) : NmL p c := fun x hx => (hc x hx).mono fun _ h => h.elim

theorem Nm.inv_ro {p : Name → Prop} {c : List AV} (h : Nm p (.ro c)) : NmL (fun _ => False) c := by cases h; assumption
theorem Nm.inv_sl {p : Name → Prop} {k : Nat} {l : List (List AV)} (h : Nm p (.sl k l)) : ∀ r, r ∈ l → NmL (fun _ => False) r := by cases h; assumption
theorem Nm.inv_ptr {p : Name → Prop} {n : Name} {e c : Nat} (h : Nm p (.ptr n e c)) : p n := by cases h; assumption
theorem Nm.inv_loc {p : Name → Prop} {n : Name} {e c : Nat} (h : Nm p (.loc n e c)) : p n := by cases h; assumption
theorem Nm.inv_agg {p : Name → Prop} {c : List AV} (h : Nm p (.agg c)) : NmL p c := by cases h; assumption
theorem Nm.inv_tup {p : Name → Prop} {c : List AV} (h : Nm p (.tup c)) : NmL p c := by cases h; assumption
theorem Nm.inv_fn {p : Name → Prop} {f : FuncId} {c : List AV} (h : Nm p (.fn f c)) : NmL p c := by cases h; assumption

theorem NmB.row {p : Name → Prop} {b : Blk} (hb : NmB p b) (e : Nat) : NmL p (b.row e) := by
  cases b with
  | var c z => cases e with
    | zero => exact hb
    | succ e => intro x hx; simp [Blk.row] at hx
  | arr k l z =>
    intro x hx
    simp only [Blk.row] at hx
    rcases Nat.lt_or_ge e l.length with h | h
    · have : l.getD e [] = l[e] := by simp [List.getD, h]
      rw [this] at hx
      exact (hb _ (List.getElem_mem h) x hx).mono fun _ h => h.elim
    · have : l.getD e [] = [] := by simp [List.getD, h]
      rw [this] at hx; simp at hx

theorem cellsO_nm {p : Name → Prop} {x : AV} (ho : Nm p x) {c : List AV} (hc : cellsO h x = some c) : NmL p c := by
  cases x
  case agg c' =>
    simp only [cellsO] at hc
    split at hc
    · obtain rfl := Option.some.inj hc; exact ho.inv_agg
    · cases hc
  all_goals
    simp only [cellsO] at hc
    split at hc
    · obtain rfl := Option.some.inj hc
      intro y hy
      rw [List.mem_singleton] at hy
      rw [hy]; exact ho
    · cases hc

theorem lay_nm {p : Name → Prop} : ∀ {xs cs : List AV} {o : Nat}, NmL p xs → NmL p cs → NmL p (lay cs o xs)
  | [], _, _, _, hc => hc
  | x :: r, cs, o, hx, hc => by
    rw [lay]
    refine lay_nm (fun y hy => hx y (by simp [hy])) fun y hy => ?_
    rcases List.mem_or_eq_of_mem_set hy with h | rfl
    · exact hc y h
    · exact hx _ (by simp)

theorem layAll_nm {p : Name → Prop} : ∀ {ps : List (Nat × Nat × Operand)} {cs : List AV} {c : List AV}, (∀ q, q ∈ ps → Nm p (ev q.2.2)) → NmL p cs → layAll ev h cs ps (fun c' => c' = c) → NmL p c
  | [], _, _, _, hc, hk => by cases hk; exact hc
  | (o, n, x) :: r, cs, K, he, hc, hk => by
    simp only [layAll] at hk
    split at hk
    · rename_i c hcx
      exact layAll_nm (fun p hp => he p (by simp [hp])) (lay_nm (cellsO_nm (he (o, n, x) (by simp)) hcx) hc) hk.2
    · exact hk.elim

/-- A reading operation gives one value, of the names that its operands and the blocks bear. -/
theorem rd_point {op : AOp} {K : AV → Prop} (hk : rd ev h K op) : ∃ x, K x ∧ (∀ K' : AV → Prop, K' x → rd ev h K' op) ∧
    ∀ p : Name → Prop, (∀ z ps, op = .build z ps → NmL p z) → (∀ o, o ∈ opnds op → Nm p (ev o)) → (∀ n b, p n → h n = some b → NmB p b) → Nm p x := by
  cases op
  case mv x => exact ⟨_, hk, fun _ hx' => hx', fun p _ ho _ => ho x (by simp [opnds])⟩
  case pick c a b =>
    simp only [rd] at hk ⊢
    split at hk
    · rename_i t ht
      cases t
      · exact ⟨_, hk.get.2 rfl, fun _ hx' => Br.mk (fun h => (by cases h)) (fun _ => hx'), fun p _ ho _ => ho b (by simp [opnds])⟩
      · exact ⟨_, hk.get.1 rfl, fun _ hx' => Br.mk (fun _ => hx') (fun h => (by cases h)), fun p _ ho _ => ho a (by simp [opnds])⟩
    · exact hk.elim
  case load g k a =>
    simp only [rd] at hk ⊢
    split at hk
    · rename_i c hx
      exact ⟨_, hk.2, fun _ hx' => ⟨hk.1, hx'⟩, fun p _ ho _ => by
        have := ho a (by simp [opnds])
        rw [hx] at this
        exact NmL.mk (NmL.take (NmL.closed this.inv_ro) _)⟩
    · rename_i n e c hx
      split at hk
      · rename_i b hb
        exact ⟨_, hk.2, fun _ hx' => ⟨hk.1, hx'⟩, fun p _ ho hh => by
          have := ho a (by simp [opnds])
          rw [hx] at this
          exact NmL.mk (NmL.take (NmL.drop ((hh n b this.inv_ptr hb).row e) _) _)⟩
      · exact hk.elim
    · exact hk.elim
  case fieldAddr off x =>
    simp only [rd] at hk ⊢
    split at hk
    · rename_i n e c hx
      split at hk
      · exact ⟨_, hk, fun _ hx' => hx', fun p _ ho _ => by
          have := ho x (by simp [opnds])
          rw [hx] at this
          exact .ptr _ _ _ _ this.inv_ptr⟩
      · exact hk.elim
    · rename_i c hx
      exact ⟨_, hk.2, fun _ hx' => ⟨hk.1, hx'⟩, fun p _ ho _ => by
        have := ho x (by simp [opnds])
        rw [hx] at this
        exact .ro _ _ (NmL.drop this.inv_ro _)⟩
    · exact hk.elim
  case loadV g k a =>
    simp only [rd] at hk ⊢
    split at hk
    · rename_i n e c hx
      split at hk
      · rename_i cs z hb
        exact ⟨_, hk.2, fun _ hx' => ⟨hk.1, hx'⟩, fun p _ ho hh => by
          have := ho a (by simp [opnds])
          rw [hx] at this
          exact NmL.mk (NmL.take (NmL.drop ((hh n _ this.inv_ptr hb).row e) _) _)⟩
      · exact hk.elim
    · exact hk.elim
  case fieldV off x =>
    simp only [rd] at hk ⊢
    split at hk
    · rename_i n e c hx
      split at hk
      · exact ⟨_, hk, fun _ hx' => hx', fun p _ ho _ => by
          have := ho x (by simp [opnds])
          rw [hx] at this
          exact .ptr _ _ _ _ this.inv_ptr⟩
      · exact hk.elim
    · exact hk.elim
  case field g off k x =>
    simp only [rd] at hk ⊢
    split at hk
    · rename_i c hx
      exact ⟨_, hk.2, fun _ hx' => ⟨hk.1, hx'⟩, fun p _ ho _ => by
        have := ho x (by simp [opnds])
        rw [hx] at this
        exact NmL.mk (NmL.take (NmL.drop this.inv_agg _) _)⟩
    · exact hk.elim
  case idxSl k x i =>
    simp only [rd] at hk ⊢
    split at hk
    · rename_i k' l kk i' hx hi
      exact ⟨_, hk.2, fun _ hx' => ⟨hk.1, hx'⟩, fun p _ ho _ => by
        have := ho x (by simp [opnds])
        rw [hx] at this
        refine .ro _ _ fun y hy => ?_
        have hlt : i'.toNat < l.length := by have := hk.1; omega
        have e : l.getD i'.toNat [] = l[i'.toNat] := by simp [List.getD, hlt]
        rw [e] at hy
        exact this.inv_sl _ (List.getElem_mem hlt) y hy⟩
    · rename_i n off len kk i' hx hi
      split at hk
      · exact ⟨_, hk.2, fun _ hx' => ⟨hk.1, hx'⟩, fun p _ ho _ => by
          have := ho x (by simp [opnds])
          rw [hx] at this
          exact .ptr _ _ _ _ this.inv_loc⟩
      · exact hk.elim
    · exact hk.elim
  case idxArr n k x i =>
    simp only [rd] at hk ⊢
    split at hk
    · rename_i c kk i' hx hi
      exact ⟨_, hk.2, fun _ hx' => ⟨hk.1, hx'⟩, fun p _ ho _ => by
        have := ho x (by simp [opnds])
        rw [hx] at this
        exact .ro _ _ (NmL.drop this.inv_ro _)⟩
    · rename_i m e c kk i' hx hi
      split at hk
      · exact ⟨_, hk.2, fun _ hx' => ⟨hk.1, hx'⟩, fun p _ ho _ => by
          have := ho x (by simp [opnds])
          rw [hx] at this
          exact .ptr _ _ _ _ this.inv_ptr⟩
      · exact hk.elim
    · exact hk.elim
  case idxAgg g n k x i =>
    simp only [rd] at hk ⊢
    split at hk
    · rename_i c kk i' hx hi
      exact ⟨_, hk.2, fun _ hx' => ⟨hk.1, hx'⟩, fun p _ ho _ => by
        have := ho x (by simp [opnds])
        rw [hx] at this
        exact NmL.mk (NmL.take (NmL.drop this.inv_agg _) _)⟩
    · exact hk.elim
  case idxStr x i =>
    simp only [rd] at hk ⊢
    split at hk
    · exact ⟨_, hk.2, fun _ hx' => ⟨hk.1, hx'⟩, fun p _ _ _ => .v _ _⟩
    · exact hk.elim
  case bin o x y =>
    simp only [rd] at hk ⊢
    split at hk
    · obtain ⟨v, h1, h2⟩ := binI_point hk
      exact ⟨_, h1, h2, fun p _ _ _ => .v _ _⟩
    · exact hk.elim
  case binS o x y =>
    simp only [rd] at hk ⊢
    split at hk
    · obtain ⟨v, h1, h2⟩ := binStr_point hk
      exact ⟨_, h1, h2, fun p _ _ _ => .v _ _⟩
    · exact hk.elim
  case binB o x y =>
    simp only [rd] at hk ⊢
    split at hk
    · obtain ⟨v, h1, h2⟩ := binBool_point hk
      exact ⟨_, h1, h2, fun p _ _ _ => .v _ _⟩
    · exact hk.elim
  case un o x =>
    simp only [rd] at hk ⊢
    split at hk
    · exact ⟨_, hk, fun _ hx' => hx', fun p _ _ _ => .v _ _⟩
    · exact ⟨_, hk, fun _ hx' => hx', fun p _ _ _ => .v _ _⟩
    · exact ⟨_, hk, fun _ hx' => hx', fun p _ _ _ => .v _ _⟩
    · exact hk.elim
  case conv k x =>
    simp only [rd] at hk ⊢
    split at hk
    · exact ⟨_, hk, fun _ hx' => hx', fun p _ _ _ => .v _ _⟩
    · exact hk.elim
  case len x =>
    simp only [rd] at hk ⊢
    split at hk
    · exact ⟨_, hk, fun _ hx' => hx', fun p _ _ _ => .v _ _⟩
    · split at hk
      · exact ⟨_, hk, fun _ hx' => hx', fun p _ _ _ => .v _ _⟩
      · exact hk.elim
    · exact ⟨_, hk, fun _ hx' => hx', fun p _ _ _ => .v _ _⟩
    · exact hk.elim
  case lenS x =>
    simp only [rd] at hk ⊢
    split at hk
    · exact ⟨_, hk, fun _ hx' => hx', fun p _ _ _ => .v _ _⟩
    · exact hk.elim
  case lenC n => exact ⟨_, hk, fun _ hx' => hx', fun p _ _ _ => .v _ _⟩
  case slc k x lo hi =>
    simp only [rd] at hk ⊢
    split at hk
    · rename_i k' l hx
      have fin : ∀ p : Name → Prop, (∀ o, o ∈ opnds (.slc k x lo hi) → Nm p (ev o)) → ∀ a b, Nm p (.sl k ((l.take a).drop b)) := fun p ho a b => by
        have := ho x (by simp [opnds])
        rw [hx] at this
        exact .sl _ _ _ fun r hr => this.inv_sl r (List.mem_of_mem_take (List.mem_of_mem_drop hr))
      split at hk
      · exact ⟨_, hk.2, fun _ hx' => ⟨hk.1, hx'⟩, fun p _ ho _ => fin p ho _ _⟩
      · exact ⟨_, hk.2, fun _ hx' => ⟨hk.1, hx'⟩, fun p _ ho _ => fin p ho _ _⟩
      · exact ⟨_, hk.2, fun _ hx' => ⟨hk.1, hx'⟩, fun p _ ho _ => fin p ho _ _⟩
      · exact ⟨_, hk.2, fun _ hx' => ⟨hk.1, hx'⟩, fun p _ ho _ => fin p ho _ _⟩
      · exact hk.elim
    · rename_i n off len hx
      have fin : ∀ p : Name → Prop, (∀ o, o ∈ opnds (.slc k x lo hi) → Nm p (ev o)) → ∀ a b, Nm p (.loc n a b) := fun p ho a b => by
        have := ho x (by simp [opnds])
        rw [hx] at this
        exact .loc _ _ _ _ this.inv_loc
      split at hk
      · split at hk
        · exact ⟨_, hk.2, fun _ hx' => ⟨hk.1, hx'⟩, fun p _ ho _ => fin p ho _ _⟩
        · exact ⟨_, hk.2, fun _ hx' => ⟨hk.1, hx'⟩, fun p _ ho _ => fin p ho _ _⟩
        · exact ⟨_, hk.2, fun _ hx' => ⟨hk.1, hx'⟩, fun p _ ho _ => fin p ho _ _⟩
        · exact ⟨_, hk.2, fun _ hx' => ⟨hk.1, hx'⟩, fun p _ ho _ => fin p ho _ _⟩
        · exact hk.elim
      · exact hk.elim
    · exact hk.elim
  case sstr x lo hi =>
    simp only [rd] at hk ⊢
    split at hk
    · split at hk
      · exact ⟨_, hk.2, fun _ hx' => ⟨hk.1, hx'⟩, fun p _ _ _ => .v _ _⟩
      · exact ⟨_, hk.2, fun _ hx' => ⟨hk.1, hx'⟩, fun p _ _ _ => .v _ _⟩
      · exact ⟨_, hk.2, fun _ hx' => ⟨hk.1, hx'⟩, fun p _ _ _ => .v _ _⟩
      · exact ⟨_, hk.2, fun _ hx' => ⟨hk.1, hx'⟩, fun p _ _ _ => .v _ _⟩
      · exact hk.elim
    · exact hk.elim
  case nilc x =>
    simp only [rd] at hk ⊢
    split at hk
    · rename_i c hx
      exact ⟨_, hk, fun _ hx' => hx', fun p _ ho _ => by have := ho x (by simp [opnds]); rwa [hx] at this⟩
    · rename_i n e c hx
      split at hk
      · exact ⟨_, hk, fun _ hx' => hx', fun p _ ho _ => by have := ho x (by simp [opnds]); rwa [hx] at this⟩
      · exact hk.elim
    · rename_i f c hx
      exact ⟨_, hk, fun _ hx' => hx', fun p _ ho _ => by have := ho x (by simp [opnds]); rwa [hx] at this⟩
    · exact hk.elim
  case extract x i =>
    simp only [rd] at hk ⊢
    split at hk
    · rename_i c hx
      exact ⟨_, hk.2, fun _ hx' => ⟨hk.1, hx'⟩, fun p _ ho _ => by
        have := ho x (by simp [opnds])
        rw [hx] at this
        exact Nm.getD this.inv_tup _⟩
    · exact hk.elim
  case build z ps =>
    simp only [rd] at hk ⊢
    obtain ⟨c, h1, h2⟩ := layAll_point hk
    refine ⟨_, h1, ?_, fun p hz ho _ => ?_⟩
    · exact fun K' hx' => layAll_mono (fun c' hc' => by rw [hc']; exact hx') h2
    · exact .agg _ _ (layAll_nm (fun q hq => ho _ (by simp only [opnds, List.mem_map]; exact ⟨q, hq, rfl⟩)) (hz z ps rfl) h2)
  case mkfn f cs =>
    simp only [rd] at hk ⊢
    refine ⟨_, hk, fun _ hx' => hx', fun p _ ho _ => .fn _ _ _ fun x hx => ?_⟩
    obtain ⟨o, ho', rfl⟩ := List.mem_map.1 hx
    exact ho o (by simpa [opnds] using ho')
  case mm mx x y =>
    simp only [rd] at hk ⊢
    split at hk
    · exact ⟨_, hk, fun _ hx' => hx', fun p _ _ _ => .v _ _⟩
    · exact hk.elim
  case b2s x =>
    simp only [rd] at hk ⊢
    split at hk
    · split at hk
      · exact ⟨_, hk, fun _ hx' => hx', fun p _ _ _ => .v _ _⟩
      · exact hk.elim
    · exact hk.elim
  case idxB x y =>
    simp only [rd] at hk ⊢
    split at hk
    · exact ⟨_, hk, fun _ hx' => hx', fun p _ _ _ => .v _ _⟩
    · exact hk.elim
  case eqA neg ks x y =>
    simp only [rd] at hk ⊢
    split at hk
    · split at hk
      · exact ⟨_, hk, fun _ hx' => hx', fun p _ _ _ => .v _ _⟩
      · exact hk.elim
    · exact hk.elim
  all_goals exact hk.elim

end Go.Vs
