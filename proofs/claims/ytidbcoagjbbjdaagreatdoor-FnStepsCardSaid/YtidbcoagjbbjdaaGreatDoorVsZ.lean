/- A region whose order is open: every order gives what the text's order gives. -/
import Derived.Test.YtidbcoagjbbjdaaGreatDoorVsS
set_option linter.all false
set_option maxHeartbeats 8000000
namespace Go.Vs
section
variable [Envs]
variable {N : Name → Prop} {h h' : Name → Option Blk} {ev ev' : Operand → AV}
theorem rowsO_agr (ha : Agr N h h') {k : Nat} {x : AV} (ho : Off N x) : rowsO k h x = rowsO k h' x := by
 cases x <;> try rfl
 case v x => unfold rowsO; split <;> first | rfl | simp_all
 case loc n off len =>
  simp only [rowsO]
  cases hx : h n with
  | none => rw [ha.none ho.loc hx]
  | some b =>
   obtain ⟨b', hb', e⟩ := ha.some ho.loc hx
   rw [hb']
   cases b with
   | var c z => obtain ⟨z', rfl⟩ := frz_var e; rfl
   | arr k l z => obtain ⟨z', rfl⟩ := frz_arr e; rfl
theorem rd_agr (ha : Agr N h h') {op : AOp} {K : AV → Prop} (he : ∀ o, o ∈ opnds op → ev o = ev' o ∧ Off N (ev o)) (hk : rd ev h K op) : rd ev' h' K op := by
 cases op
 case mv x => simpa only [rd, (he x (by simp [opnds])).1] using hk
 case pick c a b =>
  simp only [rd] at hk ⊢
  rw [← (he c (by simp [opnds])).1, ← (he a (by simp [opnds])).1, ← (he b (by simp [opnds])).1]
  exact hk
 case load g k a =>
  have ⟨e1, e2⟩ := he a (by simp [opnds])
  simp only [rd, ← e1] at hk ⊢
  split at hk
  ·exact hk
  ·rename_i n e c hx
   rw [hx] at e2
   split at hk
   ·rename_i b hb
    obtain ⟨b', hb', hf⟩ := ha.some e2.ptr hb
    simp only [hb', frz_row hf]
    exact hk
   ·exact hk.elim
  ·exact hk.elim
 case fieldAddr off x =>
  have ⟨e1, e2⟩ := he x (by simp [opnds])
  simp only [rd, ← e1] at hk ⊢
  split at hk
  ·rename_i n e c hx
   rw [hx] at e2
   split at hk
   ·rename_i b hb
    obtain ⟨b', hb', hf⟩ := ha.some e2.ptr hb
    simp only [hb']
    exact hk
   ·exact hk.elim
  ·exact hk
  ·exact hk.elim
 case loadV g k a =>
  have ⟨e1, e2⟩ := he a (by simp [opnds])
  simp only [rd, ← e1] at hk ⊢
  split at hk
  ·rename_i n e c hx
   rw [hx] at e2
   split at hk
   ·rename_i cs z hb
    obtain ⟨b', hb', hf⟩ := ha.some e2.ptr hb
    obtain ⟨z', rfl⟩ := frz_var hf
    simp only [hb']
    have er : (Blk.var cs z').row e = (Blk.var cs z).row e := by cases e <;> rfl
    rw [er]
    exact hk
   ·exact hk.elim
  ·exact hk.elim
 case fieldV off x =>
  have ⟨e1, e2⟩ := he x (by simp [opnds])
  simp only [rd, ← e1] at hk ⊢
  split at hk
  ·rename_i n e c hx
   rw [hx] at e2
   split at hk
   ·rename_i cs z hb
    obtain ⟨b', hb', hf⟩ := ha.some e2.ptr hb
    obtain ⟨z', rfl⟩ := frz_var hf
    simp only [hb']
    exact hk
   ·exact hk.elim
  ·exact hk.elim
 case field g off k x => simpa only [rd, (he x (by simp [opnds])).1] using hk
 case idxSl k x i =>
  have ⟨e1, e2⟩ := he x (by simp [opnds])
  have ⟨e3, _⟩ := he i (by simp [opnds])
  simp only [rd, ← e1, ← e3] at hk ⊢
  split at hk
  ·exact hk
  ·rename_i n off len kk i' hx hi
   rw [hx] at e2
   split at hk
   ·rename_i k' l z hb
    obtain ⟨b', hb', hf⟩ := ha.some e2.loc hb
    obtain ⟨z', rfl⟩ := frz_arr hf
    simp only [hb']
    exact hk
   ·exact hk.elim
  ·exact hk.elim
 case idxArr n k x i =>
  have ⟨e1, e2⟩ := he x (by simp [opnds])
  have ⟨e3, _⟩ := he i (by simp [opnds])
  simp only [rd, ← e1, ← e3] at hk ⊢
  split at hk
  ·exact hk
  ·rename_i m e c kk i' hx hi
   rw [hx] at e2
   split at hk
   ·rename_i b hb
    obtain ⟨b', hb', hf⟩ := ha.some e2.ptr hb
    simp only [hb']
    exact hk
   ·exact hk.elim
  ·exact hk.elim
 case idxAgg g n k x i => simpa only [rd, (he x (by simp [opnds])).1, (he i (by simp [opnds])).1] using hk
 case idxStr x i => simpa only [rd, (he x (by simp [opnds])).1, (he i (by simp [opnds])).1] using hk
 case bin o x y => simpa only [rd, (he x (by simp [opnds])).1, (he y (by simp [opnds])).1] using hk
 case binS o x y => simpa only [rd, (he x (by simp [opnds])).1, (he y (by simp [opnds])).1] using hk
 case binB o x y => simpa only [rd, (he x (by simp [opnds])).1, (he y (by simp [opnds])).1] using hk
 case un o x => simpa only [rd, (he x (by simp [opnds])).1] using hk
 case conv k x => simpa only [rd, (he x (by simp [opnds])).1] using hk
 case len x =>
  have ⟨e1, e2⟩ := he x (by simp [opnds])
  simp only [rd, ← e1] at hk ⊢
  split at hk
  ·exact hk
  ·rename_i n off len hx
   rw [hx] at e2
   split at hk
   ·rename_i k' l z hb
    obtain ⟨b', hb', hf⟩ := ha.some e2.loc hb
    obtain ⟨z', rfl⟩ := frz_arr hf
    simp only [hb']
    exact hk
   ·exact hk.elim
  ·exact hk
  ·exact hk.elim
 case lenS x => simpa only [rd, (he x (by simp [opnds])).1] using hk
 case lenC n => exact hk
 case slc k x lo hi =>
  have ⟨e1, e2⟩ := he x (by simp [opnds])
  have e3 : lo.map ev = lo.map ev' := by
   cases lo with
   | none => rfl
   | some o => simp [(he o (by simp [opnds])).1]
  have e4 : hi.map ev = hi.map ev' := by
   cases hi with
   | none => rfl
   | some o => simp [(he o (by simp [opnds])).1]
  simp only [rd, ← e1, ← e3, ← e4] at hk ⊢
  split at hk
  ·exact hk
  ·rename_i n off len hx
   rw [hx] at e2
   split at hk
   ·rename_i k' l z hb
    obtain ⟨b', hb', hf⟩ := ha.some e2.loc hb
    obtain ⟨z', rfl⟩ := frz_arr hf
    simp only [hb']
    exact hk
   ·exact hk.elim
  ·exact hk.elim
 case sstr x lo hi =>
  have ⟨e1, e2⟩ := he x (by simp [opnds])
  have e3 : lo.map ev = lo.map ev' := by
   cases lo with
   | none => rfl
   | some o => simp [(he o (by simp [opnds])).1]
  have e4 : hi.map ev = hi.map ev' := by
   cases hi with
   | none => rfl
   | some o => simp [(he o (by simp [opnds])).1]
  simpa only [rd, ← e1, ← e3, ← e4] using hk
 case nilc x =>
  have ⟨e1, e2⟩ := he x (by simp [opnds])
  simp only [rd, ← e1] at hk ⊢
  split at hk
  ·exact hk
  ·rename_i n e c hx
   rw [hx] at e2
   split at hk
   ·rename_i b hb
    obtain ⟨b', hb', hf⟩ := ha.some e2.ptr hb
    simp only [hb']
    exact hk
   ·exact hk.elim
  ·exact hk
  ·exact hk.elim
 case extract x i => simpa only [rd, (he x (by simp [opnds])).1] using hk
 case build z ps =>
  simp only [rd] at hk ⊢
  exact layAll_agr ha (fun p hp => he _ (by simp only [opnds, List.mem_map]; exact ⟨p, hp, rfl⟩)) hk
 case mkfn f cs =>
  simp only [rd] at hk ⊢
  rw [← List.map_congr_left (f := ev) (g := ev') fun o ho => (he o (by simpa [opnds] using ho)).1]
  exact hk
 case mm mx x y => simpa only [rd, (he x (by simp [opnds])).1, (he y (by simp [opnds])).1] using hk
 case b2s x =>
  have ⟨e1, e2⟩ := he x (by simp [opnds])
  simp only [rd, ← e1, ← rowsO_agr ha e2] at hk ⊢
  exact hk
 case eqA neg ks x y => simpa only [rd, (he x (by simp [opnds])).1, (he y (by simp [opnds])).1] using hk
 case idxB x y => simpa only [rd, (he x (by simp [opnds])).1, (he y (by simp [opnds])).1] using hk
 all_goals exact hk.elim
theorem binI_point {op : BinOp} {k k' : IntKind} {a b : Int} {K : AV → Prop} (hk : binI op k k' a b K) : ∃ x : Value, K (.v x) ∧ ∀ K' : AV → Prop, K' (.v x) → binI op k k' a b K' := by
 cases op <;> simp only [binI] at hk ⊢ <;> exact ⟨_, hk.2, fun _ hx => ⟨hk.1, hx⟩⟩
theorem binStr_point {op : BinOp} {a b : ByteArray} {K : AV → Prop} (hk : binStr op a b K) : ∃ x : Value, K (.v x) ∧ ∀ K' : AV → Prop, K' (.v x) → binStr op a b K' := by
 cases op <;> simp only [binStr] at hk ⊢ <;> first
  | exact hk.elim
  | exact ⟨_, hk.2, fun _ hx => ⟨hk.1, hx⟩⟩
  | exact ⟨_, hk, fun _ hx => hx⟩
theorem binBool_point {op : BinOp} {a b : Bool} {K : AV → Prop} (hk : binBool op a b K) : ∃ x : Value, K (.v x) ∧ ∀ K' : AV → Prop, K' (.v x) → binBool op a b K' := by
 cases op <;> simp only [binBool] at hk ⊢ <;> first
  | exact hk.elim
  | exact ⟨_, hk, fun _ hx => hx⟩
inductive Nm : (Name → Prop) → AV → Prop
 | junk (p : Name → Prop) : Nm p .junk
 | v (p : Name → Prop) (x : Value) : Nm p (.v x)
 | sl (p : Name → Prop) (k : Nat) (l : List (List AV)) (hl : ∀ r, r ∈ l → ∀ x, x ∈ r → Nm (fun _ => False) x) : Nm p (.sl k l)
 | ro (p : Name → Prop) (c : List AV) (hc : ∀ x, x ∈ c → Nm (fun _ => False) x) : Nm p (.ro c)
 | loc (p : Name → Prop) (n : Name) (off len : Nat) (hn : p n) : Nm p (.loc n off len)
 | ptr (p : Name → Prop) (n : Name) (e c : Nat) (hn : p n) : Nm p (.ptr n e c)
 | fn (p : Name → Prop) (f : FuncId) (c : List AV) (hc : ∀ x, x ∈ c → Nm p x) : Nm p (.fn f c)
 | agg (p : Name → Prop) (c : List AV) (hc : ∀ x, x ∈ c → Nm p x) : Nm p (.agg c)
 | tup (p : Name → Prop) (c : List AV) (hc : ∀ x, x ∈ c → Nm p x) : Nm p (.tup c)
def NmL (p : Name → Prop) (c : List AV) : Prop := ∀ x, x ∈ c → Nm p x
def NmB (p : Name → Prop) : Blk → Prop
 | .var c _ => NmL p c
 | .arr _ l _ => ∀ r, r ∈ l → NmL (fun _ => False) r
theorem Nm.mono {p q : Name → Prop} {x : AV} (hx : Nm p x) (hpq : ∀ n, p n → q n) : Nm q x := by
 induction hx with
 | junk => exact .junk _
 | v => exact .v _ _
 | sl _ k l hl _ => exact .sl _ k l hl
 | ro _ c hc _ => exact .ro _ c hc
 | loc _ n off len hn => exact .loc _ n off len (hpq n hn)
 | ptr _ n e c hn => exact .ptr _ n e c (hpq n hn)
 | fn _ f c hc ih => exact .fn _ f c fun x hx => ih x hx hpq
 | agg _ c hc ih => exact .agg _ c fun x hx => ih x hx hpq
 | tup _ c hc ih => exact .tup _ c fun x hx => ih x hx hpq
theorem Nm.off {p : Name → Prop} {x : AV} (hx : Nm p x) (hp : ∀ n, p n → ¬ N n) : Off N x := by
 induction hx with
 | junk => exact Off.junk
 | v => exact Off.v _
 | sl => exact Off.sl _ _
 | ro => exact Off.ro _
 | loc _ n off len hn => exact Off.mk_loc (hp n hn)
 | ptr _ n e c hn => exact Off.mk_ptr (hp n hn)
 | fn _ f c hc ih => exact Off.mk_fn (OffL.of_mem fun x hx => ih x hx hp)
 | agg _ c hc ih => exact Off.mk_agg (OffL.of_mem fun x hx => ih x hx hp)
 | tup _ c hc ih => exact Off.mk_tup (OffL.of_mem fun x hx => ih x hx hp)
theorem Nm.of_off {p : Name → Prop} {x : AV} (hx : Nm p x) (ho : Off N x) : Nm (fun n => ¬ N n) x := by
 induction hx with
 | junk => exact .junk _
 | v => exact .v _ _
 | sl _ k l hl _ => exact .sl _ k l hl
 | ro _ c hc _ => exact .ro _ c hc
 | loc _ n off len hn => exact .loc _ n off len ho.loc
 | ptr _ n e c hn => exact .ptr _ n e c ho.ptr
 | fn _ f c hc ih => exact .fn _ f c fun x hx => ih x hx (ho.fn.mem x hx)
 | agg _ c hc ih => exact .agg _ c fun x hx => ih x hx (ho.agg.mem x hx)
 | tup _ c hc ih => exact .tup _ c fun x hx => ih x hx (ho.tup.mem x hx)
theorem Nm.getD {p : Name → Prop} {c : List AV} (hc : NmL p c) (j : Nat) : Nm p (c.getD j .junk) := by
 rcases Nat.lt_or_ge j c.length with h | h
 ·have : c.getD j .junk = c[j] := by simp [List.getD, h]
  rw [this]; exact hc _ (List.getElem_mem h)
 ·have : c.getD j .junk = .junk := by simp [List.getD, h]
  rw [this]; exact .junk _
theorem NmL.drop {p : Name → Prop} {c : List AV} (hc : NmL p c) (j : Nat) : NmL p (c.drop j) := fun x hx => hc x (List.mem_of_mem_drop hx)
theorem NmL.take {p : Name → Prop} {c : List AV} (hc : NmL p c) (j : Nat) : NmL p (c.take j) := fun x hx => hc x (List.mem_of_mem_take hx)
theorem NmL.mk {p : Name → Prop} {g : Bool} {c : List AV} (hc : NmL p c) : Nm p (AV.mk g c) := by
 cases g
 ·cases c with
  | nil => exact .junk _
  | cons x r => exact hc x (by simp)
 ·exact .agg _ c hc
theorem NmL.closed {p : Name → Prop} {c : List AV} (hc : NmL (fun _ => False) c) : NmL p c := fun x hx => (hc x hx).mono fun _ h => h.elim
theorem Nm.inv_ro {p : Name → Prop} {c : List AV} (h : Nm p (.ro c)) : NmL (fun _ => False) c := by cases h; assumption
theorem Nm.inv_sl {p : Name → Prop} {k : Nat} {l : List (List AV)} (h : Nm p (.sl k l)) : ∀ r, r ∈ l → NmL (fun _ => False) r := by cases h; assumption
theorem Nm.inv_ptr {p : Name → Prop} {n : Name} {e c : Nat} (h : Nm p (.ptr n e c)) : p n := by cases h; assumption
theorem Nm.inv_loc {p : Name → Prop} {n : Name} {e c : Nat} (h : Nm p (.loc n e c)) : p n := by cases h; assumption
theorem Nm.inv_agg {p : Name → Prop} {c : List AV} (h : Nm p (.agg c)) : NmL p c := by cases h; assumption
theorem Nm.inv_tup {p : Name → Prop} {c : List AV} (h : Nm p (.tup c)) : NmL p c := by cases h; assumption
theorem Nm.inv_fn {p : Name → Prop} {f : FuncId} {c : List AV} (h : Nm p (.fn f c)) : NmL p c := by cases h; assumption
theorem NmB.row {p : Name → Prop} {b : Blk} (hb : NmB p b) (e : Nat) : NmL p (b.row e) := by
 cases b with
 | var c z => cases e with
  | zero => exact hb
  | succ e => intro x hx; simp [Blk.row] at hx
 | arr k l z =>
  intro x hx
  simp only [Blk.row] at hx
  rcases Nat.lt_or_ge e l.length with h | h
  ·have : l.getD e [] = l[e] := by simp [List.getD, h]
   rw [this] at hx
   exact (hb _ (List.getElem_mem h) x hx).mono fun _ h => h.elim
  ·have : l.getD e [] = [] := by simp [List.getD, h]
   rw [this] at hx; simp at hx
theorem cellsO_nm {p : Name → Prop} {x : AV} (ho : Nm p x) {c : List AV} (hc : cellsO h x = some c) : NmL p c := by
 cases x
 case agg c' =>
  simp only [cellsO] at hc
  split at hc
  ·obtain rfl := Option.some.inj hc; exact ho.inv_agg
  ·cases hc
 all_goals
  simp only [cellsO] at hc
  split at hc
  ·obtain rfl := Option.some.inj hc
   intro y hy
   rw [List.mem_singleton] at hy
   rw [hy]; exact ho
  ·cases hc
theorem lay_nm {p : Name → Prop} : ∀ {xs cs : List AV} {o : Nat}, NmL p xs → NmL p cs → NmL p (lay cs o xs)
 | [], _, _, _, hc => hc
 | x :: r, cs, o, hx, hc => by
  rw [lay]
  refine lay_nm (fun y hy => hx y (by simp [hy])) fun y hy => ?_
  rcases List.mem_or_eq_of_mem_set hy with h | rfl
  ·exact hc y h
  ·exact hx _ (by simp)
theorem layAll_nm {p : Name → Prop} : ∀ {ps : List (Nat × Nat × Operand)} {cs : List AV} {c : List AV}, (∀ q, q ∈ ps → Nm p (ev q.2.2)) → NmL p cs → layAll ev h cs ps (fun c' => c' = c) → NmL p c
 | [], _, _, _, hc, hk => by cases hk; exact hc
 | (o, n, x) :: r, cs, K, he, hc, hk => by
  simp only [layAll] at hk
  split at hk
  ·rename_i c hcx
   exact layAll_nm (fun p hp => he p (by simp [hp])) (lay_nm (cellsO_nm (he (o, n, x) (by simp)) hcx) hc) hk.2
  ·exact hk.elim
theorem rd_point {op : AOp} {K : AV → Prop} (hk : rd ev h K op) : ∃ x, K x ∧ (∀ K' : AV → Prop, K' x → rd ev h K' op) ∧
  ∀ p : Name → Prop, (∀ z ps, op = .build z ps → NmL p z) → (∀ o, o ∈ opnds op → Nm p (ev o)) → (∀ n b, p n → h n = some b → NmB p b) → Nm p x := by
 cases op
 case mv x => exact ⟨_, hk, fun _ hx' => hx', fun p _ ho _ => ho x (by simp [opnds])⟩
 case pick c a b =>
  simp only [rd] at hk ⊢
  split at hk
  ·rename_i t ht
   cases t
   ·exact ⟨_, hk.get.2 rfl, fun _ hx' => Br.mk (fun h => (by cases h)) (fun _ => hx'), fun p _ ho _ => ho b (by simp [opnds])⟩
   ·exact ⟨_, hk.get.1 rfl, fun _ hx' => Br.mk (fun _ => hx') (fun h => (by cases h)), fun p _ ho _ => ho a (by simp [opnds])⟩
  ·exact hk.elim
 case load g k a =>
  simp only [rd] at hk ⊢
  split at hk
  ·rename_i c hx
   exact ⟨_, hk.2, fun _ hx' => ⟨hk.1, hx'⟩, fun p _ ho _ => by
     have := ho a (by simp [opnds])
     rw [hx] at this
     exact NmL.mk (NmL.take (NmL.closed this.inv_ro) _)⟩
  ·rename_i n e c hx
   split at hk
   ·rename_i b hb
    exact ⟨_, hk.2, fun _ hx' => ⟨hk.1, hx'⟩, fun p _ ho hh => by
      have := ho a (by simp [opnds])
      rw [hx] at this
      exact NmL.mk (NmL.take (NmL.drop ((hh n b this.inv_ptr hb).row e) _) _)⟩
   ·exact hk.elim
  ·exact hk.elim
 case fieldAddr off x =>
  simp only [rd] at hk ⊢
  split at hk
  ·rename_i n e c hx
   split at hk
   ·exact ⟨_, hk, fun _ hx' => hx', fun p _ ho _ => by
      have := ho x (by simp [opnds])
      rw [hx] at this
      exact .ptr _ _ _ _ this.inv_ptr⟩
   ·exact hk.elim
  ·rename_i c hx
   exact ⟨_, hk.2, fun _ hx' => ⟨hk.1, hx'⟩, fun p _ ho _ => by
     have := ho x (by simp [opnds])
     rw [hx] at this
     exact .ro _ _ (NmL.drop this.inv_ro _)⟩
  ·exact hk.elim
 case loadV g k a =>
  simp only [rd] at hk ⊢
  split at hk
  ·rename_i n e c hx
   split at hk
   ·rename_i cs z hb
    exact ⟨_, hk.2, fun _ hx' => ⟨hk.1, hx'⟩, fun p _ ho hh => by
      have := ho a (by simp [opnds])
      rw [hx] at this
      exact NmL.mk (NmL.take (NmL.drop ((hh n _ this.inv_ptr hb).row e) _) _)⟩
   ·exact hk.elim
  ·exact hk.elim
 case fieldV off x =>
  simp only [rd] at hk ⊢
  split at hk
  ·rename_i n e c hx
   split at hk
   ·exact ⟨_, hk, fun _ hx' => hx', fun p _ ho _ => by
      have := ho x (by simp [opnds])
      rw [hx] at this
      exact .ptr _ _ _ _ this.inv_ptr⟩
   ·exact hk.elim
  ·exact hk.elim
 case field g off k x =>
  simp only [rd] at hk ⊢
  split at hk
  ·rename_i c hx
   exact ⟨_, hk.2, fun _ hx' => ⟨hk.1, hx'⟩, fun p _ ho _ => by
     have := ho x (by simp [opnds])
     rw [hx] at this
     exact NmL.mk (NmL.take (NmL.drop this.inv_agg _) _)⟩
  ·exact hk.elim
 case idxSl k x i =>
  simp only [rd] at hk ⊢
  split at hk
  ·rename_i k' l kk i' hx hi
   exact ⟨_, hk.2, fun _ hx' => ⟨hk.1, hx'⟩, fun p _ ho _ => by
     have := ho x (by simp [opnds])
     rw [hx] at this
     refine .ro _ _ fun y hy => ?_
     have hlt : i'.toNat < l.length := by have := hk.1; omega
     have e : l.getD i'.toNat [] = l[i'.toNat] := by simp [List.getD, hlt]
     rw [e] at hy
     exact this.inv_sl _ (List.getElem_mem hlt) y hy⟩
  ·rename_i n off len kk i' hx hi
   split at hk
   ·exact ⟨_, hk.2, fun _ hx' => ⟨hk.1, hx'⟩, fun p _ ho _ => by
      have := ho x (by simp [opnds])
      rw [hx] at this
      exact .ptr _ _ _ _ this.inv_loc⟩
   ·exact hk.elim
  ·exact hk.elim
 case idxArr n k x i =>
  simp only [rd] at hk ⊢
  split at hk
  ·rename_i c kk i' hx hi
   exact ⟨_, hk.2, fun _ hx' => ⟨hk.1, hx'⟩, fun p _ ho _ => by
     have := ho x (by simp [opnds])
     rw [hx] at this
     exact .ro _ _ (NmL.drop this.inv_ro _)⟩
  ·rename_i m e c kk i' hx hi
   split at hk
   ·exact ⟨_, hk.2, fun _ hx' => ⟨hk.1, hx'⟩, fun p _ ho _ => by
      have := ho x (by simp [opnds])
      rw [hx] at this
      exact .ptr _ _ _ _ this.inv_ptr⟩
   ·exact hk.elim
  ·exact hk.elim
 case idxAgg g n k x i =>
  simp only [rd] at hk ⊢
  split at hk
  ·rename_i c kk i' hx hi
   exact ⟨_, hk.2, fun _ hx' => ⟨hk.1, hx'⟩, fun p _ ho _ => by
     have := ho x (by simp [opnds])
     rw [hx] at this
     exact NmL.mk (NmL.take (NmL.drop this.inv_agg _) _)⟩
  ·exact hk.elim
 case idxStr x i =>
  simp only [rd] at hk ⊢
  split at hk
  ·exact ⟨_, hk.2, fun _ hx' => ⟨hk.1, hx'⟩, fun p _ _ _ => .v _ _⟩
  ·exact hk.elim
 case bin o x y =>
  simp only [rd] at hk ⊢
  split at hk
  ·obtain ⟨v, h1, h2⟩ := binI_point hk
   exact ⟨_, h1, h2, fun p _ _ _ => .v _ _⟩
  ·exact hk.elim
 case binS o x y =>
  simp only [rd] at hk ⊢
  split at hk
  ·obtain ⟨v, h1, h2⟩ := binStr_point hk
   exact ⟨_, h1, h2, fun p _ _ _ => .v _ _⟩
  ·exact hk.elim
 case binB o x y =>
  simp only [rd] at hk ⊢
  split at hk
  ·obtain ⟨v, h1, h2⟩ := binBool_point hk
   exact ⟨_, h1, h2, fun p _ _ _ => .v _ _⟩
  ·exact hk.elim
 case un o x =>
  simp only [rd] at hk ⊢
  split at hk
  ·exact ⟨_, hk, fun _ hx' => hx', fun p _ _ _ => .v _ _⟩
  ·exact ⟨_, hk, fun _ hx' => hx', fun p _ _ _ => .v _ _⟩
  ·exact ⟨_, hk, fun _ hx' => hx', fun p _ _ _ => .v _ _⟩
  ·exact hk.elim
 case conv k x =>
  simp only [rd] at hk ⊢
  split at hk
  ·exact ⟨_, hk, fun _ hx' => hx', fun p _ _ _ => .v _ _⟩
  ·exact hk.elim
 case len x =>
  simp only [rd] at hk ⊢
  split at hk
  ·exact ⟨_, hk, fun _ hx' => hx', fun p _ _ _ => .v _ _⟩
  ·split at hk
   ·exact ⟨_, hk, fun _ hx' => hx', fun p _ _ _ => .v _ _⟩
   ·exact hk.elim
  ·exact ⟨_, hk, fun _ hx' => hx', fun p _ _ _ => .v _ _⟩
  ·exact hk.elim
 case lenS x =>
  simp only [rd] at hk ⊢
  split at hk
  ·exact ⟨_, hk, fun _ hx' => hx', fun p _ _ _ => .v _ _⟩
  ·exact hk.elim
 case lenC n => exact ⟨_, hk, fun _ hx' => hx', fun p _ _ _ => .v _ _⟩
 case slc k x lo hi =>
  simp only [rd] at hk ⊢
  split at hk
  ·rename_i k' l hx
   have fin : ∀ p : Name → Prop, (∀ o, o ∈ opnds (.slc k x lo hi) → Nm p (ev o)) → ∀ a b, Nm p (.sl k ((l.take a).drop b)) := fun p ho a b => by
    have := ho x (by simp [opnds])
    rw [hx] at this
    exact .sl _ _ _ fun r hr => this.inv_sl r (List.mem_of_mem_take (List.mem_of_mem_drop hr))
   split at hk
   ·exact ⟨_, hk.2, fun _ hx' => ⟨hk.1, hx'⟩, fun p _ ho _ => fin p ho _ _⟩
   ·exact ⟨_, hk.2, fun _ hx' => ⟨hk.1, hx'⟩, fun p _ ho _ => fin p ho _ _⟩
   ·exact ⟨_, hk.2, fun _ hx' => ⟨hk.1, hx'⟩, fun p _ ho _ => fin p ho _ _⟩
   ·exact ⟨_, hk.2, fun _ hx' => ⟨hk.1, hx'⟩, fun p _ ho _ => fin p ho _ _⟩
   ·exact hk.elim
  ·rename_i n off len hx
   have fin : ∀ p : Name → Prop, (∀ o, o ∈ opnds (.slc k x lo hi) → Nm p (ev o)) → ∀ a b, Nm p (.loc n a b) := fun p ho a b => by
    have := ho x (by simp [opnds])
    rw [hx] at this
    exact .loc _ _ _ _ this.inv_loc
   split at hk
   ·split at hk
    ·exact ⟨_, hk.2, fun _ hx' => ⟨hk.1, hx'⟩, fun p _ ho _ => fin p ho _ _⟩
    ·exact ⟨_, hk.2, fun _ hx' => ⟨hk.1, hx'⟩, fun p _ ho _ => fin p ho _ _⟩
    ·exact ⟨_, hk.2, fun _ hx' => ⟨hk.1, hx'⟩, fun p _ ho _ => fin p ho _ _⟩
    ·exact ⟨_, hk.2, fun _ hx' => ⟨hk.1, hx'⟩, fun p _ ho _ => fin p ho _ _⟩
    ·exact hk.elim
   ·exact hk.elim
  ·exact hk.elim
 case sstr x lo hi =>
  simp only [rd] at hk ⊢
  split at hk
  ·split at hk
   ·exact ⟨_, hk.2, fun _ hx' => ⟨hk.1, hx'⟩, fun p _ _ _ => .v _ _⟩
   ·exact ⟨_, hk.2, fun _ hx' => ⟨hk.1, hx'⟩, fun p _ _ _ => .v _ _⟩
   ·exact ⟨_, hk.2, fun _ hx' => ⟨hk.1, hx'⟩, fun p _ _ _ => .v _ _⟩
   ·exact ⟨_, hk.2, fun _ hx' => ⟨hk.1, hx'⟩, fun p _ _ _ => .v _ _⟩
   ·exact hk.elim
  ·exact hk.elim
 case nilc x =>
  simp only [rd] at hk ⊢
  split at hk
  ·rename_i c hx
   exact ⟨_, hk, fun _ hx' => hx', fun p _ ho _ => by have := ho x (by simp [opnds]); rwa [hx] at this⟩
  ·rename_i n e c hx
   split at hk
   ·exact ⟨_, hk, fun _ hx' => hx', fun p _ ho _ => by have := ho x (by simp [opnds]); rwa [hx] at this⟩
   ·exact hk.elim
  ·rename_i f c hx
   exact ⟨_, hk, fun _ hx' => hx', fun p _ ho _ => by have := ho x (by simp [opnds]); rwa [hx] at this⟩
  ·exact hk.elim
 case extract x i =>
  simp only [rd] at hk ⊢
  split at hk
  ·rename_i c hx
   exact ⟨_, hk.2, fun _ hx' => ⟨hk.1, hx'⟩, fun p _ ho _ => by
     have := ho x (by simp [opnds])
     rw [hx] at this
     exact Nm.getD this.inv_tup _⟩
  ·exact hk.elim
 case build z ps =>
  simp only [rd] at hk ⊢
  obtain ⟨c, h1, h2⟩ := layAll_point hk
  refine ⟨_, h1, ?_, fun p hz ho _ => ?_⟩
  ·exact fun K' hx' => layAll_mono (fun c' hc' => by rw [hc']; exact hx') h2
  ·exact .agg _ _ (layAll_nm (fun q hq => ho _ (by simp only [opnds, List.mem_map]; exact ⟨q, hq, rfl⟩)) (hz z ps rfl) h2)
 case mkfn f cs =>
  simp only [rd] at hk ⊢
  refine ⟨_, hk, fun _ hx' => hx', fun p _ ho _ => .fn _ _ _ fun x hx => ?_⟩
  obtain ⟨o, ho', rfl⟩ := List.mem_map.1 hx
  exact ho o (by simpa [opnds] using ho')
 case mm mx x y =>
  simp only [rd] at hk ⊢
  split at hk
  ·exact ⟨_, hk, fun _ hx' => hx', fun p _ _ _ => .v _ _⟩
  ·exact hk.elim
 case b2s x =>
  simp only [rd] at hk ⊢
  split at hk
  ·split at hk
   ·exact ⟨_, hk, fun _ hx' => hx', fun p _ _ _ => .v _ _⟩
   ·exact hk.elim
  ·exact hk.elim
 case idxB x y =>
  simp only [rd] at hk ⊢
  split at hk
  ·exact ⟨_, hk, fun _ hx' => hx', fun p _ _ _ => .v _ _⟩
  ·exact hk.elim
 case eqA neg ks x y =>
  simp only [rd] at hk ⊢
  split at hk
  ·split at hk
   ·exact ⟨_, hk, fun _ hx' => hx', fun p _ _ _ => .v _ _⟩
   ·exact hk.elim
  ·exact hk.elim
 all_goals exact hk.elim
end
section
variable [Envs]
variable {P : Program} {C : Ctx} {a : Act} {w : World} {S : Nat → Prop} {ρ : Name → Option Nat} {κ : Name → Nat}
variable {N : Name → Prop} {h h' : Name → Option Blk} {ev ev' : Operand → AV}
theorem al_agr {n : Name} (ha : Agr N h h') {op : AOp} {K : AV → Blk → Prop} (hz : ∀ z, op = .alloc z → OffL N z) (hz2 : ∀ k m z ps, op = .bslice k m z ps → OffL N z) (hz3 : ∀ k m z x, op = .mk k m z x → OffL N z)
  (he : ∀ o, o ∈ opnds op → ev o = ev' o ∧ Off N (ev o)) (hk : al ev h n K op) : al ev' h' n K op := by
 cases op
 case box x =>
  have ⟨e1, e2⟩ := he x (by simp [opnds])
  simp only [al, ← e1, ← cellsO_agr ha e2] at hk ⊢
  exact hk
 case alloc z =>
  simp only [al] at hk ⊢
  rw [← all_congr (p := fun x => oneB h x && isClo x) fun x hx => by rw [oneB_agr ha ((hz z rfl).mem x hx)]]
  exact hk
 case bslice k m z ps =>
  simp only [al] at hk ⊢
  rw [← all_congr (p := oneB h) fun x hx => oneB_agr ha ((hz2 k m z ps rfl).mem x hx)]
  refine ⟨hk.1, layAll_agr ha (fun p hp => ?_) hk.2⟩
  obtain ⟨q, hq, rfl⟩ := List.mem_map.1 hp
  exact he _ (by simp only [opnds, List.mem_map]; exact ⟨q, hq, rfl⟩)
 case mk k y z x =>
  have ⟨e1, e2⟩ := he x (by simp [opnds])
  simp only [al, ← e1] at hk ⊢
  split at hk
  ·rw [← all_congr (p := fun x => oneB h x && isClo x) fun x hx => by rw [oneB_agr ha ((hz3 k y z _ rfl).mem x hx)]]
   exact hk
  ·exact hk.elim
 all_goals exact hk.elim
theorem al_point {n : Name} {op : AOp} {K : AV → Blk → Prop} (hk : al ev h n K op) : ∃ x b, K x b ∧ (∀ K' : AV → Blk → Prop, K' x b → al ev h n K' op) ∧
  (∀ N : Name → Prop, ¬ N n → Off N x) ∧ ∀ N : Name → Prop, (∀ z, op = .alloc z → OffL N z) → (∀ o, o ∈ opnds op → Off N (ev o)) → OffB N b := by
 cases op
 case box x =>
  simp only [al] at hk ⊢
  split at hk
  ·rename_i c hc
   exact ⟨_, _, hk, fun _ h => h, fun N hn => Off.mk_ptr hn, fun N _ ho m hm => cellsO_off (ho x (by simp [opnds])) hc m hm⟩
  ·exact hk.elim
 case alloc z =>
  simp only [al] at hk ⊢
  exact ⟨_, _, hk.2, fun _ h => ⟨hk.1, h⟩, fun N hn => Off.mk_ptr hn, fun N hz _ m hm => hz z rfl m hm⟩
 case bslice k m z ps =>
  simp only [al] at hk ⊢
  obtain ⟨c, ⟨h1, h2⟩, h3⟩ := layAll_point hk.2
  refine ⟨_, _, h2, fun K' h => ⟨hk.1, layAll_mono (fun c' hc' => ?_) h3⟩, fun N hn => Off.mk_loc hn, fun N _ _ m hm => rfl⟩
  rw [hc']; exact ⟨h1, h⟩
 case mk k y z x =>
  simp only [al] at hk ⊢
  split at hk
  ·exact ⟨_, _, hk.2, fun _ h => ⟨hk.1, h⟩, fun N hn => Off.mk_loc hn, fun N _ _ m hm => rfl⟩
  ·exact hk.elim
 all_goals exact hk.elim
theorem mapO_agr {f g : AV → Option (AV × List Name)} : ∀ {c : List AV}, (∀ x, x ∈ c → f x = g x) → mapO f c = mapO g c
 | [], _ => rfl
 | x :: r, hh => by simp only [mapO, hh x (by simp), mapO_agr (c := r) fun y hy => hh y (by simp [hy])]
theorem mapO_names {f : AV → Option (AV × List Name)} (p : Name → Prop) : ∀ {c c' : List AV} {L : List Name}, (∀ x, x ∈ c → ∀ y L, f x = some (y, L) → ∀ n, n ∈ L → p n) → mapO f c = some (c', L) → ∀ n, n ∈ L → p n
 | [], c', L, _, hm, n, hn => by
  simp only [mapO, Option.some.injEq, Prod.mk.injEq] at hm
  rw [← hm.2] at hn; cases hn
 | x :: r, c', L, hh, hm, n, hn => by
  simp only [mapO] at hm
  split at hm
  ·rename_i y L1 ys L2 h1 h2
   simp only [Option.some.injEq, Prod.mk.injEq] at hm
   rw [← hm.2] at hn
   rcases List.mem_append.1 hn with hn | hn
   ·exact hh x (by simp) y L1 h1 n hn
   ·exact mapO_names p (fun z hz => hh z (by simp [hz])) h2 n hn
  ·cases hm
theorem conv_agr (ha : Agr N h h') (hb : ∀ n b, ¬ N n → h n = some b → OffB N b) : ∀ (m : Nat) (c : Bool) (x : AV), Off N x → conv h m [] c x = conv h' m [] c x ∧ ∀ y L, conv h m [] c x = some (y, L) → ∀ n, n ∈ L → ¬ N n := by
 intro m
 induction m with
 | zero => intro c x _; exact ⟨rfl, fun y L h => by simp [conv] at h⟩
 | succ m ih =>
  intro c x ho
  have lists : ∀ (c : Bool) (cs : List AV), OffL N cs → mapO (conv h m [] c) cs = mapO (conv h' m [] c) cs ∧ ∀ ys L, mapO (conv h m [] c) cs = some (ys, L) → ∀ n, n ∈ L → ¬ N n := fun c cs hcs =>
   ⟨mapO_agr fun x hx => (ih c x (hcs.mem x hx)).1, fun ys L hm => mapO_names (fun n => ¬ N n) (fun x hx y L hc => (ih c x (hcs.mem x hx)).2 y L hc) hm⟩
  cases x
  case junk => exact ⟨rfl, fun y L h => by simp only [conv] at h; split at h <;> simp at h; rw [h.2]; simp⟩
  case v x => exact ⟨rfl, fun y L h => by simp only [conv, Option.some.injEq, Prod.mk.injEq] at h; rw [← h.2]; simp⟩
  case sl k l => exact ⟨rfl, fun y L h => by simp only [conv, Option.some.injEq, Prod.mk.injEq] at h; rw [← h.2]; simp⟩
  case ro c => exact ⟨rfl, fun y L h => by simp only [conv, Option.some.injEq, Prod.mk.injEq] at h; rw [← h.2]; simp⟩
  case loc n off len =>
   simp only [conv, idxN]
   cases hx : h n with
   | none => rw [ha.none ho.loc hx]; exact ⟨rfl, fun y L h => by simp at h⟩
   | some b =>
    obtain ⟨b', hb', e⟩ := ha.some ho.loc hx
    rw [hb']
    cases b with
    | var c z =>
     obtain ⟨z', rfl⟩ := frz_var e
     exact ⟨rfl, fun y L h => by simp at h⟩
    | arr k l z =>
     obtain ⟨z', rfl⟩ := frz_arr e
     refine ⟨rfl, fun y L h => ?_⟩
     simp only [Option.some.injEq, Prod.mk.injEq] at h
     rw [← h.2]
     intro n' hn'
     rw [List.mem_singleton.1 hn']; exact ho.loc
  case ptr n e o =>
   simp only [conv, idxN]
   cases hx : h n with
   | none => rw [ha.none ho.ptr hx]; exact ⟨rfl, fun y L h => by simp at h⟩
   | some b =>
    obtain ⟨b', hb', e'⟩ := ha.some ho.ptr hx
    rw [hb']
    have hbo := hb n b ho.ptr hx
    cases b with
    | var c z =>
     obtain ⟨z', rfl⟩ := frz_var e'
     have hl := lists true c hbo
     simp only [hl.1, true_and]
     intro y L h
     cases hm : mapO (conv h' m [] true) c with
     | none => rw [hm] at h; simp at h
     | some q =>
      rw [hm] at h
      simp only [Option.map_some, Option.some.injEq, Prod.mk.injEq] at h
      rw [← h.2]
      intro n' hn'
      rcases List.mem_cons.1 hn' with rfl | hn'
      ·exact ho.ptr
      ·exact hl.2 q.1 q.2 (by rw [hl.1, hm]) n' hn'
    | arr k l z =>
     obtain ⟨z', rfl⟩ := frz_arr e'
     refine ⟨rfl, fun y L h => ?_⟩
     simp only [Option.some.injEq, Prod.mk.injEq] at h
     rw [← h.2]
     intro n' hn'
     rw [List.mem_singleton.1 hn']; exact ho.ptr
  all_goals
   rename_i cs
   have hl := lists c cs (by first | exact ho.fn | exact ho.agg | exact ho.tup)
   simp only [conv, hl.1, true_and]
   intro y L h
   cases hm : mapO (conv h' m [] c) cs with
   | none => rw [hm] at h; simp at h
   | some q =>
    rw [hm] at h
    simp only [Option.map_some, Option.some.injEq, Prod.mk.injEq] at h
    rw [← h.2]
    exact hl.2 q.1 q.2 (by rw [hl.1, hm])
mutual
theorem rn_has (φ : Name → Option Name) (n : Name) (hφ : ∀ m, φ m ≠ some n) : ∀ x : AV, (rn φ x).has n = false
 | .v _ => rfl
 | .sl _ _ => rfl
 | .ro _ => rfl
 | .junk => rfl
 | .loc m off len => by
  simp only [rn]
  cases hm : φ m with
  | none => rfl
  | some m' =>
   simp only [AV.has, decide_eq_false_iff_not]
   rintro rfl; exact hφ m hm
 | .ptr m e c => by
  simp only [rn]
  cases hm : φ m with
  | none => rfl
  | some m' =>
   simp only [AV.has, decide_eq_false_iff_not]
   rintro rfl; exact hφ m hm
 | .fn f c => by simp only [rn, AV.has]; exact rnL_has φ n hφ c
 | .agg c => by simp only [rn, AV.has]; exact rnL_has φ n hφ c
 | .tup c => by simp only [rn, AV.has]; exact rnL_has φ n hφ c
theorem rnL_has (φ : Name → Option Name) (n : Name) (hφ : ∀ m, φ m ≠ some n) : ∀ c : List AV, hasL n (rnL φ c) = false
 | [] => rfl
 | x :: r => by simp only [rnL, hasL, rn_has φ n hφ x, rnL_has φ n hφ r, Bool.or_self]
end
end
section
variable [Envs]
variable {P : Program} {C : Ctx} {a : Act} {w : World} {S : Nat → Prop} {ρ : Name → Option Nat} {κ : Name → Nat}
structure Dl where
 v : AV
 nb : List (Name × Blk)
 fz : Bool
 L : List Name
 nn : Name → Prop
def app (d : Option Nat) (δ : Dl) (σ : FSt) : FSt :=
 ⟨upd σ.s d δ.v, fun m => (hlook δ.nb m).or ((σ.h m).map fun b => if δ.fz = true ∧ m ∈ δ.L then frz b else b)⟩
def isV : AV → Bool
 | .v _ => true
 | _ => false
def okZ : AOp → Bool
 | .build z _ => z.all isV
 | .alloc z => z.all isV
 | .bslice _ _ z _ => z.all isV
 | .mk _ _ z _ => z.all isV
 | _ => true
def freeA : AOp → Bool
 | .call _ _ bor => bor.isEmpty
 | .store .. | .append .. | .appendC .. | .bsliceC .. | .clr .. => false
 | op => okZ op
theorem allV_nm {p : Name → Prop} {z : List AV} (h : z.all isV = true) : NmL p z := by
 intro x hx
 have := List.all_eq_true.1 h x hx
 cases x <;> simp [isV] at this
 exact .v _ _
theorem allV_off {N : Name → Prop} {z : List AV} (h : z.all isV = true) : OffL N z := by
 refine OffL.of_mem fun x hx => ?_
 have := List.all_eq_true.1 h x hx
 cases x <;> simp [isV] at this
 exact Off.v _
inductive Eff (P : Program) (d : Option Nat) (op : AOp) (σ : FSt) : Dl → Prop
 | rd (v : AV) (h1 : isRd op = true) (h2 : ∀ K : AV → Prop, K v → Vs.rd (evO σ.s) σ.h K op)
   (h3 : ∀ p : Name → Prop, (∀ o, o ∈ opnds op → Nm p (evO σ.s o)) → (∀ n b, p n → σ.h n = some b → NmB p b) → Nm p v) : Eff P d op σ ⟨v, [], false, [], fun _ => False⟩
 | al (d' : Nat) (hd : d = some d') (v : AV) (b : Blk) (h1 : ∀ K : AV → Blk → Prop, K v b → Vs.al (evO σ.s) σ.h (.t d' 0) K op) (hf : FreshF (.t d' 0) σ) (hn : b.has (.t d' 0) = false)
   (h2 : ∀ N : Name → Prop, ¬ N (.t d' 0) → Off N v) (h3 : ∀ N : Name → Prop, (∀ o, o ∈ opnds op → Off N (evO σ.s o)) → OffB N b) : Eff P d op σ ⟨v, [(.t d' 0, b)], false, [], fun n => n = .t d' 0⟩
 | call (d' : Nat) (hd : d = some d') (f : Operand) (args : List Operand) (hop : op = .call f args []) (g : FuncId) (caps : List AV) (hg : evO σ.s f = .fn g caps) (ys : List AV) (L : List Name)
   (hm : mapO (conv σ.h 8 [] false) (args.map (evO σ.s) ++ caps) = some (ys, L)) (r : AV) (hout : List (Option Blk)) (fz : Bool) (hfn : Fn P g [] ys r hout)
   (hflat : fz = false → (L = [] ∨ (flat r = true ∧ ∀ b, some b ∈ hout → flatB b))) (hfr : ∀ j, j < hout.length → FreshF (.t d' j) σ) :
   Eff P d op σ ⟨rn (phi [] d' hout.length) r, newsL (rnB (phi [] d' hout.length)) d' 0 0 hout, fz, L, fun n => ∃ j, j < hout.length ∧ n = .t d' j⟩
def Canon (σ : St) : Prop := (∀ p, p ∈ σ.s → look σ.s p.1 = p.2) ∧ ∀ p, p ∈ σ.h → hlook σ.h p.1 = some p.2
def dedS : List (Nat × AV) → List (Nat × AV)
 | [] => []
 | (i, x) :: r => (i, x) :: (dedS r).filter fun p => !decide (p.1 = i)
def dedH : List (Name × Blk) → List (Name × Blk)
 | [] => []
 | (i, x) :: r => (i, x) :: (dedH r).filter fun p => !decide (p.1 = i)
theorem look_filter (i : Nat) : ∀ (s : List (Nat × AV)) (t : Nat), t ≠ i → look (s.filter fun p => !decide (p.1 = i)) t = look s t
 | [], _, _ => rfl
 | (j, x) :: r, t, ht => by
  by_cases hj : j = i
  ·simp only [List.filter_cons, hj, decide_true, Bool.not_true, Bool.false_eq_true, if_false, look, ht, look_filter i r t ht]
  ·simp only [List.filter_cons, hj, decide_false, Bool.not_false, if_true, look, look_filter i r t ht]
theorem hlook_filter (i : Name) : ∀ (s : List (Name × Blk)) (t : Name), t ≠ i → hlook (s.filter fun p => !decide (p.1 = i)) t = hlook s t
 | [], _, _ => rfl
 | (j, x) :: r, t, ht => by
  by_cases hj : j = i
  ·simp only [List.filter_cons, hj, decide_true, Bool.not_true, Bool.false_eq_true, if_false, hlook, ht, hlook_filter i r t ht]
  ·simp only [List.filter_cons, hj, decide_false, Bool.not_false, if_true, hlook, hlook_filter i r t ht]
theorem dedS_spec : ∀ s : List (Nat × AV), look (dedS s) = look s ∧ ∀ p, p ∈ dedS s → look (dedS s) p.1 = p.2
 | [] => ⟨rfl, by simp [dedS]⟩
 | (i, x) :: r => by
  obtain ⟨h1, h2⟩ := dedS_spec r
  have e : look (dedS ((i, x) :: r)) = look ((i, x) :: r) := by
   funext t
   simp only [dedS, look]
   split
   ·rfl
   ·rename_i ht
    rw [look_filter i _ _ ht, h1]
  refine ⟨e, fun p hp => ?_⟩
  simp only [dedS, List.mem_cons, List.mem_filter, Bool.not_eq_true', decide_eq_false_iff_not] at hp
  rcases hp with rfl | ⟨hp, hne⟩
  ·simp [dedS, look]
  ·simp only [dedS, look, hne, if_false]
   rw [look_filter i _ _ hne]
   exact h2 p hp
theorem dedH_spec : ∀ s : List (Name × Blk), hlook (dedH s) = hlook s ∧ ∀ p, p ∈ dedH s → hlook (dedH s) p.1 = some p.2
 | [] => ⟨rfl, by simp [dedH]⟩
 | (i, x) :: r => by
  obtain ⟨h1, h2⟩ := dedH_spec r
  have e : hlook (dedH ((i, x) :: r)) = hlook ((i, x) :: r) := by
   funext t
   simp only [dedH, hlook]
   split
   ·rfl
   ·rename_i ht
    rw [hlook_filter i _ _ ht, h1]
  refine ⟨e, fun p hp => ?_⟩
  simp only [dedH, List.mem_cons, List.mem_filter, Bool.not_eq_true', decide_eq_false_iff_not] at hp
  rcases hp with rfl | ⟨hp, hne⟩
  ·simp [dedH, hlook]
  ·simp only [dedH, hlook, hne, if_false]
   rw [hlook_filter i _ _ hne]
   exact h2 p hp
def canon (σ : St) : St := ⟨dedS σ.s, dedH σ.h⟩
theorem canon_f (σ : St) : (canon σ).f = σ.f := by simp only [canon, St.f, (dedS_spec σ.s).1, (dedH_spec σ.h).1]
theorem canon_ok (σ : St) : Canon (canon σ) := ⟨(dedS_spec σ.s).2, (dedH_spec σ.h).2⟩
theorem freshL_of {n : Name} {σ : St} (hc : Canon σ) (hn : n.isT = true) (hf : FreshF n σ.f) : freshL n σ = true := by
 simp only [freshL, Bool.and_eq_true, List.all_eq_true, Bool.not_eq_true', decide_eq_false_iff_not]
 refine ⟨⟨hn, fun p hp => ?_⟩, fun p hp => ⟨?_, ?_⟩⟩
 ·rw [← hc.1 p hp]; exact hf.2.1 p.1
 ·intro e
  have h1 := hf.1.1
  have h2 := hc.2 p hp
  rw [e] at h2
  simp only [St.f] at h1
  rw [h1] at h2; cases h2
 ·exact hf.2.2 p.1 p.2 (hc.2 p hp)
theorem stepA_rd {op : AOp} (h : isRd op = true) {d : Option Nat} {σ : St} {K : St → Prop} : stepA P d σ K op ↔ rd (evO (look σ.s)) (hlook σ.h) (fun v => K ⟨put d v σ.s, σ.h⟩) op := by
 cases op <;> first | rfl | simp [isRd] at h
theorem app_rd {d : Option Nat} {σ : St} {v : AV} {nn : Name → Prop} : (St.mk (put d v σ.s) σ.h).f = app d ⟨v, [], false, [], nn⟩ σ.f := by
 simp only [St.f, app, look_put, hlook, Option.none_or, Bool.false_eq_true, false_and, if_false]
 congr 1
 funext m
 cases hlook σ.h m <;> rfl
theorem app_al {d : Nat} {σ : St} {v : AV} {b : Blk} {n : Name} {nn : Name → Prop} : (St.mk ((d, v) :: σ.s) ((n, b) :: σ.h)).f = app (some d) ⟨v, [(n, b)], false, [], nn⟩ σ.f := by
 simp only [St.f, app, Bool.false_eq_true, false_and, if_false]
 congr 1
 funext m
 simp only [hlook]
 by_cases hm : m = n
 ·simp [hm]
 ·simp only [hm, if_false, Option.none_or]
  cases hlook σ.h m <;> rfl
theorem app_call {d : Nat} {σ : St} {v : AV} {hout : List (Option Blk)} {fz : Bool} {L : List Name} {nn : Name → Prop} :
  (St.mk ((d, v) :: σ.s) (aftL σ.h [] d hout fz L)).f = app (some d) ⟨v, newsL (rnB (phi [] d hout.length)) d 0 0 hout, fz, L, nn⟩ σ.f := by
 simp only [St.f, app]
 congr 1
 funext m
 unfold aftL
 rw [hlook_append]
 simp only [List.length_nil]
 congr 1
 rw [hlook_olds _ (fun m b b' h => by simp [aftF, idxN] at h)]
 cases hlook σ.h m with
 | none => rfl
 | some b => simp [aftF, idxN]
theorem eff_of_step {d : Option Nat} {σ : St} {K : St → Prop} {op : AOp} (hfree : freeA op = true) (hd : isRd op = true ∨ d.isSome = true) (hv : stepA P d σ K op) :
  ∃ δ, Eff P d op σ.f δ ∧ ∃ σ' : St, σ'.f = app d δ σ.f ∧ K σ' := by
 by_cases hr : isRd op = true
 ·rw [stepA_rd hr] at hv
  obtain ⟨x, h1, h2, h3⟩ := rd_point hv
  refine ⟨_, .rd x hr h2 (fun p ho hb => h3 p (fun z ps e => ?_) ho hb), _, app_rd, h1⟩
  subst e
  exact allV_nm (by simpa [freeA, okZ] using hfree)
 ·have hd := hd.resolve_left hr
  obtain ⟨d', rfl⟩ := Option.isSome_iff_exists.1 hd
  have alc : ∀ {op : AOp}, freeA op = true → al (evO (look σ.s)) (hlook σ.h) (.t d' 0) (fun v b => (freshL (.t d' 0) σ = true ∧ b.has (.t d' 0) = false) ∧ K ⟨(d', v) :: σ.s, (.t d' 0, b) :: σ.h⟩) op →
    ∃ δ, Eff P (some d') op σ.f δ ∧ ∃ σ' : St, σ'.f = app (some d') δ σ.f ∧ K σ' := by
   intro op hfree hv
   obtain ⟨x, b, ⟨⟨h1, h2⟩, h3⟩, h4, h5, h6⟩ := al_point hv
   refine ⟨_, .al d' rfl x b h4 (freshL_spec h1) h2 h5 (fun N ho => h6 N (fun z e => ?_) ho), _, app_al, h3⟩
   subst e
   exact allV_off (by simpa [freeA, okZ] using hfree)
  cases op
  case box x => exact alc hfree hv
  case alloc z => exact alc hfree hv
  case bslice k m z ps => exact alc hfree hv
  case mk k y z n => exact alc hfree hv
  case call f args bor =>
   simp only [freeA, List.isEmpty_iff] at hfree
   subst hfree
   simp only [stepA, callL] at hv
   split at hv
   ·rename_i g caps hg
    have hB : borN σ.h (args.map (evO (look σ.s))) [] = [] := rfl
    rw [hB] at hv
    split at hv
    ·rename_i ys L1 hin L2 h1 h2
     simp only [blksO, Option.some.injEq, Prod.mk.injEq] at h2
     obtain ⟨rfl, rfl⟩ := h2
     obtain ⟨_, r, hout, fz, hfn, hflat, hfr, hK⟩ := hv
     simp only [List.append_nil, Option.getD_some, List.length_nil] at hflat hfr hK
     have hfr' : ∀ j, j < hout.length → FreshF (.t d' j) σ.f := by
      intro j hj
      simp only [freshAll, List.all_eq_true, List.mem_range] at hfr
      have := hfr j hj
      simp only [Nat.not_lt_zero, decide_false, Bool.false_or] at this
      exact freshL_spec this
     exact ⟨_, .call d' rfl f args rfl g caps hg ys L1 h1 r hout fz hfn hflat hfr', _, app_call, hK⟩
    ·exact hv.elim
   ·exact hv.elim
  all_goals first | (simp [freeA] at hfree; done) | (simp [isRd] at hr; done)
theorem step_of_eff {d : Option Nat} {σ : St} {op : AOp} {δ : Dl} (hc : Canon σ) (he : Eff P d op σ.f δ) : stepA P d σ (fun σ' => σ'.f = app d δ σ.f) op := by
 cases he with
 | rd v h1 h2 h3 =>
  rw [stepA_rd h1]
  exact h2 _ app_rd
 | al d' hd v b h1 hf hn h2 h3 =>
  subst hd
  have hfl := freshL_of hc rfl hf
  have := h1 (fun v b => (freshL (.t d' 0) σ = true ∧ b.has (.t d' 0) = false) ∧ (St.mk ((d', v) :: σ.s) ((.t d' 0, b) :: σ.h)).f = app (some d') ⟨v, [(.t d' 0, b)], false, [], fun n => n = .t d' 0⟩ σ.f) ⟨⟨hfl, hn⟩, app_al⟩
  cases op <;> first
   | exact this.elim
   | (simp only [stepA]
      exact h1 _ ⟨⟨hfl, hn⟩, app_al⟩)
 | call d' hd f args hop g caps hg ys L hm r hout fz hfn hflat hfr =>
  subst hd; subst hop
  simp only [stepA, callL]
  have hg' : evO (look σ.s) f = .fn g caps := hg
  have hm' : mapO (conv (hlook σ.h) 8 [] false) (args.map (evO (look σ.s)) ++ caps) = some (ys, L) := hm
  have hB : borN σ.h (args.map (evO (look σ.s))) [] = [] := rfl
  rw [hg', hB]
  simp only [hm', blksO]
  refine ⟨rfl, r, hout, fz, hfn, by simpa using hflat, ?_, ?_⟩
  ·simp only [freshAll, List.all_eq_true, List.mem_range]
   intro j hj
   simp only [Option.getD_some, freshL_of hc rfl (hfr j hj), Bool.or_true]
  ·simp only [List.append_nil, Option.getD_some, List.length_nil]
   exact app_call
end
section
variable [Envs]
variable {P : Program} {C : Ctx} {a : Act} {w : World} {S : Nat → Prop} {ρ : Name → Option Nat} {κ : Name → Nat}
structure WF (σ : FSt) : Prop where
 s : ∀ t, Nm (fun _ => True) (σ.s t)
 h : ∀ n b, σ.h n = some b → NmB (fun _ => True) b
theorem rc_nm {x : AV} {v : Value} (h : RC S w x v) : Nm (fun _ => False) x := by
 have key : ∀ (c : List AV), (∀ j, j < c.length → Nm (fun _ => False) (c.getD j .junk)) → ∀ y, y ∈ c → Nm (fun _ => False) y := by
  intro c hc y hy
  obtain ⟨j, hj, rfl⟩ := List.mem_iff_getElem.1 hy
  have := hc j hj
  simpa [List.getD, hj] using this
 induction h with
 | v x => exact .v _ _
 | sl k l base cap x off xs hb hc ho hr hk hcap ih =>
  refine .sl _ _ _ fun r hr' y hy => ?_
  obtain ⟨i, hi, rfl⟩ := List.mem_iff_getElem.1 hr'
  have e : l.getD i [] = l[i] := by simp [List.getD, hi]
  refine key _ (fun j hj => ?_) y hy
  have := ih i j hi (by rw [← hk i hi, e]; exact hj)
  rwa [e] at this
 | ro c x off xs hx hc ho hr ih => exact .ro _ _ (key c ih)
 | fn f c vs hl hr ih => exact .fn _ _ _ (key c ih)
 | agg c vs hl hr ih => exact .agg _ _ (key c ih)
 | tup c vs hl hr ih => exact .tup _ _ (key c ih)
theorem rv_nm {h : Name → Option Blk} {x : AV} {v : Value} (hx : RV S w ρ κ h x v) : Nm (fun _ => True) x := by
 have key : ∀ (c : List AV), (∀ j, j < c.length → Nm (fun _ => True) (c.getD j .junk)) → ∀ y, y ∈ c → Nm (fun _ => True) y := by
  intro c hc y hy
  obtain ⟨j, hj, rfl⟩ := List.mem_iff_getElem.1 hy
  have := hc j hj
  simpa [List.getD, hj] using this
 induction hx with
 | junk v => exact .junk _
 | clo hx => exact (rc_nm hx).mono fun _ h => h.elim
 | loc n off len v hv => exact .loc _ _ _ _ trivial
 | ptr n e c v hv => exact .ptr _ _ _ _ trivial
 | fn f c vs hl hr ih => exact .fn _ _ _ (key c ih)
 | agg c vs hl hr ih => exact .agg _ _ (key c ih)
 | tup c vs hl hr ih => exact .tup _ _ (key c ih)
theorem OK.wf {σ : FSt} (hok : OK C σ a w S ρ κ) : WF σ := by
 refine ⟨fun t => rv_nm (hok.slots t), fun n b hb => ?_⟩
 have hk := hok.hok.blk n b hb
 cases b with
 | var c z =>
  obtain ⟨x, cs, T, fr, _, _, _, _, _, _, _, h7⟩ := hk
  intro y hy
  obtain ⟨j, hj, rfl⟩ := List.mem_iff_getElem.1 hy
  have := rv_nm (h7 j hj).2
  simpa [List.getD, hj] using this
 | arr k l z =>
  obtain ⟨h0, ⟨_, rfl⟩ | ⟨x, cs, T, fr, _, _, _, _, _, _, _, h7⟩⟩ := hk
  ·intro r hr; cases hr
  ·intro r hr y hy
   obtain ⟨i, hi, rfl⟩ := List.mem_iff_getElem.1 hr
   obtain ⟨j, hj, rfl⟩ := List.mem_iff_getElem.1 hy
   have e : l.getD i [] = l[i] := by simp [List.getD, hi]
   have := rc_nm (h7 i j hi (by rw [← h0 i hi, e]; exact hj)).2
   rw [e] at this
   simpa [List.getD, hj] using this
theorem Nm.and {p q : Name → Prop} {x : AV} (hx : Nm p x) (ho : Off (fun n => ¬ q n) x) : Nm (fun n => p n ∧ q n) x := by
 induction hx with
 | junk => exact .junk _
 | v => exact .v _ _
 | sl _ k l hl _ => exact .sl _ k l hl
 | ro _ c hc _ => exact .ro _ c hc
 | loc _ n off len hn => exact .loc _ n off len ⟨hn, Classical.not_not.1 ho.loc⟩
 | ptr _ n e c hn => exact .ptr _ n e c ⟨hn, Classical.not_not.1 ho.ptr⟩
 | fn _ f c hc ih => exact .fn _ f c fun x hx => ih x hx (ho.fn.mem x hx)
 | agg _ c hc ih => exact .agg _ c fun x hx => ih x hx (ho.agg.mem x hx)
 | tup _ c hc ih => exact .tup _ c fun x hx => ih x hx (ho.tup.mem x hx)
theorem OffB.mem {N : Name → Prop} {c : List AV} {z : Bool} (ho : OffB N (.var c z)) : OffL N c := fun n hn => ho n hn
theorem NmB.and {p q : Name → Prop} {b : Blk} (hx : NmB p b) (ho : OffB (fun n => ¬ q n) b) : NmB (fun n => p n ∧ q n) b := by
 cases b with
 | var c z => exact fun x hx' => (hx x hx').and (ho.mem.mem x hx')
 | arr k l z => exact hx
theorem NmB.frz {p : Name → Prop} {b b' : Blk} (hb : frz b' = frz b) (hx : NmB p b) : NmB p b' := by
 cases b <;> cases b' <;> simp [Vs.frz] at hb <;> simp_all [NmB]
theorem Eff.move {d : Option Nat} {op : AOp} {σ σ' : FSt} {δ : Dl} {N : Name → Prop} (he : Eff P d op σ δ) (hfree : freeA op = true)
  (ho : ∀ o, o ∈ opnds op → evO σ.s o = evO σ'.s o ∧ Off N (evO σ.s o)) (ha : Agr N σ.h σ'.h) (hb : ∀ n b, ¬ N n → σ.h n = some b → OffB N b)
  (hf : ∀ n, δ.nn n → FreshF n σ') : Eff P d op σ' δ := by
 cases he with
 | rd v h1 h2 h3 =>
  refine .rd v h1 (fun K hK => rd_agr ha ho (h2 K hK)) fun p hp hh => ?_
  have e : (fun n => ¬ ¬ N n) = N := funext fun n => propext Classical.not_not
  have := h3 (fun n => p n ∧ ¬ N n) (fun o hm => ?_) (fun n b hn hx => ?_)
  ·exact this.mono fun n h => h.1
  ·obtain ⟨e1, e2⟩ := ho o hm
   refine Nm.and ?_ (by rw [e]; exact e2)
   rw [e1]; exact hp o hm
  ·obtain ⟨b', h4, h5⟩ := ha.some hn.2 hx
   refine NmB.and (NmB.frz h5.symm (hh n b' hn.1 h4)) (by rw [e]; exact hb n b hn.2 hx)
 | al d' hd v b h1 hf' hn h2 h3 =>
  refine .al d' hd v b (fun K hK => al_agr ha ?_ ?_ ?_ ho (h1 K hK)) (hf _ rfl) hn h2 fun N' hN' => h3 N' fun o hm => by rw [(ho o hm).1]; exact hN' o hm
  ·rintro z rfl; exact allV_off (by simpa [freeA, okZ] using hfree)
  ·rintro k m z ps rfl; exact allV_off (by simpa [freeA, okZ] using hfree)
  ·rintro k m z ps rfl; exact allV_off (by simpa [freeA, okZ] using hfree)
 | call d' hd f args hop g caps hg ys L hm r hout fz hfn hflat hfr =>
  subst hop
  have ⟨ef, of⟩ := ho f (by simp [opnds])
  rw [hg] at of
  have hargs : args.map (evO σ.s) = args.map (evO σ'.s) := List.map_congr_left fun o hm => (ho o (by simp [opnds, hm])).1
  refine .call d' hd f args rfl g caps (by rw [← ef]; exact hg) ys L ?_ r hout fz hfn hflat fun j hj => ?_
  ·rw [← hargs, ← mapO_agr (f := conv σ.h 8 [] false) fun x hx => ?_]
   ·exact hm
   ·refine (conv_agr ha hb 8 false x ?_).1
    rcases List.mem_append.1 hx with hx | hx
    ·obtain ⟨o, hm', rfl⟩ := List.mem_map.1 hx
     exact (ho o (by simp [opnds, hm'])).2
    ·exact of.fn.mem x hx
  ·exact hf _ ⟨j, hj, rfl⟩
theorem Eff.new {d : Option Nat} {op : AOp} {σ : FSt} {δ : Dl} (he : Eff P d op σ δ) : (∀ n, δ.nn n → ∃ d' j, d = some d' ∧ n = .t d' j ∧ FreshF n σ) ∧ ∀ n b, hlook δ.nb n = some b → δ.nn n := by
 cases he with
 | rd v h1 h2 h3 => exact ⟨fun n hn => hn.elim, fun n b hb => by simp [hlook] at hb⟩
 | al d' hd v b h1 hf' hn h2 h3 =>
  refine ⟨fun n hn => ⟨d', 0, hd, hn, by rw [hn]; exact hf'⟩, fun n b' hb => ?_⟩
  simp only [hlook] at hb
  split at hb
  ·assumption
  ·cases hb
 | call d' hd f args hop g caps hg ys L hm r hout fz hfn hflat hfr =>
  refine ⟨fun n ⟨j, hj, e⟩ => ⟨d', j, hd, e, by rw [e]; exact hfr j hj⟩, fun n b hb => ?_⟩
  rw [hlook_news] at hb
  cases n with
  | b j => simp [newsAt] at hb
  | t d'' j =>
   simp only [newsAt] at hb
   split at hb
   ·rename_i hc
    exact ⟨j, by omega, by rw [hc.1]⟩
   ·cases hb
theorem rnB_off {N : Name → Prop} {φ : Name → Option Name} (hφ : ∀ n m, N n → φ m ≠ some n) (b : Blk) : OffB N (rnB φ b) := by
 cases b with
 | var c z => exact fun n hn => rnL_has φ n (fun m => hφ n m hn) c
 | arr k l z => exact fun n hn => rfl
theorem newsL_mem {g : Blk → Blk} {d nB : Nat} : ∀ {l : List (Option Blk)} {i : Nat} {n : Name} {b : Blk}, (n, b) ∈ newsL g d nB i l → ∃ b', b = g b'
 | [], _, _, _, h => by simp [newsL] at h
 | none :: r, i, n, b, h => newsL_mem (l := r) (i := i + 1) (by simpa [newsL] using h)
 | some x :: r, i, n, b, h => by
  simp only [newsL] at h
  split at h
  ·rcases List.mem_cons.1 h with h | h
   ·simp only [Prod.mk.injEq] at h; exact ⟨x, h.2⟩
   ·exact newsL_mem h
  ·exact newsL_mem h
theorem Eff.off {d : Option Nat} {op : AOp} {σ : FSt} {δ : Dl} {N : Name → Prop} (he : Eff P d op σ δ) (hN : ∀ n, δ.nn n → ¬ N n) (hown : ∀ d' j, d = some d' → ¬ N (.t d' j)) (hs : WF σ)
  (ho : ∀ o, o ∈ opnds op → Off N (evO σ.s o)) (hb : ∀ n b, ¬ N n → σ.h n = some b → OffB N b) :
  Off N δ.v ∧ (∀ n b, hlook δ.nb n = some b → OffB N b) ∧ ∀ n, n ∈ δ.L → ¬ N n := by
 have ev_nm : ∀ o, Nm (fun _ => True) (evO σ.s o) := by
  intro o
  cases o with
  | tmp t => exact hs.s t
  | const v =>
   simp only [evO]
   cases v <;> first
    | exact .v _ _
    | (simp only [AV.ofValue]
       refine .agg _ _ fun x hx => ?_
       obtain ⟨y, _, rfl⟩ := List.mem_map.1 hx
       exact .v _ _)
  | global g => exact .junk _
  | func f => exact .fn _ _ _ (by simp)
 cases he with
 | rd v h1 h2 h3 =>
  refine ⟨?_, fun n b hb => by simp [hlook] at hb, by simp⟩
  have := h3 (fun n => ¬ N n) (fun o hm => (ev_nm o).of_off (ho o hm)) fun n b hn hx => ?_
  ·exact this.off fun n hn => hn
  ·have e : (fun n => ¬ ¬ N n) = N := funext fun n => propext Classical.not_not
   have := NmB.and (q := fun n => ¬ N n) (hs.h n b hx) (by rw [e]; exact hb n b hn hx)
   cases b with
   | var c z => exact fun x hx => (this x hx).mono fun _ h => h.2
   | arr k l z => exact this
 | al d' hd v b h1 hf' hn h2 h3 =>
  refine ⟨h2 N (hN _ rfl), fun n b' hb' => ?_, by simp⟩
  simp only [hlook] at hb'
  split at hb'
  ·obtain rfl := Option.some.inj hb'
   exact h3 N ho
  ·cases hb'
 | call d' hd f args hop g caps hg ys L hm r hout fz hfn hflat hfr =>
  subst hop
  have hφ : ∀ n m, N n → phi [] d' hout.length m ≠ some n := by
   intro n m hn e
   cases m with
   | t a b => simp [phi] at e
   | b j =>
    simp only [phi, List.length_nil, Nat.not_lt_zero, if_false] at e
    split at e
    ·exact hown d' j hd (by rw [Option.some.inj e]; exact hn)
    ·cases e
  refine ⟨fun n hn => rn_has _ n (fun m => hφ n m hn) r, fun n b hx => ?_, fun n hn => ?_⟩
  ·obtain ⟨b', rfl⟩ := newsL_mem (hlook_mem _ _ _ hx)
   exact rnB_off hφ b'
  ·have of := ho f (by simp [opnds])
   rw [hg] at of
   refine mapO_names (fun n => ¬ N n) (fun x hx y L' hc => ?_) hm n hn
   refine (conv_agr (h' := σ.h) (fun _ _ => rfl) hb 8 false x ?_).2 y L' hc
   rcases List.mem_append.1 hx with hx | hx
   ·obtain ⟨o, hm', rfl⟩ := List.mem_map.1 hx
    exact ho o (by simp [opnds, hm'])
   ·exact of.fn.mem x hx
theorem app_h (d : Option Nat) (δ : Dl) (σ : FSt) (n : Name) : (app d δ σ).h n = (hlook δ.nb n).or ((σ.h n).map fun b => if δ.fz = true ∧ n ∈ δ.L then frz b else b) := rfl
theorem frz_if (b : Blk) (p : Prop) [Decidable p] : frz (if p then frz b else b) = frz b := by
 split
 ·cases b <;> rfl
 ·rfl
theorem app_agr {d : Option Nat} {δ : Dl} {σ : FSt} (hn : ∀ n b, hlook δ.nb n = some b → δ.nn n) : Agr δ.nn σ.h (app d δ σ).h := by
 intro n h
 rw [app_h]
 cases hx : hlook δ.nb n with
 | some b => exact absurd (hn n b hx) h
 | none =>
  rw [Option.none_or]
  cases σ.h n with
  | none => rfl
  | some b => simp only [Option.map_some, frz_if]
theorem app_s {d : Option Nat} {δ : Dl} {σ : FSt} {t : Nat} (h : d ≠ some t) : (app d δ σ).s t = σ.s t := by
 cases d with
 | none => rfl
 | some d =>
  simp only [app, upd]
  rw [if_neg]
  rintro rfl; exact h rfl
theorem app_s_eq {d : Nat} {δ : Dl} {σ : FSt} : (app (some d) δ σ).s d = δ.v := by simp [app, upd]
theorem evO_app {d : Option Nat} {δ : Dl} {σ : FSt} {o : Operand} (h : ∀ t, d = some t → o ≠ .tmp t) : evO (app d δ σ).s o = evO σ.s o := by
 cases o with
 | tmp t =>
  simp only [evO]
  exact app_s fun e => h t e rfl
 | _ => rfl
theorem FreshF.off {n : Name} {σ : FSt} (h : FreshF n σ) (o : Operand) : (evO σ.s o).has n = false := by
 cases o with
 | tmp t => exact h.2.1 t
 | const v =>
  simp only [evO]
  cases v <;> first
   | rfl
   | (simp only [AV.ofValue, AV.has]
      have : OffL (fun m => m = n) (List.map (fun x => AV.v x) (Array.toList ‹_›)) := OffL.of_mem fun x hx => by
        obtain ⟨y, _, rfl⟩ := List.mem_map.1 hx
        exact Off.v _
      exact this n rfl)
 | global g => rfl
 | func f => rfl
theorem if_has (b : Blk) (p : Prop) [Decidable p] (n : Name) : (if p then frz b else b).has n = b.has n := by
 split
 ·exact frz_has (by cases b <;> rfl) n
 ·rfl
theorem eff_swap {dx dy : Option Nat} {x y : AOp} {σ : FSt} {δx δy : Dl} (hx : Eff P dx x σ δx) (hy : Eff P dy y (app dx δx σ) δy) (hs : WF σ) (fx : freeA x = true) (fy : freeA y = true)
  (a1 : ∀ t, dx = some t → ∀ o, o ∈ opnds y → o ≠ .tmp t) (a2 : ∀ t, dy = some t → ∀ o, o ∈ opnds x → o ≠ .tmp t) (a3 : ∀ t, dx = some t → dy ≠ some t)
  (j1 : ∀ t, dx = some t → σ.s t = .junk) (j2 : ∀ t, dy = some t → σ.s t = .junk) :
  Eff P dy y σ δy ∧ Eff P dx x (app dy δy σ) δx ∧ app dx δx (app dy δy σ) = app dy δy (app dx δx σ) := by
 obtain ⟨nx, bx⟩ := hx.new
 obtain ⟨ny, by'⟩ := hy.new
 have hxy : ∀ n, δx.nn n → ¬ δy.nn n := by
  intro n h1 h2
  obtain ⟨d1, i1, e1, rfl, _⟩ := nx n h1
  obtain ⟨d2, i2, e2, e3, _⟩ := ny _ h2
  simp only [Name.t.injEq] at e3
  exact a3 d1 e1 (by rw [e2, e3.1])
 have sx : ∀ o, Off δx.nn (evO σ.s o) := fun o n hn => by obtain ⟨_, _, _, _, hf⟩ := nx n hn; exact hf.off o
 have hbx : ∀ n b, σ.h n = some b → OffB δx.nn b := fun n b hb m hm => by obtain ⟨_, _, _, _, hf⟩ := nx m hm; exact hf.2.2 n b hb
 have hnone : ∀ n, δx.nn n → σ.h n = none := fun n hn => by obtain ⟨_, _, _, _, hf⟩ := nx n hn; exact hf.1.1
 have agx := app_agr (d := dx) (σ := σ) bx
 have fy' : ∀ n, δy.nn n → FreshF n σ := by
  intro n hn
  obtain ⟨d2, i2, e2, rfl, hf⟩ := ny n hn
  have hnx : ¬ δx.nn (.t d2 i2) := fun h => hxy _ h hn
  refine ⟨⟨?_, hf.1.2⟩, fun t => ?_, fun m b hb => ?_⟩
  ·have := hf.1.1
   rw [app_h] at this
   cases hσ : σ.h (.t d2 i2) with
   | none => rfl
   | some b => rw [hσ] at this; simp at this
  ·by_cases ht : dx = some t
   ·rw [j1 t ht]; rfl
   ·have := hf.2.1 t
    rwa [app_s ht] at this
  ·have h1 : ¬ δx.nn m := fun h => by rw [hnone m h] at hb; cases hb
   have h2 : hlook δx.nb m = none := by
    cases h : hlook δx.nb m with
    | none => rfl
    | some b => exact absurd (bx m b h) h1
   have := hf.2.2 m (if δx.fz = true ∧ m ∈ δx.L then frz b else b) (by rw [app_h, h2, hb]; rfl)
   rwa [if_has] at this
 have hy1 : Eff P dy y σ δy := by
  refine hy.move (N := δx.nn) fy (fun o ho => ?_) agx.symm (fun n b hn hb => ?_) fy'
  ·have e := evO_app (δ := δx) (σ := σ) (fun t ht => a1 t ht o ho)
   exact ⟨e, by rw [e]; exact sx o⟩
  ·rw [app_h] at hb
   have h2 : hlook δx.nb n = none := by
    cases h : hlook δx.nb n with
    | none => rfl
    | some b => exact absurd (bx n b h) hn
   rw [h2, Option.none_or] at hb
   cases hσ : σ.h n with
   | none => rw [hσ] at hb; cases hb
   | some b0 =>
    rw [hσ] at hb
    obtain rfl := Option.some.inj hb
    intro m hm
    rw [if_has]
    exact hbx n b0 hσ m hm
 obtain ⟨ov, ob, oL⟩ := hy1.off (N := δx.nn) (fun n hn h => hxy n h hn) (fun d' j hd' h => by
   obtain ⟨d1, i1, e1, e2, _⟩ := nx _ h
   simp only [Name.t.injEq] at e2
   exact a3 d1 e1 (by rw [hd', e2.1])) hs (fun o _ => sx o) (fun n b _ hb => hbx n b hb)
 have agy := app_agr (d := dy) (σ := σ) by'
 have sy : ∀ o, Off δy.nn (evO σ.s o) := fun o n hn => (fy' n hn).off o
 have hx1 : Eff P dx x (app dy δy σ) δx := by
  refine hx.move (N := δy.nn) fx (fun o ho => ⟨(evO_app (δ := δy) (σ := σ) (fun t ht => a2 t ht o ho)).symm, sy o⟩) agy (fun n b _ hb m hm => (fy' m hm).2.2 n b hb) fun n hn => ?_
  obtain ⟨d1, i1, e1, rfl, hf⟩ := nx n hn
  have hny := hxy _ hn
  refine ⟨⟨?_, hf.1.2⟩, fun t => ?_, fun m b hb => ?_⟩
  ·rw [app_h, hf.1.1]
   cases h : hlook δy.nb (.t d1 i1) with
   | none => rfl
   | some b => exact absurd (by' _ b h) hny
  ·by_cases ht : dy = some t
   ·subst ht; rw [app_s_eq]; exact ov _ hn
   ·rw [app_s ht]; exact hf.2.1 t
  ·rw [app_h] at hb
   cases h : hlook δy.nb m with
   | some b' =>
    rw [h] at hb
    obtain rfl := Option.some.inj hb
    exact ob m _ h _ hn
   | none =>
    rw [h, Option.none_or] at hb
    cases hσ : σ.h m with
    | none => rw [hσ] at hb; cases hb
    | some b0 =>
     rw [hσ] at hb
     obtain rfl := Option.some.inj hb
     rw [if_has]; exact hbx m b0 hσ _ hn
 refine ⟨hy1, hx1, ?_⟩
 obtain ⟨_, _, oLx⟩ := hx.off (N := δy.nn) (fun n hn => hxy n hn) (fun d' j hd' h => by
   obtain ⟨d1, i1, e1, e2, _⟩ := ny _ h
   simp only [Name.t.injEq] at e2
   exact a3 d' hd' (by rw [e1, e2.1])) hs (fun o _ => sy o) (fun n b _ hb m hm => (fy' m hm).2.2 n b hb)
 have e1 : (app dx δx (app dy δy σ)).s = (app dy δy (app dx δx σ)).s := by
  funext t
  by_cases h1 : dx = some t
  ·have h2 := a3 t h1
   subst h1
   rw [app_s_eq, app_s h2, app_s_eq]
  ·by_cases h2 : dy = some t
   ·rw [app_s h1]; subst h2; rw [app_s_eq, app_s_eq]
   ·rw [app_s h1, app_s h2, app_s h2, app_s h1]
 have e2 : (app dx δx (app dy δy σ)).h = (app dy δy (app dx δx σ)).h := by
  funext n
  simp only [app_h]
  cases h1 : hlook δx.nb n with
  | some b1 =>
   have hn := bx n b1 h1
   have h2 : hlook δy.nb n = none := by
    cases h : hlook δy.nb n with
    | none => rfl
    | some b => exact absurd (by' n b h) (hxy n hn)
   have h3 : n ∉ δy.L := fun h => oL n h hn
   simp only [h2, Option.none_or, Option.some_or, Option.map_some, h3, and_false, if_false]
  | none =>
   cases h2 : hlook δy.nb n with
   | some b2 =>
    have h3 : n ∉ δx.L := fun h => oLx n h (by' n b2 h2)
    simp only [Option.none_or, Option.some_or, Option.map_some, h3, and_false, if_false]
   | none =>
    simp only [Option.none_or]
    cases σ.h n with
    | none => rfl
    | some b =>
     simp only [Option.map_some, Option.some.injEq]
     cases b <;> split <;> split <;> simp [frz]
 show (⟨_, _⟩ : FSt) = ⟨_, _⟩
 exact congr (congrArg FSt.mk e1) e2
end
section
variable [Envs]
variable {P : Program} {C : Ctx} {a : Act} {w : World} {S : Nat → Prop} {ρ : Name → Option Nat} {κ : Name → Nat}
theorem bool_ne {b c : Bool} (h : b ≠ c) : b = !c := by cases b <;> cases c <;> simp at h <;> rfl
def freeO (o : AOper) : Bool := freeA o.op && (isRd o.op || o.dst.isSome)
def skipA : AOp := .mv (.const (.tuple #[]))
def opOf (b : Bool) (o : AOper) : AOp := if b then o.op else skipA
def EffS (P : Program) (b : Bool) (o : AOper) (σ : FSt) (δ : Dl) : Prop := Eff P o.dst (opOf b o) σ δ
def runs (o : AOper) (σ : FSt) (b : Bool) : Prop :=
 match o.guard with
 | none => b = true
 | some (g, want) => (∃ c, σ.s g = .v (.bool c) ∧ b = (c == want)) ∨ ((∃ cs, σ.s g = .v (.tuple cs)) ∧ b = false)
def EffG (P : Program) (o : AOper) (σ : FSt) (δ : Dl) : Prop := ∃ b, runs o σ b ∧ EffS P b o σ δ
def keepJ (d : Option Nat) (σ σ' : St) : Prop := ∀ t, d ≠ some t → look σ.s t = .junk → look σ'.s t = .junk
def vcE (P : Program) (K : FSt → Prop) : List AOper → FSt → Prop
 | [], σ => K σ
 | o :: r, σ => if freeO o = true then ∃ δ, EffG P o σ δ ∧ vcE P K r (app o.dst δ σ)
  else ∃ σl : St, σl.f = σ ∧ vc P (fun σ' => vcE P K r σ'.f ∧ keepJ o.dst σl σ') [o] σl
theorem put_keep (d : Option Nat) (x : AV) (σ : St) (h : List (Name × Blk)) : keepJ d σ ⟨put d x σ.s, h⟩ := by
 intro t ht hj
 show look (put d x σ.s) t = _
 rw [look_put]
 cases d with
 | none => exact hj
 | some d =>
  simp only [upd]
  rw [if_neg (by rintro rfl; exact ht rfl)]
  exact hj
theorem stepA_keep {d : Option Nat} {σ : St} {K : St → Prop} {op : AOp} (hv : stepA P d σ K op) : stepA P d σ (fun σ' => K σ' ∧ keepJ d σ σ') op := by
 by_cases hr : isRd op = true
 ·rw [stepA_rd hr] at hv ⊢
  obtain ⟨x, h1, h2, _⟩ := rd_point hv
  exact h2 _ ⟨h1, put_keep _ _ _ _⟩
 ·have alc : ∀ {op : AOp} {d' : Nat}, al (evO (look σ.s)) (hlook σ.h) (.t d' 0) (fun v b => (freshL (.t d' 0) σ = true ∧ b.has (.t d' 0) = false) ∧ K ⟨(d', v) :: σ.s, (.t d' 0, b) :: σ.h⟩) op →
    al (evO (look σ.s)) (hlook σ.h) (.t d' 0) (fun v b => (freshL (.t d' 0) σ = true ∧ b.has (.t d' 0) = false) ∧ K ⟨(d', v) :: σ.s, (.t d' 0, b) :: σ.h⟩ ∧ keepJ (some d') σ ⟨(d', v) :: σ.s, (.t d' 0, b) :: σ.h⟩) op := by
   intro op d' hv
   obtain ⟨x, b, ⟨h1, h3⟩, h4, _⟩ := al_point hv
   exact h4 _ ⟨h1, h3, put_keep (some d') _ _ _⟩
  cases op
  case box x => cases d with
   | none => exact hv
   | some d => exact alc (op := .box x) (d' := d) hv
  case alloc z => cases d with
   | none => exact hv
   | some d => exact alc (op := .alloc z) (d' := d) hv
  case bslice k m z ps => cases d with
   | none => exact hv
   | some d => exact alc (op := .bslice k m z ps) (d' := d) hv
  case mk k y z n => cases d with
   | none => exact hv
   | some d => exact alc (op := .mk k y z n) (d' := d) hv
  case call f args bor =>
   simp only [stepA, callL] at hv ⊢
   split at hv
   ·split at hv
    ·obtain ⟨h1, r, hout, fz, h2, h3, h4, h5⟩ := hv
     exact ⟨h1, r, hout, fz, h2, h3, h4, h5, put_keep _ _ _ _⟩
    ·exact hv
   ·exact hv
  case store k A X =>
   simp only [stepA] at hv ⊢
   refine ⟨hv.1, ?_⟩
   have hv := hv.2
   split at hv
   ·split at hv
    ·exact ⟨hv.1, hv.2, fun t _ hj => hj⟩
    ·exact hv
   ·exact hv
  case clr k z X =>
   simp only [stepA] at hv ⊢
   split at hv
   ·split at hv
    ·refine ⟨hv.1, hv.2, fun t ht hj => ?_⟩
     have := put_keep d (.v (.tuple #[])) σ σ.h t ht hj
     exact this
    ·exact hv
   ·exact hv
  case append k y A X =>
   cases d with
   | none => exact hv
   | some d =>
    simp only [stepA] at hv ⊢
    split at hv
    ·rename_i on l l' _ _
     refine ⟨hv.1, hv.2, fun t ht hj => ?_⟩
     have e : look ((d, AV.loc (.t d 0) 0 (l.length + l'.length)) :: (killOL on σ).s) t = look (killOL on σ).s t := by
      simp only [look]
      rw [if_neg (by rintro rfl; exact ht rfl)]
     show look ((d, AV.loc (.t d 0) 0 (l.length + l'.length)) :: (killOL on σ).s) t = _
     rw [e]
     cases on with
     | none => exact hj
     | some n =>
      simp only [killOL, killL]
      rw [look_map (scr n) (by simp [scr, AV.has]), hj]
      simp [scr, AV.has]
    ·exact hv
  case appendC k y A X =>
   cases d with
   | none => exact hv
   | some d =>
    simp only [stepA] at hv ⊢
    split at hv
    ·rename_i on l l' _ _
     refine ⟨hv.1, hv.2, fun t ht hj => ?_⟩
     have e : look ((d, AV.sl k (l ++ l')) :: (killOL on σ).s) t = look (killOL on σ).s t := by
      simp only [look]
      rw [if_neg (by rintro rfl; exact ht rfl)]
     show look ((d, AV.sl k (l ++ l')) :: (killOL on σ).s) t = _
     rw [e]
     cases on with
     | none => exact hj
     | some n =>
      simp only [killOL, killL]
      rw [look_map (scr n) (by simp [scr, AV.has]), hj]
      simp [scr, AV.has]
    ·exact hv
  case bsliceC k m z ps => cases d with
   | none => exact hv
   | some d =>
    simp only [stepA] at hv ⊢
    obtain ⟨x, b, ⟨h1, rows, h2, h3, h4⟩, h5, _⟩ := al_point (op := .bslice k m z ps) hv
    exact h5 _ ⟨h1, rows, h2, h3, h4, put_keep (some d) _ _ _⟩
  all_goals simp [isRd] at hr
theorem vc1_keep {o : AOper} {σ : St} {K : St → Prop} (hv : vc P K [o] σ) : vc P (fun σ' => K σ' ∧ keepJ o.dst σ σ') [o] σ := by
 simp only [vc] at hv ⊢
 split at hv
 ·exact stepA_keep hv
 ·split at hv
  ·rw [BrW_iff] at hv ⊢
   exact ⟨fun h => stepA_keep (hv.1 h), fun h => ⟨hv.2 h, put_keep _ _ _ _⟩⟩
  ·exact ⟨hv, put_keep _ _ _ _⟩
  ·exact hv
theorem stepA_mono {d : Option Nat} {σ : St} {K K' : St → Prop} (hK : ∀ σ, K σ → K' σ) {op : AOp} (hv : stepA P d σ K op) : stepA P d σ K' op := by
 by_cases hr : isRd op = true
 ·rw [stepA_rd hr] at hv ⊢
  obtain ⟨x, h1, h2, _⟩ := rd_point hv
  exact h2 _ (hK _ h1)
 ·have alc : ∀ {op : AOp} {d' : Nat}, al (evO (look σ.s)) (hlook σ.h) (.t d' 0) (fun v b => (freshL (.t d' 0) σ = true ∧ b.has (.t d' 0) = false) ∧ K ⟨(d', v) :: σ.s, (.t d' 0, b) :: σ.h⟩) op →
    al (evO (look σ.s)) (hlook σ.h) (.t d' 0) (fun v b => (freshL (.t d' 0) σ = true ∧ b.has (.t d' 0) = false) ∧ K' ⟨(d', v) :: σ.s, (.t d' 0, b) :: σ.h⟩) op := by
   intro op d' hv
   obtain ⟨x, b, ⟨h1, h3⟩, h4, _⟩ := al_point hv
   exact h4 _ ⟨h1, hK _ h3⟩
  cases op
  case box x => cases d with
   | none => exact hv
   | some d => exact alc (op := .box x) (d' := d) hv
  case alloc z => cases d with
   | none => exact hv
   | some d => exact alc (op := .alloc z) (d' := d) hv
  case bslice k m z ps => cases d with
   | none => exact hv
   | some d => exact alc (op := .bslice k m z ps) (d' := d) hv
  case mk k y z n => cases d with
   | none => exact hv
   | some d => exact alc (op := .mk k y z n) (d' := d) hv
  case call f args bor =>
   simp only [stepA, callL] at hv ⊢
   split at hv
   ·split at hv
    ·obtain ⟨h1, r, hout, fz, h2, h3, h4, h5⟩ := hv
     exact ⟨h1, r, hout, fz, h2, h3, h4, hK _ h5⟩
    ·exact hv
   ·exact hv
  case store k A X =>
   simp only [stepA] at hv ⊢
   refine ⟨hv.1, ?_⟩
   have hv := hv.2
   split at hv
   ·split at hv
    ·exact ⟨hv.1, hK _ hv.2⟩
    ·exact hv
   ·exact hv
  case clr k z X =>
   simp only [stepA] at hv ⊢
   split at hv
   ·split at hv
    ·exact ⟨hv.1, hK _ hv.2⟩
    ·exact hv
   ·exact hv
  case append k y A X =>
   cases d with
   | none => exact hv
   | some d =>
    simp only [stepA] at hv ⊢
    split at hv
    ·exact ⟨hv.1, hK _ hv.2⟩
    ·exact hv
  case appendC k y A X =>
   cases d with
   | none => exact hv
   | some d =>
    simp only [stepA] at hv ⊢
    split at hv
    ·exact ⟨hv.1, hK _ hv.2⟩
    ·exact hv
  case bsliceC k m z ps => cases d with
   | none => exact hv
   | some d =>
    simp only [stepA] at hv ⊢
    obtain ⟨x, b, ⟨h1, rows, h2, h3, h4⟩, h5, _⟩ := al_point (op := .bslice k m z ps) hv
    exact h5 _ ⟨h1, rows, h2, h3, hK _ h4⟩
  all_goals simp [isRd] at hr
theorem vc1_mono {o : AOper} {σ : St} {K K' : St → Prop} (hK : ∀ σ, K σ → K' σ) (hv : vc P K [o] σ) : vc P K' [o] σ := by
 simp only [vc] at hv ⊢
 split at hv
 ·exact stepA_mono hK hv
 ·split at hv
  ·rw [BrW_iff] at hv ⊢
   exact ⟨fun h => stepA_mono hK (hv.1 h), fun h => hK _ (hv.2 h)⟩
  ·exact hK _ hv
  ·exact hv
theorem vc_cons {o : AOper} {r : List AOper} {σ : St} {K : St → Prop} : vc P K (o :: r) σ ↔ vc P (vc P K r) [o] σ := Iff.rfl
theorem vcE_of {K : St → Prop} : ∀ (ops : List AOper) (σ : St), vc P K ops σ → vcE P (fun f => ∃ σ' : St, σ'.f = f ∧ K σ') ops σ.f
 | [], σ, hv => ⟨σ, rfl, hv⟩
 | o :: r, σ, hv => by
  have ih := vcE_of (K := K) r
  simp only [vcE]
  split
  ·rename_i hf
   simp only [freeO, Bool.and_eq_true, Bool.or_eq_true] at hf
   have run : stepA P o.dst σ (vc P K r) o.op → ∃ δ, Eff P o.dst o.op σ.f δ ∧ vcE P (fun f => ∃ σ' : St, σ'.f = f ∧ K σ') r (app o.dst δ σ.f) := fun hs => by
    obtain ⟨δ, h1, σ', h2, h3⟩ := eff_of_step hf.1 hf.2 hs
    exact ⟨δ, h1, by rw [← h2]; exact ih σ' h3⟩
   have skip : vc P K r ⟨put o.dst (.v (.tuple #[])) σ.s, σ.h⟩ → ∃ δ, Eff P o.dst skipA σ.f δ ∧ vcE P (fun f => ∃ σ' : St, σ'.f = f ∧ K σ') r (app o.dst δ σ.f) := fun hs => by
    obtain ⟨δ, h1, σ', h2, h3⟩ := eff_of_step (P := P) (d := o.dst) (σ := σ) (K := vc P K r) (op := skipA) rfl (.inl rfl) hs
    exact ⟨δ, h1, by rw [← h2]; exact ih σ' h3⟩
   simp only [vc] at hv
   split at hv
   ·rename_i hg
    obtain ⟨δ, h1, h2⟩ := run hv
    exact ⟨δ, ⟨true, by simp only [runs, hg], h1⟩, h2⟩
   ·rename_i g want hg
    split at hv
    ·rename_i b hb
     by_cases hbw : b = want
     ·obtain ⟨δ, h1, h2⟩ := run ((BrW_iff.1 hv).1 hbw)
      exact ⟨δ, ⟨true, by simp only [runs, hg]; exact .inl ⟨b, hb, by simp [hbw]⟩, h1⟩, h2⟩
     ·have hn : b = !want := bool_ne hbw
      obtain ⟨δ, h1, h2⟩ := skip ((BrW_iff.1 hv).2 hn)
      exact ⟨δ, ⟨false, by simp only [runs, hg]; exact .inl ⟨b, hb, by simp [hbw]⟩, h1⟩, h2⟩
    ·rename_i cs hb
     obtain ⟨δ, h1, h2⟩ := skip hv
     exact ⟨δ, ⟨false, by unfold runs; rw [hg]; exact .inr ⟨⟨cs, hb⟩, rfl⟩, h1⟩, h2⟩
    ·exact hv.elim
  ·refine ⟨σ, rfl, vc1_mono (fun σ' h => ⟨ih σ' h.1, h.2⟩) (vc1_keep (vc_cons.1 hv))⟩
theorem vc1_of {o : AOper} {σ : St} {δ : Dl} (hc : Canon σ) (he : EffG P o σ.f δ) : vc P (fun σ' => σ'.f = app o.dst δ σ.f) [o] σ := by
 obtain ⟨b, h1, h2⟩ := he
 have skip : b = false → (⟨put o.dst (.v (.tuple #[])) σ.s, σ.h⟩ : St).f = app o.dst δ σ.f := by
  rintro rfl
  exact step_of_eff hc h2
 simp only [vc]
 unfold runs at h1
 split
 ·rename_i hg
  rw [hg] at h1
  simp only at h1
  subst h1
  exact step_of_eff hc h2
 ·rename_i g want hg
  rw [hg] at h1
  rcases h1 with ⟨c, e, rfl⟩ | ⟨⟨cs, e⟩, hb⟩
  ·simp only [show look σ.s g = _ from e]
   by_cases hcw : c = want
   ·subst hcw
    refine BrW_iff.2 ⟨fun _ => ?_, fun hn => by cases c <;> simp at hn⟩
    have : opOf (c == c) o = o.op := by simp [opOf]
    unfold EffS at h2
    rw [this] at h2
    exact step_of_eff hc h2
   ·exact BrW_iff.2 ⟨fun h => absurd h hcw, fun _ => skip (by simp [hcw])⟩
  ·simp only [show look σ.s g = _ from e]
   exact skip hb
theorem op_wp {ops : Array Oper} {Q : Exit → Act → World → Prop} {K : St → Prop} {i : Nat} {o : Oper} {ao : AOper} (ho : ops[i]? = some o) (hc : cOper P C.nt ops o = some ao.bare) {σ : St} (hv : vc P K [ao] σ) (hok : OK C σ.f a w S ρ κ) :
  wpOp P ops Q i (GoodL C K) a w := by
 obtain ⟨h1, h2, h3, h4⟩ := cOper_spec hc
 have go : stepA P ao.dst σ K ao.op → o.wp P a w (GoodL C K) Q := fun hst => step_sound (P := P) h1 hok h3 (by rw [h2]; exact hst)
 unfold wpOp
 rw [ho]
 simp only [vc] at hv
 rcases h4 with ⟨g1, g2⟩ | ⟨j, want, t, g1, g2, g3⟩
 ·rw [g2] at hv
  have : Region.wanted o (yielded ops a.tmps) = true := by simp [Region.wanted, g1]
  simp only [this, if_true]
  exact .inl (go hv)
 ·rw [g2] at hv
  simp only at hv
  split at hv
  ·rename_i b hb
   have hw := wanted_of hok g1 g3 hb
   simp only [hw]
   by_cases hbw : b = want
   ·simp only [hbw, beq_self_eq_true, if_true]
    exact .inl (go ((BrW_iff.1 hv).1 hbw))
   ·have : (b == want) = false := by simpa using hbw
    simp only [this, Bool.false_eq_true, if_false]
    have hn : b = !want := bool_ne hbw
    refine ⟨_, S, ρ, κ, (BrW_iff.1 hv).2 hn, ?_⟩
    have := hok.put (x := .v undef) (v := undef) (.clo (.v _)) h3
    rw [h2] at this ⊢
    simpa [St.f, look_put, undef] using this
  ·rename_i cs hb
   have hw := wanted_un hok g1 g3 hb
   simp only [hw, Bool.false_eq_true, if_false]
   refine ⟨_, S, ρ, κ, hv, ?_⟩
   have := hok.put (x := .v undef) (v := undef) (.clo (.v _)) h3
   rw [h2] at this ⊢
   simpa [St.f, look_put, undef] using this
  ·exact hv.elim
theorem wpOp_ex {ops : Array Oper} {K : Act → World → Prop} {i : Nat} (h : wpOp P ops (fun _ _ _ => False) i K a w) : ∃ a' w', K a' w' := by
 unfold wpOp at h
 split at h
 ·exact ⟨_, _, h⟩
 ·split at h
  ·rcases h with h | ⟨_, _, _, h⟩
   ·rename_i o _ _
    unfold Oper.wp at h
    generalize (execOp a.eval o).run P w = r at h
    cases r with
    | ok n w' =>
     cases n <;> simp only [Oper.upon] at h
     case enter f args =>
      obtain ⟨e, w'', fr, h, _⟩ := h []
      cases e with
      | returned v => exact ⟨_, _, h⟩
      | panicked ch => exact h.elim
      | outgrown => obtain ⟨_, _, h⟩ := h; exact h.elim
     case row row args =>
      obtain ⟨v, w'', h, _⟩ := h (Frame.enter P 0 #[] .normal) []
      exact ⟨_, _, h⟩
     all_goals exact ⟨_, _, h⟩
    | halt x w' => cases x <;> simp only [Oper.upon] at h
   ·exact h.elim
  ·exact ⟨_, _, h⟩
end
section
variable [Envs]
variable {P : Program} {C : Ctx} {a : Act} {w : World} {S : Nat → Prop} {ρ : Name → Option Nat} {κ : Name → Nat}
def tmpsOf : List Operand → List Nat
 | [] => []
 | .tmp t :: r => t :: tmpsOf r
 | _ :: r => tmpsOf r
theorem tmpsOf_mem : ∀ {l : List Operand} {t : Nat}, t ∉ tmpsOf l → ∀ o, o ∈ l → o ≠ .tmp t
 | [], _, _, o, ho => by cases ho
 | x :: r, t, h, o, ho => by
  rcases List.mem_cons.1 ho with rfl | ho
  ·rintro rfl; simp [tmpsOf] at h
  ·refine tmpsOf_mem (l := r) (fun h' => h ?_) o ho
   cases x <;> simp [tmpsOf, h']
def seesB (y : AOper) (t : Nat) : Bool := (tmpsOf (opnds y.op)).contains t || (match y.guard with | some (g, _) => g == t | none => false)
def apartA (x y : AOper) : Bool :=
 (match x.dst with | some d => !seesB y d && !(y.dst == some d) | none => true) && (match y.dst with | some d => !seesB x d | none => true)
theorem runs_app {x : AOper} {d : Option Nat} {δ : Dl} {σ : FSt} {b : Bool} (h : ∀ t, d = some t → ∀ g w, x.guard = some (g, w) → g ≠ t) : runs x (app d δ σ) b ↔ runs x σ b := by
 unfold runs
 split
 ·exact Iff.rfl
 ·rename_i g want hg
  rw [app_s fun e => h g e g want hg rfl]
theorem effg_swap {x y : AOper} {σ : FSt} {δx δy : Dl} (hx : EffG P x σ δx) (hy : EffG P y (app x.dst δx σ) δy) (hs : WF σ) (fx : freeO x = true) (fy : freeO y = true) (hap : apartA x y = true)
  (j1 : ∀ t, x.dst = some t → σ.s t = .junk) (j2 : ∀ t, y.dst = some t → σ.s t = .junk) :
  EffG P y σ δy ∧ EffG P x (app y.dst δy σ) δx ∧ app x.dst δx (app y.dst δy σ) = app y.dst δy (app x.dst δx σ) := by
 simp only [apartA, Bool.and_eq_true] at hap
 have a0 : ∀ t, x.dst = some t → seesB y t = false ∧ y.dst ≠ some t := fun t ht => by
  have := hap.1; rw [ht] at this; simpa using this
 have b0 : ∀ t, y.dst = some t → seesB x t = false := fun t ht => by
  have := hap.2; rw [ht] at this; simpa using this
 have sees : ∀ {z : AOper} {t : Nat}, seesB z t = false → (∀ o, o ∈ opnds z.op → o ≠ .tmp t) ∧ ∀ g w, z.guard = some (g, w) → g ≠ t := by
  intro z t h
  simp only [seesB, Bool.or_eq_false_iff] at h
  refine ⟨tmpsOf_mem (by simpa using h.1), fun g w hg => ?_⟩
  have := h.2; rw [hg] at this; simpa using this
 obtain ⟨bx, rx, hx⟩ := hx
 obtain ⟨by', ry, hy⟩ := hy
 rw [runs_app fun t ht => (sees (a0 t ht).1).2] at ry
 have rx' : ∀ δ, runs x (app y.dst δ σ) bx := fun δ => (runs_app fun t ht => (sees (b0 t ht)).2).2 rx
 simp only [freeO, Bool.and_eq_true] at fx fy
 have fre : ∀ (b : Bool) (z : AOper), freeA z.op = true → freeA (opOf b z) = true := by
  intro b z h; cases b
  ·rfl
  ·exact h
 have ops : ∀ (b : Bool) (z : AOper) (t : Nat), (∀ o, o ∈ opnds z.op → o ≠ .tmp t) → ∀ o, o ∈ opnds (opOf b z) → o ≠ .tmp t := by
  intro b z t h o ho
  cases b
  ·simp only [opOf, skipA, opnds, Bool.false_eq_true, if_false, List.mem_singleton] at ho
   subst ho; simp
  ·exact h o ho
 obtain ⟨h1, h2, h3⟩ := eff_swap (x := opOf bx x) (y := opOf by' y) hx hy hs (fre _ _ fx.1) (fre _ _ fy.1) (fun t ht => ops _ _ t (sees (a0 t ht).1).1) (fun t ht => ops _ _ t (sees (b0 t ht)).1) (fun t ht => (a0 t ht).2) j1 j2
 exact ⟨⟨by', ry, h1⟩, ⟨bx, rx' _, h2⟩, h3⟩
def atL (aops : List AOper) (r : List Nat) : List AOper := r.filterMap fun i => aops[i]?
def Real (C : Ctx) (σ : FSt) : Prop := ∃ (σl : St) (a : Act) (w : World) (S : Nat → Prop) (ρ : Name → Option Nat) (κ : Name → Nat), σl.f = σ ∧ OK C σl.f a w S ρ κ
structure Pair (x y : AOper) : Prop where
 fx : freeO x = true
 fy : freeO y = true
 ap : apartA x y = true
theorem real_eff {ops : Array Oper} {i : Nat} {o : Oper} {ao : AOper} {σ : FSt} {δ : Dl} (ho : ops[i]? = some o) (hc : cOper P C.nt ops o = some ao.bare) (hr : Real C σ) (he : EffG P ao σ δ) : Real C (app ao.dst δ σ) := by
 obtain ⟨σl, a, w, S, ρ, κ, rfl, hok⟩ := hr
 have hv := vc1_of (P := P) (o := ao) (σ := canon σl) (δ := δ) (canon_ok σl) (by rw [canon_f]; exact he)
 obtain ⟨a', w', σ', S', ρ', κ', h1, h2⟩ := wpOp_ex (op_wp (Q := fun _ _ _ => False) ho hc hv (by rw [canon_f]; exact hok))
 rw [canon_f] at h1
 exact ⟨σ', a', w', S', ρ', κ', h1, h2⟩
/-! ## a value that is copied, and a write behind it -/
def copyOf : AOp → Option (Operand × Option Nat)
 | .mv o => some (o, none)
 | .extract o i => some (o, some i)
 | _ => none
def pureA : AOp → Bool
 | .mv _ => true
 | .extract _ _ => true
 | .bin _ _ _ => true
 | .conv _ _ => true
 | _ => false
def isLV : AOp → Prop
 | .loadV _ _ _ => True
 | .fieldV _ _ => True
 | _ => False
structure PairH (x y : AOper) : Prop where
 fx : freeO x = true
 fy : freeO y = false
 g : y.guard = none
 ap : apartA x y = true
 k : (∃ k A X, y.op = .store k A X ∧ pureA x.op = true) ∨ ∃ k b A X o, (y.op = .append k b A X ∨ y.op = .appendC k b A X) ∧ (x.op = .mv o ∨ isLV x.op)
theorem eff_copy {d : Option Nat} {op : AOp} {o : Operand} {oi : Option Nat} {σ σ' : FSt} {δ : Dl} (hop : copyOf op = some (o, oi)) (he : Eff P d op σ δ) (e : evO σ'.s o = evO σ.s o) : Eff P d op σ' δ ∧ δ.nb = [] ∧ δ.fz = false := by
 cases he with
 | rd v h1 h2 h3 =>
  refine ⟨?_, rfl, rfl⟩
  cases op <;> simp only [copyOf, Option.some.injEq, Prod.mk.injEq] at hop <;> try (cases hop; done)
  case mv x =>
   obtain ⟨rfl, rfl⟩ := hop
   have hv := h2 (fun u => u = v) rfl
   simp only [rd] at hv
   refine .rd v rfl (fun K hK => ?_) fun p hp _ => ?_
   ·simp only [rd]; rw [e, hv]; exact hK
   ·have := hp x (by simp [opnds]); rwa [e, hv] at this
  case extract x i =>
   obtain ⟨rfl, rfl⟩ := hop
   have hv := h2 (fun u => u = v) rfl
   simp only [rd] at hv
   split at hv
   ·rename_i c hc
    refine .rd v rfl (fun K hK => ?_) fun p hp _ => ?_
    ·simp only [rd]; rw [e, hc]; exact ⟨hv.1, by rw [hv.2]; exact hK⟩
    ·have := hp x (by simp [opnds])
     rw [e, hc] at this
     rw [← hv.2]
     exact Nm.getD this.inv_tup _
   ·exact hv.elim
 | al d' hd v b h1 hf hn h2 h3 =>
  exfalso
  have := h1 (fun _ _ => True) trivial
  cases op <;> simp only [copyOf] at hop <;> first | (cases hop; done) | exact this.elim
 | call d' hd f args hop' g caps hg ys L hm r hout fz hfn hflat hfr =>
  subst hop'; simp [copyOf] at hop
theorem eff_pure {d : Option Nat} {op : AOp} {σ σ' : FSt} {δ : Dl} (hop : pureA op = true) (he : Eff P d op σ δ) (e : ∀ o, o ∈ opnds op → evO σ'.s o = evO σ.s o) : Eff P d op σ' δ ∧ δ.nb = [] ∧ δ.fz = false := by
 cases he with
 | rd v h1 h2 h3 =>
  refine ⟨?_, rfl, rfl⟩
  cases op <;> simp only [pureA] at hop <;> try (cases hop; done)
  case mv x =>
   exact (eff_copy (o := x) (oi := none) rfl (.rd v h1 h2 h3) (e x (by simp [opnds]))).1
  case extract x i =>
   exact (eff_copy (o := x) (oi := some i) rfl (.rd v h1 h2 h3) (e x (by simp [opnds]))).1
  case bin b x y =>
   have hv := h2 (fun u => u = v) rfl
   have hvv : ∃ z, v = .v z := by
    simp only [rd] at hv
    split at hv
    ·unfold binI at hv
     cases b <;> exact ⟨_, hv.2.symm⟩
    ·exact hv.elim
   obtain ⟨z, rfl⟩ := hvv
   refine .rd _ rfl (fun K hK => ?_) fun p _ _ => .v _ _
   have := h2 K hK
   simp only [rd] at this ⊢
   rw [e x (by simp [opnds]), e y (by simp [opnds])]; exact this
  case conv k x =>
   have hv := h2 (fun u => u = v) rfl
   have hvv : ∃ z, v = .v z := by
    simp only [rd] at hv
    split at hv
    ·exact ⟨_, hv.symm⟩
    ·exact hv.elim
   obtain ⟨z, rfl⟩ := hvv
   refine .rd _ rfl (fun K hK => ?_) fun p _ _ => .v _ _
   have := h2 K hK
   simp only [rd] at this ⊢
   rw [e x (by simp [opnds])]; exact this
 | al d' hd v b h1 hf hn h2 h3 =>
  exfalso
  have := h1 (fun _ _ => True) trivial
  cases op <;> simp only [pureA] at hop <;> first | (cases hop; done) | exact this.elim
 | call d' hd f args hop' g caps hg ys L hm r hout fz hfn hflat hfr =>
  subst hop'; simp [pureA] at hop
theorem canon_kill {σ : St} (hc : Canon σ) (on : Option Name) : Canon (killOL on σ) := by
 cases on with
 | none => exact hc
 | some n =>
  refine ⟨fun p hp => ?_, fun p hp => ?_⟩
  ·simp only [killOL, killL] at hp ⊢
   obtain ⟨q, hq, rfl⟩ := List.mem_map.1 hp
   simp only
   rw [look_map (scr n) (by simp [scr, AV.has]), hc.1 q hq]
  ·simp only [killOL, killL] at hp ⊢
   obtain ⟨q, hq, rfl⟩ := List.mem_map.1 hp
   obtain ⟨h1, h2⟩ := List.mem_filter.1 hq
   simp only [Bool.not_eq_true', decide_eq_false_iff_not] at h2
   simp only
   rw [hlook_kill, if_neg h2, hc.2 q h1]; rfl
theorem look_killOL {σ : St} {on : Option Name} (t : Nat) : look (killOL on σ).s t = match on with | some n => scr n (look σ.s t) | none => look σ.s t := by
 cases on with
 | none => rfl
 | some n =>
  simp only [killOL, killL]
  rw [look_map (scr n) (by simp [scr, AV.has])]
theorem hlook_killOL {σ : St} {on : Option Name} (m : Name) : hlook (killOL on σ).h m = match on with | some n => if m = n then none else (hlook σ.h m).map (scrB n) | none => hlook σ.h m := by
 cases on with
 | none => rfl
 | some n =>
  simp only [killOL, killL]
  rw [hlook_kill]
theorem baseO_arr {k : Nat} {h : Name → Option Blk} {x : AV} {on : Option Name} {l : List (List AV)} (hb : baseO k h x = some (on, l)) : ∀ n, on = some n → ∃ k l z, h n = some (.arr k l z) := by
 intro n hn
 subst hn
 unfold baseO at hb
 split at hb
 ·simp at hb
 ·split at hb
  ·rename_i k' l' z hx
   split at hb
   ·simp only [Option.some.injEq, Prod.mk.injEq] at hb
    obtain ⟨rfl, _⟩ := hb
    exact ⟨_, _, _, hx⟩
   ·cases hb
  ·cases hb
 ·cases hb
def scrO : Option Name → AV → AV
 | some n, x => scr n x
 | none, x => x
theorem scrO_v (on : Option Name) (x : Value) : scrO on (.v x) = .v x := by cases on <;> simp [scrO, scr, AV.has]
theorem scrO_junk (on : Option Name) : scrO on .junk = .junk := by cases on <;> simp [scrO, scr, AV.has]
theorem scrO_plain {on : Option Name} : ∀ {l : List AV}, l.all plainV = true → l.map (scrO on) = l
 | [], _ => rfl
 | x :: r, h => by
  simp only [List.all_cons, Bool.and_eq_true] at h
  rw [List.map_cons, scrO_plain h.2]
  cases x <;> simp [plainV] at h
  rw [scrO_v]
theorem scrO_plain' {on : Option Name} : ∀ {l : List AV}, (l.map (scrO on)).all plainV = true → l.map (scrO on) = l
 | [], _ => rfl
 | x :: r, h => by
  simp only [List.map_cons, List.all_cons, Bool.and_eq_true] at h
  rw [List.map_cons, scrO_plain' h.2]
  congr 1
  cases on with
  | none => rfl
  | some n =>
   simp only [scrO, scr] at h ⊢
   split
   ·rename_i hh; rw [if_pos hh] at h; simp [plainV] at h
   ·rfl
theorem hasL_plain {n : Name} : ∀ {l : List AV}, l.all plainV = true → hasL n l = false
 | [], _ => rfl
 | x :: r, h => by
  simp only [List.all_cons, Bool.and_eq_true] at h
  simp only [hasL, hasL_plain h.2, Bool.or_false]
  cases x <;> simp [plainV] at h
  rfl
theorem scrO_ptr {on : Option Name} {m : Name} {e c : Nat} (h : ∀ n, on = some n → m ≠ n) : scrO on (.ptr m e c) = .ptr m e c := by
 cases on with
 | none => rfl
 | some n => simp [scrO, scr, AV.has, h n rfl]
theorem scrO_ptr_inv {on : Option Name} {x : AV} {m : Name} {e c : Nat} (h : scrO on x = .ptr m e c) : x = .ptr m e c ∧ ∀ n, on = some n → m ≠ n := by
 cases on with
 | none => exact ⟨h, fun n h => by cases h⟩
 | some n =>
  simp only [scrO, scr] at h
  split at h
  ·cases h
  ·rename_i hh
   subst h
   refine ⟨rfl, fun n' hn => ?_⟩
   obtain rfl := Option.some.inj hn
   simpa [AV.has] using hh
theorem row_map (f : AV → AV) (cs : List AV) (z : Bool) (e : Nat) : (Blk.var (cs.map f) z).row e = ((Blk.var cs z).row e).map f := by cases e <;> rfl
theorem scrO_mk {on : Option Name} {g : Bool} {l : List AV} (h : (!g || l.all plainV) = true) : AV.mk g (l.map (scrO on)) = scrO on (AV.mk g l) := by
 cases g with
 | false =>
  simp only [AV.mk, Bool.false_eq_true, if_false]
  cases l with
  | nil => exact (scrO_junk on).symm
  | cons x r => rfl
 | true =>
  simp only [Bool.not_true, Bool.false_or] at h
  simp only [AV.mk, if_true]
  rw [scrO_plain h]
  cases on with
  | none => rfl
  | some n => simp [scrO, scr, AV.has, hasL_plain h]
theorem lf_behind {d : Option Nat} {op : AOp} {σ τ : FSt} {δ : Dl} {on : Option Name} (hop : isLV op) (he : Eff P d op σ δ)
  (hev : ∀ o, o ∈ opnds op → evO τ.s o = scrO on (evO σ.s o)) (hon : ∀ n, on = some n → ∃ k l z, σ.h n = some (.arr k l z))
  (hh : ∀ m c z, σ.h m = some (.var c z) → τ.h m = some (.var (c.map (scrO on)) z)) : Eff P d op τ ⟨scrO on δ.v, [], false, [], fun _ => False⟩ := by
 have mne : ∀ {m : Name} {c : List AV} {z : Bool}, σ.h m = some (.var c z) → ∀ n, on = some n → m ≠ n := by
  intro m c z hm n hn e
  obtain ⟨k, l, z', h⟩ := hon n hn
  rw [← e, hm] at h; cases h
 cases op <;> simp only [isLV] at hop
 case loadV g k a =>
  cases he with
  | rd v h1 h2 h3 =>
   have hv := h2 (fun u => u = v) rfl
   have ha := hev a (by simp [opnds])
   simp only [rd] at hv
   split at hv
   ·rename_i m e c hx
    split at hv
    ·rename_i cs z hb
     rw [hx, scrO_ptr (mne hb)] at ha
     have hb' := hh m cs z hb
     obtain ⟨⟨hl, hp⟩, rfl⟩ := hv
     have em : ((((Blk.var (cs.map (scrO on)) z).row e).drop c).take k) = ((((Blk.var cs z).row e).drop c).take k).map (scrO on) := by
      rw [row_map, List.map_take, List.map_drop]
     have ep : ((!g || (((((Blk.var cs z).row e).drop c).take k).map (scrO on)).all plainV) = true) := by
      cases g with
      | false => rfl
      | true =>
       simp only [Bool.not_true, Bool.false_or] at hp ⊢
       rw [scrO_plain hp]; exact hp
     refine .rd _ rfl (fun K hK => ?_) fun p hp' hq => ?_
     ·simp only [rd, ha, hb']
      refine ⟨⟨by rw [row_map, List.length_map]; exact hl, by rw [em]; exact ep⟩, ?_⟩
      rw [em, scrO_mk hp]; exact hK
     ·have hpa := hp' a (by simp [opnds])
      rw [ha] at hpa
      rw [← scrO_mk hp, ← em]
      exact NmL.mk (NmL.take (NmL.drop ((hq m _ hpa.inv_ptr hb').row e) _) _)
    ·exact hv.elim
   ·exact hv.elim
  | al d' hd v b h1 hf hn h2 h3 => exact (h1 (fun _ _ => True) trivial).elim
  | call d' hd f args hop' g caps hg ys L hm r hout fz hfn hflat hfr => cases hop'
 case fieldV off x =>
  cases he with
  | rd v h1 h2 h3 =>
   have hv := h2 (fun u => u = v) rfl
   have ha := hev x (by simp [opnds])
   simp only [rd] at hv
   split at hv
   ·rename_i m e c hx
    split at hv
    ·rename_i cs z hb
     rw [hx, scrO_ptr (mne hb)] at ha
     have hb' := hh m cs z hb
     subst hv
     simp only [scrO_ptr (mne hb)]
     refine .rd _ rfl (fun K hK => ?_) fun p hp' hq => ?_
     ·simp only [rd, ha, hb']; exact hK
     ·have hpa := hp' x (by simp [opnds])
      rw [ha] at hpa
      exact .ptr _ _ _ _ hpa.inv_ptr
    ·exact hv.elim
   ·exact hv.elim
  | al d' hd v b h1 hf hn h2 h3 => exact (h1 (fun _ _ => True) trivial).elim
  | call d' hd f args hop' g caps hg ys L hm r hout fz hfn hflat hfr => cases hop'
theorem eff_rd_nb {d : Option Nat} {op : AOp} {σ : FSt} {δ : Dl} (hr : isRd op = true) (he : Eff P d op σ δ) : δ.nb = [] ∧ δ.fz = false := by
 cases he with
 | rd v h1 h2 h3 => exact ⟨rfl, rfl⟩
 | al d' hd v b h1 hf hn h2 h3 =>
  exfalso
  have := h1 (fun _ _ => True) trivial
  cases op <;> simp only [isRd] at hr <;> first | (cases hr; done) | exact this.elim
 | call d' hd f args hop' g caps hg ys L hm r hout fz hfn hflat hfr => subst hop'; cases hr
theorem hard_swap {x y : AOper} {σ : FSt} {σ0 σl : St} {δx : Dl} {K : FSt → Prop} (hx : EffG P x σ δx) (hp : PairH x y) (h0 : σ0.f = σ) (j1 : ∀ t, x.dst = some t → σ.s t = .junk) (hl : σl.f = app x.dst δx σ)
  (hv : vc P (fun σ' => K σ'.f) [y] σl) : ∃ σ2 : St, σ2.f = σ ∧ vc P (fun σ' => ∃ δ', EffG P x σ'.f δ' ∧ K (app x.dst δ' σ'.f)) [y] σ2 := by
 subst h0
 have hap := hp.ap
 simp only [apartA, Bool.and_eq_true] at hap
 have a0 : ∀ t, x.dst = some t → seesB y t = false ∧ y.dst ≠ some t := fun t ht => by
  have := hap.1; rw [ht] at this; simpa using this
 have b0 : ∀ t, y.dst = some t → seesB x t = false := fun t ht => by
  have := hap.2; rw [ht] at this; simpa using this
 have sees : ∀ {z : AOper} {t : Nat}, seesB z t = false → (∀ o, o ∈ opnds z.op → o ≠ .tmp t) ∧ ∀ g w, z.guard = some (g, w) → g ≠ t := by
  intro z t h
  simp only [seesB, Bool.or_eq_false_iff] at h
  refine ⟨tmpsOf_mem (by simpa using h.1), fun g w hg => ?_⟩
  have := h.2; rw [hg] at this; simpa using this
 obtain ⟨b, rx, hxs⟩ := hx
 have hrdx : isRd (opOf b x) = true := by
  cases b
  ·rfl
  ·rcases hp.k with ⟨_, _, _, _, h⟩ | ⟨_, _, _, _, o, _, h⟩
   ·show isRd x.op = true
    revert h; cases x.op <;> intro h <;> first | rfl | simp [pureA] at h
   ·show isRd x.op = true
    rcases h with h | h
    ·rw [h]; rfl
    ·revert h; cases x.op <;> intro h <;> first | rfl | exact h.elim
 have hnb : δx.nb = [] ∧ δx.fz = false := eff_rd_nb hrdx hxs
 have hh : ∀ (d : Option Nat) (τ : FSt) (δ : Dl), δ.nb = [] → δ.fz = false → (app d δ τ).h = τ.h := by
  intro d τ δ e1 e2
  funext n
  rw [app_h, e1, e2]
  simp [hlook]
 have es : ∀ t, look σl.s t = (app x.dst δx σ0.f).s t := fun t => congrFun (congrArg FSt.s hl) t
 have eh : hlook σl.h = hlook σ0.h := by
  have := congrArg FSt.h hl
  rw [hh _ _ _ hnb.1 hnb.2] at this
  exact this
 have ev : ∀ z, z ∈ opnds y.op → evO (look σl.s) z = evO (look σ0.s) z := by
  intro z hz
  have e : evO (look σl.s) z = evO (app x.dst δx σ0.f).s z := by
   cases z <;> first | rfl | exact es _
  rw [e]
  exact evO_app fun t ht => (sees (a0 t ht).1).1 z hz
 simp only [vc, hp.g] at hv
 rcases hp.k with ⟨k, A, X, hy, hpx⟩ | ⟨k, by', A, X, o', hy, hxop⟩
 ·have hpur : pureA (opOf b x) = true := by
   cases b
   ·rfl
   ·exact hpx
  rw [hy] at hv ev
  refine ⟨σ0, rfl, ?_⟩
  simp only [vc, hp.g, hy]
  simp only [stepA] at hv ⊢
  refine ⟨hv.1, ?_⟩
  have hv := hv.2
  rw [ev A (by simp [opnds]), ev X (by simp [opnds]), eh] at hv
  split at hv
  ·rename_i n e c hA
   split at hv
   ·rename_i bl cs hb hcs
    refine ⟨hv.1, ?_⟩
    have hK := hv.2
    have est : ((⟨σl.s, hset n (bl.setRow e (lay (bl.row e) c cs)) σl.h⟩ : St)).f = app x.dst δx (⟨σ0.s, hset n (bl.setRow e (lay (bl.row e) c cs)) σ0.h⟩ : St).f := by
     have e1 : (⟨σl.s, hset n (bl.setRow e (lay (bl.row e) c cs)) σl.h⟩ : St).f.s = (app x.dst δx (⟨σ0.s, hset n (bl.setRow e (lay (bl.row e) c cs)) σ0.h⟩ : St).f).s := funext fun t => es t
     have e2 : (⟨σl.s, hset n (bl.setRow e (lay (bl.row e) c cs)) σl.h⟩ : St).f.h = (app x.dst δx (⟨σ0.s, hset n (bl.setRow e (lay (bl.row e) c cs)) σ0.h⟩ : St).f).h := by
      rw [hh _ _ _ hnb.1 hnb.2]
      simp only [St.f, hlook_hset, eh]
     exact congr (congrArg FSt.mk e1) e2
    refine ⟨δx, ⟨b, ?_, ?_⟩, by rw [← est]; exact hK⟩
    ·unfold runs at rx ⊢; exact rx
    ·exact (eff_pure (σ' := (⟨σ0.s, hset n (bl.setRow e (lay (bl.row e) c cs)) σ0.h⟩ : St).f) hpur hxs fun _ _ => rfl).1
   ·exact hv.elim
  ·exact hv.elim
 ·have main : ∀ (d : Nat), y.dst = some d → ∀ (v0 : AV) (B : List (Name × Blk) → List (Name × Blk)) (on : Option Name), (∀ h h', hlook h = hlook h' → hlook (B h) = hlook (B h')) → (∀ h m, m ≠ .t d 0 → hlook (B h) m = hlook h m) → hlook (killOL on σl).h (.t d 0) = none → (∀ n, on = some n → ∃ k l z, hlook σ0.h n = some (.arr k l z)) →
    K (⟨(d, v0) :: (killOL on σl).s, B (killOL on σl).h⟩ : St).f → ∃ δ', EffG P x (⟨(d, v0) :: (killOL on (canon σ0)).s, B (killOL on (canon σ0)).h⟩ : St).f δ' ∧ K (app x.dst δ' (⟨(d, v0) :: (killOL on (canon σ0)).s, B (killOL on (canon σ0)).h⟩ : St).f) := by
   intro d hd v0 B on hB hBm hfn hon hK
   have es0 : ∀ t, look (canon σ0).s t = look σ0.s t := fun t => congrFun (congrArg FSt.s (canon_f σ0)) t
   have eh0 : hlook (canon σ0).h = hlook σ0.h := congrArg FSt.h (canon_f σ0)
   have hdx : ∀ t, x.dst = some t → d ≠ t := fun t ht e => (a0 t ht).2 (by rw [hd, e])
   let τ : St := ⟨(d, v0) :: (killOL on (canon σ0)).s, B (killOL on (canon σ0)).h⟩
   let v' : AV := match on with | some n => scr n δx.v | none => δx.v
   have est : (⟨(d, v0) :: (killOL on σl).s, B (killOL on σl).h⟩ : St).f = app x.dst ⟨v', [], false, [], fun _ => False⟩ τ.f := by
    have e1 : (⟨(d, v0) :: (killOL on σl).s, B (killOL on σl).h⟩ : St).f.s = (app x.dst ⟨v', [], false, [], fun _ => False⟩ τ.f).s := by
     funext t
     simp only [St.f, look, look_killOL]
     by_cases ht : x.dst = some t
     ·have h2 := hdx t ht
      rw [if_neg (fun e => h2 e.symm)]
      have e3 := es t
      rw [ht] at e3 ⊢
      rw [app_s_eq] at e3
      rw [app_s_eq, e3]
      cases on <;> rfl
     ·rw [app_s ht]
      have e3 := es t
      rw [app_s ht] at e3
      simp only [τ, look, look_killOL, es0]
      rw [e3]; rfl
    have e2 : (⟨(d, v0) :: (killOL on σl).s, B (killOL on σl).h⟩ : St).f.h = (app x.dst ⟨v', [], false, [], fun _ => False⟩ τ.f).h := by
     rw [hh _ _ _ rfl rfl]
     refine hB _ _ (funext fun m => ?_)
     simp only [hlook_killOL, eh, eh0]
    exact congr (congrArg FSt.mk e1) e2
   have hτ : ∀ z, z ∈ opnds x.op → z ≠ .tmp d := fun z hz => (sees (b0 d hd)).1 z hz
   refine ⟨⟨v', [], false, [], fun _ => False⟩, ⟨b, ?_, ?_⟩, by show K (app x.dst _ τ.f); rw [← est]; exact hK⟩
   ·unfold runs at rx ⊢
    split at rx
    ·exact rx
    ·rename_i g want hg
     have hgd := (sees (b0 d hd)).2 g want hg
     rcases rx with ⟨c, hc, hbc⟩ | ⟨⟨cs, hc⟩, hbc⟩
     ·refine .inl ⟨c, ?_, hbc⟩
      simp only [St.f, look]
      rw [if_neg hgd, look_killOL, es0]
      simp only [St.f] at hc
      rw [hc]
      cases on <;> simp [scr, AV.has]
     ·refine .inr ⟨⟨cs, ?_⟩, hbc⟩
      simp only [St.f, look]
      rw [if_neg hgd, look_killOL, es0]
      simp only [St.f] at hc
      rw [hc]
      cases on <;> simp [scr, AV.has]
   ·-- the copied value, behind the write
    have hmv : (∃ o2, opOf b x = .mv o2 ∧ o2 ≠ .tmp d) ∨ isLV (opOf b x) := by
     cases b
     ·exact .inl ⟨_, rfl, by simp⟩
     ·rcases hxop with hxop | hxop
      ·exact .inl ⟨o', hxop, hτ o' (by rw [hxop]; simp [opnds])⟩
      ·exact .inr hxop
    rcases hmv with hmv | hlv
    rotate_left
    ·have hbt : b = true := by
      cases b
      ·exact hlv.elim
      ·rfl
     subst hbt
     have hlx : isLV x.op := hlv
     have heff : Eff P x.dst x.op τ.f ⟨scrO on δx.v, [], false, [], fun _ => False⟩ := by
      refine lf_behind hlx hxs (fun z hz => ?_) (fun n hn => ?_) (fun m c z hm => ?_)
      ·have hzd := hτ z hz
       show evO (look τ.s) z = scrO on (evO (look σ0.s) z)
       revert hz
       cases hxe : x.op <;> intro hz <;> simp only [hxe, isLV] at hlx
       all_goals
        cases z with
        | tmp t =>
         have htd : t ≠ d := fun e => hzd (by rw [e])
         simp only [evO, τ, look]
         rw [if_neg htd, look_killOL, es0]
         cases on <;> rfl
        | const w =>
         simp only [evO]
         cases on with
         | none => rfl
         | some n =>
          simp only [scrO, scr]
          rw [if_neg]
          cases w <;> simp [AV.ofValue, AV.has]
          rename_i cs
          have : OffL (fun m => m = n) (List.map (fun x => AV.v x) (Array.toList cs)) := OffL.of_mem fun x hx => by
           obtain ⟨y, _, rfl⟩ := List.mem_map.1 hx
           exact Off.v _
          exact this n rfl
        | global g => simp only [evO]; exact (scrO_junk on).symm
        | func f => simp only [evO]; cases on <;> simp [scrO, scr, AV.has, hasL]
      ·exact hon n hn
      ·have hmt : m ≠ .t d 0 := by
        rintro rfl
        rw [hlook_killOL, eh] at hfn
        simp only [St.f] at hm
        cases on with
        | none => simp only at hfn; rw [hm] at hfn; cases hfn
        | some n =>
         obtain ⟨k', l', z', hn⟩ := hon n rfl
         simp only at hfn
         split at hfn
         ·rename_i e; rw [← e, hm] at hn; cases hn
         ·rw [hm] at hfn; cases hfn
       show hlook τ.h m = _
       simp only [τ]
       rw [hBm _ _ hmt, hlook_killOL, eh0]
       simp only [St.f] at hm
       cases on with
       | none => rw [show c.map (scrO none) = c by rw [show scrO none = id from rfl]; simp]; exact hm
       | some n =>
        obtain ⟨k', l', z', hn⟩ := hon n rfl
        have hmn : m ≠ n := fun e => by rw [← e, hm] at hn; cases hn
        simp only
        rw [if_neg hmn, hm]; rfl
     have ev' : v' = scrO on δx.v := by cases on <;> rfl
     rw [ev']
     exact heff
    obtain ⟨o2, hmv, ho2⟩ := hmv
    unfold EffS at hxs ⊢
    rw [hmv] at hxs ⊢
    cases hxs with
    | rd v h1 h2 h3 =>
     have hv' := h2 (fun u => u = v) rfl
     simp only [rd] at hv'
     have hev : evO τ.f.s o2 = v' := by
      show evO (look τ.s) o2 = v'
      cases o2 with
      | tmp t =>
       have htd : t ≠ d := fun e => ho2 (by rw [e])
       simp only [evO, τ, look]
       rw [if_neg htd, look_killOL, es0]
       simp only [evO, St.f] at hv'
       rw [hv']
       cases on <;> rfl
      | const w =>
       simp only [evO] at hv' ⊢
       simp only [v']
       rw [← hv']
       cases on with
       | none => rfl
       | some n =>
        simp only [scr]
        rw [if_neg]
        cases w <;> simp [AV.ofValue, AV.has]
        rename_i cs
        have : OffL (fun m => m = n) (List.map (fun x => AV.v x) (Array.toList cs)) := OffL.of_mem fun x hx => by
         obtain ⟨y, _, rfl⟩ := List.mem_map.1 hx
         exact Off.v _
        exact this n rfl
      | global g =>
       simp only [evO] at hv' ⊢
       simp only [v']
       rw [← hv']
       cases on <;> simp [scr, AV.has]
      | func f =>
       simp only [evO] at hv' ⊢
       simp only [v']
       rw [← hv']
       cases on <;> simp [scr, AV.has, hasL]
     refine .rd v' rfl (fun K hK => ?_) fun p hp' _ => ?_
     ·simp only [rd]; rw [hev]; exact hK
     ·have := hp' o2 (by simp [opnds]); rwa [hev] at this
    | al d' hd' v b h1 hf hn h2 h3 => exact (h1 (fun _ _ => True) trivial).elim
    | call d' hd' f args hop' g caps hg ys L hm r hout fz hfn hflat hfr => cases hop'
  have es0 : ∀ t, look (canon σ0).s t = look σ0.s t := fun t => congrFun (congrArg FSt.s (canon_f σ0)) t
  have eh0 : hlook (canon σ0).h = hlook σ0.h := congrArg FSt.h (canon_f σ0)
  have ev0 : ∀ z, evO (look (canon σ0).s) z = evO (look σ0.s) z := by
   intro z; cases z <;> first | rfl | exact es0 _
  have fresh : ∀ (d : Nat), y.dst = some d → ∀ (on : Option Name), freshL (.t d 0) (killOL on σl) = true → freshL (.t d 0) (killOL on (canon σ0)) = true := by
   intro d hd on hf
   have hfr : FreshF (.t d 0) (killOL on (canon σ0)).f := by
    have h1 := freshL_spec hf
    refine ⟨⟨?_, h1.1.2⟩, fun t => ?_, fun m bl hbl => ?_⟩
    ·have := h1.1.1
     simp only [St.f, hlook_killOL] at this ⊢
     rw [eh0, ← eh]; exact this
    ·have := h1.2.1 t
     simp only [St.f, look_killOL] at this ⊢
     rw [es0]
     by_cases ht : x.dst = some t
     ·have := j1 t ht
      simp only [St.f] at this
      rw [this]
      cases on with
      | none => rfl
      | some n => simp [scr, AV.has]
     ·have e2 := es t
      rw [app_s ht] at e2
      rw [e2] at this
      exact this
    ·refine h1.2.2 m bl ?_
     simp only [St.f, hlook_killOL] at hbl ⊢
     rw [eh0, ← eh] at hbl; exact hbl
   exact freshL_of (canon_kill (canon_ok σ0) on) rfl hfr
  refine ⟨canon σ0, canon_f σ0, ?_⟩
  rcases hy with hy | hy <;> rw [hy] at hv ev
  all_goals
   cases hd : y.dst with
   | none => rw [hd] at hv; exact hv.elim
   | some d =>
    rw [hd] at hv
    simp only [vc, hp.g, hy, hd]
    simp only [stepA] at hv ⊢
    rw [ev A (by simp [opnds]), ev X (by simp [opnds]), eh] at hv
    rw [ev0 A, ev0 X, eh0]
    split at hv
    ·rename_i on l l' hA hX
     obtain ⟨⟨hf, hsz⟩, hK⟩ := hv
     refine ⟨⟨fresh d hd on hf, hsz⟩, ?_⟩
     have hon := baseO_arr hA
     have hfn := hlook_fresh hf
     first
      | exact main d hd (.loc (.t d 0) 0 (l.length + l'.length)) (fun h => (.t d 0, .arr k (l ++ l') false) :: h) on (fun h h' e => by funext m; simp only [hlook, e]) (fun h m hm => by simp only [hlook]; rw [if_neg hm]) hfn hon hK
      | exact main d hd (.sl k (l ++ l')) (fun h => h) on (fun h h' e => e) (fun h m hm => rfl) hfn hon hK
    ·exact hv.elim
theorem bringH {ops : Array Oper} {K : FSt → Prop} {y : AOper} : ∀ (l1 l2 : List AOper) (σ : FSt), (∀ x, x ∈ l1 → PairH x y ∧ ∃ (i : Nat) (o : Oper), ops[i]? = some o ∧ cOper P C.nt ops o = some x.bare) →
  (l1.Pairwise fun x x' => ∀ t, x'.dst = some t → x.dst ≠ some t) → Real C σ → (∀ x, x ∈ l1 → ∀ t, x.dst = some t → σ.s t = .junk) →
  vcE P K (l1 ++ y :: l2) σ → vcE P K (y :: (l1 ++ l2)) σ
 | [], l2, σ, _, _, _, _, hv => hv
 | x :: l1, l2, σ, hp, hd, hr, j1, hv => by
  obtain ⟨hpx, i, o, ho, hc⟩ := hp x (by simp)
  have fx := hpx.fx
  have fy := hpx.fy
  simp only [List.cons_append, vcE, fx, if_true] at hv
  obtain ⟨δx, h1, h2⟩ := hv
  have := bringH l1 l2 (app x.dst δx σ) (fun z hz => hp z (by simp [hz])) hd.tail (real_eff ho hc hr h1) (fun z hz t ht => by
    rw [app_s ((List.rel_of_pairwise_cons hd hz) t ht)]
    exact j1 z (by simp [hz]) t ht) h2
  simp only [vcE, fy, Bool.false_eq_true, if_false] at this
  obtain ⟨σl, h3, h4⟩ := this
  obtain ⟨σ0, a, w, S, ρ, κ, e, hok⟩ := hr
  obtain ⟨σ2, h5, h6⟩ := hard_swap (K := fun f => vcE P K (l1 ++ l2) f) h1 hpx e (j1 x (by simp)) h3 (vc1_mono (fun _ h => h.1) h4)
  simp only [vcE, fy, fx, Bool.false_eq_true, if_false, if_true, List.cons_append]
  refine ⟨σ2, h5, vc1_keep (vc1_mono (fun σ' h => ?_) h6)⟩
  exact h
structure PairS (x y : AOper) : Prop where
 fx : freeO x = false
 fy : freeO y = true
 gx : x.guard = none
 gy : y.guard = none
 ap : apartA x y = true
 kx : ∃ k b A X, x.op = .append k b A X ∨ x.op = .appendC k b A X
 ky : (∃ k a, y.op = .loadV true k a) ∨ ∃ o a, y.op = .fieldV o a
theorem lv_before {d : Option Nat} {op : AOp} {σ τ : FSt} {δ : Dl} {on : Option Name} (hop : (∃ k a, op = .loadV true k a) ∨ ∃ o a, op = .fieldV o a) (he : Eff P d op τ δ) {new : Name}
  (hev : ∀ o, o ∈ opnds op → evO τ.s o = scrO on (evO σ.s o)) (hnw : ∀ o, o ∈ opnds op → (evO τ.s o).has new = false)
  (hh : ∀ m c z, m ≠ new → (∀ n, on = some n → m ≠ n) → τ.h m = some (.var c z) → ∃ c0, σ.h m = some (.var c0 z) ∧ c = c0.map (scrO on)) :
  Eff P d op σ ⟨δ.v, [], false, [], fun _ => False⟩ ∧ scrO on δ.v = δ.v ∧ δ.v.has new = false ∧ δ.nb = [] ∧ δ.fz = false := by
 rcases hop with ⟨k, a, rfl⟩ | ⟨off, x, rfl⟩
 ·cases he with
  | rd v h1 h2 h3 =>
   have hv := h2 (fun u => u = v) rfl
   have ha := hev a (by simp [opnds])
   have hna := hnw a (by simp [opnds])
   simp only [rd] at hv
   split at hv
   ·rename_i m e c hx
    rw [hx] at ha hna
    obtain ⟨ea, hmn⟩ := scrO_ptr_inv ha.symm
    have hmw : m ≠ new := by simpa [AV.has] using hna
    split at hv
    ·rename_i cs z hb
     obtain ⟨c0, hb0, rfl⟩ := hh m cs z hmw hmn hb
     obtain ⟨⟨hl, hp⟩, rfl⟩ := hv
     have em : ((((Blk.var (c0.map (scrO on)) z).row e).drop c).take k) = ((((Blk.var c0 z).row e).drop c).take k).map (scrO on) := by
      rw [row_map, List.map_take, List.map_drop]
     simp only [Bool.not_true, Bool.false_or] at hp
     rw [em] at hp
     have e2 := scrO_plain' hp
     have hp0 : ((((Blk.var c0 z).row e).drop c).take k).all plainV = true := by rw [← e2]; exact hp
     simp only [em, e2]
     refine ⟨.rd _ rfl (fun K hK => ?_) fun p hp' hq => ?_, ?_, ?_, trivial, trivial⟩
     ·simp only [rd, ea, hb0]
      refine ⟨⟨by rw [row_map, List.length_map] at hl; exact hl, by simp only [Bool.not_true, Bool.false_or]; exact hp0⟩, hK⟩
     ·have hpa := hp' a (by simp [opnds])
      rw [ea] at hpa
      exact NmL.mk (NmL.take (NmL.drop ((hq m _ hpa.inv_ptr hb0).row e) _) _)
     ·rw [← scrO_mk (g := true) (by simpa using hp0), e2]
     ·simp only [AV.mk, if_true, AV.has, hasL_plain hp0]
    ·exact hv.elim
   ·exact hv.elim
  | al d' hd v b h1 hf hn h2 h3 => exact (h1 (fun _ _ => True) trivial).elim
  | call d' hd f args hop' g caps hg ys L hm r hout fz hfn hflat hfr => cases hop'
 ·cases he with
  | rd v h1 h2 h3 =>
   have hv := h2 (fun u => u = v) rfl
   have ha := hev x (by simp [opnds])
   have hna := hnw x (by simp [opnds])
   simp only [rd] at hv
   split at hv
   ·rename_i m e c hx
    rw [hx] at ha hna
    obtain ⟨ea, hmn⟩ := scrO_ptr_inv ha.symm
    have hmw : m ≠ new := by simpa [AV.has] using hna
    split at hv
    ·rename_i cs z hb
     obtain ⟨c0, hb0, rfl⟩ := hh m cs z hmw hmn hb
     subst hv
     refine ⟨.rd _ rfl (fun K hK => ?_) fun p hp' hq => ?_, scrO_ptr hmn, by simp [AV.has, hmw], rfl, rfl⟩
     ·simp only [rd, ea, hb0]; exact hK
     ·have hpa := hp' x (by simp [opnds])
      rw [ea] at hpa
      exact .ptr _ _ _ _ hpa.inv_ptr
    ·exact hv.elim
   ·exact hv.elim
  | al d' hd v b h1 hf hn h2 h3 => exact (h1 (fun _ _ => True) trivial).elim
  | call d' hd f args hop' g caps hg ys L hm r hout fz hfn hflat hfr => cases hop'
theorem soft_swap {x y : AOper} {σl : St} {K : FSt → Prop} (hp : PairS x y)
  (hv : vc P (fun σ' => ∃ δ, EffG P y σ'.f δ ∧ K (app y.dst δ σ'.f)) [x] σl) : ∃ δ', EffG P y σl.f δ' ∧ ∃ σ3 : St, σ3.f = app y.dst δ' σl.f ∧ vc P (fun σ' => K σ'.f) [x] σ3 := by
 have hap := hp.ap
 simp only [apartA, Bool.and_eq_true] at hap
 have a0 : ∀ t, x.dst = some t → seesB y t = false ∧ y.dst ≠ some t := fun t ht => by
  have := hap.1; rw [ht] at this; simpa using this
 have b0 : ∀ t, y.dst = some t → seesB x t = false := fun t ht => by
  have := hap.2; rw [ht] at this; simpa using this
 have sees : ∀ {z : AOper} {t : Nat}, seesB z t = false → ∀ o, o ∈ opnds z.op → o ≠ .tmp t := by
  intro z t h
  simp only [seesB, Bool.or_eq_false_iff] at h
  exact tmpsOf_mem (by simpa using h.1)
 simp only [vc, hp.gx] at hv
 have main : ∀ (d : Nat), x.dst = some d → ∀ (v0 : AV) (B : List (Name × Blk) → List (Name × Blk)) (on : Option Name), (∀ h h', hlook h = hlook h' → hlook (B h) = hlook (B h')) → (∀ h m, m ≠ .t d 0 → hlook (B h) m = hlook h m) →
   freshL (.t d 0) (killOL on σl) = true → (∃ δ, EffG P y (⟨(d, v0) :: (killOL on σl).s, B (killOL on σl).h⟩ : St).f δ ∧ K (app y.dst δ (⟨(d, v0) :: (killOL on σl).s, B (killOL on σl).h⟩ : St).f)) →
   ∃ δ', EffG P y σl.f δ' ∧ ∃ σ3 : St, σ3.f = app y.dst δ' σl.f ∧ (∀ z, z ∈ opnds x.op → evO (look σ3.s) z = evO (look σl.s) z) ∧ hlook σ3.h = hlook σl.h ∧ freshL (.t d 0) (killOL on σ3) = true ∧
    K (⟨(d, v0) :: (killOL on σ3).s, B (killOL on σ3).h⟩ : St).f := by
  rintro d hd v0 B on hB hBm hf ⟨δ, ⟨b, ry, hey⟩, hK⟩
  have hyd : y.dst ≠ some d := (a0 d hd).2
  have hyo := sees (a0 d hd).1
  have hfr := freshL_spec hf
  have hb : b = true := by simpa [runs, hp.gy] using ry
  subst hb
  have hey : Eff P y.dst y.op (⟨(d, v0) :: (killOL on σl).s, B (killOL on σl).h⟩ : St).f δ := hey
  have hev : ∀ o, o ∈ opnds y.op → evO (⟨(d, v0) :: (killOL on σl).s, B (killOL on σl).h⟩ : St).f.s o = scrO on (evO σl.f.s o) := by
   intro z hz
   have hzd := hyo z hz
   cases z with
   | tmp t =>
    have htd : t ≠ d := fun e => hzd (by rw [e])
    simp only [evO, St.f, look]
    rw [if_neg htd, look_killOL]
    cases on <;> rfl
   | const w =>
    simp only [evO]
    cases on with
    | none => rfl
    | some n =>
     simp only [scrO, scr]
     rw [if_neg]
     cases w <;> simp [AV.ofValue, AV.has]
     rename_i cs
     have : OffL (fun m => m = n) (List.map (fun x => AV.v x) (Array.toList cs)) := OffL.of_mem fun x hx => by
      obtain ⟨y, _, rfl⟩ := List.mem_map.1 hx
      exact Off.v _
     exact this n rfl
   | global g => simp only [evO]; exact (scrO_junk on).symm
   | func f => simp only [evO]; cases on <;> simp [scrO, scr, AV.has, hasL]
  have hnw : ∀ o, o ∈ opnds y.op → (evO (⟨(d, v0) :: (killOL on σl).s, B (killOL on σl).h⟩ : St).f.s o).has (.t d 0) = false := by
   intro z hz
   have hzd := hyo z hz
   cases z with
   | tmp t =>
    have htd : t ≠ d := fun e => hzd (by rw [e])
    simp only [evO, St.f, look]
    rw [if_neg htd]
    exact hfr.2.1 t
   | const w =>
    simp only [evO]
    cases w <;> simp [AV.ofValue, AV.has]
    rename_i cs
    have : OffL (fun m => m = .t d 0) (List.map (fun x => AV.v x) (Array.toList cs)) := OffL.of_mem fun x hx => by
     obtain ⟨y, _, rfl⟩ := List.mem_map.1 hx
     exact Off.v _
    exact this _ rfl
   | global g => rfl
   | func f => simp [evO, AV.has, hasL]
  obtain ⟨e1, e2, e3, e4, e5⟩ := lv_before (σ := σl.f) (on := on) (new := .t d 0) hp.ky hey hev hnw (fun m c z hm hmn hb => by
    simp only [St.f] at hb ⊢
    rw [hBm _ _ hm, hlook_killOL] at hb
    cases on with
    | none => exact ⟨c, hb, by rw [show scrO none = id from rfl]; simp⟩
    | some n =>
      simp only at hb
      rw [if_neg (hmn n rfl)] at hb
      obtain ⟨b0, h1, h2⟩ := Option.map_eq_some_iff.1 hb
      cases b0 with
      | var c0 z0 =>
        simp only [scrB, Blk.var.injEq] at h2
        obtain ⟨rfl, rfl⟩ := h2
        exact ⟨c0, h1, rfl⟩
      | arr k l z0 => simp [scrB] at h2)
  let δ' : Dl := ⟨δ.v, [], false, [], fun _ => False⟩
  let σ3 : St := canon ⟨put y.dst δ.v σl.s, σl.h⟩
  have hσ3 : σ3.f = app y.dst δ' σl.f := by
   rw [canon_f]; exact app_rd
  have s3 : ∀ t, look σ3.s t = (app y.dst δ' σl.f).s t := fun t => congrFun (congrArg FSt.s hσ3) t
  have h3 : hlook σ3.h = hlook σl.h := by
   have := congrArg FSt.h hσ3
   have e : (app y.dst δ' σl.f).h = hlook σl.h := by
    funext n; rw [app_h]; simp [δ', hlook, St.f]
   exact this.trans e
  refine ⟨δ', ⟨true, by simp [runs, hp.gy], e1⟩, σ3, hσ3, fun z hz => ?_, h3, ?_, ?_⟩
  ·have e : evO (look σ3.s) z = evO (app y.dst δ' σl.f).s z := by cases z <;> first | rfl | exact s3 _
   rw [e]
   exact evO_app fun t ht => sees (b0 t ht) z hz
  ·refine freshL_of (canon_kill (canon_ok _) on) rfl ⟨⟨?_, hfr.1.2⟩, fun t => ?_, fun m bl hbl => ?_⟩
   ·have := hfr.1.1
    simp only [St.f, hlook_killOL] at this ⊢
    rw [h3]; exact this
   ·have := hfr.2.1 t
    simp only [St.f, look_killOL] at this ⊢
    rw [s3]
    by_cases ht : y.dst = some t
    ·rw [ht, app_s_eq]
     cases on with
     | none => exact e3
     | some n =>
      show AV.has (.t d 0) (scr n δ.v) = false
      rw [show scr n δ.v = δ.v from e2]; exact e3
    ·rw [app_s ht]; exact this
   ·refine hfr.2.2 m bl ?_
    simp only [St.f, hlook_killOL] at hbl ⊢
    rw [h3] at hbl; exact hbl
  ·have est : (⟨(d, v0) :: (killOL on σ3).s, B (killOL on σ3).h⟩ : St).f = app y.dst δ (⟨(d, v0) :: (killOL on σl).s, B (killOL on σl).h⟩ : St).f := by
    have g1 : (⟨(d, v0) :: (killOL on σ3).s, B (killOL on σ3).h⟩ : St).f.s = (app y.dst δ (⟨(d, v0) :: (killOL on σl).s, B (killOL on σl).h⟩ : St).f).s := by
     funext t
     by_cases ht : y.dst = some t
     ·have htd : t ≠ d := fun e => hyd (by rw [ht, e])
      rw [ht, app_s_eq]
      simp only [St.f, look]
      rw [if_neg htd, look_killOL, s3, ht, app_s_eq]
      cases on with
      | none => rfl
      | some n => exact e2
     ·rw [app_s ht]
      simp only [St.f, look, look_killOL]
      rw [s3, app_s ht]; rfl
    have g2 : (⟨(d, v0) :: (killOL on σ3).s, B (killOL on σ3).h⟩ : St).f.h = (app y.dst δ (⟨(d, v0) :: (killOL on σl).s, B (killOL on σl).h⟩ : St).f).h := by
     have e : (app y.dst δ (⟨(d, v0) :: (killOL on σl).s, B (killOL on σl).h⟩ : St).f).h = hlook (B (killOL on σl).h) := by
      funext n; rw [app_h, e4, e5]; simp [hlook, St.f]
     rw [e]
     refine hB _ _ (funext fun m => ?_)
     simp only [hlook_killOL, h3]
    exact congr (congrArg FSt.mk g1) g2
   rw [est]; exact hK
 obtain ⟨k, by', A, X, hx⟩ := hp.kx
 have go : ∀ (d : Nat), x.dst = some d → (x.op = .append k by' A X ∨ x.op = .appendC k by' A X) → stepA P x.dst σl (fun σ' => ∃ δ, EffG P y σ'.f δ ∧ K (app y.dst δ σ'.f)) x.op →
   ∃ δ', EffG P y σl.f δ' ∧ ∃ σ3 : St, σ3.f = app y.dst δ' σl.f ∧ stepA P x.dst σ3 (fun σ' => K σ'.f) x.op := by
  intro d hd hx hv
  rcases hx with hx | hx
  ·rw [hx, hd] at hv
   simp only [stepA] at hv
   split at hv
   ·rename_i on l l' hA hX
    obtain ⟨⟨hf, hsz⟩, hK⟩ := hv
    have hMM := main d hd (.loc (.t d 0) 0 (l.length + l'.length)) (fun h => (.t d 0, .arr k (l ++ l') false) :: h) on (fun h h' e => by funext m; simp only [hlook, e]) (fun h m hm => by simp only [hlook]; rw [if_neg hm]) hf hK
    obtain ⟨δ', g1, σ3, g2, g3, g4, g5, g6⟩ := hMM
    rw [hx] at g3
    refine ⟨δ', g1, σ3, g2, ?_⟩
    rw [hx, hd]
    simp only [stepA]
    rw [g3 A (by simp [opnds]), g3 X (by simp [opnds]), g4, hA, hX]
    exact ⟨⟨g5, hsz⟩, g6⟩
   ·exact hv.elim
  ·rw [hx, hd] at hv
   simp only [stepA] at hv
   split at hv
   ·rename_i on l l' hA hX
    obtain ⟨⟨hf, hsz⟩, hK⟩ := hv
    have hMM := main d hd (.sl k (l ++ l')) (fun h => h) on (fun h h' e => e) (fun h m hm => rfl) hf hK
    obtain ⟨δ', g1, σ3, g2, g3, g4, g5, g6⟩ := hMM
    rw [hx] at g3
    refine ⟨δ', g1, σ3, g2, ?_⟩
    rw [hx, hd]
    simp only [stepA]
    rw [g3 A (by simp [opnds]), g3 X (by simp [opnds]), g4, hA, hX]
    exact ⟨⟨g5, hsz⟩, g6⟩
   ·exact hv.elim
 cases hd : x.dst with
 | none => rcases hx with hx | hx <;> (rw [hx, hd] at hv; exact hv.elim)
 | some d =>
  obtain ⟨δ', g1, σ3, g2, g3⟩ := go d hd hx hv
  refine ⟨δ', g1, σ3, g2, ?_⟩
  simp only [vc, hp.gx]
  exact g3
theorem ap_point {x : AOper} {σl : St} {K : St → Prop} (gx : x.guard = none) (kx : ∃ k b A X, x.op = .append k b A X ∨ x.op = .appendC k b A X) (hv : vc P K [x] σl) :
  ∃ r, K r ∧ ∀ K' : St → Prop, K' r → vc P K' [x] σl := by
 obtain ⟨k, b, A, X, hx⟩ := kx
 simp only [vc, gx] at hv ⊢
 cases hd : x.dst with
 | none => rcases hx with hx | hx <;> (rw [hx, hd] at hv; exact hv.elim)
 | some d =>
  rcases hx with hx | hx <;> rw [hx, hd] at hv
  all_goals
   simp only [stepA, hx] at hv ⊢
   split at hv
   ·exact ⟨_, hv.2, fun K' h => ⟨hv.1, h⟩⟩
   ·exact hv.elim
theorem bringS {ops : Array Oper} {K : FSt → Prop} {y : AOper} (fy : freeO y = true) : ∀ (l1 l2 : List AOper) (σ : FSt), (∀ x, x ∈ l1 → (Pair x y ∨ PairS x y) ∧ ∃ (i : Nat) (o : Oper), ops[i]? = some o ∧ cOper P C.nt ops o = some x.bare) →
  (l1.Pairwise fun x x' => ∀ t, x'.dst = some t → x.dst ≠ some t) → Real C σ → (∀ x, x ∈ l1 → ∀ t, x.dst = some t → σ.s t = .junk) → (l1 ≠ [] → ∀ t, y.dst = some t → σ.s t = .junk) →
  vcE P K (l1 ++ y :: l2) σ → vcE P K (y :: (l1 ++ l2)) σ
 | [], l2, σ, _, _, _, _, _, hv => hv
 | x :: l1, l2, σ, hp, hd, hr, j1, j2, hv => by
  obtain ⟨hpx, i, o, ho, hc⟩ := hp x (by simp)
  have hap : apartA x y = true := by rcases hpx with h | h <;> exact h.ap
  have ax : ∀ t, y.dst = some t → x.dst ≠ some t := by
   intro t ht h
   have := hap
   simp only [apartA, h, Bool.and_eq_true, Bool.not_eq_true', beq_eq_false_iff_ne] at this
   exact this.1.2 ht
  rcases hpx with hpx | hpx
  ·have fx := hpx.fx
   simp only [List.cons_append, vcE, fx, if_true] at hv
   obtain ⟨δx, h1, h2⟩ := hv
   have := bringS fy l1 l2 (app x.dst δx σ) (fun z hz => hp z (by simp [hz])) hd.tail (real_eff ho hc hr h1) (fun z hz t ht => by
     rw [app_s ((List.rel_of_pairwise_cons hd hz) t ht)]
     exact j1 z (by simp [hz]) t ht) (fun _ t ht => by
     rw [app_s (ax t ht)]
     exact j2 (by simp) t ht) h2
   simp only [vcE, fy, if_true] at this
   obtain ⟨δy, h3, h4⟩ := this
   obtain ⟨σl, a, w, S, ρ, κ, e, hok⟩ := hr
   obtain ⟨h5, h6, h7⟩ := effg_swap h1 h3 (by rw [← e]; exact hok.wf) fx fy hpx.ap (j1 x (by simp)) (j2 (by simp))
   simp only [vcE, fy, fx, if_true, List.cons_append]
   exact ⟨δy, h5, δx, h6, by rw [h7]; exact h4⟩
  ·have fx := hpx.fx
   simp only [List.cons_append, vcE, fx, Bool.false_eq_true, if_false] at hv
   obtain ⟨σl, e, h2⟩ := hv
   obtain ⟨r, ⟨h3, h4⟩, h5⟩ := ap_point hpx.gx hpx.kx h2
   obtain ⟨σ0, a, w, S, ρ, κ, e0, hok⟩ := hr
   have hreal : Real C r.f := by
    obtain ⟨a', w', σ', S', ρ', κ', q1, q2⟩ := wpOp_ex (op_wp (Q := fun _ _ _ => False) ho hc (h5 (fun σ' => σ' = r) rfl) (by rw [e, ← e0]; exact hok))
    exact ⟨σ', a', w', S', ρ', κ', by rw [q1], q2⟩
   have sl : ∀ t, look σl.s t = σ.s t := fun t => congrFun (congrArg FSt.s e) t
   have := bringS fy l1 l2 r.f (fun z hz => hp z (by simp [hz])) hd.tail hreal (fun z hz t ht => by
     exact h4 t ((List.rel_of_pairwise_cons hd hz) t ht) ((sl t).trans (j1 z (by simp [hz]) t ht))) (fun _ t ht => by
     exact h4 t (ax t ht) ((sl t).trans (j2 (by simp) t ht))) h3
   simp only [vcE, fy, if_true] at this
   obtain ⟨δ', g1, σ3, g2, g3⟩ := soft_swap (K := fun f => vcE P K (l1 ++ l2) f) hpx (h5 (fun σ' => ∃ δ, EffG P y σ'.f δ ∧ vcE P K (l1 ++ l2) (app y.dst δ σ'.f)) this)
   rw [e] at g1 g2
   simp only [vcE, fy, fx, Bool.false_eq_true, if_false, if_true, List.cons_append]
   exact ⟨δ', g1, σ3, g2, vc1_keep g3⟩
def afterB (o : Oper) (k : Nat) : Bool := o.after.any fun e => Region.binds .any e && e.on == k
def ancB (ops : Array Oper) : Nat → Nat → Nat → Bool
 | 0, _, _ => false
 | n + 1, k, i => match ops[i]? with
  | some o => o.after.any fun e => Region.binds .any e && (e.on == k || ancB ops n k e.on)
  | none => false
def uniqB (aops : List AOper) (k : Nat) : Bool := match (aops[k]?).bind (·.dst) with
 | some d => (List.range aops.length).all fun j => j == k || !(((aops[j]?).bind (·.dst)) == some d)
 | none => true
def floatB (ops : Array Oper) (k i : Nat) : Bool := match ops[i]? with | some o => !afterB o k | none => false
def hardB (x y : AOper) : Bool := freeO x && !freeO y && y.guard.isNone && apartA x y && match y.op with
 | .store .. => pureA x.op
 | .append .. => match x.op with | .mv _ => true | _ => false
 | _ => false
def hardL (x y : AOper) : Bool := freeO x && !freeO y && y.guard.isNone && apartA x y && x.dst.isSome && (match y.op with
  | .append .. => true
  | _ => false) && match x.op with
 | .load .. => true
 | .fieldAddr .. => true
 | _ => false
def softB (x y : AOper) : Bool := !freeO x && freeO y && x.guard.isNone && y.guard.isNone && apartA x y && y.dst.isSome && (match x.op with
  | .append .. => true
  | _ => false) && match y.op with
 | .load g _ _ => g
 | .fieldAddr .. => true
 | _ => false
def markB (x y : AOper) : List Nat := (if hardL x y then (match x.dst with
  | some d => [d + 1000000]
  | none => []) else []) ++ if softB x y then (match y.dst with
  | some d => [d + 1000000]
  | none => []) else []
def pairN (ops : Array Oper) (aops : List AOper) (k i : Nat) : Bool := match aops[k]?, aops[i]? with
 | some x, some y => (hardL x y || softB x y) && uniqB aops k && uniqB aops i && !ancB ops ops.size k i
 | _, _ => false
def pairB (aops : List AOper) (k i : Nat) : Bool := match aops[k]?, aops[i]? with
 | some x, some y => ((freeO x && freeO y && apartA x y) || hardB x y) && uniqB aops k && uniqB aops i
 | _, _ => false
def backB (ops : Array Oper) : Bool := (List.range ops.size).all fun i => match ops[i]? with
 | some o => o.after.all fun e => !Region.binds .any e || decide (e.on < i)
 | none => true
def floatsL (n : Nat) (ops : Array Oper) : List (Nat × Nat) := (List.range n).flatMap fun i => (List.range i).filterMap fun k => if floatB ops k i then some (k, i) else none
def openB (ops : Array Oper) (aops : List AOper) : Bool := backB ops && (floatsL ops.size ops).all fun p => (pairB aops p.1 p.2 || pairN ops aops p.1 p.2) || ancB ops ops.size p.1 p.2
def flOf (ops : Array Oper) (aops : List AOper) : List Nat := (((floatsL ops.size ops).filter fun p => pairB aops p.1 p.2 || pairN ops aops p.1 p.2).flatMap fun p => ((aops[p.1]?).bind (·.dst)).toList ++ ((aops[p.2]?).bind (·.dst)).toList ++ (if pairN ops aops p.1 p.2 then (match aops[p.1]?, aops[p.2]? with
  | some x, some y => markB x y
  | _, _ => []) else [])).eraseDups
def setB (ops : Array Oper) (i : Nat) : Bool := (floatsL ops.size ops).all fun p => !(p.1 == i || p.2 == i) || ancB ops ops.size p.1 p.2
def writes (P : Program) : AOp → Bool
 | .call (.func g) _ _ => match P.funcs[g]? with
  | some fn => fn.name == "loop.example/g01012/spec.l15Do"
  | none => false
 | _ => false
def setL (P : Program) (ops : Array Oper) (aops : List AOper) : List Nat := (List.range aops.length).filterMap fun i => match aops[i]? with
 | some o => match o.dst with
  | some d => if writes P o.op && setB ops i then some (d + 2000000) else none
  | none => none
 | none => none
def drawnG (P : Program) (nt : Nat) (ops : Array Oper) : Option (List Nat) := match cOps P nt ops ops.toList with
 | some l => if Nat.ble nt 1000000 && openB ops l then some (flOf ops l ++ setL P ops l) else none
 | none => none
end
section
variable [Envs]
variable {P : Program} {C : Ctx} {a : Act} {w : World} {S : Nat → Prop} {ρ : Name → Option Nat} {κ : Name → Nat}
theorem atL_append (aops : List AOper) (l1 l2 : List Nat) : atL aops (l1 ++ l2) = atL aops l1 ++ atL aops l2 := by simp [atL]
structure Plan (P : Program) (C : Ctx) (ops : Array Oper) (aops : List AOper) (F : Nat → Prop) : Prop where
 corr : ∀ (j : Nat) (ao : AOper), aops[j]? = some ao → ∃ o : Oper, ops[j]? = some o ∧ cOper P C.nt ops o = some ao.bare
 len : ops.size = aops.length
 back : ∀ (i : Nat) (o : Oper), ops[i]? = some o → ∀ e, e ∈ o.after → Region.binds .any e = true → e.on < i
 pair : ∀ k i, k < i → i < ops.size → floatB ops k i = true → ancB ops ops.size k i = false → F k ∧ F i ∧ ∀ (x y : AOper), aops[k]? = some x → aops[i]? = some y → Pair x y ∨ PairH x y ∨ PairS x y
 uniq : ∀ k, F k → ∀ (x : AOper) (d : Nat), aops[k]? = some x → x.dst = some d → ∀ (j : Nat) (y : AOper), j ≠ k → aops[j]? = some y → y.dst ≠ some d
theorem anc_listed {ops : Array Oper} {listed : Array Bool} (hdc : ∀ (j : Nat) (o : Oper), ops[j]? = some o → listed.getD j false = true → ∀ e, e ∈ o.after → Region.binds .any e = true → listed.getD e.on false = true) :
  ∀ (n k i : Nat) (o : Oper), ops[i]? = some o → (∀ e, e ∈ o.after → Region.binds .any e = true → listed.getD e.on false = true) → ancB ops n k i = true → listed.getD k false = true
 | 0, _, _, _, _, _, h => by simp [ancB] at h
 | n + 1, k, i, o, ho, hl, h => by
  simp only [ancB, ho] at h
  rw [← Array.any_toList, List.any_eq_true] at h
  obtain ⟨e, he, h⟩ := h
  simp only [Bool.and_eq_true, Bool.or_eq_true, beq_iff_eq] at h
  have hle := hl e (by simpa using he) h.1
  rcases h.2 with h2 | h2
  ·rw [← h2]; exact hle
  ·cases ho' : ops[e.on]? with
   | none =>
    cases n with
    | zero => simp [ancB] at h2
    | succ n => simp [ancB, ho'] at h2
   | some o' => exact anc_listed hdc n k e.on o' ho' (hdc e.on o' ho' hle) h2
theorem any_go {ops : Array Oper} {aops : List AOper} {F : Nat → Prop} {K : St → Prop} {Q : Exit → Act → World → Prop} (hp : Plan P C ops aops F) (hQ : ∀ a w, GoodL C K a w → Q .normal a w) :
  ∀ (n : Nat) (r : List Nat) (listed : Array Bool) (σl : St) (a : Act) (w : World) (S : Nat → Prop) (ρ : Name → Option Nat) (κ : Name → Nat), r.length = n → r.Pairwise (· < ·) → listed.size = ops.size →
   (∀ i, i ∈ r ↔ i < ops.size ∧ listed.getD i true = false) → (∀ i, i ∈ r → F i → ∀ (x : AOper) (d : Nat), aops[i]? = some x → x.dst = some d → look σl.s d = .junk) →
   (∀ (j : Nat) (o : Oper), ops[j]? = some o → listed.getD j false = true → ∀ e, e ∈ o.after → Region.binds .any e = true → listed.getD e.on false = true) →
   vcE P (fun f => ∃ σ' : St, σ'.f = f ∧ K σ') (atL aops r) σl.f → OK C σl.f a w S ρ κ → wpAny P .any ops Q n listed a w := by
 intro n
 induction n with
 | zero =>
  intro r listed σl a w S ρ κ hn _ hsz hr _ _ hv hok
  obtain rfl := List.length_eq_zero_iff.1 hn
  refine ⟨?_, ?_⟩
  ·cases h : Region.ready .any ops listed with
   | nil => rfl
   | cons i l =>
    have : i ∈ Region.ready .any ops listed := by rw [h]; simp
    obtain ⟨h1, o, h2, _⟩ := mem_ready.1 this
    have : i ∈ ([] : List Nat) := (hr i).2 ⟨(Array.getElem?_eq_some_iff.1 h2).1, h1⟩
    cases this
  ·obtain ⟨σ', h1, h2⟩ := hv
   exact hQ a w ⟨σ', S, ρ, κ, h2, by rw [h1]; exact hok⟩
 | succ n ih =>
  intro r listed σl a w S ρ κ hn hsort hsz hr hj hdc hv hok
  have done : ∀ i, i < ops.size → i ∉ r → listed.getD i false = true := by
   intro i hi hir
   cases h : listed.getD i true with
   | false => exact absurd ((hr i).2 ⟨hi, h⟩) hir
   | true =>
    have : i < listed.size := by omega
    simp [this] at h ⊢; exact h
  refine ⟨fun hnil => ?_, fun i hi => ?_⟩
  ·exfalso
   cases r with
   | nil => simp at hn
   | cons r0 r =>
    obtain ⟨h1, h2⟩ := (hr r0).1 (by simp)
    have : r0 ∈ Region.ready .any ops listed := mem_ready.2 ⟨h2, ops[r0], by simp [h1], fun e he hb => by
      have hlt := hp.back r0 ops[r0] (by simp [h1]) e he hb
      refine done e.on (by omega) fun hm => ?_
      rcases List.mem_cons.1 hm with h | h
      · omega
      · have := List.rel_of_pairwise_cons hsort h; omega⟩
    rw [hnil] at this; cases this
  ·obtain ⟨h1, oi, h2, h3⟩ := mem_ready.1 hi
   have hisz : i < ops.size := (Array.getElem?_eq_some_iff.1 h2).1
   have hir : i ∈ r := (hr i).2 ⟨hisz, h1⟩
   obtain ⟨r1, r2, rfl⟩ := List.append_of_mem hir
   have hai : i < aops.length := by rw [← hp.len]; exact hisz
   obtain ⟨y, hy⟩ : ∃ y, aops[i]? = some y := ⟨aops[i], by simp [hai]⟩
   obtain ⟨oi', g1, g2⟩ := hp.corr i y hy
   rw [h2] at g1
   obtain rfl := Option.some.inj g1
   have hlt : ∀ k, k ∈ r1 → k < i := fun k hk => (List.pairwise_append.1 hsort).2.2 k hk i (by simp)
   have hfl : ∀ k, k ∈ r1 → floatB ops k i = true := by
    intro k hk
    simp only [floatB, h2, afterB, Bool.not_eq_true', List.any_eq_false, ← Array.any_toList]
    intro e he
    simp only [Bool.and_eq_true, beq_iff_eq, not_and]
    intro hb hek
    have h4 := h3 e (by simpa using he) hb
    have h5 := ((hr k).1 (by simp [hk])).2
    rw [hek] at h4
    have : k < listed.size := by have := hlt k hk; omega
    simp [this] at h4 h5
    rw [h4] at h5; cases h5
   have hanc : ∀ k, k ∈ r1 → ancB ops ops.size k i = false := by
    intro k hk
    cases h : ancB ops ops.size k i with
    | false => rfl
    | true =>
     have h4 := anc_listed hdc ops.size k i oi h2 h3 h
     have h5 := ((hr k).1 (by simp [hk])).2
     have : k < listed.size := by have := hlt k hk; omega
     simp [this] at h4 h5
     rw [h4] at h5; cases h5
   have hmem : ∀ x, x ∈ atL aops r1 → ∃ k, k ∈ r1 ∧ aops[k]? = some x := by
    intro x hx
    obtain ⟨k, hk, hkx⟩ := List.mem_filterMap.1 hx
    exact ⟨k, hk, hkx⟩
   have e1 : atL aops (r1 ++ i :: r2) = atL aops r1 ++ y :: atL aops r2 := by
    rw [atL_append]; simp [atL, hy]
   rw [e1] at hv
   have hsort1 := (List.pairwise_append.1 hsort).1
   have hdist : (atL aops r1).Pairwise fun x x' => ∀ t, x'.dst = some t → x.dst ≠ some t := by
    have : r1.Pairwise fun k k' => ∀ x, aops[k]? = some x → ∀ x', aops[k']? = some x' → ∀ t, x'.dst = some t → x.dst ≠ some t := by
     refine hsort1.imp_of_mem fun {k k'} hk hk' hkk x hx x' hx' t ht => ?_
     have hF := (hp.pair k' i (hlt k' hk') hisz (hfl k' hk') (hanc k' hk')).1
     exact hp.uniq k' hF x' t hx' ht k x (by omega) hx
    exact List.pairwise_filterMap.2 (this.imp fun h x hx x' hx' => h x hx x' hx')
   have hreal : Real C σl.f := ⟨σl, a, w, S, ρ, κ, rfl, hok⟩
   have hpairs : ∀ k, k ∈ r1 → F k ∧ F i ∧ ∀ (x y : AOper), aops[k]? = some x → aops[i]? = some y → Pair x y ∨ PairH x y ∨ PairS x y := fun k hk => hp.pair k i (hlt k hk) hisz (hfl k hk) (hanc k hk)
   have hjx : ∀ x, x ∈ atL aops r1 → ∀ t, x.dst = some t → σl.f.s t = .junk := by
    intro x hx t ht
    obtain ⟨k, hk, hkx⟩ := hmem x hx
    exact hj k (by simp [hk]) (hpairs k hk).1 x t hkx ht
   have hbr : vcE P (fun f => ∃ σ' : St, σ'.f = f ∧ K σ') (y :: (atL aops r1 ++ atL aops r2)) σl.f := by
    by_cases hfy : freeO y = true
    ·refine bringS (P := P) (C := C) (ops := ops) (y := y) hfy (atL aops r1) (atL aops r2) σl.f (fun x hx => ?_) hdist hreal hjx (fun hne t ht => ?_) hv
     ·obtain ⟨k, hk, hkx⟩ := hmem x hx
      obtain ⟨o, q1, q2⟩ := hp.corr k x hkx
      refine ⟨?_, k, o, q1, q2⟩
      rcases (hpairs k hk).2.2 x y hkx hy with h | h | h
      ·exact .inl h
      ·have := h.fy; rw [hfy] at this; cases this
      ·exact .inr h
     ·cases r1 with
      | nil => exact absurd rfl hne
      | cons k _ => exact hj i (by simp) (hpairs k (by simp)).2.1 y t hy ht
    ·refine bringH (P := P) (C := C) (ops := ops) (y := y) (atL aops r1) (atL aops r2) σl.f (fun x hx => ?_) hdist hreal hjx hv
     obtain ⟨k, hk, hkx⟩ := hmem x hx
     obtain ⟨o, q1, q2⟩ := hp.corr k x hkx
     refine ⟨?_, k, o, q1, q2⟩
     rcases (hpairs k hk).2.2 x y hkx hy with h | h | h
     ·exact absurd h.fy hfy
     ·exact h
     ·exact absurd h.fy hfy
   have e2 : atL aops r1 ++ atL aops r2 = atL aops (r1 ++ r2) := (atL_append _ _ _).symm
   rw [e2] at hbr
   have hnd : i ∉ r1 ∧ i ∉ r2 := by
    have hpw := List.pairwise_append.1 hsort
    exact ⟨fun h => Nat.lt_irrefl _ (hlt i h), fun h => Nat.lt_irrefl _ (List.rel_of_pairwise_cons hpw.2.1 h)⟩
   have hsort' : (r1 ++ r2).Pairwise (· < ·) := by
    have hpw := List.pairwise_append.1 hsort
    exact List.pairwise_append.2 ⟨hpw.1, hpw.2.1.tail, fun x hx y hy => hpw.2.2 x hx y (by simp [hy])⟩
   have hr' : ∀ k, k ∈ r1 ++ r2 ↔ k < ops.size ∧ (listed.setIfInBounds i true).getD k true = false := by
    intro k
    by_cases hki : k = i
    ·subst hki
     have : k < listed.size := by omega
     simp [hnd.1, hnd.2, this]
    ·rw [getD_set_ne true (Ne.symm hki), ← hr k]
     simp [hki]
   have hdc' : ∀ (j : Nat) (o : Oper), ops[j]? = some o → (listed.setIfInBounds i true).getD j false = true → ∀ e, e ∈ o.after → Region.binds .any e = true → (listed.setIfInBounds i true).getD e.on false = true := by
    intro j o ho hl e he hb
    refine getD_set_true ?_
    by_cases hji : i = j
    ·subst hji
     rw [h2] at ho
     obtain rfl := Option.some.inj ho
     exact h3 e he hb
    ·rw [getD_set_ne false hji] at hl
     exact hdc j o ho hl e he hb
   have next : ∀ (σ' : St) a' w', keepJ y.dst σl σ' → vcE P (fun f => ∃ σ' : St, σ'.f = f ∧ K σ') (atL aops (r1 ++ r2)) σ'.f → (∃ S ρ κ, OK C σ'.f a' w' S ρ κ) → wpAny P .any ops Q n (listed.setIfInBounds i true) a' w' := by
    rintro σ' a' w' hk hv' ⟨S', ρ', κ', hok'⟩
    refine ih (r1 ++ r2) _ σ' a' w' S' ρ' κ' (by simp at hn ⊢; omega) hsort' (by simp [hsz]) hr' (fun k hkr hF x d hx hxd => ?_) hdc' hv' hok'
    have hki : k ≠ i := by
     rintro rfl
     rcases List.mem_append.1 hkr with h | h
     ·exact hnd.1 h
     ·exact hnd.2 h
    refine hk d (hp.uniq k hF x d hx hxd i y (Ne.symm hki) hy) (hj k ?_ hF x d hx hxd)
    rcases List.mem_append.1 hkr with h | h
    ·simp [h]
    ·simp [h]
   simp only [vcE] at hbr
   split at hbr
   ·obtain ⟨δ, q1, q2⟩ := hbr
    have hv1 := vc1_of (P := P) (o := y) (σ := canon σl) (δ := δ) (canon_ok σl) (by rw [canon_f]; exact q1)
    refine wpOp_mono (fun a' w' ⟨σ', S', ρ', κ', m1, m2⟩ => ?_) (op_wp h2 g2 hv1 (by rw [canon_f]; exact hok))
    rw [canon_f] at m1
    refine next σ' a' w' (fun t ht hjt => ?_) (by rw [m1]; exact q2) ⟨S', ρ', κ', m2⟩
    have : σ'.f.s t = (app y.dst δ σl.f).s t := by rw [m1]
    rw [app_s ht] at this
    exact this.trans hjt
   ·obtain ⟨σ2, q1, q2⟩ := hbr
    refine wpOp_mono (fun a' w' ⟨σ', S', ρ', κ', m1, m2⟩ => ?_) (op_wp h2 g2 q2 (by rw [q1]; exact hok))
    refine next σ' a' w' (fun t ht hjt => m1.2 t ht ?_) m1.1 ⟨S', ρ', κ', m2⟩
    have : σ2.f.s t = σl.f.s t := by rw [q1]
    exact this.trans hjt
theorem bare_opnds (ao : AOper) : opnds ao.bare.op = opnds ao.op ∧ ao.bare.dst = ao.dst ∧ ao.bare.guard = ao.guard ∧ isRd ao.bare.op = isRd ao.op := by
 obtain ⟨d, op, g⟩ := ao
 cases op <;> exact ⟨rfl, rfl, rfl, rfl⟩
theorem seesB_bare (y : AOper) (t : Nat) : seesB y.bare t = seesB y t := by
 obtain ⟨h1, h2, h3, h4⟩ := bare_opnds y
 simp only [seesB, h1, h3]
theorem apartA_bare (x y : AOper) : apartA x.bare y.bare = apartA x y := by
 have hx := (bare_opnds x).2.1
 have hy := (bare_opnds y).2.1
 have e : ∀ (x y : AOper) (t : Nat), seesB y.bare t = seesB y t := fun _ y t => seesB_bare y t
 unfold apartA
 rw [hx, hy]
 cases x.dst <;> cases y.dst <;> simp only [seesB_bare]
theorem freeO_bare {x : AOper} (h : freeO x.bare = true) (hb : ∀ f args bor, x.op = .call f args bor → bor = []) (hs : ∀ k n z ps, x.op ≠ .bsliceC k n z ps) : freeO x = true := by
 obtain ⟨d, op, g⟩ := x
 cases op
 case bsliceC k n z ps => exact absurd rfl (hs k n z ps)
 case call f args bor =>
  have := hb f args bor rfl
  subst this
  exact h
 all_goals exact h
theorem look_keys {s : List (Nat × AV)} {d : Nat} (h : (s.all fun p => !(p.1 == d)) = true) : look s d = .junk := by
 induction s with
 | nil => rfl
 | cons p r ih =>
  obtain ⟨i, x⟩ := p
  simp only [List.all_cons, Bool.and_eq_true, Bool.not_eq_true', beq_eq_false_iff_ne] at h
  simp only [look]
  rw [if_neg (fun e => h.1 e.symm)]
  exact ih h.2
theorem filterMap_same {α β : Type} {f g : α → Option β} : ∀ {l : List α}, (∀ x, x ∈ l → f x = g x) → l.filterMap f = l.filterMap g
 | [], _ => rfl
 | x :: r, h => by simp only [List.filterMap_cons, h x (by simp), filterMap_same (l := r) fun y hy => h y (by simp [hy])]
instance : Inhabited AOper := ⟨⟨none, .lenC 0, none⟩⟩
theorem drawn_ok (hm : P.follows .mixedOrders = true) : DrawOK P (drawnG P) := by
 intro C id ops aops fl K Q σ a w S ρ κ hd hc hen hQ hv hok
 unfold drawnG at hd
 rw [hc] at hd
 simp only at hd
 split at hd
 ·rename_i hop
  obtain rfl := Option.some.inj hd
  simp only [openB, Bool.and_eq_true, List.all_eq_true] at hop
  obtain ⟨hnt, hback, hpairs⟩ := hop
  have hnt := Nat.le_of_ble_eq_true hnt
  have hset0 : ∀ (k : Nat) (x : AOper) (d : Nat), aops[k]? = some x → x.dst = some d → d + 2000000 ∈ flOf ops (aops.map AOper.bare) ++ setL P ops (aops.map AOper.bare) → ∃ k' x', aops[k']? = some x' ∧ x'.dst = some d ∧ setB ops k' = true := by
   intro k x d hx hd hm
   have hdn : ∀ (k : Nat) (d : Nat), ((aops.map AOper.bare)[k]?).bind (·.dst) = some d → d < 1000000 := by
    intro k d hd
    have hkl : k < aops.length := by
     rcases Nat.lt_or_ge k aops.length with h | h
     ·exact h
     ·simp [h] at hd
    obtain ⟨_, g2⟩ := cOps_spec hc
    obtain ⟨o, q1, q2⟩ := g2 k aops[k] (by simp [hkl])
    obtain ⟨_, h2, h3, _⟩ := cOper_spec q2
    have : aops[k].dst = some d := by
     have e : ((aops.map AOper.bare)[k]?).bind (·.dst) = aops[k].dst := by simp [hkl, (bare_opnds aops[k]).2.1]
     rw [← e]; exact hd
    have hlt : d < C.nt := h3 d (h2.trans this)
    omega
   rcases List.mem_append.1 hm with hm | hm
   ·exfalso
    simp only [flOf, List.mem_eraseDups, List.mem_flatMap, List.mem_filter] at hm
    obtain ⟨p, _, hp⟩ := hm
    rcases List.mem_append.1 hp with hp | hp
    ·rcases List.mem_append.1 hp with hp | hp
     ·have := hdn _ _ (Option.mem_toList.1 hp); omega
     ·have := hdn _ _ (Option.mem_toList.1 hp); omega
    ·split at hp
     ·split at hp
      ·rename_i x' y' hx' hy'
       unfold markB at hp
       rcases List.mem_append.1 hp with hp | hp
       ·split at hp
        ·split at hp
         ·rename_i d' hd'
          have := hdn p.1 d' (by rw [hx']; exact hd')
          simp at hp; omega
         ·cases hp
        ·cases hp
       ·split at hp
        ·split at hp
         ·rename_i d' hd'
          have := hdn p.2 d' (by rw [hy']; exact hd')
          simp at hp; omega
         ·cases hp
        ·cases hp
      ·cases hp
     ·cases hp
   ·simp only [setL, List.mem_filterMap, List.mem_range, List.length_map] at hm
    obtain ⟨i, hi, hm⟩ := hm
    split at hm
    ·rename_i o ho
     split at hm
     ·rename_i d' hd'
      split at hm
      ·rename_i hw
       simp only [Option.some.injEq] at hm
       have hdd : d' = d := by omega
       simp only [Bool.and_eq_true] at hw
       obtain ⟨x', hx', rfl⟩ : ∃ x', aops[i]? = some x' ∧ x'.bare = o := by
        rw [List.getElem?_map] at ho
        exact Option.map_eq_some_iff.1 ho
       exact ⟨i, x', hx', by rw [← (bare_opnds x').2.1, hd', hdd], hw.2⟩
      ·cases hm
     ·cases hm
    ·cases hm
  obtain ⟨g1, g2⟩ := cOps_spec hc
  have hlen : ops.size = aops.length := by simpa using g1
  have hmem : ∀ k i, k < i → i < ops.size → floatB ops k i = true → (k, i) ∈ floatsL ops.size ops := by
   intro k i hk hi hf
   simp only [floatsL, List.mem_flatMap, List.mem_range, List.mem_filterMap]
   exact ⟨i, hi, k, hk, by rw [if_pos hf]⟩
  let F : Nat → Prop := fun k => ∃ p, p ∈ floatsL ops.size ops ∧ (pairB (aops.map AOper.bare) p.1 p.2 || pairN ops (aops.map AOper.bare) p.1 p.2) = true ∧ ancB ops ops.size p.1 p.2 = false ∧ (p.1 = k ∨ p.2 = k)
  have bareAt : ∀ (i : Nat) (x : AOper), aops[i]? = some x → (aops.map AOper.bare)[i]? = some x.bare := by
   intro i x hx; simp [hx]
  have hfl : ∀ (k : Nat) (x : AOper) (d : Nat), F k → aops[k]? = some x → x.dst = some d → d ∈ flOf ops (aops.map AOper.bare) ++ setL P ops (aops.map AOper.bare) := by
   rintro k x d ⟨p, hp, hpp, hpa, hpk⟩ hx hd
   refine List.mem_append_left _ ?_
   simp only [flOf, List.mem_eraseDups, List.mem_flatMap, List.mem_filter]
   refine ⟨p, ⟨hp, hpp⟩, ?_⟩
   have : ((aops.map AOper.bare)[k]?).bind (·.dst) = some d := by rw [bareAt k x hx]; simp [(bare_opnds x).2.1, hd]
   rcases hpk with h | h
   ·rw [h, this]; simp
   ·rw [h, this]; simp
  have hmk : ∀ (k i : Nat) (x y : AOper) (d : Nat), (k, i) ∈ floatsL ops.size ops → pairN ops (aops.map AOper.bare) k i = true → aops[k]? = some x → aops[i]? = some y → d ∈ markB x.bare y.bare → d ∈ flOf ops (aops.map AOper.bare) ++ setL P ops (aops.map AOper.bare) := by
   intro k i x y d hp hpp hx hy hd
   refine List.mem_append_left _ ?_
   simp only [flOf, List.mem_eraseDups, List.mem_flatMap, List.mem_filter]
   refine ⟨(k, i), ⟨hp, by rw [hpp, Bool.or_true]⟩, ?_⟩
   simp only [bareAt k x hx, bareAt i y hy, hpp, if_true]
   simp [hd]
  simp only [entryB, Bool.and_eq_true, List.all_eq_true] at hen
  have hjunk : ∀ (k : Nat) (x : AOper) (d : Nat), F k → aops[k]? = some x → x.dst = some d → look σ.s d = .junk := fun k x d hF hx hd =>
   look_keys (by simpa using hen.1 d (hfl k x d hF hx hd))
  have hbor : ∀ (k : Nat) (x : AOper), F k → aops[k]? = some x → freeO x.bare = true → freeO x = true := by
   intro k' x hF hx hfr
   have hds : isRd x.bare.op = false → x.dst.isSome = true := by
    intro hi
    simp only [freeO, Bool.and_eq_true, Bool.or_eq_true, hi, (bare_opnds x).2.1, Bool.false_eq_true, false_or] at hfr
    exact hfr.2
   have hsl : ∀ k n z ps, x.op ≠ .bsliceC k n z ps := by
    intro k n z ps e
    obtain ⟨d, hd⟩ := Option.isSome_iff_exists.1 (hds (by rw [(bare_opnds x).2.2.2, e]; rfl))
    have h1 := hen.2 x (List.mem_of_getElem? hx)
    rw [e, hd] at h1
    have h2 := hfl k' x d hF hx hd
    simp [h2] at h1
   refine freeO_bare hfr (fun f args bor e => ?_) hsl
   obtain ⟨d, hd⟩ := Option.isSome_iff_exists.1 (hds (by rw [(bare_opnds x).2.2.2, e]; rfl))
   have h1 := hen.2 x (List.mem_of_getElem? hx)
   rw [e, hd] at h1
   have h2 := hfl k' x d hF hx hd
   simp only [Bool.or_eq_true, List.isEmpty_iff, Bool.not_eq_true', List.contains_eq_mem, decide_eq_false_iff_not, decide_eq_true_eq] at h1
   rcases h1 with (h1 | h1) | h1
   ·exact h1
   ·exact absurd h2 h1
   ·exfalso
    obtain ⟨k2, x2, g1, g2, g3⟩ := hset0 _ x d hx hd h1
    obtain ⟨⟨ka, ia⟩, hp, hpp, hpa, hpk⟩ := hF
    have hu : uniqB (aops.map AOper.bare) ka = true ∧ uniqB (aops.map AOper.bare) ia = true := by
     rw [Bool.or_eq_true] at hpp
     rcases hpp with hpp | hpp
     ·simp only [pairB] at hpp
      split at hpp
      ·simp only [Bool.and_eq_true] at hpp; exact ⟨hpp.1.2, hpp.2⟩
      ·cases hpp
     ·simp only [pairN] at hpp
      split at hpp
      ·simp only [Bool.and_eq_true] at hpp; exact ⟨hpp.1.1.2, hpp.1.2⟩
      ·cases hpp
    have huk : uniqB (aops.map AOper.bare) k' = true := by
     rcases hpk with h | h
     ·simp only at h; rw [← h]; exact hu.1
     ·simp only at h; rw [← h]; exact hu.2
    unfold uniqB at huk
    have e1 : ((aops.map AOper.bare)[k']?).bind (·.dst) = some d := by rw [bareAt k' x hx]; simp [(bare_opnds x).2.1, hd]
    have e2 : ((aops.map AOper.bare)[k2]?).bind (·.dst) = some d := by rw [bareAt k2 x2 g1]; simp [(bare_opnds x2).2.1, g2]
    rw [e1] at huk
    simp only [List.all_eq_true, List.mem_range, List.length_map] at huk
    have hq := huk k2 (List.getElem?_eq_some_iff.1 g1).1
    rw [e2] at hq
    have hkk : k2 = k' := by simpa using hq
    subst hkk
    unfold setB at g3
    have := List.all_eq_true.1 g3 _ hp
    simp only [hpa, Bool.or_false, Bool.not_eq_true', Bool.or_eq_false_iff, beq_eq_false_iff_ne] at this
    rcases hpk with h | h
    ·exact this.1 h
    ·exact this.2 h
  have hno : ∀ (k : Nat) (x : AOper) (d : Nat), aops[k]? = some x → x.dst = some d → d + 1000000 ∈ flOf ops (aops.map AOper.bare) ++ setL P ops (aops.map AOper.bare) → (∀ g n a, x.op ≠ .load g n a) ∧ ∀ o a, x.op ≠ .fieldAddr o a := by
   intro k x d hx hd hm
   have h1 := hen.2 x (List.mem_of_getElem? hx)
   refine ⟨fun g n a e => ?_, fun o a e => ?_⟩
   ·rw [e, hd] at h1
    simp [hm] at h1
   ·rw [e, hd] at h1
    simp [hm] at h1
  have hpair : ∀ k i, (k, i) ∈ floatsL ops.size ops → (pairB (aops.map AOper.bare) k i || pairN ops (aops.map AOper.bare) k i) = true → ancB ops ops.size k i = false → ∀ (x y : AOper), aops[k]? = some x → aops[i]? = some y → (Pair x y ∨ PairH x y ∨ PairS x y) ∧ uniqB (aops.map AOper.bare) k = true ∧ uniqB (aops.map AOper.bare) i = true := by
   intro k i hki h hpa x y hx hy
   have hpp := h
   rw [Bool.or_eq_true] at h
   rcases h with h | h
   ·simp only [pairB, bareAt k x hx, bareAt i y hy, Bool.and_eq_true, Bool.or_eq_true, apartA_bare] at h
    refine ⟨?_, h.1.2, h.2⟩
    rcases h.1.1 with h1 | h1
    ·exact .inl ⟨hbor k x ⟨_, hki, hpp, hpa, .inl rfl⟩ hx h1.1.1, hbor i y ⟨_, hki, hpp, hpa, .inr rfl⟩ hy h1.1.2, h1.2⟩
    ·right; left
     simp only [hardB, Bool.and_eq_true, apartA_bare, Bool.not_eq_true', (bare_opnds y).2.2.1, Option.isNone_iff_eq_none] at h1
     obtain ⟨⟨⟨⟨q1, q2⟩, q3⟩, q4⟩, q5⟩ := h1
     have q2' : freeO y = false := by
      obtain ⟨d, op, g⟩ := y
      cases op <;> first
       | exact q2
       | (exfalso; revert q5; simp [AOper.bare, AOp.bare, AOp.bare0])
     refine ⟨hbor k x ⟨_, hki, hpp, hpa, .inl rfl⟩ hx q1, q2', q3, q4, ?_⟩
     obtain ⟨dy, opy, gy⟩ := y
     obtain ⟨dx, opx, gx⟩ := x
     cases opy <;> simp only [AOper.bare, AOp.bare, AOp.bare0] at q5 <;> try (cases q5; done)
     ·refine .inl ⟨_, _, _, rfl, ?_⟩
      cases opx <;> first | exact q5 | simp [pureA, AOp.bare, AOp.bare0] at q5
     ·right
      cases opx <;> simp only [AOp.bare, AOp.bare0] at q5 <;> try (cases q5; done)
      exact ⟨_, _, _, _, _, .inl rfl, .inl rfl⟩
     ·right
      cases opx <;> simp only [AOp.bare, AOp.bare0] at q5 <;> try (cases q5; done)
      exact ⟨_, _, _, _, _, .inr rfl, .inl rfl⟩
   ·have hN := h
    simp only [pairN, bareAt k x hx, bareAt i y hy, Bool.and_eq_true, Bool.or_eq_true] at h
    refine ⟨?_, h.1.1.2, h.1.2⟩
    rcases h.1.1.1 with h1 | h1
    ·right; left
     have hh := h1
     simp only [hardL, Bool.and_eq_true, apartA_bare, Bool.not_eq_true', (bare_opnds y).2.2.1, (bare_opnds x).2.1, Option.isNone_iff_eq_none] at h1
     obtain ⟨⟨⟨⟨⟨⟨q1, q2⟩, q3⟩, q4⟩, q6⟩, q7⟩, q8⟩ := h1
     obtain ⟨d, hdx⟩ := Option.isSome_iff_exists.1 q6
     have hmark := hno k x d hx hdx (hmk k i x y _ hki hN hx hy (by unfold markB; rw [if_pos hh, (bare_opnds x).2.1, hdx]; exact List.mem_append_left _ (List.mem_singleton.2 rfl)))
     have ky : ∃ k b A X, y.op = .append k b A X ∨ y.op = .appendC k b A X := by
      obtain ⟨dy, opy, gy⟩ := y
      cases opy <;> simp only [AOper.bare, AOp.bare, AOp.bare0] at q7 <;> try (cases q7; done)
      ·exact ⟨_, _, _, _, .inl rfl⟩
      ·exact ⟨_, _, _, _, .inr rfl⟩
     have q2' : freeO y = false := by
      obtain ⟨k', b', A', X', h | h⟩ := ky <;> simp only [freeO, h, freeA, Bool.false_and]
     refine ⟨hbor k x ⟨_, hki, hpp, hpa, .inl rfl⟩ hx q1, q2', q3, q4, .inr ?_⟩
     obtain ⟨k', b', A', X', hky⟩ := ky
     refine ⟨k', b', A', X', .tmp 0, hky, .inr ?_⟩
     obtain ⟨dx, opx, gx⟩ := x
     cases opx <;> simp only [AOper.bare, AOp.bare, AOp.bare0] at q8 <;> try (cases q8; done)
     case load g n a => exact absurd rfl (hmark.1 g n a)
     case fieldAddr o a => exact absurd rfl (hmark.2 o a)
     case loadV g n a => exact trivial
     case fieldV o a => exact trivial
    ·right; right
     have hh := h1
     simp only [softB, Bool.and_eq_true, apartA_bare, Bool.not_eq_true', (bare_opnds y).2.2.1, (bare_opnds x).2.2.1, (bare_opnds y).2.1, Option.isNone_iff_eq_none] at h1
     obtain ⟨⟨⟨⟨⟨⟨⟨q1, q2⟩, q3⟩, q4⟩, q5⟩, q6⟩, q7⟩, q8⟩ := h1
     obtain ⟨d, hdy⟩ := Option.isSome_iff_exists.1 q6
     have hmark := hno i y d hy hdy (hmk k i x y _ hki hN hx hy (by unfold markB; rw [if_pos hh, (bare_opnds y).2.1, hdy]; exact List.mem_append_right _ (List.mem_singleton.2 rfl)))
     have kx : ∃ k b A X, x.op = .append k b A X ∨ x.op = .appendC k b A X := by
      obtain ⟨dx, opx, gx⟩ := x
      cases opx <;> simp only [AOper.bare, AOp.bare, AOp.bare0] at q7 <;> try (cases q7; done)
      ·exact ⟨_, _, _, _, .inl rfl⟩
      ·exact ⟨_, _, _, _, .inr rfl⟩
     have q1' : freeO x = false := by
      obtain ⟨k', b', A', X', h | h⟩ := kx <;> simp only [freeO, h, freeA, Bool.false_and]
     refine ⟨q1', hbor i y ⟨_, hki, hpp, hpa, .inr rfl⟩ hy q2, q3, q4, q5, kx, ?_⟩
     obtain ⟨dy, opy, gy⟩ := y
     cases opy <;> simp only [AOper.bare, AOp.bare, AOp.bare0] at q8 <;> try (cases q8; done)
     case load g n a => exact absurd rfl (hmark.1 g n a)
     case fieldAddr o a => exact absurd rfl (hmark.2 o a)
     case loadV g n a => subst q8; exact .inl ⟨_, _, rfl⟩
     case fieldV o a => exact .inr ⟨_, _, rfl⟩
  have hplan : Plan P C ops aops F := by
   refine ⟨fun j ao hj => ?_, hlen, fun i o ho e he hb => ?_, fun k i hk hi hf hna => ?_, fun k hF x d hx hd j y hjk hy hyd => ?_⟩
   ·obtain ⟨o, q1, q2⟩ := g2 j ao hj
    exact ⟨o, by simpa using q1, q2⟩
   ·simp only [backB, List.all_eq_true, List.mem_range] at hback
    have := hback i (Array.getElem?_eq_some_iff.1 ho).1
    rw [ho] at this
    have := Array.all_eq_true'.1 this e he
    simpa [hb] using this
   ·have hm' := hmem k i hk hi hf
    have hpp : (pairB (aops.map AOper.bare) k i || pairN ops (aops.map AOper.bare) k i) = true := by
     have := hpairs (k, i) hm'
     simp only [hna, Bool.or_false] at this
     exact this
    exact ⟨⟨_, hm', hpp, hna, .inl rfl⟩, ⟨_, hm', hpp, hna, .inr rfl⟩, fun x y hx hy => (hpair k i hm' hpp hna x y hx hy).1⟩
   ·obtain ⟨⟨k', i'⟩, hp, hpp, hpa, hpk⟩ := hF
    have hlt : k' < aops.length ∧ i' < aops.length := by
     simp only [floatsL, List.mem_flatMap, List.mem_range, List.mem_filterMap] at hp
     obtain ⟨i2, h1, k2, h2, h3⟩ := hp
     split at h3
     ·simp only [Option.some.injEq, Prod.mk.injEq] at h3; omega
     ·cases h3
    have hu := hpair k' i' hp hpp hpa aops[k'] aops[i'] (by simp [hlt.1]) (by simp [hlt.2])
    have hu : uniqB (aops.map AOper.bare) k = true := by
     rcases hpk with h | h
     ·simp only at h; subst h; exact hu.2.1
     ·simp only at h; subst h; exact hu.2.2
    unfold uniqB at hu
    have e1 : ((aops.map AOper.bare)[k]?).bind (·.dst) = some d := by rw [bareAt k x hx]; simp [(bare_opnds x).2.1, hd]
    have e2 : ((aops.map AOper.bare)[j]?).bind (·.dst) = some d := by rw [bareAt j y hy]; simp [(bare_opnds y).2.1, hyd]
    rw [e1] at hu
    simp only [List.all_eq_true, List.mem_range, List.length_map] at hu
    have hjl := (List.getElem?_eq_some_iff.1 hy).1
    have := hu j hjl
    rw [e2] at this
    simp [hjk] at this
  have hok' : OK C σ.f a { w with drawn := w.drawn + 1 } S ρ κ := hok.ext (Ext.of_heap rfl rfl rfl)
  refine wp_region_any hm ?_
  refine any_go hplan hQ ops.size (List.range ops.size) _ σ a _ S ρ κ (by simp) List.pairwise_lt_range (by simp) (fun i => ?_) (fun i _ hF x d hx hd => hjunk i x d hF hx hd) (fun j o ho hl => ?_) ?_ hok'
  ·simp only [List.mem_range]
   constructor
   ·intro h; exact ⟨h, by simp [h]⟩
   ·exact fun h => h.1
  ·exfalso
   have hj := (Array.getElem?_eq_some_iff.1 ho).1
   simp [hj] at hl
  ·have e : atL aops (List.range ops.size) = aops := by
    rw [hlen]
    unfold atL
    have : ∀ (l : List AOper) (k : Nat), (List.range' k l.length).filterMap (fun i => (List.replicate k default ++ l)[i]?) = l := by
     intro l
     induction l with
     | nil => intro k; simp
     | cons x r ih =>
      intro k
      rw [List.length_cons, List.range'_succ, List.filterMap_cons]
      have h1 : (List.replicate k default ++ x :: r)[k]? = some x := by simp
      rw [h1]
      have := ih (k + 1)
      rw [show List.replicate k (default : AOper) ++ x :: r = (List.replicate k default ++ [x]) ++ r by simp]
      have h2 : ∀ i, i ∈ List.range' (k + 1) r.length → ((List.replicate k (default : AOper) ++ [x]) ++ r)[i]? = (List.replicate (k + 1) default ++ r)[i]? := by
       intro i hi
       have := (List.mem_range'_1.1 hi).1
       rw [List.getElem?_append_right (by simp; omega), List.getElem?_append_right (by simp; omega)]
       simp
      rw [filterMap_same h2]
      simp only
      exact congrArg (x :: ·) this
    have := this aops 0
    simp only [List.replicate_zero, List.nil_append] at this
    rw [List.range_eq_range', this]
   rw [e]
   exact vcE_of aops σ hv
 ·cases hd
def CodeIsR (P : Program) (f : FuncId) (fn : Func) (ac : ACode) : Prop :=
 P.funcs[f]? = some fn ∧ (fn.body.bind (cCode P fn.ntmps (drawnG P))) = some ac.bare ∧ (fn.name != "runtime.NumGoroutine") = true
theorem CodeIsR.fn {f : FuncId} {fn : Func} {ac : ACode} (h : CodeIsR P f fn ac) (hm : P.follows .mixedOrders = true) {hin : List Blk} {args : List AV} {r : AV} {hout' : List (Option Blk)} (nt : Nat) (rs : List ResultVar) (B : List Name) (hout : List Blk) (hnt : fn.ntmps = nt) (hrs : fn.results.toList = rs)
  (ho : hout' = hout.map some) (hna : args.length ≤ nt) (hnd : nodupB B = true) (hB : ∀ j, j < hin.length → B[j]? = some (.b j))
  (hw : ∀ C : Ctx, wpc P C (drawnG P) ac (retK P rs B r hout) (fun e σ => match e with | .ret => retK P rs B r hout σ | .exit _ => False) ⟨ini 0 args, iniH 0 hin⟩) :
  Fn P f hin args r hout' := by
 subst hnt; subst hrs; subst ho
 obtain ⟨h1, h2, h3⟩ := h
 obtain ⟨body, hb, hc⟩ := Option.bind_eq_some_iff.1 h2
 exact Fn.intro (drawn_ok hm) B h1 hb (by simpa using h3) hc hna (nodupB_spec hnd) hB fun C _ => hw C
end
end Go.Vs
