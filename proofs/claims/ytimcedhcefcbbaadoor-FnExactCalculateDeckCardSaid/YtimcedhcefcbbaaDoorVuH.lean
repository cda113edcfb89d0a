/- A result that is a struct of two rows. -/
import Derived.Test.YtimcedhcefcbbaaDoorVuB
set_option linter.all false
set_option maxHeartbeats 8000000
namespace Go.Vs
section
variable [Envs] {P : Program} {C : Ctx} {a : Act} {w : World} {S : Nat → Prop} {ρ : Name → Option Nat} {κ : Name → Nat}
end
section
variable {P : Program}
theorem Own.rc {S : Nat → Prop} {w : World} {x : Option Nat} {c k : Nat} {rows : List (List AV)} {v : Value} (h : Own S w x c k rows v) : RC (fun b => x = some b) w (.sl k rows) v := by
 letI : Envs := ⟨[]⟩
 obtain ⟨_, base, cap, rfl, h1, h2, h3, _⟩ := h.loc k rows false rfl
 obtain ⟨hrk, hblk⟩ := h.blk
 rcases hblk with ⟨hn, hnil⟩ | ⟨y, cs, T, fr, g1, g2, g3, _, _, g5, g6, g7⟩
 ·subst hnil
  refine .sl k [] base cap 0 0 (fun _ => undef) (by simp) (by simp) (by simp) (by simp) (by simp) ⟨by omega, h2⟩
 ·refine .sl k rows base cap y 0 (fun i => cs.getD i undef) (fun hne => ?_) (fun i j hi hj => ?_) (fun i j hi hj => (g7 i j hi hj).1) (fun i j hi hj => ?_) hrk ⟨by omega, h2⟩
  ·obtain ⟨z, hz, hbase⟩ := h3 (List.length_pos_iff.2 hne)
   have g1' : x = some y := g1
   have hz' : x = some z := hz
   rw [g1'] at hz'
   obtain rfl := Option.some.inj hz'
   exact ⟨by rw [hbase]; simp, g1'⟩
  ·have hlt : i * k + j < cs.size := by
    have : i * k + k ≤ rows.length * k := by rw [← Nat.succ_mul]; exact Nat.mul_le_mul_right k hi
    omega
   simp [World.cell?, g2, hlt]
  ·have hm : rows.getD i [] ∈ rows := by
    rw [List.getD_eq_getElem?_getD, List.getElem?_eq_getElem hi]; exact List.getElem_mem _
   exact RC.mono (S := fun _ => False) (w := w) (fun _ h => h.elim) (fun _ h => h.elim) (((g7 i j hi hj).2).flat (flatL_getD (h.fl _ hm)))
theorem rc_graft {w : World} {D0 D : Nat → Prop} {ss : List Value} {xs : List AV} {v : Value} (h0 : RC D0 w (.sl 1 (ss.map fun s => [AV.v s])) v) (hl : xs.length = ss.length) (hr : ∀ j, j < ss.length → RC D w (xs.getD j .junk) (ss.getD j undef)) :
  RC (fun b => D0 b ∨ D b) w (.sl 1 (xs.map fun x => [x])) v := by
 letI : Envs := ⟨[]⟩
 generalize hL : (ss.map fun s => [AV.v s]) = L at h0
 cases h0 with
 | sl _ _ base cap x off ys hb hc ho hrr hk hcap =>
  subst hL
  have e : (ss.map fun s => [AV.v s]).length = (xs.map fun x => [x]).length := by simp [hl]
  have hlen : (ss.map fun s => [AV.v s]).length = ss.length := by simp
  have hlen2 : (xs.map fun x => [x]).length = ss.length := by simp [hl]
  rw [e]
  refine .sl 1 _ base cap x off ys (fun hne => ?_) (fun i j hi hj => hc i j (by rw [hlen]; rw [hlen2] at hi; exact hi) hj) (fun i j hi hj => ho i j (by rw [hlen]; rw [hlen2] at hi; exact hi) hj) (fun i j hi hj => ?_) (fun i hi => ?_) (by rw [← e]; exact hcap)
  ·have := hb (fun h => hne (List.length_eq_zero_iff.1 (by rw [hlen2, ← hlen, h]; rfl)))
   exact ⟨this.1, .inl this.2⟩
  ·obtain rfl : j = 0 := by omega
   have hi' : i < ss.length := by rw [hlen2] at hi; exact hi
   have h1 := hrr i 0 (by rw [hlen]; exact hi') (by omega)
   have e1 : ((ss.map fun s => [AV.v s]).getD i []).getD 0 .junk = .v ss[i] := by simp [hi']
   rw [e1] at h1
   have e3 : ys (i * 1 + 0) = ss[i] := inv_v (ρ := fun _ => none) (κ := fun _ => 0) (h := fun _ => none) (.clo h1)
   rw [e3]
   have hx : i < xs.length := by omega
   have e2 : ((xs.map fun x => [x]).getD i []).getD 0 .junk = xs.getD i .junk := by simp [hx]
   rw [e2]
   have := hr i hi'
   have e4 : ss.getD i undef = ss[i] := by simp [hi']
   rw [e4] at this
   exact this.mono (fun _ h => .inr h) fun _ _ => rfl
  ·have : i < xs.length := by rw [hlen2] at hi; omega
   simp [this]
structure Mem where
 x0 : Option Nat
 ss : List Value
 xs : Nat → Option Nat
 cs : Nat → Nat
def Mem.D (m : Mem) (b : Nat) : Prop := m.x0 = some b ∨ ∃ i, i < m.ss.length ∧ m.xs i = some b
structure Dk (w : World) (ls : List (List (List AV))) (v : Value) (m : Mem) : Prop where
 root : RC (fun b => m.x0 = some b) w (.sl 1 (m.ss.map fun s => [AV.v s])) v
 rows : OwnL (fun b => m.x0 = some b) w 1 ls m.ss m.xs m.cs
 lt : ∀ b, m.D b → b < w.heap.size
theorem Dk.same {w w' : World} {ls : List (List (List AV))} {v : Value} {m : Mem} (h : Dk w ls v m) (hs : w.heap.size ≤ w'.heap.size) (hw : ∀ b, m.D b → w'.heap[b]? = w.heap[b]?) : Dk w' ls v m :=
 letI : Envs := ⟨[]⟩
 ⟨h.root.mono (fun _ h => h) fun b hb => hw b (.inl hb), h.rows.mono (fun i b hi hb => (h.rows.row i hi).no hb) fun i b hi hb => hw b (.inr ⟨i, hi, hb⟩), fun b hb => Nat.lt_of_lt_of_le (h.lt b hb) hs⟩
theorem Dk.rd {w : World} {ls : List (List (List AV))} {v : Value} {m : Mem} (h : Dk w ls v m) : RC m.D w (.sl 1 (ls.map fun r => [.sl 1 r])) v := by
 letI : Envs := ⟨[]⟩
 have hl := h.rows.len
 have := rc_graft (D := fun b => ∃ i, i < m.ss.length ∧ m.xs i = some b) (xs := ls.map fun r => AV.sl 1 r) h.root (by simp [hl]) fun j hj => by
  have hlj : j < ls.length := by omega
  have e : (ls.map fun r => AV.sl 1 r).getD j .junk = .sl 1 (ls.getD j []) := by simp [hlj]
  rw [e]
  exact (h.rows.row j hj).rc.mono (fun b hb => ⟨j, hj, hb⟩) fun _ _ => rfl
 rw [List.map_map] at this
 exact this.mono (fun _ h => h) fun _ _ => rfl
theorem Dk.nil (w : World) : Dk w [] (.slice none 0 0) ⟨none, [], fun _ => none, fun _ => 0⟩ :=
 ⟨.sl 1 [] none 0 0 0 (fun _ => undef) (by simp) (by simp) (by simp) (by simp) (by simp) ⟨by simp, by decide⟩, ⟨rfl, by simp, by simp⟩, fun b hb => by
   rcases hb with h | ⟨i, hi, _⟩
   · cases h
   · simp at hi⟩
def NewDk (w w' : World) (ls : List (List (List AV))) (v : Value) : Prop := ∃ m, Dk w' ls v m ∧ ∀ b, m.D b → w.heap.size ≤ b
theorem OK.put1R [Envs] {C : Ctx} {σ : St} {a : Act} {w : World} {S : Nat → Prop} {ρ : Name → Option Nat} {κ : Name → Nat} (hok : OK C σ.f a w S ρ κ) {d : Nat} (hd : d < C.nt) {r : AV} {u : Value} (hr : RC S w r u) : OK C (⟨(d, r) :: σ.s, σ.h⟩ : St).f (a.put (some d) u) w S ρ κ := by
 have := hok.put (x := r) (v := u) (d := some d) (.clo hr) (fun d' hd' => by
   obtain rfl := Option.some.inj hd'
   exact hd)
 have e : (⟨(d, r) :: σ.s, σ.h⟩ : St).f = ⟨upd σ.f.s (some d) r, σ.f.h⟩ := by
  simp [St.f, look, upd, eq_comm]
 rw [e]
 exact this
variable {I : Envs} {C1 : Ctx} {σ τ : St} {a : Act} {w : World} {S : Nat → Prop}
theorem Pt.putR (h : Pt I C1 σ a w S) {d : Nat} (hd : d < C1.nt) {r : AV} {u : Value} (hr : RC S w r u) : Pt I C1 ⟨(d, r) :: σ.s, σ.h⟩ (a.put (some d) u) w S := by
 obtain ⟨hM, hrr, C, ρ, κ, hw0, hS0, hmu, hl, hok⟩ := h
 refine ⟨hM, hrr, C, ρ, κ, hw0, hS0, hmu, hl, ?_⟩
 exact @OK.put1R I _ _ _ _ _ _ _ hok d (by rw [hl.nt]; exact hd) r u hr
variable {nt : Nat} {dr : Nat → Array Oper → Option (List Nat)} {Q : Exit → Act → World → Prop}
theorem Pt.grow (h : Pt I C1 σ a w S) {w' : World} (hg : Grew w w') {D : Nat → Prop} (hD : ∀ b, D b → w.heap.size ≤ b ∧ b < w'.heap.size) (s' : List (Nat × AV)) (hs : ∀ p, p ∈ s' → p.2 = look σ.s p.1 ∧ (flat p.2 = true ∨ isClo p.2 = true)) :
  Pt (keepE (fun b => S b ∨ D b) w') C1 ⟨s', σ.h⟩ a w' (fun b => S b ∨ D b) :=
 h.jump (fun _ => False) hg.size (fun b hb _ => hg.old b hb) (fun _ h => h.elim) hg.out (fun b hb => hb.elim (fun hb => ⟨Nat.lt_of_lt_of_le (h.dom b hb) hg.size, .inl hb⟩) fun hb => ⟨(hD b hb).2, .inr (hD b hb).1⟩) (fun b hb => .inl (h.sub b hb)) s' fun p hp => by
  obtain ⟨e, hf | hc⟩ := hs p hp
  ·exact .inl ⟨e, hf⟩
  ·right
   rw [e] at hc ⊢
   exact RC.mono (fun b hb => .inl hb) (fun b hb => hg.old b (h.dom b hb)) (h.val hc)
theorem Pt.marked (h : Pt I C1 σ a w S) {w' : World} {D : Nat → Prop} (hsz : w.heap.size ≤ w'.heap.size) (hw : ∀ b, b < w.heap.size → ¬ D b → w'.heap[b]? = w.heap[b]?) (ho : w'.os = w.os ∧ w'.output = w.output)
  (hD : ∀ b, D b → C1.w0.heap.size ≤ b ∧ S b) {K : Nat → Prop} (hK : ∀ b, K b → S b) (h0 : ∀ b, C1.S0 b → K b) (s' : List (Nat × AV)) (hs : ∀ p, p ∈ s' → p.2 = look σ.s p.1 ∧ flat p.2 = true) : Pt (keepE K w') C1 ⟨s', σ.h⟩ a w' K :=
 h.jump D hsz hw hD ho (fun b hb => ⟨Nat.lt_of_lt_of_le (h.dom b (hK b hb)) hsz, .inl (hK b hb)⟩) h0 s' fun p hp => .inl (hs p hp)
theorem Pt.le (h : Pt I C1 σ a w S) (hle : LeL σ τ) (hτ : ∀ p, p ∈ τ.h → flatB p.2 ∧ p.2.fz = false) : Pt I C1 τ a w S := by
 obtain ⟨hM, hr, C, ρ, κ, hw0, hS0, hmu, hl, hok⟩ := h
 exact Pt.of_ok hM hτ hl (@OK.le I _ _ _ _ _ _ _ _ hok hle)
theorem Pt.ren (h : Pt I C1 σ a w S) {n m : Name} (hn : n ≠ m) (hf : freshL m σ = true) (hτ : ∀ p, p ∈ (renL n m σ).h → flatB p.2 ∧ p.2.fz = false) : Pt I C1 (renL n m σ) a w S := by
 obtain ⟨hM, hr, C, ρ, κ, hw0, hS0, hmu, hl, hok⟩ := h
 obtain ⟨ρ', κ', h'⟩ := @OK.renL I C a w S ρ κ σ n m hn hf hok
 exact Pt.of_ok hM hτ hl h'
theorem Pt.out (h : Pt I C1 σ a w S) : Grew C1.w0 w := by
 obtain ⟨hM, hrr, C, ρ, κ, hw0, hS0, hmu, hl, hok⟩ := h
 exact @OK.grew I _ _ _ _ _ _ _ (@OK.back I _ _ _ _ _ _ _ hl _ hok) fun b _ => hM b
theorem Pt.bury (h : Pt I C1 σ a w S) {n : Name} {k : Nat} {rows : List (List AV)} (hb : hlook σ.h n = some (.arr k rows false)) (hfl : ∀ r, r ∈ rows → flatL r = true) {t : Nat} (ht : look σ.s t = .agg [.loc n 0 rows.length]) (hkh : ∀ p, p ∈ (killL n σ).h → flatB p.2 ∧ p.2.fz = false) :
  ∃ s x c, (∃ b m c', s = Value.slice b m c') ∧ Own (fun _ => False) w x c k rows s ∧ (∀ b, x = some b → C1.w0.heap.size ≤ b ∧ b < w.heap.size ∧ ¬ S b) ∧
   ∀ s' : List (Nat × AV), (∀ p, p ∈ s' → (p.2 = look (killL n σ).s p.1 ∧ flat p.2 = true) ∨ (p.2 = look σ.s p.1 ∧ isClo p.2 = true) ∨ p = (t, .agg [.v s])) →
    Pt (keepE (fun b => S b ∨ x = some b) w) C1 ⟨s', (killL n σ).h⟩ a w (fun b => S b ∨ x = some b) := by
 have hbase := h.base
 have hdom := h.dom
 have hsub := h.sub
 have hval : ∀ {t : Nat}, isClo (look σ.s t) = true → RC S w (look σ.s t) (a.tmps.getD t undef) := fun hc => h.val hc
 obtain ⟨hM, hr, C, ρ, κ, hw0, hS0, hmu, hl, hok⟩ := h
 have hs := @OK.slots I _ _ _ _ _ _ _ hok t
 rw [show σ.f.s t = _ from ht] at hs
 obtain ⟨vs, hv, hsz, hrs⟩ := inv_agg hs
 have hr0 : RV S w ρ κ σ.f.h (.loc n 0 rows.length) (vs.getD 0 undef) := hrs 0 (by simp)
 have hown := @OK.own I C a w S ρ κ σ.f hok n k rows hb hfl _ hr0
 have hnS : ∀ b, ρ n = some b → ¬ S b := fun b hb' => hown.no hb'
 have hlt : ∀ b, ρ n = some b → b < w.heap.size := fun b hb' => hok.hok.lt (n := n) (by rw [show σ.f.h n = _ from hb]; rfl) hb'
 have hge : ∀ b, ρ n = some b → C1.w0.heap.size ≤ b := fun b hb' => by
  rcases (@OK.back I _ _ _ _ _ _ _ hl _ hok).mine n b (by rw [show σ.f.h n = _ from hb]; rfl) hb' with h | h
  ·exact h
  ·exact (hM b h).elim
 obtain ⟨b0, c0, hsl⟩ : ∃ b0 c0, vs.getD 0 undef = .slice b0 rows.length c0 := by
  obtain ⟨_, b1, c1, e, _⟩ := hown.loc k rows false rfl
  exact ⟨b1, c1, e⟩
 refine ⟨vs.getD 0 undef, ρ n, κ n, ⟨_, _, _, hsl⟩, hown.mono (fun _ _ h => h) (fun _ _ => rfl), fun b hb' => ⟨hge b hb', hlt b hb', hnS b hb'⟩, fun s' hs' => ?_⟩
 have hkok : @OK I C (killL n σ).f a w S ρ κ := by rw [killL_f]; exact hok.kill n
 have hkn : ∀ m, ((killL n σ).f.h m).isSome → m ≠ n ∧ (σ.f.h m).isSome := fun m hm => by
  rw [killL_f] at hm
  simp only [killF] at hm
  split at hm
  ·cases hm
  ·rename_i hne
   refine ⟨hne, ?_⟩
   cases hx : σ.f.h m with
   | none => rw [hx] at hm; cases hm
   | some b => rfl
 obtain ⟨h1, h2⟩ := OK.jump I (keepE (fun b => S b ∨ ρ n = some b) w) hl hM hkok (fun _ => False) (Nat.le_refl _) (fun _ _ _ => rfl) (fun _ h => h.elim) ⟨rfl, rfl⟩ (S' := fun b => S b ∨ ρ n = some b) (fun b hb' => hb'.elim (hdom b) (hlt b)) (fun b hb' => .inl (hsub b hb'))
  (fun b hb' => hb'.elim (hbase b) fun h => .inr (hge b h)) (fun b hb' m hm hx => by
    obtain ⟨g1, g2⟩ := hkn m hm
    rcases hb' with h | h
    · obtain ⟨b', hb''⟩ := Option.isSome_iff_exists.1 g2
      exact @OK.noS I _ _ _ _ _ _ _ hok _ _ hb'' (hr _ (hlook_mem2 hb'')).2 _ hx h
    · exact g1 (hok.hok.inj m n b g2 (by rw [show σ.f.h n = _ from hb]; rfl) hx h)) keepE_env hkh s' (fun p hp => by
    rcases hs' p hp with h | ⟨e, hc⟩ | rfl
    · exact .inl h
    · right
      rw [e] at hc ⊢
      exact RC.mono (fun b hb => .inl hb) (fun _ _ => rfl) (hval hc)
    · right
      show RC _ w (.agg [.v (vs.getD 0 undef)]) (a.tmps.getD t undef)
      rw [hv]
      refine .agg _ _ hsz fun j hj => ?_
      obtain rfl : j = 0 := by simpa using hj
      exact .v _)
 exact ⟨hM, hkh, _, ρ, κ, rfl, rfl, fun _ h => h, h2, h1⟩
theorem Pt.cond (h : Pt I C1 σ a w S) {t : Nat} {b : Bool} {x y : ACode} (hb : look σ.s t = .v (.bool b)) (hx : b = true → At P nt dr x Q a w) (hy : b = false → At P nt dr y Q a w) : At P nt dr (.cond (.tmp t) x y) Q a w :=
 At.cond (t := b) (by have := h.valv hb; exact this) hx hy
end
section
section
variable [Envs]
variable {P : Program} {nt : Nat} {dr : Nat → Array Oper → Option (List Nat)} {Q : Exit → Act → World → Prop} {a : Act} {w : World}
def RgL (P : Program) (nt : Nat) (aops : List AOper) (Q : Exit → Act → World → Prop) (a : Act) (w : World) : Prop :=
 ∀ (ops : Array Oper) (L : List Nat), L.length = aops.length → (∀ (j : Nat) (ao : AOper), aops[j]? = some ao → ∃ (i : Nat) (o : Oper), L[j]? = some i ∧ ops[i]? = some o ∧ cOper P nt ops o = some ao.bare) → wpOps P ops Q L a w
theorem RgL.nil (h : Q .normal a w) : RgL P nt [] Q a w := by
 intro ops L hl _
 have : L = [] := by simpa using hl
 subst this; exact h
theorem RgL.fw {C : Ctx} {K : St → Prop} {post : List AOper} (hK : ∀ (σ : St) (a : Act) (w : World) (S : Nat → Prop) (ρ : Name → Option Nat) (κ : Name → Nat), K σ → OK C σ.f a w S ρ κ → RgL P C.nt post Q a w) :
  ∀ (pre : List AOper) (σ : St) (a : Act) (w : World) (S : Nat → Prop) (ρ : Name → Option Nat) (κ : Name → Nat), vc P K pre σ → OK C σ.f a w S ρ κ → RgL P C.nt (pre ++ post) Q a w
 | [], σ, a, w, S, ρ, κ, hv, hok => hK σ a w S ρ κ hv hok
 | ao :: r, σ, a, w, S, ρ, κ, hv, hok => by
  intro ops L hl hs
  cases L with
  | nil => simp at hl
  | cons i L =>
  obtain ⟨i', o, hi, ho, hc⟩ := hs 0 ao (by simp)
  obtain rfl : i = i' := by simpa using hi
  obtain ⟨h1, h2, h3, h4⟩ := cOper_spec hc
  rw [wpOps_cons]
  have ih : ∀ (σ : St) (a : Act) (w : World) (S : Nat → Prop) (ρ : Name → Option Nat) (κ : Name → Nat), vc P K r σ → OK C σ.f a w S ρ κ → wpOps P ops Q L a w := fun σ a w S ρ κ hv hok =>
   RgL.fw hK r σ a w S ρ κ hv hok ops L (by simpa using hl) (fun j ao' hj => by
     obtain ⟨i', o', g1, g2, g3⟩ := hs (j + 1) ao' (by simpa using hj)
     exact ⟨i', o', by simpa using g1, g2, g3⟩)
  have go : stepA P ao.dst σ (vc P K r) ao.op → o.wp P a w (wpOps P ops Q L) Q := fun hst =>
   Oper.wp_mono (fun a' w' ⟨σ', S', ρ', κ', hK, hok'⟩ => ih σ' a' w' S' ρ' κ' hK hok') (step_sound (P := P) h1 hok h3 (by rw [h2]; exact hst))
  unfold wpOp
  rw [ho]
  simp only [vc] at hv
  rcases h4 with ⟨g1, g2⟩ | ⟨j, want, t, g1, g2, g3⟩
  ·rw [g2] at hv
   have : Region.wanted o (yielded ops a.tmps) = true := by simp [Region.wanted, g1]
   simp only [this, if_true]
   exact .inl (go hv)
  ·rw [g2] at hv
   simp only at hv
   split at hv
   ·rename_i b hb
    have hw := wanted_of hok g1 g3 hb
    simp only [hw]
    by_cases hbw : b = want
    ·simp only [hbw, beq_self_eq_true, if_true]
     exact .inl (go ((BrW_iff.1 hv).1 hbw))
    ·have : (b == want) = false := by simpa using hbw
     simp only [this, Bool.false_eq_true, if_false]
     have hn : b = !want := by cases b <;> cases want <;> simp_all
     refine ih _ _ _ S ρ κ ((BrW_iff.1 hv).2 hn) ?_
     have := hok.put (x := .v undef) (v := undef) (.clo (.v _)) h3
     rw [h2] at this ⊢
     simpa [St.f, look_put, undef] using this
   ·rename_i cs hb
    have hw := wanted_un hok g1 g3 hb
    simp only [hw, Bool.false_eq_true, if_false]
    refine ih _ _ _ S ρ κ hv ?_
    have := hok.put (x := .v undef) (v := undef) (.clo (.v _)) h3
    rw [h2] at this ⊢
    simpa [St.f, look_put, undef] using this
   ·exact hv.elim
theorem RgL.op {o : AOper} {r : List AOper} (hg : o.guard = none) (h : ∀ (op : Oper) (ops : Array Oper), cOper P nt ops op = some o.bare → op.wp P a w (RgL P nt r Q) Q) : RgL P nt (o :: r) Q a w := by
 intro ops L hl hs
 cases L with
 | nil => simp at hl
 | cons i L =>
 obtain ⟨i', op, hi, ho, hc⟩ := hs 0 o (by simp)
 obtain rfl : i = i' := by simpa using hi
 obtain ⟨_, _, _, h4⟩ := cOper_spec hc
 have hg2 : op.guard = none := by
  rcases h4 with ⟨h, _⟩ | ⟨j, want, t, _, h, _⟩
  ·exact h
  ·rw [hg] at h; cases h
 rw [wpOps_cons]
 unfold wpOp
 rw [ho]
 have : Region.wanted op (yielded ops a.tmps) = true := by simp [Region.wanted, hg2]
 simp only [this, if_true]
 exact .inl (Oper.wp_mono (fun a' w' hr => hr ops L (by simpa using hl) fun j ao' hj => by
   obtain ⟨i', o', g1, g2, g3⟩ := hs (j + 1) ao' (by simpa using hj)
   exact ⟨i', o', by simpa using g1, g2, g3⟩) (h op ops hc))
theorem At.rg {aops : List AOper} {out : List Nat} (h : RgL P nt aops Q a w) : At P nt dr (.region aops out []) Q a w := by
 intro c hc hzc
 cases c
 case region id ops draw =>
  simp only [cCode, ACode.bare] at hc
  split at hc
  ·rename_i fl' hdraw
   cases ho : cOps P nt ops ops.toList with
   | none => rw [ho] at hc; cases hc
   | some l =>
    rw [ho] at hc
    simp only [Option.map_some, Option.some.injEq, ACode.region.injEq, true_and] at hc
    obtain ⟨hl, hfl⟩ := hc
    subst hl; subst hfl
    cases draw with
    | true =>
     have hd : dr nt ops = some [] := by simpa using hdraw
     simp [zB, hd] at hzc
    | false =>
     obtain ⟨g1, g2⟩ := cOps_spec ho
     have hlen : ops.size = aops.length := by simpa using g1
     refine wp_region (h ops _ (by rw [List.length_range, hlen]) fun j ao hj => ?_)
     obtain ⟨o, q1, q2⟩ := g2 j ao hj
     have hjl : j < ops.size := by
      rw [hlen]
      rcases Nat.lt_or_ge j aops.length with h | h
      ·exact h
      ·simp [List.getElem?_eq_none h] at hj
     exact ⟨j, o, by simp [hjl], by simpa using q1, q2⟩
  ·cases hc
 all_goals (simp only [cCode, ACode.bare] at hc; first | (cases hc; done) | (split at hc <;> simp at hc) | (simp at hc))
def ordGo (ops : Array Oper) : Nat → Array Bool → List (List Nat)
 | 0, _ => [[]]
 | fuel + 1, listed =>
  match (List.range ops.size).filter fun i => !listed.getD i true && ((ops[i]?).map (·.after.all fun e => !Region.binds .any e || listed.getD e.on false)).getD false with
  | [] => [[]]
  | rs => rs.flatMap fun i => (ordGo ops fuel (listed.setIfInBounds i true)).map (i :: ·)
theorem ordGo_mem (ops : Array Oper) : ∀ (fuel t : Nat) (listed : Array Bool) (acc : List Nat), ∃ L, L ∈ ordGo ops fuel listed ∧ Region.linearise.go .any ops fuel t listed acc = acc.reverse ++ L
 | 0, t, listed, acc => ⟨[], by simp [ordGo], by simp [Region.linearise.go]⟩
 | fuel + 1, t, listed, acc => by
  simp only [Region.linearise.go, ordGo]
  generalize hrs : ((List.range ops.size).filter fun i => !listed.getD i true && ((ops[i]?).map (·.after.all fun e => !Region.binds .any e || listed.getD e.on false)).getD false) = rs
  cases rs with
  | nil => exact ⟨[], by simp, by simp⟩
  | cons x xs =>
   have hlt : t % (x :: xs).length < (x :: xs).length := Nat.mod_lt _ (by simp)
   rw [List.getElem?_eq_getElem hlt]
   obtain ⟨L, h1, h2⟩ := ordGo_mem ops fuel (t / (x :: xs).length) (listed.setIfInBounds ((x :: xs)[t % (x :: xs).length]) true) ((x :: xs)[t % (x :: xs).length] :: acc)
   refine ⟨(x :: xs)[t % (x :: xs).length] :: L, ?_, ?_⟩
   ·exact List.mem_flatMap.2 ⟨_, List.getElem_mem hlt, List.mem_map.2 ⟨L, h1, rfl⟩⟩
   ·simp only [h2]; simp
def allOrd (ops : Array Oper) : List (List Nat) := ordGo ops ops.size (Array.replicate ops.size false)
theorem allOrd_mem (ops : Array Oper) (t : Nat) : Region.schedule true ops t ∈ allOrd ops := by
 obtain ⟨L, h1, h2⟩ := ordGo_mem ops ops.size t (Array.replicate ops.size false) []
 have e : Region.schedule true ops t = L := by
  simp only [Region.schedule, Bool.true_or, if_true, Region.linearise]
  simpa using h2
 rw [e]
 exact h1
end
variable {P : Program} {nt : Nat} {dr : Nat → Array Oper → Option (List Nat)} {Q : Exit → Act → World → Prop} {a : Act} {w : World}
variable {I : Envs} {C1 : Ctx} {σ τ : St} {S : Nat → Prop}
theorem Pt.drew (h : Pt I C1 σ a w S) : Pt I C1 σ a { w with drawn := w.drawn + 1 } S := by
 obtain ⟨hM, hr, C, ρ, κ, hw0, hS0, hmu, hl, hok⟩ := h
 exact Pt.of_ok hM hr hl (@OK.ext I C σ.f a w { w with drawn := w.drawn + 1 } S ρ κ hok (Ext.of_heap rfl rfl rfl))
theorem Past.drew : Past S w S { w with drawn := w.drawn + 1 } := ⟨fun _ h => h, fun _ _ => rfl, Nat.le_refl _⟩
theorem Pt.rg (hp : Pt I C1 σ a w S) (hnt : C1.nt = nt) {pre post : List AOper} (hτ : ∀ p, p ∈ τ.h → flatB p.2 ∧ p.2.fz = false) (hv : @vc I P (fun σ' => LeL σ' τ) pre σ)
  (h : ∀ a' w' S', Past S w S' w' → Pt I C1 τ a' w' S' → RgL P nt post Q a' w') : RgL P nt (pre ++ post) Q a w := by
 have hp' := hp
 obtain ⟨hM, hr, C, ρ, κ, hw0, hS0, hmu, hla, hok⟩ := hp
 have hCnt : C.nt = nt := hla.nt.trans hnt
 have hno : ∀ b, S b → b < w.heap.size ∧ ¬ C.Mut b := fun b hb => ⟨hp'.dom b hb, fun hm => by
   obtain ⟨n, hn, hx⟩ := hmu b hm
   obtain ⟨b', hb'⟩ := Option.isSome_iff_exists.1 hn
   exact @OK.noS I _ _ _ _ _ _ _ hok _ _ hb' (hr _ (hlook_mem2 hb')).2 _ hx hb⟩
 subst hCnt
 refine @RgL.fw I P Q C (fun σ' => LeL σ' τ) post (fun σ' a' w' S' ρ' κ' hle hok' => ?_) pre σ a w S ρ κ hv hok
 have hok2 := @OK.le I _ _ _ _ _ _ _ _ hok' hle
 exact h a' w' S' (Pt.later hw0 hS0 hno hok2) (Pt.of_ok hM hτ hla hok2)
theorem Pt.rgcall (hp : Pt I C1 σ a w S) (hnt : C1.nt = nt) {f : FuncId} {ts : List Nat} {ys : List AV} {bor : List Nat} {d : Nat} {r : List AOper} (hb : HasBody P f) (hl : ts.length = ys.length) (hts : ∀ i, i < ts.length → look σ.s (ts.getD i 0) = ys.getD i .junk) (hcl : ∀ i, i < ts.length → isClo (ys.getD i .junk) = true)
  (h : ∀ vs : Array Value, vs.size = ys.length → (∀ j, j < ys.length → RC S w (ys.getD j .junk) (vs.getD j undef)) → Calls P f vs w fun e w' => ∃ u, e = .returned u ∧ RgL P nt r Q (a.put (some d) u) w') :
  RgL P nt (⟨some d, .call (.func f) (ts.map .tmp) bor, none⟩ :: r) Q a w := by
 have hval : ∀ i, i < ts.length → RC S w (ys.getD i .junk) (a.tmps.getD (ts.getD i 0) undef) := fun i hi => by
  have := hp.val (t := ts.getD i 0) (by rw [hts i hi]; exact hcl i hi)
  rw [hts i hi] at this
  exact this
 obtain ⟨hM, hr, C, ρ, κ, hw0, hS0, hmu, hla, hok⟩ := hp
 have hCnt : C.nt = nt := hla.nt.trans hnt
 refine RgL.op rfl fun op ops hcop => ?_
 refine @op_call I P C a w S ρ κ ops σ.f op _ f (ts.map .tmp) bor (by rw [hCnt]; exact hcop) rfl hok hb _ _ ?_
 refine h _ (by simp [hl]) fun j hj => ?_
 have hj' : j < ts.length := by omega
 have e2 : ((ts.map Operand.tmp).map a.eval).toArray.getD j undef = a.tmps.getD (ts.getD j 0) undef := by
  simp [hj', Act.eval]
 rw [e2]
 exact hval j hj'
end
section
variable {P : Program} {nt : Nat} {Q : Exit → Act → World → Prop} {a : Act} {w : World} {S : Nat → Prop}
theorem Pt.calls [I : Envs] {dr : Nat → Array Oper → Option (List Nat)} {f : FuncId} {fn : Func} {body : Code} {ac : ACode} (hf : P.funcs[f]? = some fn) (hb : fn.body = some body) (hc : cCode P fn.ntmps dr body = some ac.bare) (hz : zB fn.ntmps dr body = true) {args : List AV} (hna : args.length ≤ fn.ntmps)
  {vs : Array Value} (hS : ∀ b, S b → b < w.heap.size) (he : Env S w) (hvs : vs.size = args.length) (hargs : ∀ j, j < args.length → RC S w (args.getD j .junk) (vs.getD j undef)) {R : Ending → World → Prop}
  (h : ∀ (C1 : Ctx) (a : Act), C1.nt = fn.ntmps → C1.w0 = w → C1.S0 = S → Pt I C1 ⟨ini 0 args, []⟩ a w S →
    At P fn.ntmps dr ac (fun e a' w' => (e = .ret ∨ e = .normal) ∧ a'.defers = [] ∧ ∃ v, (results fn a'.tmps).run P w' = .ok v w' ∧ R (.returned v) w') a w) : Calls P f vs w R :=
 calls_at hf hb hc hz hna hS he hvs hargs (fun _ => False) fun a hok => h _ a rfl rfl rfl (Pt.of_ok (fun _ h => h) (fun p hp => by cases hp) (Later.refl _) hok)
theorem OK.exposeP [Envs] {C : Ctx} {ρ : Name → Option Nat} {κ : Name → Nat} {σ : FSt} (hok : OK C σ a w S ρ κ) {n : Name} {k len : Nat} {rows : List (List AV)} {z : Bool} (hb : σ.h n = some (.arr k rows z)) (hfl : ∀ r, r ∈ rows → flatL r = true) {v : Value} (hv : RV S w ρ κ σ.h (.loc n 0 len) v) :
  RC (fun b => ρ n = some b) w (.sl k (rows.take len)) v := by
 have hl := inv_loc hv k rows z hb
 obtain ⟨h0, base, cap, rfl, h1, h2, h3, _⟩ := hl
 have hlen : (rows.take len).length = len := by rw [List.length_take]; omega
 obtain ⟨hrk, hblk⟩ := hok.hok.blk n _ hb
 have e : ∀ i, i < len → (rows.take len).getD i [] = rows.getD i [] := fun i hi => by simp [hi]
 have key : RC (fun b => ρ n = some b) w (.sl k (rows.take len)) (.slice base (rows.take len).length cap) := by
  rcases hblk with ⟨hn, hnil⟩ | ⟨x, cs, T, fr, g1, g2, g3, _, _, g5, g6, g7⟩
  ·subst hnil
   have : List.take len ([] : List (List AV)) = [] := by simp
   rw [this]
   refine .sl k [] base cap 0 0 (fun _ => undef) (by simp) (by simp) (by simp) (by simp) (by simp) ⟨by simp, h2⟩
  ·refine .sl k _ base cap x 0 (fun i => cs.getD i undef) (fun hne => ?_) (fun i j hi hj => ?_) (fun i j hi hj => (g7 i j (by omega) hj).1) (fun i j hi hj => ?_) (fun i hi => ?_) ⟨by omega, h2⟩
   ·have : 0 < len := by have := List.length_pos_iff.2 hne; omega
    obtain ⟨y, hy, hbase⟩ := h3 this
    rw [g1] at hy
    obtain rfl := Option.some.inj hy
    exact ⟨by rw [hbase]; simp, g1⟩
   ·have hlt : i * k + j < cs.size := by
     have : i * k + k ≤ rows.length * k := by rw [← Nat.succ_mul]; exact Nat.mul_le_mul_right k (by omega)
     omega
    simp [World.cell?, g2, hlt]
   ·rw [e i (by omega)]
    refine ((g7 i j (by omega) hj).2).flat ?_
    have hm : rows.getD i [] ∈ rows := by
     rw [List.getD_eq_getElem?_getD, List.getElem?_eq_getElem (by omega)]; exact List.getElem_mem _
    exact flatL_getD (hfl _ hm)
   ·rw [e i (by omega)]; exact hrk i (by omega)
 rw [hlen] at key
 exact key
theorem Fn.resAs [Envs] {f : FuncId} {hin : List Blk} {ys : List AV} {r r' : AV} {hout : List (Option Blk)} (h : Fn P f hin ys r hout) (hc : isClo r = true) (hr : ∀ S w v, RC S w r v → RC S w r' v) : Fn P f hin ys r' hout :=
 ⟨h.1, fun S w ρ κ vs hok hfz hvs ha => (h.2 S w ρ κ vs hok hfz hvs ha).mono fun e w' he => by
   obtain ⟨v', S', ρ', κ', h1, h2, h3⟩ := he
   exact ⟨v', S', ρ', κ', h1, h2, .clo (hr S' w' v' (RV.closed h3 hc))⟩⟩
variable {I : Envs} {C1 : Ctx} {σ τ : St}
theorem Pt.resRow (h : Pt I C1 σ a w S) {fn : Func} {n : Name} {k len : Nat} {rows : List (List AV)} {c : Value} (hb : hlook σ.h n = some (.arr k rows false)) (hfl : ∀ r, r ∈ rows → flatL r = true)
  (hr : resL P σ (fun xs => oneOr xs = .tup [.loc n 0 len, .v c]) fn.results.toList) :
  a.defers = [] ∧ ∃ v x, (results fn a.tmps).run P w = .ok (.tuple #[v, c]) w ∧ RC (fun b => x = some b) w (.sl k (rows.take len)) v ∧ ∀ b, x = some b → C1.w0.heap.size ≤ b ∧ b < w.heap.size ∧ ¬ S b := by
 obtain ⟨hM, hrr, C, ρ, κ, hw0, hS0, hmu, hl, hok⟩ := h
 refine ⟨@OK.defers I _ _ _ _ _ _ _ hok, ?_⟩
 obtain ⟨y, u, hx, hxv, hrun⟩ := res_run (P := P) hok (fn := fn) (K := fun y => y = .tup [.loc n 0 len, .v c]) hr
 subst hx
 obtain ⟨v, rfl, hv⟩ : ∃ v, u = .tuple #[v, c] ∧ RV S w ρ κ σ.f.h (.loc n 0 len) v := by
  have key : ∃ vs : Array Value, u = .tuple vs ∧ vs.size = 2 ∧ RV S w ρ κ σ.f.h (.loc n 0 len) (vs.getD 0 undef) ∧ vs.getD 1 undef = c := by
   cases hxv with
   | clo h => cases h with
    | tup _ vs hl hr => have := hr 0 (by simp); cases this
   | tup _ vs hl hr => exact ⟨vs, rfl, by simpa using hl.symm, by simpa using hr 0 (by simp), inv_v (by simpa using hr 1 (by simp))⟩
  obtain ⟨vs, rfl, h2, h3, h4⟩ := key
  obtain ⟨l⟩ := vs
  match l, h2 with
  | [x, y], _ =>
   refine ⟨x, ?_, by simpa using h3⟩
   have : y = c := by simpa using h4
   rw [this]
 refine ⟨v, ρ n, hrun, @OK.exposeP a w S I C ρ κ σ.f hok n k len rows false hb hfl v hv, fun b hb' => ⟨?_, hok.hok.lt (n := n) (by rw [show σ.f.h n = _ from hb]; rfl) hb', ?_⟩⟩
 ·rcases (@OK.back I _ _ _ _ _ _ _ hl _ hok).mine n b (by rw [show σ.f.h n = _ from hb]; rfl) hb' with h | h
  ·exact h
  ·exact (hM b h).elim
 ·exact @OK.noS I _ _ _ _ _ _ _ hok _ _ hb rfl _ hb'
theorem rc_tup2 {v c u : Value} (h : RC S w (.tup [.v v, .v c]) u) : u = .tuple #[v, c] := by
 letI : Envs := ⟨[]⟩
 have key : ∃ vs : Array Value, u = .tuple vs ∧ vs.size = 2 ∧ vs.getD 0 undef = v ∧ vs.getD 1 undef = c := by
  cases h with
  | tup _ vs hl hr => exact ⟨vs, rfl, by simpa using hl.symm, inv_v (ρ := fun _ => none) (κ := fun _ => 0) (h := fun _ => none) (.clo (by simpa using hr 0 (by simp))), inv_v (ρ := fun _ => none) (κ := fun _ => 0) (h := fun _ => none) (.clo (by simpa using hr 1 (by simp)))⟩
 obtain ⟨vs, rfl, h2, h3, h4⟩ := key
 obtain ⟨l⟩ := vs
 match l, h2 with
 | [x, y], _ =>
  have e1 : x = v := by simpa using h3
  have e2 : y = c := by simpa using h4
  rw [e1, e2]
theorem tup2_rc (v c : Value) : RC S w (.tup [.v v, .v c]) (.tuple #[v, c]) :=
 .tup _ _ rfl fun j hj => by
  match j, hj with
  | 0, _ => exact .v _
  | 1, _ => exact .v _
def DkRes (w : World) (ls : List (List (List AV))) (e : Ending) (w' : World) : Prop := ∃ v, e = .returned (.tuple #[v, .int .i64 0]) ∧ Grew w w' ∧ NewDk w w' ls v
theorem NewDk.later {w1 w2 w3 : World} {ls : List (List (List AV))} {v : Value} {m : Mem} (hd : Dk w2 ls v m) (hn : ∀ b, m.D b → w1.heap.size ≤ b) {S S' : Nat → Prop} (hS : ∀ b, m.D b → S b) (hp : Past S w2 S' w3) : NewDk w1 w3 ls v :=
 ⟨m, hd.same hp.size fun b hb => hp.old b (hS b hb), hn⟩
theorem Pt.fin {dr : Nat → Array Oper → Option (List Nat)} (hp : Pt I C1 σ a w S) (hdr : @DrawOK I P dr) (hnt : C1.nt = nt) {c : ACode} {E : AExit → St → Prop} (hv : ∀ C : Ctx, C.nt = nt → @wpc I P C dr c (fun _ => False) E σ) (hE : ∀ i σ, ¬ E (.exit i) σ)
  (hR : ∀ C a w, Later C1 C → @GoodL I C (E .ret) a w → Q .ret a w) : At P nt dr c Q a w := by
 obtain ⟨hM, hr, C, ρ, κ, hw0, hS0, hmu, hl, hok⟩ := hp
 have hCnt : C.nt = nt := hl.nt.trans hnt
 exact At.fw hdr hok hCnt (hv C hCnt) (fun a w hg => hg.no.elim) (fun i a w hg => by
   obtain ⟨σ', _, _, _, h, _⟩ := hg
   exact (hE i σ' h).elim) (fun a w hg => hR C a w hl hg)
theorem Past.grow {w' : World} {D : Nat → Prop} (hg : Grew w w') (hS : ∀ b, S b → b < w.heap.size) : Past S w (fun b => S b ∨ D b) w' := ⟨fun _ h => .inl h, fun b hb => hg.old b (hS b hb), hg.size⟩
theorem Past.mark {S1 K : Nat → Prop} {w1 w' : World} {D : Nat → Prop} (h : Past S1 w1 S w) (hdom : ∀ b, S b → b < w.heap.size) (hsz : w.heap.size ≤ w'.heap.size) (hw : ∀ b, b < w.heap.size → ¬ D b → w'.heap[b]? = w.heap[b]?) (hD : ∀ b, D b → ¬ S1 b) (hK : ∀ b, S1 b → K b) : Past S1 w1 K w' :=
 ⟨hK, fun b hb => (hw b (hdom b (h.sub b hb)) fun hd => hD b hd hb).trans (h.old b hb), Nat.le_trans h.size hsz⟩
theorem Dk.past {ls : List (List (List AV))} {v : Value} {m : Mem} {S' : Nat → Prop} {w' : World} (hd : Dk w ls v m) (hS : ∀ b, m.D b → S b) (hp : Past S w S' w') : Dk w' ls v m := hd.same hp.size fun b hb => hp.old b (hS b hb)
theorem us2 {us : Array Value} (h : us.size = 2) {v c : Value} (h0 : us.getD 0 undef = v) (h1 : us.getD 1 undef = c) : us = #[v, c] := by
 obtain ⟨l⟩ := us
 match l, h with
 | [x, y], _ =>
  have e1 : x = v := by simpa using h0
  have e2 : y = c := by simpa using h1
  rw [e1, e2]
theorem us1 {us : Array Value} (h : us.size = 1) {v : Value} (h0 : us.getD 0 undef = v) : us = #[v] := by
 obtain ⟨l⟩ := us
 match l, h with
 | [x], _ =>
  have e1 : x = v := by simpa using h0
  rw [e1]
theorem rc_v {v u : Value} (h : RC S w (.v v) u) : u = v := by cases h; rfl
theorem Fn.calls0 [Envs] {f : FuncId} {ys : List AV} {r : AV} (h : Fn P f [] ys r []) (hc : isClo r = true) {vs : Array Value} (hS : ∀ b, S b → b < w.heap.size) (he : Env S w) (hvs : vs.size = ys.length) (hargs : ∀ j, j < ys.length → RC S w (ys.getD j .junk) (vs.getD j undef)) :
  Calls P f vs w fun e w' => ∃ v S', e = .returned v ∧ Grew w w' ∧ RC S' w' r v := by
 have hnone : ∀ n, Hn (([] : List Blk).map some) n = none := by
  intro n
  cases n <;> simp [Hn]
 have hok1 : HOK S w (fun _ => none) (fun _ => 0) (Hn (([] : List Blk).map some)) :=
  ⟨fun n b hb => (by rw [hnone] at hb; cases hb), fun n m y hn _ _ _ => (by rw [hnone] at hn; cases hn), hS, he⟩
 refine (h.2 S w _ _ vs hok1 (by simp) hvs fun j hj => .clo (hargs j hj)).mono ?_
 rintro e w' ⟨u, S', ρ', κ', rfl, hp, hu⟩
 exact ⟨u, S', rfl, ⟨hp.size, fun b hb => hp.old b hb mutOf_nil, hp.out⟩, RV.closed hu hc⟩
def DkResC (w : World) (ls : List (List (List AV))) (c : Value) (e : Ending) (w' : World) : Prop := ∃ v, e = .returned (.tuple #[v, c]) ∧ Grew w w' ∧ NewDk w w' ls v
theorem Fn.noDk [Envs] {f : FuncId} {ys : List AV} {c : Value} (h : Fn P f [] ys (.tup [.v (.slice none 0 0), .v c]) []) {vs : Array Value} (hS : ∀ b, S b → b < w.heap.size) (he : Env S w) (hvs : vs.size = ys.length) (hargs : ∀ j, j < ys.length → RC S w (ys.getD j .junk) (vs.getD j undef)) :
  Calls P f vs w (DkResC w [] c) := by
 refine (h.calls0 rfl hS he hvs hargs).mono ?_
 rintro e w' ⟨v, S', rfl, hg, hv⟩
 have := rc_tup2 hv
 subst this
 exact ⟨_, rfl, hg, _, Dk.nil w', fun b hb => by
   rcases hb with h | ⟨i, hi, _⟩
   · cases h
   · simp at hi⟩
end
section
theorem At.closing {P : Program} {nt : Nat} {dr : Nat → Array Oper → Option (List Nat)} {n : Nat} {x : ACode} {Q : Exit → Act → World → Prop} {a : Act} {w : World} (h : At P nt dr x Q a w) : At P nt dr (.closing n x) Q a w := h
section
variable [Envs]
variable {P : Program} {nt : Nat} {Q : Exit → Act → World → Prop}
end
section
variable [I : Envs]
variable {P : Program} {nt : Nat} {Q : Exit → Act → World → Prop} {a : Act} {w : World}
end
variable {P : Program} {I : Envs} {C1 : Ctx} {σ τ : St} {S : Nat → Prop} {a : Act} {w : World}
theorem Pt.mv (h : Pt I C1 σ a w S) {d s : Nat} (hd : d < C1.nt) : Pt I C1 ⟨(d, look σ.s s) :: σ.s, σ.h⟩ (a.put (some d) (a.tmps.getD s undef)) w S := by
 obtain ⟨hM, hr, C, ρ, κ, hw0, hS0, hmu, hl, hok⟩ := h
 refine ⟨hM, hr, C, ρ, κ, hw0, hS0, hmu, hl, ?_⟩
 have := @OK.put I C σ.f a w S ρ κ hok (look σ.s s) (a.tmps.getD s undef) (@OK.slots I _ _ _ _ _ _ _ hok s) (some d) (fun d' hd' => by
   obtain rfl := Option.some.inj hd'
   rw [hl.nt]; exact hd)
 have e : (⟨(d, look σ.s s) :: σ.s, σ.h⟩ : St).f = ⟨upd σ.f.s (some d) (look σ.s s), σ.f.h⟩ := by
  simp [St.f, look, upd, eq_comm]
 rw [e]
 exact this
theorem Fn.of_dk [Envs] {f : FuncId} {args : List AV} {ls : List (List (List AV))} {c : Value} (hb : HasBody P f) (hc : ∀ x, x ∈ args → isClo x = true)
  (h : ∀ (S : Nat → Prop) (w : World) (vs : Array Value), (∀ b, S b → b < w.heap.size) → Env S w → vs.size = args.length → (∀ j, j < args.length → RC S w (args.getD j .junk) (vs.getD j undef)) → Calls P f vs w (DkResC w ls c)) :
  Fn P f [] args (.tup [.sl 1 (ls.map fun r => [.sl 1 r]), .v c]) [] := by
 refine ⟨hb, fun S w ρ κ vs hok _ hvs hargs => (h S w vs hok.dom hok.env hvs fun j hj => (hargs j hj).closed (hc _ ?_)).mono ?_⟩
 ·rw [List.getD_eq_getElem?_getD, List.getElem?_eq_getElem hj]; exact List.getElem_mem _
 ·rintro e w' ⟨v, rfl, hg, m, hd, hn⟩
  have hnone : ∀ n, Hn ([] : List (Option Blk)) n = none := by
   intro n
   cases n <;> simp [Hn]
  refine ⟨_, fun b => S b ∨ m.D b, fun _ => none, fun _ => 0, rfl, ⟨⟨fun n b hb => (by rw [hnone] at hb; cases hb), fun n m y hn _ _ _ => (by rw [hnone] at hn; cases hn), fun b hb => hb.elim (fun h => Nat.lt_of_lt_of_le (hok.dom b h) hg.size) (hd.lt b), (hg.env hok.dom hok.env).mono (fun _ h => .inl h) fun _ _ => rfl⟩, hg.size, fun b hb _ => hg.old b hb, fun _ h => .inl h, fun b hb => hb.elim .inl fun h => .inr (.inl (hn b h)), fun j x hj => (by simp at hj), hg.out, fun j b' hj => (by simp at hj)⟩, .clo ?_⟩
  refine .tup _ _ rfl fun j hj => ?_
  match j, hj with
  | 0, _ => exact hd.rd.mono (fun _ h => .inr h) fun _ _ => rfl
  | 1, _ => exact .v _
end
section

end
end Go.Vs
