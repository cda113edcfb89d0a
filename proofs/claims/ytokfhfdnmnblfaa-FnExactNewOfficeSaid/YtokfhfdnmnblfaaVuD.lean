/- Decks in memory of their own: what copies and the program leave, and what marks write. -/
import Derived.Test.YtokfhfdnmnblfaaVuA
namespace Go.Vs
set_option linter.unusedSectionVars false
set_option linter.unusedVariables false
variable {P : Program}

theorem RC.flatW [Envs] {S S' : Nat → Prop} {w w' : World} {x : AV} {v : Value} (h : RC S w x v) (hf : Vs.flat x = true) : RC S' w' x v :=
  RC.mono (S := fun _ => False) (w := w) (fun _ h => h.elim) (fun _ h => h.elim) (RC.flat h hf)
theorem RV.flatW [Envs] {S S' : Nat → Prop} {w w' : World} {ρ : Name → Option Nat} {κ : Name → Nat} {hh : Name → Option Blk} {x : AV} {v : Value} (h : RV S w ρ κ hh x v) (hf : Vs.flat x = true) : RV S' w' ρ κ hh x v :=
  (show RV (fun _ => False) w ρ κ hh x v from RV.flat h hf).mono (fun _ h => h.elim) (fun _ h => h.elim) fun m _ => NameOK.refl _ _ _ _
theorem OK.namesLt [Envs] {C : Ctx} {σ : FSt} {a : Act} {w : World} {S : Nat → Prop} {ρ : Name → Option Nat} {κ : Name → Nat} (hok : OK C σ a w S ρ κ) : ∀ n x, (σ.h n).isSome → ρ n = some x → x < w.heap.size := fun n x hn hx => hok.hok.lt hn hx
theorem OK.put1 [Envs] {C : Ctx} {σ : St} {a : Act} {w : World} {S : Nat → Prop} {ρ : Name → Option Nat} {κ : Name → Nat} (hok : OK C σ.f a w S ρ κ) {d : Nat} (hd : d < C.nt) (u : Value) : OK C (⟨(d, .v u) :: σ.s, σ.h⟩ : St).f (a.put (some d) u) w S ρ κ := by
  have := hok.put (x := .v u) (v := u) (d := some d) (.clo (.v u)) (fun d' hd' => by
    obtain rfl := Option.some.inj hd'
    exact hd)
  have e : (⟨(d, .v u) :: σ.s, σ.h⟩ : St).f = ⟨upd σ.f.s (some d) (.v u), σ.f.h⟩ := by
    simp [St.f, look, upd, eq_comm]
  rw [e]
  exact this
/-- The walk goes on in a world in which memory D was written (none of it has a name), with another set and other tables. -/
theorem OK.jump (I I' : Envs) {C1 C : Ctx} {σ : St} {a : Act} {w w' : World} {S : Nat → Prop} {ρ : Name → Option Nat} {κ : Name → Nat} (hl : Later C1 C) (hM1 : ∀ b, ¬ C1.Mut b) (hok : @OK I C σ.f a w S ρ κ)
    (D : Nat → Prop) (hsz : w.heap.size ≤ w'.heap.size) (hw : ∀ b, b < w.heap.size → ¬ D b → w'.heap[b]? = w.heap[b]?) (hD : ∀ b, D b → C1.w0.heap.size ≤ b ∧ ∀ n, (σ.f.h n).isSome → ρ n ≠ some b)
    (ho : w'.os = w.os ∧ w'.output = w.output) {S' : Nat → Prop} (hS : ∀ b, S' b → b < w'.heap.size) (h0 : ∀ b, C1.S0 b → S' b) (h1 : ∀ b, S' b → C1.S0 b ∨ C1.w0.heap.size ≤ b)
    (hN : ∀ b, S' b → ∀ n, (σ.f.h n).isSome → ρ n ≠ some b) (he : @Env I' S' w') (hcl : ∀ p, p ∈ σ.h → flatB p.2 ∧ p.2.fz = false) (s' : List (Nat × AV))
    (hs : ∀ p, p ∈ s' → (p.2 = look σ.s p.1 ∧ flat p.2 = true) ∨ RC S' w' p.2 (a.tmps.getD p.1 undef)) :
    @OK I' (C.anew w' S' σ.f.h ρ) (⟨s', σ.h⟩ : St).f a w' S' ρ κ ∧ Later C1 (C.anew w' S' σ.f.h ρ) := by
  have hb := @OK.back I _ _ _ _ _ _ _ hl _ hok
  have hlt : ∀ n x, (σ.f.h n).isSome → ρ n = some x → x < w.heap.size := @OK.namesLt I _ _ _ _ _ _ _ hok
  have hkeep : ∀ n x, (σ.f.h n).isSome → ρ n = some x → w'.heap[x]? = w.heap[x]? := fun n x hn hx => hw x (hlt n x hn hx) fun hd => (hD x hd).2 n hn hx
  have hlk : ∀ (s : List (Nat × AV)) t, look s t = .junk ∨ (t, look s t) ∈ s := by
    intro s
    induction s with
    | nil => intro t; left; rfl
    | cons p r ih =>
      intro t
      simp only [look]
      split
      · rename_i h; subst h; right; exact List.mem_cons_self
      · rcases ih t with h | h
        · left; exact h
        · right; exact List.mem_cons_of_mem _ h
  obtain ⟨g1, g2, g3, ⟨j1, j2, j3, j4⟩, g5, g6, g7, g8, g9, g10, g11⟩ := hb
  obtain ⟨o1, o2, o3, ⟨k1, k2, k3, k4⟩, o5, o6, o7, o8, o9, o10, o11⟩ := hok
  constructor
  · refine ⟨o1, o2, fun t => ?_, ⟨fun n b hb => ?_, k2, hS, he⟩, Nat.le_refl _, fun _ _ _ => rfl, fun n x h1 h2 => .inr ⟨n, h1, h2⟩, fun _ h => h, fun b hb => .inl hb, ⟨rfl, rfl⟩, o11⟩
    · show RV S' w' _ _ _ (look s' t) _
      rcases hlk s' t with h | h
      · rw [h]; exact .junk _
      · rcases hs _ h with ⟨e, hf⟩ | e
        · have h1 := o3 t
          have e' : look s' t = look σ.s t := e
          have hf' : flat (look s' t) = true := hf
          rw [e'] at hf' ⊢
          exact RV.flatW h1 hf'
        · exact .clo e
    · have hb' : σ.f.h n = some b := hb
      have hk := k1 n b hb'
      have hn : ∀ x, ρ n = some x → ¬ S' x := fun x hx hs => hN x hs n (by rw [hb']; rfl) hx
      have hu : ∀ x, ρ n = some x → w'.heap[x]? = w.heap[x]? := fun x hx => hkeep n x (by rw [hb']; rfl) hx
      obtain ⟨hf, hz⟩ := hcl _ (hlook_mem2 hb')
      cases b with
      | var c z =>
        obtain ⟨x, cs, T, fr, g1, g2, g3, g4, g4', g5, g6, g7⟩ := hk
        have hz' : z = false := hz
        subst hz'
        exact ⟨x, cs, T, fr, g1, by rw [hu x g1]; exact g2, g3, fun _ hx => hn x g1 hx, fun h => (by cases h), g5, g6, fun j hj => ⟨(g7 j hj).1, RV.flatW (g7 j hj).2 (flatL_getD hf)⟩⟩
      | arr k l z =>
        have hz' : z = false := hz
        subst hz'
        obtain ⟨g0, ⟨g1, g2⟩ | ⟨x, cs, T, fr, g1, g2, g3, g4, g4', g5, g6, g7⟩⟩ := hk
        · exact ⟨g0, .inl ⟨g1, g2⟩⟩
        · refine ⟨g0, .inr ⟨x, cs, T, fr, g1, by rw [hu x g1]; exact g2, g3, fun _ hx => hn x g1 hx, fun h => (by cases h), g5, g6, fun i j hi hj => ⟨(g7 i j hi hj).1, RC.flatW (g7 i j hi hj).2 (flatL_getD (hf _ ?_))⟩⟩⟩
          rw [List.getD_eq_getElem?_getD, List.getElem?_eq_getElem hi]; exact List.getElem_mem _
  · refine ⟨hl.nt, Nat.le_trans g5 hsz, fun b hb hm => ?_, fun b hb => ?_, h0, fun b hb => (h1 b hb).imp_right .inl, ⟨ho.1.trans g10.1, ho.2.trans g10.2⟩, hl.base⟩
    · show w'.heap[b]? = _
      rw [hw b (Nat.lt_of_lt_of_le hb g5) fun hd => (by have := (hD b hd).1; omega)]
      exact g6 b hb hm
    · obtain ⟨n, q1, q2⟩ := hb
      exact g7 n b q1 q2

/-- A point of a walk that began at C1: the state, the world, and the set of all that may be read. -/
structure Pt (I : Envs) (C1 : Ctx) (σ : St) (a : Act) (w : World) (S : Nat → Prop) : Prop where
  nomut : ∀ b, ¬ C1.Mut b
  rows : ∀ p, p ∈ σ.h → flatB p.2 ∧ p.2.fz = false
  ex : ∃ (C : Ctx) (ρ : Name → Option Nat) (κ : Name → Nat), C.w0 = w ∧ C.S0 = S ∧ (∀ b, C.Mut b → ∃ n, (σ.f.h n).isSome ∧ ρ n = some b) ∧ Later C1 C ∧ @OK I C σ.f a w S ρ κ

variable {I : Envs} {C1 : Ctx} {σ τ : St} {a : Act} {w : World} {S : Nat → Prop}
theorem Pt.of_ok {C : Ctx} {ρ : Name → Option Nat} {κ : Name → Nat} (hM : ∀ b, ¬ C1.Mut b) (hr : ∀ p, p ∈ σ.h → flatB p.2 ∧ p.2.fz = false) (hl : Later C1 C) (hok : @OK I C σ.f a w S ρ κ) : Pt I C1 σ a w S :=
  ⟨hM, hr, C.anew w S σ.f.h ρ, ρ, κ, rfl, rfl, fun _ h => h, hl.trans (@OK.later I _ _ _ _ _ _ _ hok), @OK.anew I _ _ _ _ _ _ _ hok⟩

theorem Pt.dom (h : Pt I C1 σ a w S) : ∀ b, S b → b < w.heap.size := by
  obtain ⟨_, _, C, ρ, κ, _, _, _, _, hok⟩ := h
  exact hok.hok.dom
theorem Pt.env (h : Pt I C1 σ a w S) : @Env I S w := by
  obtain ⟨_, _, C, ρ, κ, _, _, _, _, hok⟩ := h
  exact @HOK.env I _ _ _ _ _ (@OK.hok I _ _ _ _ _ _ _ hok)
theorem Pt.base (h : Pt I C1 σ a w S) : ∀ b, S b → C1.S0 b ∨ C1.w0.heap.size ≤ b := by
  obtain ⟨hM, _, C, ρ, κ, _, _, _, hl, hok⟩ := h
  intro b hb
  rcases (@OK.back I _ _ _ _ _ _ _ hl _ hok).Snew b hb with h | h | h
  · exact .inl h
  · exact .inr h
  · exact (hM b h).elim
theorem Pt.sub (h : Pt I C1 σ a w S) : ∀ b, C1.S0 b → S b := by
  obtain ⟨hM, _, C, ρ, κ, _, _, _, hl, hok⟩ := h
  exact (@OK.back I _ _ _ _ _ _ _ hl _ hok).S0
theorem Pt.size (h : Pt I C1 σ a w S) : C1.w0.heap.size ≤ w.heap.size := by
  obtain ⟨hM, _, C, ρ, κ, _, _, _, hl, hok⟩ := h
  exact (@OK.back I _ _ _ _ _ _ _ hl _ hok).size
/-- what a slot reads as -/
theorem Pt.val (h : Pt I C1 σ a w S) {t : Nat} (hc : isClo (look σ.s t) = true) : RC S w (look σ.s t) (a.tmps.getD t undef) := by
  obtain ⟨hM, _, C, ρ, κ, _, _, _, hl, hok⟩ := h
  exact RV.closed (@OK.slots I _ _ _ _ _ _ _ hok t) hc
theorem Pt.valv (h : Pt I C1 σ a w S) {t : Nat} {v : Value} (hc : look σ.s t = .v v) : a.tmps.getD t undef = v := by
  obtain ⟨hM, _, C, ρ, κ, _, _, _, hl, hok⟩ := h
  have := @OK.slots I _ _ _ _ _ _ _ hok t
  rw [show σ.f.s t = .v v from hc] at this
  exact inv_v this

/-- A call by hand has been done: memory D was written. -/
theorem Pt.jump (h : Pt I C1 σ a w S) {w' : World} (D : Nat → Prop) (hsz : w.heap.size ≤ w'.heap.size) (hw : ∀ b, b < w.heap.size → ¬ D b → w'.heap[b]? = w.heap[b]?) (hD : ∀ b, D b → C1.w0.heap.size ≤ b ∧ S b)
    (ho : w'.os = w.os ∧ w'.output = w.output) {S' : Nat → Prop} (hS : ∀ b, S' b → b < w'.heap.size ∧ (S b ∨ w.heap.size ≤ b)) (h0 : ∀ b, C1.S0 b → S' b) (s' : List (Nat × AV))
    (hs : ∀ p, p ∈ s' → (p.2 = look σ.s p.1 ∧ flat p.2 = true) ∨ RC S' w' p.2 (a.tmps.getD p.1 undef)) : Pt (keepE S' w') C1 ⟨s', σ.h⟩ a w' S' := by
  have hb := h.base
  have hz := h.size
  obtain ⟨hM, hr, C, ρ, κ, hw0, hS0, hmu, hl, hok⟩ := h
  have hno : ∀ b, S b → ∀ n, (σ.f.h n).isSome → ρ n ≠ some b := fun b hb n hn hx => by
    obtain ⟨b', hb'⟩ := Option.isSome_iff_exists.1 hn
    exact @OK.noS I _ _ _ _ _ _ _ hok _ _ hb' (hr _ (hlook_mem2 hb')).2 _ hx hb
  obtain ⟨h1, h2⟩ := OK.jump I (keepE S' w') hl hM hok D hsz hw (fun b hd => ⟨(hD b hd).1, hno b (hD b hd).2⟩) ho (S' := S') (fun b hb => (hS b hb).1) h0 (fun b h => by
    rcases (hS b h).2 with h | h
    · exact hb b h
    · exact .inr (Nat.le_trans hz h)) (fun b h n hn hx => by
    rcases (hS b h).2 with h | h
    · exact hno b h n hn hx
    · have := hok.hok.lt hn hx; omega) keepE_env hr s' hs
  exact ⟨hM, hr, _, ρ, κ, rfl, rfl, fun _ h => h, h2, h1⟩

/-- the same point, with other words for the slots -/
theorem Pt.set (h : Pt I C1 σ a w S) (s' : List (Nat × AV)) (hs : ∀ p, p ∈ s' → (p.2 = look σ.s p.1 ∧ flat p.2 = true) ∨ RC S w p.2 (a.tmps.getD p.1 undef)) : Pt (keepE S w) C1 ⟨s', σ.h⟩ a w S :=
  h.jump (fun _ => False) (Nat.le_refl _) (fun _ _ _ => rfl) (fun _ h => h.elim) ⟨rfl, rfl⟩ (fun b hb => ⟨h.dom b hb, .inl hb⟩) h.sub s' hs

theorem Pt.put (h : Pt I C1 σ a w S) {d : Nat} (hd : d < C1.nt) (u : Value) : Pt I C1 ⟨(d, .v u) :: σ.s, σ.h⟩ (a.put (some d) u) w S := by
  obtain ⟨hM, hr, C, ρ, κ, hw0, hS0, hmu, hl, hok⟩ := h
  refine ⟨hM, hr, C, ρ, κ, hw0, hS0, hmu, hl, ?_⟩
  exact @OK.put1 I _ _ _ _ _ _ _ hok d (by rw [hl.nt]; exact hd) u

variable {nt : Nat} {dr : Nat → Array Oper → Option (List Nat)} {Q : Exit → Act → World → Prop}
/-- what stays from one point to a later one -/
structure Past (S : Nat → Prop) (w : World) (S' : Nat → Prop) (w' : World) : Prop where
  sub : ∀ b, S b → S' b
  old : ∀ b, S b → w'.heap[b]? = w.heap[b]?
  size : w.heap.size ≤ w'.heap.size
theorem Past.refl (S : Nat → Prop) (w : World) : Past S w S w := ⟨fun _ h => h, fun _ _ => rfl, Nat.le_refl _⟩
theorem Past.trans {S' S'' : Nat → Prop} {w' w'' : World} (h : Past S w S' w') (h' : Past S' w' S'' w'') : Past S w S'' w'' :=
  ⟨fun b hb => h'.sub b (h.sub b hb), fun b hb => (h'.old b (h.sub b hb)).trans (h.old b hb), Nat.le_trans h.size h'.size⟩
theorem Past.rc {S' : Nat → Prop} {w' : World} (h : Past S w S' w') {D : Nat → Prop} (hD : ∀ b, D b → S b) {x : AV} {v : Value} (hx : RC D w x v) : RC D w' x v :=
  letI : Envs := ⟨[]⟩
  hx.mono (fun _ h => h) fun b hb => h.old b (hD b hb)
theorem Past.rcS {S' : Nat → Prop} {w' : World} (h : Past S w S' w') {x : AV} {v : Value} (hx : RC S w x v) : RC S' w' x v :=
  letI : Envs := ⟨[]⟩
  hx.mono h.sub fun b hb => h.old b hb
theorem Pt.later {C : Ctx} {ρ : Name → Option Nat} {κ : Name → Nat} {S' : Nat → Prop} {a' : Act} {w' : World} (hw0 : C.w0 = w) (hS0 : C.S0 = S) (hno : ∀ b, S b → b < w.heap.size ∧ ¬ C.Mut b) (hok : @OK I C τ.f a' w' S' ρ κ) : Past S w S' w' := by
  refine ⟨fun b hb => @OK.S0 I _ _ _ _ _ _ _ hok b (by rw [hS0]; exact hb), fun b hb => ?_, ?_⟩
  · rw [← hw0]
    exact @OK.old I _ _ _ _ _ _ _ hok b (by rw [hw0]; exact (hno b hb).1) (hno b hb).2
  · rw [← hw0]
    exact @OK.size I _ _ _ _ _ _ _ hok

/-- A stretch by the framework. -/
theorem Pt.go (hp : Pt I C1 σ a w S) (hdr : DrawOK P dr) (hnt : C1.nt = nt) (n : Nat) (c : ACode) {X : Prop} {E : AExit → St → Prop} (hτ : ∀ p, p ∈ τ.h → flatB p.2 ∧ p.2.fz = false)
    (hv : ∀ C : Ctx, C.nt = nt → @wpcN I P C dr n c (fun σ' => LeL σ' τ ∧ X) E σ) (hE : ∀ i σ, ¬ E (.exit i) σ) (hR : ∀ C a w, Later C1 C → @GoodL I C (E .ret) a w → Q .ret a w)
    (hN : ∀ a' w' S', Past S w S' w' → Pt I C1 τ a' w' S' → X → At P nt dr (dropS n c) Q a' w') : At P nt dr c Q a w := by
  have hp' := hp
  obtain ⟨hM, hr, C, ρ, κ, hw0, hS0, hmu, hl, hok⟩ := hp
  have hCnt : C.nt = nt := hl.nt.trans hnt
  have hno : ∀ b, S b → b < w.heap.size ∧ ¬ C.Mut b := fun b hb => ⟨hp'.dom b hb, fun hm => by
    obtain ⟨n, hn, hx⟩ := hmu b hm
    obtain ⟨b', hb'⟩ := Option.isSome_iff_exists.1 hn
    exact @OK.noS I _ _ _ _ _ _ _ hok _ _ hb' (hr _ (hlook_mem2 hb')).2 _ hx hb⟩
  refine @At.upto P nt dr Q I C hdr hCnt _ E (fun i a w hg => ?_) (fun a w hg => hR C a w hl hg) n c σ a w S ρ κ hok (hv C hCnt) fun a' w' hg => ?_
  · obtain ⟨σ', _, _, _, h, _⟩ := hg
    exact (hE i σ' h).elim
  · obtain ⟨σ', S', ρ', κ', ⟨hle, hX⟩, hok'⟩ := hg
    have hok2 := @OK.le I _ _ _ _ _ _ _ _ hok' hle
    exact hN a' w' S' (Pt.later hw0 hS0 hno hok2) (Pt.of_ok hM hτ hl hok2) hX

/-- A region in its order, of which one operation is taken by hand; the rest may go by other tables. -/
theorem At.regionX [Envs] {P : Program} {C : Ctx} {a : Act} {w : World} {S : Nat → Prop} {ρ : Name → Option Nat} {κ : Name → Nat} {nt : Nat} {dr : Nat → Array Oper → Option (List Nat)} {Q : Exit → Act → World → Prop} {pre post : List AOper} {o : AOper} {out : List Nat} {σ : St} (hok : OK C σ.f a w S ρ κ) (hnt : C.nt = nt) (hg : o.guard = none)
    (hv : vc P (fun σ1 => ∀ (a : Act) (w : World) (S : Nat → Prop) (ρ : Name → Option Nat) (κ : Name → Nat) (op : Oper) (ops : Array Oper), OK C σ1.f a w S ρ κ → cOper P nt ops op = some o.bare → op.wp P a w (fun a w => ∃ I' : Envs, @RestOK I' P nt post Q a w) Q) pre σ) :
    At P nt dr (.region (pre ++ o :: post) out []) Q a w := by
  intro c hc hzc
  cases c
  case region id ops draw =>
    simp only [cCode, ACode.bare] at hc
    split at hc
    · rename_i fl' hdraw
      cases ho : cOps P nt ops ops.toList with
      | none => rw [ho] at hc; cases hc
      | some l =>
        rw [ho] at hc
        simp only [Option.map_some, Option.some.injEq, ACode.region.injEq, true_and] at hc
        obtain ⟨hl, hfl⟩ := hc
        subst hl; subst hfl
        cases draw with
        | true =>
          have hd : dr nt ops = some [] := by simpa using hdraw
          simp [zB, hd] at hzc
        | false =>
          obtain ⟨g1, g2⟩ := cOps_spec ho
          have hs : ∀ (j : Nat) (ao : AOper), (pre ++ o :: post)[j]? = some ao → ∃ op, ops[j]? = some op ∧ cOper P nt ops op = some ao.bare := fun j ao hj => by
            obtain ⟨op, q1, q2⟩ := g2 j ao hj
            exact ⟨op, by simpa using q1, q2⟩
          refine wp_region ?_
          have hlen : ops.size = pre.length + (post.length + 1) := by
            have : ops.size = (pre ++ o :: post).length := by simpa using g1
            rw [this]; simp
          rw [List.range_eq_range', hlen]
          refine region_pre (C := C) (K := _) (e := pre.length) (fun σ1 a w S ρ κ hK hok1 => ?_) pre 0 (by omega) (fun j ao hj => ?_) σ a w S ρ κ hv hok
          · obtain ⟨op, h1, h2⟩ := hs pre.length o (by simp)
            obtain ⟨_, _, _, h4⟩ := cOper_spec h2
            have hg2 : op.guard = none := by
              rcases h4 with ⟨h, _⟩ | ⟨j, want, t, _, h, _⟩
              · exact h
              · rw [hg] at h; cases h
            rw [List.range'_succ, wpOps_cons]
            unfold wpOp
            rw [h1]
            have : Region.wanted op (yielded ops a.tmps) = true := by simp [Region.wanted, hg2]
            simp only [this, if_true]
            refine .inl (Oper.wp_mono (fun a' w' hr => ?_) (hK a w S ρ κ op ops hok1 h2))
            obtain ⟨I', C', σ', S', ρ', κ', K', e1, e2, e3, e4⟩ := hr
            letI := I'
            subst e1
            have := region_pre (C := C') (P := P) (ops := ops) (Q := Q) (K := K') (e := pre.length + 1 + post.length) (m := 0) (fun σ2 a2 w2 S2 ρ2 κ2 hk hok2 => by
              simp only [List.range'_zero]
              exact e4 a2 w2 ⟨σ2, S2, ρ2, κ2, hk, hok2⟩) post (pre.length + 1) rfl (fun j ao hj => by
              obtain ⟨op', q1, q2⟩ := hs (pre.length + 1 + j) ao (by
                rw [List.getElem?_append_right (by omega), show pre.length + 1 + j - pre.length = j + 1 by omega]
                simpa using hj)
              exact ⟨op', q1, q2⟩) σ' a' w' S' ρ' κ' e3 e2
            simpa using this
          · obtain ⟨op', q1, q2⟩ := hs j ao (by
              have : j < pre.length := by
                rcases Nat.lt_or_ge j pre.length with h | h
                · exact h
                · simp [List.getElem?_eq_none h] at hj
              rw [List.getElem?_append_left this]; exact hj)
            exact ⟨op', by simpa using q1, by rw [hnt]; exact q2⟩
    · cases hc
  all_goals (simp only [cCode, ACode.bare] at hc; first | (cases hc; done) | (split at hc <;> simp at hc) | (simp at hc))

/-- A call by hand within its region. -/
theorem Pt.call (hp : Pt I C1 σ a w S) (hnt : C1.nt = nt) {pre post : List AOper} {f : FuncId} {ts : List Nat} {vs : List Value} {bor : List Nat} {d : Nat} {out : List Nat} {y : ACode} (hb : HasBody P f) (hd : d < nt)
    (hτ : ∀ p, p ∈ τ.h → flatB p.2 ∧ p.2.fz = false) (hv : @vc I P (fun σ' => LeL σ' τ) pre σ) (hl : ts.length = vs.length) (hts : ∀ i, i < ts.length → look τ.s (ts.getD i 0) = .v (vs.getD i undef))
    (h : ∀ a' w' S', Past S w S' w' → Pt I C1 τ a' w' S' → Calls P f vs.toArray w' fun e w'' => ∃ u, e = .returned u ∧ ∃ I'' s'' S'', Pt I'' C1 ⟨s'', τ.h⟩ a' w'' S'' ∧ ∃ τ' : St, @vc I'' P (fun σ' => LeL σ' τ') post ⟨(d, .v u) :: s'', τ.h⟩ ∧ (∀ p, p ∈ τ'.h → flatB p.2 ∧ p.2.fz = false) ∧
      ∀ a3 w3 S3, Past S'' w'' S3 w3 → Pt I'' C1 τ' a3 w3 S3 → At P nt dr y Q a3 w3) :
    At P nt dr (.seq (.region (pre ++ ⟨some d, .call (.func f) (ts.map .tmp) bor, none⟩ :: post) out []) y) Q a w := by
  have hp' := hp
  obtain ⟨hM, hr, C, ρ, κ, hw0, hS0, hmu, hla, hok⟩ := hp
  have hCnt : C.nt = nt := hla.nt.trans hnt
  have hno : ∀ b, S b → b < w.heap.size ∧ ¬ C.Mut b := fun b hb => ⟨hp'.dom b hb, fun hm => by
    obtain ⟨n, hn, hx⟩ := hmu b hm
    obtain ⟨b', hb'⟩ := Option.isSome_iff_exists.1 hn
    exact @OK.noS I _ _ _ _ _ _ _ hok _ _ hb' (hr _ (hlook_mem2 hb')).2 _ hx hb⟩
  refine At.seq (@At.regionX I P C a w S ρ κ nt dr _ pre post _ out σ hok hCnt rfl ?_)
  refine @vc_mono I P (fun σ' => LeL σ' τ) _ (fun σ1 hle1 => ?_) _ _ hv
  intro a' w' S' ρ' κ' op ops hokx hcop
  have hok2 := @OK.le I _ _ _ _ _ _ _ _ hokx hle1
  have hpast := Pt.later hw0 hS0 hno hok2
  have hpt : Pt I C1 τ a' w' S' := Pt.of_ok hM hτ hla hok2
  refine @op_call I P C a' w' S' ρ' κ' ops τ.f op _ f (ts.map .tmp) bor (by rw [hCnt]; exact hcop) rfl hok2 hb _ _ ?_
  have hargs : ((ts.map Operand.tmp).map a'.eval).toArray = vs.toArray := by
    congr 1
    refine List.ext_getElem (by simp [hl]) fun i h1 h2 => ?_
    have hi : i < ts.length := by simpa using h1
    have := hpt.valv (hts i hi)
    have e1 : ts.getD i 0 = ts[i] := by simp [hi]
    have e2 : vs.getD i undef = vs[i] := by simp [h2]
    rw [e1, e2] at this
    simp only [List.getElem_map]
    exact this
  rw [hargs]
  refine (h a' w' S' hpast hpt).mono ?_
  rintro e w'' ⟨u, rfl, I'', s'', S'', hpt2, τ', hv2, hτ', hrest⟩
  have hp3 := hpt2.put (d := d) (by rw [hnt]; exact hd) u
  have hdom3 := hp3.dom
  obtain ⟨hM3, hr3, C3, ρ3, κ3, hw3, hS3, hmu3, hla3, hok3⟩ := hp3
  have hCnt3 : C3.nt = nt := hla3.nt.trans hnt
  have hno3 : ∀ b, S'' b → b < w''.heap.size ∧ ¬ C3.Mut b := fun b hb => ⟨hdom3 b hb, fun hm => by
    obtain ⟨n, hn, hx⟩ := hmu3 b hm
    obtain ⟨b', hb'⟩ := Option.isSome_iff_exists.1 hn
    exact @OK.noS I'' _ _ _ _ _ _ _ hok3 _ _ hb' (hr3 _ (hlook_mem2 hb')).2 _ hx hb⟩
  refine ⟨u, rfl, I'', C3, ⟨(d, .v u) :: s'', τ.h⟩, S'', ρ3, κ3, fun σ' => LeL σ' τ', hCnt3, hok3, hv2, fun a3 w3 hg => ?_⟩
  obtain ⟨S3, ρ4, κ4, hok4⟩ := @GoodL.le I'' _ _ _ _ hg
  exact hrest a3 w3 S3 (Pt.later hw3 hS3 hno3 hok4) (Pt.of_ok hM3 hτ' hla3 hok4)
end Go.Vs

namespace Go.Vs
set_option linter.unusedSectionVars false
set_option linter.unusedVariables false
variable [Envs] {P : Program} {C : Ctx} {a : Act} {w : World} {S : Nat → Prop} {ρ : Name → Option Nat} {κ : Name → Nat}

theorem Own.notS {x : Option Nat} {c k : Nat} {rows : List (List AV)} {v : Value} (ho : Own S w x c k rows v) {b : Nat} (hb : x = some b) : ¬ S b := by
  obtain ⟨_, hn | ⟨y, cs, T, fr, g1, g2, g3, g4, _⟩⟩ := ho.blk
  · rw [hb] at hn; cases hn.1
  · dsimp only at g1
    rw [hb] at g1
    obtain rfl := Option.some.inj g1
    exact g4 rfl

/-- The row of an own value gets a name; slot t holds the value. -/
theorem OK.adopt {σ : St} (hok : OK C σ.f a w S ρ κ) {n : Name} (hf : freshL n σ = true) {x : Option Nat} {c k : Nat} {rows : List (List AV)} {v : Value} (ho : Own S w x c k rows v)
    (hx : ∀ b, x = some b → (∀ m, (σ.f.h m).isSome → ρ m ≠ some b) ∧ (C.w0.heap.size ≤ b ∨ C.Mut b)) {t : Nat} (ht : a.tmps.getD t undef = v) :
    OK C (⟨(t, .loc n 0 rows.length) :: σ.s, (n, .arr k rows false) :: σ.h⟩ : St).f a w S (fun m => if m = n then x else ρ m) (fun m => if m = n then c else κ m) := by
  have h1 := hok.add2 (n := n) (freshL_spec hf) (w' := w) (b := .arr k rows false) (ox := x) (kn := c) (Nat.le_refl _) (fun _ _ _ => rfl) ⟨rfl, rfl⟩ (fun b hb => ⟨(hx b hb).1, ho.notS hb, (hx b hb).2⟩) (fun ρ' κ' h' h1 h2 h3 => by
    have := ho.blk
    simp only [BlkOK] at this ⊢
    rw [h1, h2]
    exact this)
  have h2 := h1.know (t := t) (x := .loc n 0 rows.length) (.loc _ _ _ _ (fun k' l' z' hl => by
    simp only [hput, if_true] at hl
    obtain ⟨rfl, rfl, rfl⟩ : k = k' ∧ rows = l' ∧ false = z' := by simpa using hl
    have := ho.loc k rows false rfl
    rw [ht]
    simpa using this))
  have e : (⟨upd σ.f.s (some t) (.loc n 0 rows.length), hput σ.f.h n (some (.arr k rows false))⟩ : FSt) = (⟨(t, .loc n 0 rows.length) :: σ.s, (n, .arr k rows false) :: σ.h⟩ : St).f := by
    simp only [St.f, FSt.mk.injEq]
    refine ⟨funext fun u => ?_, funext fun m => ?_⟩
    · by_cases hu : u = t
      · subst hu; simp [upd, look]
      · have hu' : ¬ t = u := fun e => hu e.symm
        simp [upd, look, hu]
    · by_cases hm : m = n
      · subst hm; simp [hput, hlook]
      · have hm' : ¬ n = m := fun e => hm e.symm
        simp [hput, hlook, hm]
  rw [e] at h2
  exact h2
end Go.Vs

namespace Go.Vs
set_option linter.unusedSectionVars false
set_option linter.unusedVariables false
variable {P : Program}

theorem Own.rc {S : Nat → Prop} {w : World} {x : Option Nat} {c k : Nat} {rows : List (List AV)} {v : Value} (h : Own S w x c k rows v) : RC (fun b => x = some b) w (.sl k rows) v := by
  letI : Envs := ⟨[]⟩
  obtain ⟨_, base, cap, rfl, h1, h2, h3, _⟩ := h.loc k rows false rfl
  obtain ⟨hrk, hblk⟩ := h.blk
  rcases hblk with ⟨hn, hnil⟩ | ⟨y, cs, T, fr, g1, g2, g3, _, _, g5, g6, g7⟩
  · subst hnil
    refine .sl k [] base cap 0 0 (fun _ => undef) (by simp) (by simp) (by simp) (by simp) (by simp) ⟨by omega, h2⟩
  · refine .sl k rows base cap y 0 (fun i => cs.getD i undef) (fun hne => ?_) (fun i j hi hj => ?_) (fun i j hi hj => (g7 i j hi hj).1) (fun i j hi hj => ?_) hrk ⟨by omega, h2⟩
    · obtain ⟨z, hz, hbase⟩ := h3 (List.length_pos_iff.2 hne)
      have g1' : x = some y := g1
      have hz' : x = some z := hz
      rw [g1'] at hz'
      obtain rfl := Option.some.inj hz'
      exact ⟨by rw [hbase]; simp, g1'⟩
    · have hlt : i * k + j < cs.size := by
        have : i * k + k ≤ rows.length * k := by rw [← Nat.succ_mul]; exact Nat.mul_le_mul_right k hi
        omega
      simp [World.cell?, g2, hlt]
    · have hm : rows.getD i [] ∈ rows := by
        rw [List.getD_eq_getElem?_getD, List.getElem?_eq_getElem hi]; exact List.getElem_mem _
      exact RC.mono (S := fun _ => False) (w := w) (fun _ h => h.elim) (fun _ h => h.elim) (((g7 i j hi hj).2).flat (flatL_getD (h.fl _ hm)))

/-- A row of values, each of which reads as more. -/
theorem rc_graft {w : World} {D0 D : Nat → Prop} {ss : List Value} {xs : List AV} {v : Value} (h0 : RC D0 w (.sl 1 (ss.map fun s => [AV.v s])) v) (hl : xs.length = ss.length) (hr : ∀ j, j < ss.length → RC D w (xs.getD j .junk) (ss.getD j undef)) :
    RC (fun b => D0 b ∨ D b) w (.sl 1 (xs.map fun x => [x])) v := by
  letI : Envs := ⟨[]⟩
  generalize hL : (ss.map fun s => [AV.v s]) = L at h0
  cases h0 with
  | sl _ _ base cap x off ys hb hc ho hrr hk hcap =>
    subst hL
    have e : (ss.map fun s => [AV.v s]).length = (xs.map fun x => [x]).length := by simp [hl]
    have hlen : (ss.map fun s => [AV.v s]).length = ss.length := by simp
    have hlen2 : (xs.map fun x => [x]).length = ss.length := by simp [hl]
    rw [e]
    refine .sl 1 _ base cap x off ys (fun hne => ?_) (fun i j hi hj => hc i j (by rw [hlen]; rw [hlen2] at hi; exact hi) hj) (fun i j hi hj => ho i j (by rw [hlen]; rw [hlen2] at hi; exact hi) hj) (fun i j hi hj => ?_) (fun i hi => ?_) (by rw [← e]; exact hcap)
    · have := hb (fun h => hne (List.length_eq_zero_iff.1 (by rw [hlen2, ← hlen, h]; rfl)))
      exact ⟨this.1, .inl this.2⟩
    · obtain rfl : j = 0 := by omega
      have hi' : i < ss.length := by rw [hlen2] at hi; exact hi
      have h1 := hrr i 0 (by rw [hlen]; exact hi') (by omega)
      have e1 : ((ss.map fun s => [AV.v s]).getD i []).getD 0 .junk = .v ss[i] := by simp [hi']
      rw [e1] at h1
      have e3 : ys (i * 1 + 0) = ss[i] := inv_v (ρ := fun _ => none) (κ := fun _ => 0) (h := fun _ => none) (.clo h1)
      rw [e3]
      have hx : i < xs.length := by omega
      have e2 : ((xs.map fun x => [x]).getD i []).getD 0 .junk = xs.getD i .junk := by simp [hx]
      rw [e2]
      have := hr i hi'
      have e4 : ss.getD i undef = ss[i] := by simp [hi']
      rw [e4] at this
      exact this.mono (fun _ h => .inr h) fun _ _ => rfl
    · have : i < xs.length := by rw [hlen2] at hi; omega
      simp [this]

/-- where a deck lies: the block of its row, its cards' slices and blocks -/
structure Mem where
  x0 : Option Nat
  ss : List Value
  xs : Nat → Option Nat
  cs : Nat → Nat
def Mem.D (m : Mem) (b : Nat) : Prop := m.x0 = some b ∨ ∃ i, i < m.ss.length ∧ m.xs i = some b
/-- A deck in memory of its own. -/
structure Dk (w : World) (ls : List (List (List AV))) (v : Value) (m : Mem) : Prop where
  root : RC (fun b => m.x0 = some b) w (.sl 1 (m.ss.map fun s => [AV.v s])) v
  rows : OwnL (fun b => m.x0 = some b) w 1 ls m.ss m.xs m.cs
  lt : ∀ b, m.D b → b < w.heap.size

theorem Dk.same {w w' : World} {ls : List (List (List AV))} {v : Value} {m : Mem} (h : Dk w ls v m) (hs : w.heap.size ≤ w'.heap.size) (hw : ∀ b, m.D b → w'.heap[b]? = w.heap[b]?) : Dk w' ls v m :=
  letI : Envs := ⟨[]⟩
  ⟨h.root.mono (fun _ h => h) fun b hb => hw b (.inl hb), h.rows.mono (fun i b hi hb => (h.rows.row i hi).no hb) fun i b hi hb => hw b (.inr ⟨i, hi, hb⟩), fun b hb => Nat.lt_of_lt_of_le (h.lt b hb) hs⟩
theorem Dk.rd {w : World} {ls : List (List (List AV))} {v : Value} {m : Mem} (h : Dk w ls v m) : RC m.D w (.sl 1 (ls.map fun r => [.sl 1 r])) v := by
  letI : Envs := ⟨[]⟩
  have hl := h.rows.len
  have := rc_graft (D := fun b => ∃ i, i < m.ss.length ∧ m.xs i = some b) (xs := ls.map fun r => AV.sl 1 r) h.root (by simp [hl]) fun j hj => by
    have hlj : j < ls.length := by omega
    have e : (ls.map fun r => AV.sl 1 r).getD j .junk = .sl 1 (ls.getD j []) := by simp [hlj]
    rw [e]
    exact (h.rows.row j hj).rc.mono (fun b hb => ⟨j, hj, hb⟩) fun _ _ => rfl
  rw [List.map_map] at this
  exact this.mono (fun _ h => h) fun _ _ => rfl

/-- no cards at all -/
theorem Dk.nil (w : World) : Dk w [] (.slice none 0 0) ⟨none, [], fun _ => none, fun _ => 0⟩ :=
  ⟨.sl 1 [] none 0 0 0 (fun _ => undef) (by simp) (by simp) (by simp) (by simp) (by simp) ⟨by simp, by decide⟩, ⟨rfl, by simp, by simp⟩, fun b hb => by
    rcases hb with h | ⟨i, hi, _⟩
    · cases h
    · simp at hi⟩
/-- A deck that was not there before. -/
def NewDk (w w' : World) (ls : List (List (List AV))) (v : Value) : Prop := ∃ m, Dk w' ls v m ∧ ∀ b, m.D b → w.heap.size ≤ b

theorem OK.put1R [Envs] {C : Ctx} {σ : St} {a : Act} {w : World} {S : Nat → Prop} {ρ : Name → Option Nat} {κ : Name → Nat} (hok : OK C σ.f a w S ρ κ) {d : Nat} (hd : d < C.nt) {r : AV} {u : Value} (hr : RC S w r u) : OK C (⟨(d, r) :: σ.s, σ.h⟩ : St).f (a.put (some d) u) w S ρ κ := by
  have := hok.put (x := r) (v := u) (d := some d) (.clo hr) (fun d' hd' => by
    obtain rfl := Option.some.inj hd'
    exact hd)
  have e : (⟨(d, r) :: σ.s, σ.h⟩ : St).f = ⟨upd σ.f.s (some d) r, σ.f.h⟩ := by
    simp [St.f, look, upd, eq_comm]
  rw [e]
  exact this
variable {I : Envs} {C1 : Ctx} {σ τ : St} {a : Act} {w : World} {S : Nat → Prop}
theorem Pt.putR (h : Pt I C1 σ a w S) {d : Nat} (hd : d < C1.nt) {r : AV} {u : Value} (hr : RC S w r u) : Pt I C1 ⟨(d, r) :: σ.s, σ.h⟩ (a.put (some d) u) w S := by
  obtain ⟨hM, hrr, C, ρ, κ, hw0, hS0, hmu, hl, hok⟩ := h
  refine ⟨hM, hrr, C, ρ, κ, hw0, hS0, hmu, hl, ?_⟩
  exact @OK.put1R I _ _ _ _ _ _ _ hok d (by rw [hl.nt]; exact hd) r u hr

variable {nt : Nat} {dr : Nat → Array Oper → Option (List Nat)} {Q : Exit → Act → World → Prop}
/-- A call by hand that made memory D only. -/
theorem Pt.grow (h : Pt I C1 σ a w S) {w' : World} (hg : Grew w w') {D : Nat → Prop} (hD : ∀ b, D b → w.heap.size ≤ b ∧ b < w'.heap.size) (s' : List (Nat × AV)) (hs : ∀ p, p ∈ s' → p.2 = look σ.s p.1 ∧ (flat p.2 = true ∨ isClo p.2 = true)) :
    Pt (keepE (fun b => S b ∨ D b) w') C1 ⟨s', σ.h⟩ a w' (fun b => S b ∨ D b) :=
  h.jump (fun _ => False) hg.size (fun b hb _ => hg.old b hb) (fun _ h => h.elim) hg.out (fun b hb => hb.elim (fun hb => ⟨Nat.lt_of_lt_of_le (h.dom b hb) hg.size, .inl hb⟩) fun hb => ⟨(hD b hb).2, .inr (hD b hb).1⟩) (fun b hb => .inl (h.sub b hb)) s' fun p hp => by
    obtain ⟨e, hf | hc⟩ := hs p hp
    · exact .inl ⟨e, hf⟩
    · right
      rw [e] at hc ⊢
      exact RC.mono (fun b hb => .inl hb) (fun b hb => hg.old b (h.dom b hb)) (h.val hc)
/-- A call by hand that wrote memory D; what K holds is known behind it. -/
theorem Pt.marked (h : Pt I C1 σ a w S) {w' : World} {D : Nat → Prop} (hsz : w.heap.size ≤ w'.heap.size) (hw : ∀ b, b < w.heap.size → ¬ D b → w'.heap[b]? = w.heap[b]?) (ho : w'.os = w.os ∧ w'.output = w.output)
    (hD : ∀ b, D b → C1.w0.heap.size ≤ b ∧ S b) {K : Nat → Prop} (hK : ∀ b, K b → S b) (h0 : ∀ b, C1.S0 b → K b) (s' : List (Nat × AV)) (hs : ∀ p, p ∈ s' → p.2 = look σ.s p.1 ∧ flat p.2 = true) : Pt (keepE K w') C1 ⟨s', σ.h⟩ a w' K :=
  h.jump D hsz hw hD ho (fun b hb => ⟨Nat.lt_of_lt_of_le (h.dom b (hK b hb)) hsz, .inl (hK b hb)⟩) h0 s' fun p hp => .inl (hs p hp)
/-- less is told -/
theorem Pt.le (h : Pt I C1 σ a w S) (hle : LeL σ τ) (hτ : ∀ p, p ∈ τ.h → flatB p.2 ∧ p.2.fz = false) : Pt I C1 τ a w S := by
  obtain ⟨hM, hr, C, ρ, κ, hw0, hS0, hmu, hl, hok⟩ := h
  exact Pt.of_ok hM hτ hl (@OK.le I _ _ _ _ _ _ _ _ hok hle)
/-- a row under another name -/
theorem Pt.ren (h : Pt I C1 σ a w S) {n m : Name} (hn : n ≠ m) (hf : freshL m σ = true) (hτ : ∀ p, p ∈ (renL n m σ).h → flatB p.2 ∧ p.2.fz = false) : Pt I C1 (renL n m σ) a w S := by
  obtain ⟨hM, hr, C, ρ, κ, hw0, hS0, hmu, hl, hok⟩ := h
  obtain ⟨ρ', κ', h'⟩ := @OK.renL I C a w S ρ κ σ n m hn hf hok
  exact Pt.of_ok hM hτ hl h'
theorem Pt.out (h : Pt I C1 σ a w S) : Grew C1.w0 w := by
  obtain ⟨hM, hrr, C, ρ, κ, hw0, hS0, hmu, hl, hok⟩ := h
  exact @OK.grew I _ _ _ _ _ _ _ (@OK.back I _ _ _ _ _ _ _ hl _ hok) fun b _ => hM b
/-- A row that a struct of one slice holds is hidden: what it holds lies in a block of its own. -/
theorem Pt.bury (h : Pt I C1 σ a w S) {n : Name} {k : Nat} {rows : List (List AV)} (hb : hlook σ.h n = some (.arr k rows false)) (hfl : ∀ r, r ∈ rows → flatL r = true) {t : Nat} (ht : look σ.s t = .agg [.loc n 0 rows.length]) (hkh : ∀ p, p ∈ (killL n σ).h → flatB p.2 ∧ p.2.fz = false) :
    ∃ s x c, (∃ b m c', s = Value.slice b m c') ∧ Own (fun _ => False) w x c k rows s ∧ (∀ b, x = some b → C1.w0.heap.size ≤ b ∧ b < w.heap.size ∧ ¬ S b) ∧
      ∀ s' : List (Nat × AV), (∀ p, p ∈ s' → (p.2 = look (killL n σ).s p.1 ∧ flat p.2 = true) ∨ (p.2 = look σ.s p.1 ∧ isClo p.2 = true) ∨ p = (t, .agg [.v s])) →
        Pt (keepE (fun b => S b ∨ x = some b) w) C1 ⟨s', (killL n σ).h⟩ a w (fun b => S b ∨ x = some b) := by
  have hbase := h.base
  have hdom := h.dom
  have hsub := h.sub
  have hval : ∀ {t : Nat}, isClo (look σ.s t) = true → RC S w (look σ.s t) (a.tmps.getD t undef) := fun hc => h.val hc
  obtain ⟨hM, hr, C, ρ, κ, hw0, hS0, hmu, hl, hok⟩ := h
  have hs := @OK.slots I _ _ _ _ _ _ _ hok t
  rw [show σ.f.s t = _ from ht] at hs
  obtain ⟨vs, hv, hsz, hrs⟩ := inv_agg hs
  have hr0 : RV S w ρ κ σ.f.h (.loc n 0 rows.length) (vs.getD 0 undef) := hrs 0 (by simp)
  have hown := @OK.own I C a w S ρ κ σ.f hok n k rows hb hfl _ hr0
  have hnS : ∀ b, ρ n = some b → ¬ S b := fun b hb' => hown.no hb'
  have hlt : ∀ b, ρ n = some b → b < w.heap.size := fun b hb' => hok.hok.lt (n := n) (by rw [show σ.f.h n = _ from hb]; rfl) hb'
  have hge : ∀ b, ρ n = some b → C1.w0.heap.size ≤ b := fun b hb' => by
    rcases (@OK.back I _ _ _ _ _ _ _ hl _ hok).mine n b (by rw [show σ.f.h n = _ from hb]; rfl) hb' with h | h
    · exact h
    · exact (hM b h).elim
  obtain ⟨b0, c0, hsl⟩ : ∃ b0 c0, vs.getD 0 undef = .slice b0 rows.length c0 := by
    obtain ⟨_, b1, c1, e, _⟩ := hown.loc k rows false rfl
    exact ⟨b1, c1, e⟩
  refine ⟨vs.getD 0 undef, ρ n, κ n, ⟨_, _, _, hsl⟩, hown.mono (fun _ _ h => h) (fun _ _ => rfl), fun b hb' => ⟨hge b hb', hlt b hb', hnS b hb'⟩, fun s' hs' => ?_⟩
  have hkok : @OK I C (killL n σ).f a w S ρ κ := by rw [killL_f]; exact hok.kill n
  have hkn : ∀ m, ((killL n σ).f.h m).isSome → m ≠ n ∧ (σ.f.h m).isSome := fun m hm => by
    rw [killL_f] at hm
    simp only [killF] at hm
    split at hm
    · cases hm
    · rename_i hne
      refine ⟨hne, ?_⟩
      cases hx : σ.f.h m with
      | none => rw [hx] at hm; cases hm
      | some b => rfl
  obtain ⟨h1, h2⟩ := OK.jump I (keepE (fun b => S b ∨ ρ n = some b) w) hl hM hkok (fun _ => False) (Nat.le_refl _) (fun _ _ _ => rfl) (fun _ h => h.elim) ⟨rfl, rfl⟩ (S' := fun b => S b ∨ ρ n = some b) (fun b hb' => hb'.elim (hdom b) (hlt b)) (fun b hb' => .inl (hsub b hb'))
    (fun b hb' => hb'.elim (hbase b) fun h => .inr (hge b h)) (fun b hb' m hm hx => by
      obtain ⟨g1, g2⟩ := hkn m hm
      rcases hb' with h | h
      · obtain ⟨b', hb''⟩ := Option.isSome_iff_exists.1 g2
        exact @OK.noS I _ _ _ _ _ _ _ hok _ _ hb'' (hr _ (hlook_mem2 hb'')).2 _ hx h
      · exact g1 (hok.hok.inj m n b g2 (by rw [show σ.f.h n = _ from hb]; rfl) hx h)) keepE_env hkh s' (fun p hp => by
      rcases hs' p hp with h | ⟨e, hc⟩ | rfl
      · exact .inl h
      · right
        rw [e] at hc ⊢
        exact RC.mono (fun b hb => .inl hb) (fun _ _ => rfl) (hval hc)
      · right
        show RC _ w (.agg [.v (vs.getD 0 undef)]) (a.tmps.getD t undef)
        rw [hv]
        refine .agg _ _ hsz fun j hj => ?_
        obtain rfl : j = 0 := by simpa using hj
        exact .v _)
  exact ⟨hM, hkh, _, ρ, κ, rfl, rfl, fun _ h => h, h2, h1⟩

/-- A row that a call by hand left in a block of its own gets a name. -/
theorem Pt.adopt (h : Pt I C1 σ a w S) {n : Name} (hf : freshL n σ = true) {x : Option Nat} {c k : Nat} {rows : List (List AV)} {v : Value} (ho : Own (fun _ => False) w x c k rows v) (hx : ∀ b, x = some b → C1.w0.heap.size ≤ b ∧ S b ∧ ¬ C1.S0 b) {t : Nat} (ht : look σ.s t = .v v)
    (hs : ∀ p, p ∈ σ.s → flat p.2 = true) : Pt (keepE (fun b => S b ∧ x ≠ some b) w) C1 ⟨(t, .loc n 0 rows.length) :: σ.s, (n, .arr k rows false) :: σ.h⟩ a w (fun b => S b ∧ x ≠ some b) := by
  have hlk : ∀ (s : List (Nat × AV)), (∀ p, p ∈ s → p.2 = look s p.1 ∨ True) := fun _ _ _ => .inr trivial
  have hvv := h.valv ht
  have hbase := h.base
  have hno : ∀ b, S b → ∀ n, (σ.f.h n).isSome → True := fun _ _ _ _ => trivial
  have hrows := h.rows
  have hdom := h.dom
  have hsub := h.sub
  obtain ⟨hM, hr, C, ρ, κ, hw0, hS0, hmu, hl, hok⟩ := h
  have hnS : ∀ b, S b → ∀ m, (σ.f.h m).isSome → ρ m ≠ some b := fun b hb m hm hxm => by
    obtain ⟨b', hb'⟩ := Option.isSome_iff_exists.1 hm
    exact @OK.noS I _ _ _ _ _ _ _ hok _ _ hb' (hr _ (hlook_mem2 hb')).2 _ hxm hb
  have hmem : ∀ (s : List (Nat × AV)) t, look s t = .junk ∨ ∃ y, (t, y) ∈ s ∧ look s t = y := by
    intro s
    induction s with
    | nil => intro t; left; rfl
    | cons p r ih =>
      intro t
      simp only [look]
      split
      · rename_i h; subst h; right; exact ⟨_, List.mem_cons_self, rfl⟩
      · rcases ih t with h | ⟨y, h1, h2⟩
        · left; exact h
        · right; exact ⟨y, List.mem_cons_of_mem _ h1, h2⟩
  have hflat : ∀ t, flat (look σ.s t) = true := fun t => by
    rcases hmem σ.s t with h | ⟨y, h1, h2⟩
    · rw [h]; rfl
    · rw [h2]; exact hs _ h1
  have hb1 := @OK.back I _ _ _ _ _ _ _ hl _ hok
  have hok1 : @OK (keepE (fun b => S b ∧ x ≠ some b) w) C1 σ.f a w (fun b => S b ∧ x ≠ some b) ρ κ := by
    letI I' : Envs := keepE (fun b => S b ∧ x ≠ some b) w
    obtain ⟨o1, o2, o3, ⟨k1, k2, k3, k4⟩, o5, o6, o7, o8, o9, o10, o11⟩ := hb1
    refine ⟨o1, o2, fun t => RV.flatW (o3 t) (hflat t), ⟨fun m b hb => ?_, k2, fun b (hb : S b ∧ x ≠ some b) => k3 b hb.1, keepE_env⟩, o5, o6, o7, fun b hb => (show S b ∧ x ≠ some b from ⟨o8 b hb, fun e => (hx b e).2.2 hb⟩), fun b (hb : S b ∧ x ≠ some b) => o9 b hb.1, o10, o11⟩
    have hk := k1 m b hb
    have hfb := (hr _ (hlook_mem2 (show hlook σ.h m = some b from hb)))
    cases b with
    | var c z =>
      obtain ⟨y, cs, T, fr, g1, g2, g3, g4, g4', g5, g6, g7⟩ := hk
      have hz' : z = false := hfb.2
      subst hz'
      exact ⟨y, cs, T, fr, g1, g2, g3, fun _ hy => g4 rfl hy.1, fun h => (by cases h), g5, g6, fun j hj => ⟨(g7 j hj).1, RV.flatW (g7 j hj).2 (flatL_getD hfb.1)⟩⟩
    | arr k' l z =>
      have hz' : z = false := hfb.2
      subst hz'
      obtain ⟨g0, ⟨g1, g2⟩ | ⟨y, cs, T, fr, g1, g2, g3, g4, g4', g5, g6, g7⟩⟩ := hk
      · exact ⟨g0, .inl ⟨g1, g2⟩⟩
      · refine ⟨g0, .inr ⟨y, cs, T, fr, g1, g2, g3, fun _ hy => g4 rfl hy.1, fun h => (by cases h), g5, g6, fun i j hi hj => ⟨(g7 i j hi hj).1, RC.flatW (g7 i j hi hj).2 (flatL_getD (hfb.1 _ ?_))⟩⟩⟩
        rw [List.getD_eq_getElem?_getD, List.getElem?_eq_getElem hi]; exact List.getElem_mem _
  have ho1 : Own (fun b => S b ∧ x ≠ some b) w x c k rows v := by
    obtain ⟨q1, q2, q3⟩ := ho
    refine ⟨q1, ?_, q3⟩
    obtain ⟨hk, hb⟩ := q2
    refine ⟨hk, ?_⟩
    rcases hb with hb | ⟨y, cs, T, fr, g1, g2, g3, g4, g4', g5, g6, g7⟩
    · exact .inl hb
    · have g1' : x = some y := g1
      refine .inr ⟨y, cs, T, fr, g1, g2, g3, fun _ hy => hy.2 g1', fun h => (by cases h), g5, g6, fun i j hi hj => ⟨(g7 i j hi hj).1, RC.flatW (g7 i j hi hj).2 (flatL_getD (q3 _ ?_))⟩⟩
      rw [List.getD_eq_getElem?_getD, List.getElem?_eq_getElem hi]; exact List.getElem_mem _
  have h2 := @OK.adopt (keepE (fun b => S b ∧ x ≠ some b) w) C1 a w (fun b => S b ∧ x ≠ some b) ρ κ σ hok1 n hf x c k rows v ho1 (fun b hb => ⟨fun m hm => hnS b (hx b hb).2.1 m hm, .inl (hx b hb).1⟩) t hvv
  exact Pt.of_ok hM (fun p hp => by
    rcases List.mem_cons.1 hp with rfl | hp
    · exact ⟨ho.fl, rfl⟩
    · exact hr p hp) (Later.refl C1) h2
/-- two ways -/
theorem Pt.cond (h : Pt I C1 σ a w S) {t : Nat} {b : Bool} {x y : ACode} (hb : look σ.s t = .v (.bool b)) (hx : b = true → At P nt dr x Q a w) (hy : b = false → At P nt dr y Q a w) : At P nt dr (.cond (.tmp t) x y) Q a w :=
  At.cond (t := b) (by have := h.valv hb; exact this) hx hy
end Go.Vs
