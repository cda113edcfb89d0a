/- Points of a walk: what is known is kept as values, memory by memory. -/
import Derived.Test.YtpdmjalhahblmaaDoorVuA
namespace Go.Vs
set_option linter.unusedSectionVars false
set_option linter.unusedVariables false
variable {P : Program}

theorem RC.flatW [Envs] {S S' : Nat → Prop} {w w' : World} {x : AV} {v : Value} (h : RC S w x v) (hf : Vs.flat x = true) : RC S' w' x v :=
  RC.mono (S := fun _ => False) (w := w) (fun _ h => h.elim) (fun _ h => h.elim) (RC.flat h hf)
theorem RV.flatW [Envs] {S S' : Nat → Prop} {w w' : World} {ρ : Name → Option Nat} {κ : Name → Nat} {hh : Name → Option Blk} {x : AV} {v : Value} (h : RV S w ρ κ hh x v) (hf : Vs.flat x = true) : RV S' w' ρ κ hh x v :=
  (show RV (fun _ => False) w ρ κ hh x v from RV.flat h hf).mono (fun _ h => h.elim) (fun _ h => h.elim) fun m _ => NameOK.refl _ _ _ _
theorem OK.namesLt [Envs] {C : Ctx} {σ : FSt} {a : Act} {w : World} {S : Nat → Prop} {ρ : Name → Option Nat} {κ : Name → Nat} (hok : OK C σ a w S ρ κ) : ∀ n x, (σ.h n).isSome → ρ n = some x → x < w.heap.size := fun n x hn hx => hok.hok.lt hn hx
theorem OK.put1 [Envs] {C : Ctx} {σ : St} {a : Act} {w : World} {S : Nat → Prop} {ρ : Name → Option Nat} {κ : Name → Nat} (hok : OK C σ.f a w S ρ κ) {d : Nat} (hd : d < C.nt) (u : Value) : OK C (⟨(d, .v u) :: σ.s, σ.h⟩ : St).f (a.put (some d) u) w S ρ κ := by
  have := hok.put (x := .v u) (v := u) (d := some d) (.clo (.v u)) (fun d' hd' => by
    obtain rfl := Option.some.inj hd'
    exact hd)
  have e : (⟨(d, .v u) :: σ.s, σ.h⟩ : St).f = ⟨upd σ.f.s (some d) (.v u), σ.f.h⟩ := by
    simp [St.f, look, upd, eq_comm]
  rw [e]
  exact this
/-- The walk goes on in a world in which memory D was written (none of it has a name), with another set and other tables. -/
theorem OK.jump (I I' : Envs) {C1 C : Ctx} {σ : St} {a : Act} {w w' : World} {S : Nat → Prop} {ρ : Name → Option Nat} {κ : Name → Nat} (hl : Later C1 C) (hM1 : ∀ b, ¬ C1.Mut b) (hok : @OK I C σ.f a w S ρ κ)
    (D : Nat → Prop) (hsz : w.heap.size ≤ w'.heap.size) (hw : ∀ b, b < w.heap.size → ¬ D b → w'.heap[b]? = w.heap[b]?) (hD : ∀ b, D b → C1.w0.heap.size ≤ b ∧ ∀ n, (σ.f.h n).isSome → ρ n ≠ some b)
    (ho : w'.os = w.os ∧ w'.output = w.output) {S' : Nat → Prop} (hS : ∀ b, S' b → b < w'.heap.size) (h0 : ∀ b, C1.S0 b → S' b) (h1 : ∀ b, S' b → C1.S0 b ∨ C1.w0.heap.size ≤ b)
    (hN : ∀ b, S' b → ∀ n, (σ.f.h n).isSome → ρ n ≠ some b) (he : @Env I' S' w') (hcl : ∀ p, p ∈ σ.h → flatB p.2 ∧ p.2.fz = false) (s' : List (Nat × AV))
    (hs : ∀ p, p ∈ s' → (p.2 = look σ.s p.1 ∧ flat p.2 = true) ∨ RC S' w' p.2 (a.tmps.getD p.1 undef)) :
    @OK I' (C.anew w' S' σ.f.h ρ) (⟨s', σ.h⟩ : St).f a w' S' ρ κ ∧ Later C1 (C.anew w' S' σ.f.h ρ) := by
  have hb := @OK.back I _ _ _ _ _ _ _ hl _ hok
  have hlt : ∀ n x, (σ.f.h n).isSome → ρ n = some x → x < w.heap.size := @OK.namesLt I _ _ _ _ _ _ _ hok
  have hkeep : ∀ n x, (σ.f.h n).isSome → ρ n = some x → w'.heap[x]? = w.heap[x]? := fun n x hn hx => hw x (hlt n x hn hx) fun hd => (hD x hd).2 n hn hx
  have hlk : ∀ (s : List (Nat × AV)) t, look s t = .junk ∨ (t, look s t) ∈ s := by
    intro s
    induction s with
    | nil => intro t; left; rfl
    | cons p r ih =>
      intro t
      simp only [look]
      split
      · rename_i h; subst h; right; exact List.mem_cons_self
      · rcases ih t with h | h
        · left; exact h
        · right; exact List.mem_cons_of_mem _ h
  obtain ⟨g1, g2, g3, ⟨j1, j2, j3, j4⟩, g5, g6, g7, g8, g9, g10, g11⟩ := hb
  obtain ⟨o1, o2, o3, ⟨k1, k2, k3, k4⟩, o5, o6, o7, o8, o9, o10, o11⟩ := hok
  constructor
  · refine ⟨o1, o2, fun t => ?_, ⟨fun n b hb => ?_, k2, hS, he⟩, Nat.le_refl _, fun _ _ _ => rfl, fun n x h1 h2 => .inr ⟨n, h1, h2⟩, fun _ h => h, fun b hb => .inl hb, ⟨rfl, rfl⟩, o11⟩
    · show RV S' w' _ _ _ (look s' t) _
      rcases hlk s' t with h | h
      · rw [h]; exact .junk _
      · rcases hs _ h with ⟨e, hf⟩ | e
        · have h1 := o3 t
          have e' : look s' t = look σ.s t := e
          have hf' : flat (look s' t) = true := hf
          rw [e'] at hf' ⊢
          exact RV.flatW h1 hf'
        · exact .clo e
    · have hb' : σ.f.h n = some b := hb
      have hk := k1 n b hb'
      have hn : ∀ x, ρ n = some x → ¬ S' x := fun x hx hs => hN x hs n (by rw [hb']; rfl) hx
      have hu : ∀ x, ρ n = some x → w'.heap[x]? = w.heap[x]? := fun x hx => hkeep n x (by rw [hb']; rfl) hx
      obtain ⟨hf, hz⟩ := hcl _ (hlook_mem2 hb')
      cases b with
      | var c z =>
        obtain ⟨x, cs, T, fr, g1, g2, g3, g4, g4', g5, g6, g7⟩ := hk
        have hz' : z = false := hz
        subst hz'
        exact ⟨x, cs, T, fr, g1, by rw [hu x g1]; exact g2, g3, fun _ hx => hn x g1 hx, fun h => (by cases h), g5, g6, fun j hj => ⟨(g7 j hj).1, RV.flatW (g7 j hj).2 (flatL_getD hf)⟩⟩
      | arr k l z =>
        have hz' : z = false := hz
        subst hz'
        obtain ⟨g0, ⟨g1, g2⟩ | ⟨x, cs, T, fr, g1, g2, g3, g4, g4', g5, g6, g7⟩⟩ := hk
        · exact ⟨g0, .inl ⟨g1, g2⟩⟩
        · refine ⟨g0, .inr ⟨x, cs, T, fr, g1, by rw [hu x g1]; exact g2, g3, fun _ hx => hn x g1 hx, fun h => (by cases h), g5, g6, fun i j hi hj => ⟨(g7 i j hi hj).1, RC.flatW (g7 i j hi hj).2 (flatL_getD (hf _ ?_))⟩⟩⟩
          rw [List.getD_eq_getElem?_getD, List.getElem?_eq_getElem hi]; exact List.getElem_mem _
  · refine ⟨hl.nt, Nat.le_trans g5 hsz, fun b hb hm => ?_, fun b hb => ?_, h0, fun b hb => (h1 b hb).imp_right .inl, ⟨ho.1.trans g10.1, ho.2.trans g10.2⟩, hl.base⟩
    · show w'.heap[b]? = _
      rw [hw b (Nat.lt_of_lt_of_le hb g5) fun hd => (by have := (hD b hd).1; omega)]
      exact g6 b hb hm
    · obtain ⟨n, q1, q2⟩ := hb
      exact g7 n b q1 q2

/-- A point of a walk that began at C1: the state, the world, and the set of all that may be read. -/
structure Pt (I : Envs) (C1 : Ctx) (σ : St) (a : Act) (w : World) (S : Nat → Prop) : Prop where
  nomut : ∀ b, ¬ C1.Mut b
  rows : ∀ p, p ∈ σ.h → flatB p.2 ∧ p.2.fz = false
  ex : ∃ (C : Ctx) (ρ : Name → Option Nat) (κ : Name → Nat), C.w0 = w ∧ C.S0 = S ∧ (∀ b, C.Mut b → ∃ n, (σ.f.h n).isSome ∧ ρ n = some b) ∧ Later C1 C ∧ @OK I C σ.f a w S ρ κ

variable {I : Envs} {C1 : Ctx} {σ τ : St} {a : Act} {w : World} {S : Nat → Prop}
theorem Pt.of_ok {C : Ctx} {ρ : Name → Option Nat} {κ : Name → Nat} (hM : ∀ b, ¬ C1.Mut b) (hr : ∀ p, p ∈ σ.h → flatB p.2 ∧ p.2.fz = false) (hl : Later C1 C) (hok : @OK I C σ.f a w S ρ κ) : Pt I C1 σ a w S :=
  ⟨hM, hr, C.anew w S σ.f.h ρ, ρ, κ, rfl, rfl, fun _ h => h, hl.trans (@OK.later I _ _ _ _ _ _ _ hok), @OK.anew I _ _ _ _ _ _ _ hok⟩

theorem Pt.dom (h : Pt I C1 σ a w S) : ∀ b, S b → b < w.heap.size := by
  obtain ⟨_, _, C, ρ, κ, _, _, _, _, hok⟩ := h
  exact hok.hok.dom
theorem Pt.env (h : Pt I C1 σ a w S) : @Env I S w := by
  obtain ⟨_, _, C, ρ, κ, _, _, _, _, hok⟩ := h
  exact @HOK.env I _ _ _ _ _ (@OK.hok I _ _ _ _ _ _ _ hok)
theorem Pt.base (h : Pt I C1 σ a w S) : ∀ b, S b → C1.S0 b ∨ C1.w0.heap.size ≤ b := by
  obtain ⟨hM, _, C, ρ, κ, _, _, _, hl, hok⟩ := h
  intro b hb
  rcases (@OK.back I _ _ _ _ _ _ _ hl _ hok).Snew b hb with h | h | h
  · exact .inl h
  · exact .inr h
  · exact (hM b h).elim
theorem Pt.sub (h : Pt I C1 σ a w S) : ∀ b, C1.S0 b → S b := by
  obtain ⟨hM, _, C, ρ, κ, _, _, _, hl, hok⟩ := h
  exact (@OK.back I _ _ _ _ _ _ _ hl _ hok).S0
theorem Pt.size (h : Pt I C1 σ a w S) : C1.w0.heap.size ≤ w.heap.size := by
  obtain ⟨hM, _, C, ρ, κ, _, _, _, hl, hok⟩ := h
  exact (@OK.back I _ _ _ _ _ _ _ hl _ hok).size
/-- what a slot reads as -/
theorem Pt.val (h : Pt I C1 σ a w S) {t : Nat} (hc : isClo (look σ.s t) = true) : RC S w (look σ.s t) (a.tmps.getD t undef) := by
  obtain ⟨hM, _, C, ρ, κ, _, _, _, hl, hok⟩ := h
  exact RV.closed (@OK.slots I _ _ _ _ _ _ _ hok t) hc
theorem Pt.valv (h : Pt I C1 σ a w S) {t : Nat} {v : Value} (hc : look σ.s t = .v v) : a.tmps.getD t undef = v := by
  obtain ⟨hM, _, C, ρ, κ, _, _, _, hl, hok⟩ := h
  have := @OK.slots I _ _ _ _ _ _ _ hok t
  rw [show σ.f.s t = .v v from hc] at this
  exact inv_v this

/-- A call by hand has been done: memory D was written. -/
theorem Pt.jump (h : Pt I C1 σ a w S) {w' : World} (D : Nat → Prop) (hsz : w.heap.size ≤ w'.heap.size) (hw : ∀ b, b < w.heap.size → ¬ D b → w'.heap[b]? = w.heap[b]?) (hD : ∀ b, D b → C1.w0.heap.size ≤ b ∧ S b)
    (ho : w'.os = w.os ∧ w'.output = w.output) {S' : Nat → Prop} (hS : ∀ b, S' b → b < w'.heap.size ∧ (S b ∨ w.heap.size ≤ b)) (h0 : ∀ b, C1.S0 b → S' b) (s' : List (Nat × AV))
    (hs : ∀ p, p ∈ s' → (p.2 = look σ.s p.1 ∧ flat p.2 = true) ∨ RC S' w' p.2 (a.tmps.getD p.1 undef)) : Pt (keepE S' w') C1 ⟨s', σ.h⟩ a w' S' := by
  have hb := h.base
  have hz := h.size
  obtain ⟨hM, hr, C, ρ, κ, hw0, hS0, hmu, hl, hok⟩ := h
  have hno : ∀ b, S b → ∀ n, (σ.f.h n).isSome → ρ n ≠ some b := fun b hb n hn hx => by
    obtain ⟨b', hb'⟩ := Option.isSome_iff_exists.1 hn
    exact @OK.noS I _ _ _ _ _ _ _ hok _ _ hb' (hr _ (hlook_mem2 hb')).2 _ hx hb
  obtain ⟨h1, h2⟩ := OK.jump I (keepE S' w') hl hM hok D hsz hw (fun b hd => ⟨(hD b hd).1, hno b (hD b hd).2⟩) ho (S' := S') (fun b hb => (hS b hb).1) h0 (fun b h => by
    rcases (hS b h).2 with h | h
    · exact hb b h
    · exact .inr (Nat.le_trans hz h)) (fun b h n hn hx => by
    rcases (hS b h).2 with h | h
    · exact hno b h n hn hx
    · have := hok.hok.lt hn hx; omega) keepE_env hr s' hs
  exact ⟨hM, hr, _, ρ, κ, rfl, rfl, fun _ h => h, h2, h1⟩

/-- the same point, with other words for the slots -/
theorem Pt.set (h : Pt I C1 σ a w S) (s' : List (Nat × AV)) (hs : ∀ p, p ∈ s' → (p.2 = look σ.s p.1 ∧ flat p.2 = true) ∨ RC S w p.2 (a.tmps.getD p.1 undef)) : Pt (keepE S w) C1 ⟨s', σ.h⟩ a w S :=
  h.jump (fun _ => False) (Nat.le_refl _) (fun _ _ _ => rfl) (fun _ h => h.elim) ⟨rfl, rfl⟩ (fun b hb => ⟨h.dom b hb, .inl hb⟩) h.sub s' hs

theorem Pt.put (h : Pt I C1 σ a w S) {d : Nat} (hd : d < C1.nt) (u : Value) : Pt I C1 ⟨(d, .v u) :: σ.s, σ.h⟩ (a.put (some d) u) w S := by
  obtain ⟨hM, hr, C, ρ, κ, hw0, hS0, hmu, hl, hok⟩ := h
  refine ⟨hM, hr, C, ρ, κ, hw0, hS0, hmu, hl, ?_⟩
  exact @OK.put1 I _ _ _ _ _ _ _ hok d (by rw [hl.nt]; exact hd) u

variable {nt : Nat} {dr : Nat → Array Oper → Option (List Nat)} {Q : Exit → Act → World → Prop}
/-- what stays from one point to a later one -/
structure Past (S : Nat → Prop) (w : World) (S' : Nat → Prop) (w' : World) : Prop where
  sub : ∀ b, S b → S' b
  old : ∀ b, S b → w'.heap[b]? = w.heap[b]?
  size : w.heap.size ≤ w'.heap.size
theorem Past.refl (S : Nat → Prop) (w : World) : Past S w S w := ⟨fun _ h => h, fun _ _ => rfl, Nat.le_refl _⟩
theorem Past.trans {S' S'' : Nat → Prop} {w' w'' : World} (h : Past S w S' w') (h' : Past S' w' S'' w'') : Past S w S'' w'' :=
  ⟨fun b hb => h'.sub b (h.sub b hb), fun b hb => (h'.old b (h.sub b hb)).trans (h.old b hb), Nat.le_trans h.size h'.size⟩
theorem Past.rc {S' : Nat → Prop} {w' : World} (h : Past S w S' w') {D : Nat → Prop} (hD : ∀ b, D b → S b) {x : AV} {v : Value} (hx : RC D w x v) : RC D w' x v :=
  letI : Envs := ⟨[]⟩
  hx.mono (fun _ h => h) fun b hb => h.old b (hD b hb)
theorem Pt.later {C : Ctx} {ρ : Name → Option Nat} {κ : Name → Nat} {S' : Nat → Prop} {a' : Act} {w' : World} (hw0 : C.w0 = w) (hS0 : C.S0 = S) (hno : ∀ b, S b → b < w.heap.size ∧ ¬ C.Mut b) (hok : @OK I C τ.f a' w' S' ρ κ) : Past S w S' w' := by
  refine ⟨fun b hb => @OK.S0 I _ _ _ _ _ _ _ hok b (by rw [hS0]; exact hb), fun b hb => ?_, ?_⟩
  · rw [← hw0]
    exact @OK.old I _ _ _ _ _ _ _ hok b (by rw [hw0]; exact (hno b hb).1) (hno b hb).2
  · rw [← hw0]
    exact @OK.size I _ _ _ _ _ _ _ hok

/-- A stretch by the framework. -/
theorem Pt.go (hp : Pt I C1 σ a w S) (hdr : DrawOK P dr) (hnt : C1.nt = nt) (n : Nat) (c : ACode) {X : Prop} {E : AExit → St → Prop} (hτ : ∀ p, p ∈ τ.h → flatB p.2 ∧ p.2.fz = false)
    (hv : ∀ C : Ctx, C.nt = nt → @wpcN I P C dr n c (fun σ' => LeL σ' τ ∧ X) E σ) (hE : ∀ i σ, ¬ E (.exit i) σ) (hR : ∀ C a w, Later C1 C → @GoodL I C (E .ret) a w → Q .ret a w)
    (hN : ∀ a' w' S', Past S w S' w' → Pt I C1 τ a' w' S' → X → At P nt dr (dropS n c) Q a' w') : At P nt dr c Q a w := by
  have hp' := hp
  obtain ⟨hM, hr, C, ρ, κ, hw0, hS0, hmu, hl, hok⟩ := hp
  have hCnt : C.nt = nt := hl.nt.trans hnt
  have hno : ∀ b, S b → b < w.heap.size ∧ ¬ C.Mut b := fun b hb => ⟨hp'.dom b hb, fun hm => by
    obtain ⟨n, hn, hx⟩ := hmu b hm
    obtain ⟨b', hb'⟩ := Option.isSome_iff_exists.1 hn
    exact @OK.noS I _ _ _ _ _ _ _ hok _ _ hb' (hr _ (hlook_mem2 hb')).2 _ hx hb⟩
  refine @At.upto P nt dr Q I C hdr hCnt _ E (fun i a w hg => ?_) (fun a w hg => hR C a w hl hg) n c σ a w S ρ κ hok (hv C hCnt) fun a' w' hg => ?_
  · obtain ⟨σ', _, _, _, h, _⟩ := hg
    exact (hE i σ' h).elim
  · obtain ⟨σ', S', ρ', κ', ⟨hle, hX⟩, hok'⟩ := hg
    have hok2 := @OK.le I _ _ _ _ _ _ _ _ hok' hle
    exact hN a' w' S' (Pt.later hw0 hS0 hno hok2) (Pt.of_ok hM hτ hl hok2) hX

/-- A region in its order, of which one operation is taken by hand; the rest may go by other tables. -/
theorem At.regionX [Envs] {P : Program} {C : Ctx} {a : Act} {w : World} {S : Nat → Prop} {ρ : Name → Option Nat} {κ : Name → Nat} {nt : Nat} {dr : Nat → Array Oper → Option (List Nat)} {Q : Exit → Act → World → Prop} {pre post : List AOper} {o : AOper} {out : List Nat} {σ : St} (hok : OK C σ.f a w S ρ κ) (hnt : C.nt = nt) (hg : o.guard = none)
    (hv : vc P (fun σ1 => ∀ (a : Act) (w : World) (S : Nat → Prop) (ρ : Name → Option Nat) (κ : Name → Nat) (op : Oper) (ops : Array Oper), OK C σ1.f a w S ρ κ → cOper P nt ops op = some o.bare → op.wp P a w (fun a w => ∃ I' : Envs, @RestOK I' P nt post Q a w) Q) pre σ) :
    At P nt dr (.region (pre ++ o :: post) out []) Q a w := by
  intro c hc hzc
  cases c
  case region id ops draw =>
    simp only [cCode, ACode.bare] at hc
    split at hc
    · rename_i fl' hdraw
      cases ho : cOps P nt ops ops.toList with
      | none => rw [ho] at hc; cases hc
      | some l =>
        rw [ho] at hc
        simp only [Option.map_some, Option.some.injEq, ACode.region.injEq, true_and] at hc
        obtain ⟨hl, hfl⟩ := hc
        subst hl; subst hfl
        cases draw with
        | true =>
          have hd : dr nt ops = some [] := by simpa using hdraw
          simp [zB, hd] at hzc
        | false =>
          obtain ⟨g1, g2⟩ := cOps_spec ho
          have hs : ∀ (j : Nat) (ao : AOper), (pre ++ o :: post)[j]? = some ao → ∃ op, ops[j]? = some op ∧ cOper P nt ops op = some ao.bare := fun j ao hj => by
            obtain ⟨op, q1, q2⟩ := g2 j ao hj
            exact ⟨op, by simpa using q1, q2⟩
          refine wp_region ?_
          have hlen : ops.size = pre.length + (post.length + 1) := by
            have : ops.size = (pre ++ o :: post).length := by simpa using g1
            rw [this]; simp
          rw [List.range_eq_range', hlen]
          refine region_pre (C := C) (K := _) (e := pre.length) (fun σ1 a w S ρ κ hK hok1 => ?_) pre 0 (by omega) (fun j ao hj => ?_) σ a w S ρ κ hv hok
          · obtain ⟨op, h1, h2⟩ := hs pre.length o (by simp)
            obtain ⟨_, _, _, h4⟩ := cOper_spec h2
            have hg2 : op.guard = none := by
              rcases h4 with ⟨h, _⟩ | ⟨j, want, t, _, h, _⟩
              · exact h
              · rw [hg] at h; cases h
            rw [List.range'_succ, wpOps_cons]
            unfold wpOp
            rw [h1]
            have : Region.wanted op (yielded ops a.tmps) = true := by simp [Region.wanted, hg2]
            simp only [this, if_true]
            refine .inl (Oper.wp_mono (fun a' w' hr => ?_) (hK a w S ρ κ op ops hok1 h2))
            obtain ⟨I', C', σ', S', ρ', κ', K', e1, e2, e3, e4⟩ := hr
            letI := I'
            subst e1
            have := region_pre (C := C') (P := P) (ops := ops) (Q := Q) (K := K') (e := pre.length + 1 + post.length) (m := 0) (fun σ2 a2 w2 S2 ρ2 κ2 hk hok2 => by
              simp only [List.range'_zero]
              exact e4 a2 w2 ⟨σ2, S2, ρ2, κ2, hk, hok2⟩) post (pre.length + 1) rfl (fun j ao hj => by
              obtain ⟨op', q1, q2⟩ := hs (pre.length + 1 + j) ao (by
                rw [List.getElem?_append_right (by omega), show pre.length + 1 + j - pre.length = j + 1 by omega]
                simpa using hj)
              exact ⟨op', q1, q2⟩) σ' a' w' S' ρ' κ' e3 e2
            simpa using this
          · obtain ⟨op', q1, q2⟩ := hs j ao (by
              have : j < pre.length := by
                rcases Nat.lt_or_ge j pre.length with h | h
                · exact h
                · simp [List.getElem?_eq_none h] at hj
              rw [List.getElem?_append_left this]; exact hj)
            exact ⟨op', by simpa using q1, by rw [hnt]; exact q2⟩
    · cases hc
  all_goals (simp only [cCode, ACode.bare] at hc; first | (cases hc; done) | (split at hc <;> simp at hc) | (simp at hc))

/-- A call by hand within its region. -/
theorem Pt.call (hp : Pt I C1 σ a w S) (hnt : C1.nt = nt) {pre post : List AOper} {f : FuncId} {ts : List Nat} {vs : List Value} {bor : List Nat} {d : Nat} {out : List Nat} {y : ACode} (hb : HasBody P f) (hd : d < nt)
    (hτ : ∀ p, p ∈ τ.h → flatB p.2 ∧ p.2.fz = false) (hv : @vc I P (fun σ' => LeL σ' τ) pre σ) (hl : ts.length = vs.length) (hts : ∀ i, i < ts.length → look τ.s (ts.getD i 0) = .v (vs.getD i undef))
    (h : ∀ a' w' S', Past S w S' w' → Pt I C1 τ a' w' S' → Calls P f vs.toArray w' fun e w'' => ∃ u, e = .returned u ∧ ∃ I'' s'' S'', Pt I'' C1 ⟨s'', τ.h⟩ a' w'' S'' ∧ ∃ τ' : St, @vc I'' P (fun σ' => LeL σ' τ') post ⟨(d, .v u) :: s'', τ.h⟩ ∧ (∀ p, p ∈ τ'.h → flatB p.2 ∧ p.2.fz = false) ∧
      ∀ a3 w3 S3, Past S'' w'' S3 w3 → Pt I'' C1 τ' a3 w3 S3 → At P nt dr y Q a3 w3) :
    At P nt dr (.seq (.region (pre ++ ⟨some d, .call (.func f) (ts.map .tmp) bor, none⟩ :: post) out []) y) Q a w := by
  have hp' := hp
  obtain ⟨hM, hr, C, ρ, κ, hw0, hS0, hmu, hla, hok⟩ := hp
  have hCnt : C.nt = nt := hla.nt.trans hnt
  have hno : ∀ b, S b → b < w.heap.size ∧ ¬ C.Mut b := fun b hb => ⟨hp'.dom b hb, fun hm => by
    obtain ⟨n, hn, hx⟩ := hmu b hm
    obtain ⟨b', hb'⟩ := Option.isSome_iff_exists.1 hn
    exact @OK.noS I _ _ _ _ _ _ _ hok _ _ hb' (hr _ (hlook_mem2 hb')).2 _ hx hb⟩
  refine At.seq (@At.regionX I P C a w S ρ κ nt dr _ pre post _ out σ hok hCnt rfl ?_)
  refine @vc_mono I P (fun σ' => LeL σ' τ) _ (fun σ1 hle1 => ?_) _ _ hv
  intro a' w' S' ρ' κ' op ops hokx hcop
  have hok2 := @OK.le I _ _ _ _ _ _ _ _ hokx hle1
  have hpast := Pt.later hw0 hS0 hno hok2
  have hpt : Pt I C1 τ a' w' S' := Pt.of_ok hM hτ hla hok2
  refine @op_call I P C a' w' S' ρ' κ' ops τ.f op _ f (ts.map .tmp) bor (by rw [hCnt]; exact hcop) rfl hok2 hb _ _ ?_
  have hargs : ((ts.map Operand.tmp).map a'.eval).toArray = vs.toArray := by
    congr 1
    refine List.ext_getElem (by simp [hl]) fun i h1 h2 => ?_
    have hi : i < ts.length := by simpa using h1
    have := hpt.valv (hts i hi)
    have e1 : ts.getD i 0 = ts[i] := by simp [hi]
    have e2 : vs.getD i undef = vs[i] := by simp [h2]
    rw [e1, e2] at this
    simp only [List.getElem_map]
    exact this
  rw [hargs]
  refine (h a' w' S' hpast hpt).mono ?_
  rintro e w'' ⟨u, rfl, I'', s'', S'', hpt2, τ', hv2, hτ', hrest⟩
  have hp3 := hpt2.put (d := d) (by rw [hnt]; exact hd) u
  have hdom3 := hp3.dom
  obtain ⟨hM3, hr3, C3, ρ3, κ3, hw3, hS3, hmu3, hla3, hok3⟩ := hp3
  have hCnt3 : C3.nt = nt := hla3.nt.trans hnt
  have hno3 : ∀ b, S'' b → b < w''.heap.size ∧ ¬ C3.Mut b := fun b hb => ⟨hdom3 b hb, fun hm => by
    obtain ⟨n, hn, hx⟩ := hmu3 b hm
    obtain ⟨b', hb'⟩ := Option.isSome_iff_exists.1 hn
    exact @OK.noS I'' _ _ _ _ _ _ _ hok3 _ _ hb' (hr3 _ (hlook_mem2 hb')).2 _ hx hb⟩
  refine ⟨u, rfl, I'', C3, ⟨(d, .v u) :: s'', τ.h⟩, S'', ρ3, κ3, fun σ' => LeL σ' τ', hCnt3, hok3, hv2, fun a3 w3 hg => ?_⟩
  obtain ⟨S3, ρ4, κ4, hok4⟩ := @GoodL.le I'' _ _ _ _ hg
  exact hrest a3 w3 S3 (Pt.later hw3 hS3 hno3 hok4) (Pt.of_ok hM3 hτ' hla3 hok4)
end Go.Vs
