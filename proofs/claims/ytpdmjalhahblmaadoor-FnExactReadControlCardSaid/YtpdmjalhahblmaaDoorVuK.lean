/- Contracts out of calls that only add memory. -/
import Derived.Test.YtpdmjalhahblmaaDoorVuB
import Derived.Below
namespace Go.Vs
set_option linter.unusedSectionVars false
set_option linter.unusedVariables false
variable [Envs] {P : Program} {C : Ctx} {a : Act} {w : World} {S : Nat → Prop} {ρ : Name → Option Nat} {κ : Name → Nat}

end Go.Vs

namespace Go.Vs
set_option linter.unusedSectionVars false
set_option linter.unusedVariables false
variable {P : Program}

theorem Own.rc {S : Nat → Prop} {w : World} {x : Option Nat} {c k : Nat} {rows : List (List AV)} {v : Value} (h : Own S w x c k rows v) : RC (fun b => x = some b) w (.sl k rows) v := by
  letI : Envs := ⟨[]⟩
  obtain ⟨_, base, cap, rfl, h1, h2, h3, _⟩ := h.loc k rows false rfl
  obtain ⟨hrk, hblk⟩ := h.blk
  rcases hblk with ⟨hn, hnil⟩ | ⟨y, cs, T, fr, g1, g2, g3, _, _, g5, g6, g7⟩
  · subst hnil
    refine .sl k [] base cap 0 0 (fun _ => undef) (by simp) (by simp) (by simp) (by simp) (by simp) ⟨by omega, h2⟩
  · refine .sl k rows base cap y 0 (fun i => cs.getD i undef) (fun hne => ?_) (fun i j hi hj => ?_) (fun i j hi hj => (g7 i j hi hj).1) (fun i j hi hj => ?_) hrk ⟨by omega, h2⟩
    · obtain ⟨z, hz, hbase⟩ := h3 (List.length_pos_iff.2 hne)
      have g1' : x = some y := g1
      have hz' : x = some z := hz
      rw [g1'] at hz'
      obtain rfl := Option.some.inj hz'
      exact ⟨by rw [hbase]; simp, g1'⟩
    · have hlt : i * k + j < cs.size := by
        have : i * k + k ≤ rows.length * k := by rw [← Nat.succ_mul]; exact Nat.mul_le_mul_right k hi
        omega
      simp [World.cell?, g2, hlt]
    · have hm : rows.getD i [] ∈ rows := by
        rw [List.getD_eq_getElem?_getD, List.getElem?_eq_getElem hi]; exact List.getElem_mem _
      exact RC.mono (S := fun _ => False) (w := w) (fun _ h => h.elim) (fun _ h => h.elim) (((g7 i j hi hj).2).flat (flatL_getD (h.fl _ hm)))

/-- A row of values, each of which reads as more. -/
theorem rc_graft {w : World} {D0 D : Nat → Prop} {ss : List Value} {xs : List AV} {v : Value} (h0 : RC D0 w (.sl 1 (ss.map fun s => [AV.v s])) v) (hl : xs.length = ss.length) (hr : ∀ j, j < ss.length → RC D w (xs.getD j .junk) (ss.getD j undef)) :
    RC (fun b => D0 b ∨ D b) w (.sl 1 (xs.map fun x => [x])) v := by
  letI : Envs := ⟨[]⟩
  generalize hL : (ss.map fun s => [AV.v s]) = L at h0
  cases h0 with
  | sl _ _ base cap x off ys hb hc ho hrr hk hcap =>
    subst hL
    have e : (ss.map fun s => [AV.v s]).length = (xs.map fun x => [x]).length := by simp [hl]
    have hlen : (ss.map fun s => [AV.v s]).length = ss.length := by simp
    have hlen2 : (xs.map fun x => [x]).length = ss.length := by simp [hl]
    rw [e]
    refine .sl 1 _ base cap x off ys (fun hne => ?_) (fun i j hi hj => hc i j (by rw [hlen]; rw [hlen2] at hi; exact hi) hj) (fun i j hi hj => ho i j (by rw [hlen]; rw [hlen2] at hi; exact hi) hj) (fun i j hi hj => ?_) (fun i hi => ?_) (by rw [← e]; exact hcap)
    · have := hb (fun h => hne (List.length_eq_zero_iff.1 (by rw [hlen2, ← hlen, h]; rfl)))
      exact ⟨this.1, .inl this.2⟩
    · obtain rfl : j = 0 := by omega
      have hi' : i < ss.length := by rw [hlen2] at hi; exact hi
      have h1 := hrr i 0 (by rw [hlen]; exact hi') (by omega)
      have e1 : ((ss.map fun s => [AV.v s]).getD i []).getD 0 .junk = .v ss[i] := by simp [hi']
      rw [e1] at h1
      have e3 : ys (i * 1 + 0) = ss[i] := inv_v (ρ := fun _ => none) (κ := fun _ => 0) (h := fun _ => none) (.clo h1)
      rw [e3]
      have hx : i < xs.length := by omega
      have e2 : ((xs.map fun x => [x]).getD i []).getD 0 .junk = xs.getD i .junk := by simp [hx]
      rw [e2]
      have := hr i hi'
      have e4 : ss.getD i undef = ss[i] := by simp [hi']
      rw [e4] at this
      exact this.mono (fun _ h => .inr h) fun _ _ => rfl
    · have : i < xs.length := by rw [hlen2] at hi; omega
      simp [this]

/-- where a deck lies: the block of its row, its cards' slices and blocks -/
structure Mem where
  x0 : Option Nat
  ss : List Value
  xs : Nat → Option Nat
  cs : Nat → Nat
def Mem.D (m : Mem) (b : Nat) : Prop := m.x0 = some b ∨ ∃ i, i < m.ss.length ∧ m.xs i = some b
/-- A deck in memory of its own. -/
structure Dk (w : World) (ls : List (List (List AV))) (v : Value) (m : Mem) : Prop where
  root : RC (fun b => m.x0 = some b) w (.sl 1 (m.ss.map fun s => [AV.v s])) v
  rows : OwnL (fun b => m.x0 = some b) w 1 ls m.ss m.xs m.cs
  lt : ∀ b, m.D b → b < w.heap.size

theorem Dk.same {w w' : World} {ls : List (List (List AV))} {v : Value} {m : Mem} (h : Dk w ls v m) (hs : w.heap.size ≤ w'.heap.size) (hw : ∀ b, m.D b → w'.heap[b]? = w.heap[b]?) : Dk w' ls v m :=
  letI : Envs := ⟨[]⟩
  ⟨h.root.mono (fun _ h => h) fun b hb => hw b (.inl hb), h.rows.mono (fun i b hi hb => (h.rows.row i hi).no hb) fun i b hi hb => hw b (.inr ⟨i, hi, hb⟩), fun b hb => Nat.lt_of_lt_of_le (h.lt b hb) hs⟩
theorem Dk.rd {w : World} {ls : List (List (List AV))} {v : Value} {m : Mem} (h : Dk w ls v m) : RC m.D w (.sl 1 (ls.map fun r => [.sl 1 r])) v := by
  letI : Envs := ⟨[]⟩
  have hl := h.rows.len
  have := rc_graft (D := fun b => ∃ i, i < m.ss.length ∧ m.xs i = some b) (xs := ls.map fun r => AV.sl 1 r) h.root (by simp [hl]) fun j hj => by
    have hlj : j < ls.length := by omega
    have e : (ls.map fun r => AV.sl 1 r).getD j .junk = .sl 1 (ls.getD j []) := by simp [hlj]
    rw [e]
    exact (h.rows.row j hj).rc.mono (fun b hb => ⟨j, hj, hb⟩) fun _ _ => rfl
  rw [List.map_map] at this
  exact this.mono (fun _ h => h) fun _ _ => rfl

/-- no cards at all -/
theorem Dk.nil (w : World) : Dk w [] (.slice none 0 0) ⟨none, [], fun _ => none, fun _ => 0⟩ :=
  ⟨.sl 1 [] none 0 0 0 (fun _ => undef) (by simp) (by simp) (by simp) (by simp) (by simp) ⟨by simp, by decide⟩, ⟨rfl, by simp, by simp⟩, fun b hb => by
    rcases hb with h | ⟨i, hi, _⟩
    · cases h
    · simp at hi⟩
/-- A deck that was not there before. -/
def NewDk (w w' : World) (ls : List (List (List AV))) (v : Value) : Prop := ∃ m, Dk w' ls v m ∧ ∀ b, m.D b → w.heap.size ≤ b

variable {I : Envs} {C1 : Ctx} {σ τ : St} {a : Act} {w : World} {S : Nat → Prop}
variable {nt : Nat} {dr : Nat → Array Oper → Option (List Nat)} {Q : Exit → Act → World → Prop}
/-- A call by hand that made memory D only. -/
theorem Pt.grow (h : Pt I C1 σ a w S) {w' : World} (hg : Grew w w') {D : Nat → Prop} (hD : ∀ b, D b → w.heap.size ≤ b ∧ b < w'.heap.size) (s' : List (Nat × AV)) (hs : ∀ p, p ∈ s' → p.2 = look σ.s p.1 ∧ (flat p.2 = true ∨ isClo p.2 = true)) :
    Pt (keepE (fun b => S b ∨ D b) w') C1 ⟨s', σ.h⟩ a w' (fun b => S b ∨ D b) :=
  h.jump (fun _ => False) hg.size (fun b hb _ => hg.old b hb) (fun _ h => h.elim) hg.out (fun b hb => hb.elim (fun hb => ⟨Nat.lt_of_lt_of_le (h.dom b hb) hg.size, .inl hb⟩) fun hb => ⟨(hD b hb).2, .inr (hD b hb).1⟩) (fun b hb => .inl (h.sub b hb)) s' fun p hp => by
    obtain ⟨e, hf | hc⟩ := hs p hp
    · exact .inl ⟨e, hf⟩
    · right
      rw [e] at hc ⊢
      exact RC.mono (fun b hb => .inl hb) (fun b hb => hg.old b (h.dom b hb)) (h.val hc)
/-- A call by hand that wrote memory D; what K holds is known behind it. -/
theorem Pt.marked (h : Pt I C1 σ a w S) {w' : World} {D : Nat → Prop} (hsz : w.heap.size ≤ w'.heap.size) (hw : ∀ b, b < w.heap.size → ¬ D b → w'.heap[b]? = w.heap[b]?) (ho : w'.os = w.os ∧ w'.output = w.output)
    (hD : ∀ b, D b → C1.w0.heap.size ≤ b ∧ S b) {K : Nat → Prop} (hK : ∀ b, K b → S b) (h0 : ∀ b, C1.S0 b → K b) (s' : List (Nat × AV)) (hs : ∀ p, p ∈ s' → p.2 = look σ.s p.1 ∧ flat p.2 = true) : Pt (keepE K w') C1 ⟨s', σ.h⟩ a w' K :=
  h.jump D hsz hw hD ho (fun b hb => ⟨Nat.lt_of_lt_of_le (h.dom b (hK b hb)) hsz, .inl (hK b hb)⟩) h0 s' fun p hp => .inl (hs p hp)
/-- less is told -/
theorem Pt.le (h : Pt I C1 σ a w S) (hle : LeL σ τ) (hτ : ∀ p, p ∈ τ.h → flatB p.2 ∧ p.2.fz = false) : Pt I C1 τ a w S := by
  obtain ⟨hM, hr, C, ρ, κ, hw0, hS0, hmu, hl, hok⟩ := h
  exact Pt.of_ok hM hτ hl (@OK.le I _ _ _ _ _ _ _ _ hok hle)
/-- a row under another name -/
theorem Pt.ren (h : Pt I C1 σ a w S) {n m : Name} (hn : n ≠ m) (hf : freshL m σ = true) (hτ : ∀ p, p ∈ (renL n m σ).h → flatB p.2 ∧ p.2.fz = false) : Pt I C1 (renL n m σ) a w S := by
  obtain ⟨hM, hr, C, ρ, κ, hw0, hS0, hmu, hl, hok⟩ := h
  obtain ⟨ρ', κ', h'⟩ := @OK.renL I C a w S ρ κ σ n m hn hf hok
  exact Pt.of_ok hM hτ hl h'
theorem Pt.out (h : Pt I C1 σ a w S) : Grew C1.w0 w := by
  obtain ⟨hM, hrr, C, ρ, κ, hw0, hS0, hmu, hl, hok⟩ := h
  exact @OK.grew I _ _ _ _ _ _ _ (@OK.back I _ _ _ _ _ _ _ hl _ hok) fun b _ => hM b
/-- two ways -/
theorem Pt.cond (h : Pt I C1 σ a w S) {t : Nat} {b : Bool} {x y : ACode} (hb : look σ.s t = .v (.bool b)) (hx : b = true → At P nt dr x Q a w) (hy : b = false → At P nt dr y Q a w) : At P nt dr (.cond (.tmp t) x y) Q a w :=
  At.cond (t := b) (by have := h.valv hb; exact this) hx hy
end Go.Vs

namespace Go.Vs
set_option linter.unusedSectionVars false
set_option linter.unusedVariables false
section
variable [Envs]
variable {P : Program} {nt : Nat} {dr : Nat → Array Oper → Option (List Nat)} {Q : Exit → Act → World → Prop} {a : Act} {w : World}

/-- Operations in an order of their own. -/
def RgL (P : Program) (nt : Nat) (aops : List AOper) (Q : Exit → Act → World → Prop) (a : Act) (w : World) : Prop :=
  ∀ (ops : Array Oper) (L : List Nat), L.length = aops.length → (∀ (j : Nat) (ao : AOper), aops[j]? = some ao → ∃ (i : Nat) (o : Oper), L[j]? = some i ∧ ops[i]? = some o ∧ cOper P nt ops o = some ao.bare) → wpOps P ops Q L a w

theorem RgL.nil (h : Q .normal a w) : RgL P nt [] Q a w := by
  intro ops L hl _
  have : L = [] := by simpa using hl
  subst this; exact h

theorem RgL.fw {C : Ctx} {K : St → Prop} {post : List AOper} (hK : ∀ (σ : St) (a : Act) (w : World) (S : Nat → Prop) (ρ : Name → Option Nat) (κ : Name → Nat), K σ → OK C σ.f a w S ρ κ → RgL P C.nt post Q a w) :
    ∀ (pre : List AOper) (σ : St) (a : Act) (w : World) (S : Nat → Prop) (ρ : Name → Option Nat) (κ : Name → Nat), vc P K pre σ → OK C σ.f a w S ρ κ → RgL P C.nt (pre ++ post) Q a w
  | [], σ, a, w, S, ρ, κ, hv, hok => hK σ a w S ρ κ hv hok
  | ao :: r, σ, a, w, S, ρ, κ, hv, hok => by
    intro ops L hl hs
    cases L with
    | nil => simp at hl
    | cons i L =>
    obtain ⟨i', o, hi, ho, hc⟩ := hs 0 ao (by simp)
    obtain rfl : i = i' := by simpa using hi
    obtain ⟨h1, h2, h3, h4⟩ := cOper_spec hc
    rw [wpOps_cons]
    have ih : ∀ (σ : St) (a : Act) (w : World) (S : Nat → Prop) (ρ : Name → Option Nat) (κ : Name → Nat), vc P K r σ → OK C σ.f a w S ρ κ → wpOps P ops Q L a w := fun σ a w S ρ κ hv hok =>
      RgL.fw hK r σ a w S ρ κ hv hok ops L (by simpa using hl) (fun j ao' hj => by
        obtain ⟨i', o', g1, g2, g3⟩ := hs (j + 1) ao' (by simpa using hj)
        exact ⟨i', o', by simpa using g1, g2, g3⟩)
    have go : stepA P ao.dst σ (vc P K r) ao.op → o.wp P a w (wpOps P ops Q L) Q := fun hst =>
      Oper.wp_mono (fun a' w' ⟨σ', S', ρ', κ', hK, hok'⟩ => ih σ' a' w' S' ρ' κ' hK hok') (step_sound (P := P) h1 hok h3 (by rw [h2]; exact hst))
    unfold wpOp
    rw [ho]
    simp only [vc] at hv
    rcases h4 with ⟨g1, g2⟩ | ⟨j, want, t, g1, g2, g3⟩
    · rw [g2] at hv
      have : Region.wanted o (yielded ops a.tmps) = true := by simp [Region.wanted, g1]
      simp only [this, if_true]
      exact .inl (go hv)
    · rw [g2] at hv
      simp only at hv
      split at hv
      · rename_i b hb
        have hw := wanted_of hok g1 g3 hb
        simp only [hw]
        by_cases hbw : b = want
        · simp only [hbw, beq_self_eq_true, if_true]
          exact .inl (go ((BrW_iff.1 hv).1 hbw))
        · have : (b == want) = false := by simpa using hbw
          simp only [this, Bool.false_eq_true, if_false]
          have hn : b = !want := by cases b <;> cases want <;> simp_all
          refine ih _ _ _ S ρ κ ((BrW_iff.1 hv).2 hn) ?_
          have := hok.put (x := .v undef) (v := undef) (.clo (.v _)) h3
          rw [h2] at this ⊢
          simpa [St.f, look_put, undef] using this
      · rename_i cs hb
        have hw := wanted_un hok g1 g3 hb
        simp only [hw, Bool.false_eq_true, if_false]
        refine ih _ _ _ S ρ κ hv ?_
        have := hok.put (x := .v undef) (v := undef) (.clo (.v _)) h3
        rw [h2] at this ⊢
        simpa [St.f, look_put, undef] using this
      · exact hv.elim

theorem RgL.op {o : AOper} {r : List AOper} (hg : o.guard = none) (h : ∀ (op : Oper) (ops : Array Oper), cOper P nt ops op = some o.bare → op.wp P a w (RgL P nt r Q) Q) : RgL P nt (o :: r) Q a w := by
  intro ops L hl hs
  cases L with
  | nil => simp at hl
  | cons i L =>
  obtain ⟨i', op, hi, ho, hc⟩ := hs 0 o (by simp)
  obtain rfl : i = i' := by simpa using hi
  obtain ⟨_, _, _, h4⟩ := cOper_spec hc
  have hg2 : op.guard = none := by
    rcases h4 with ⟨h, _⟩ | ⟨j, want, t, _, h, _⟩
    · exact h
    · rw [hg] at h; cases h
  rw [wpOps_cons]
  unfold wpOp
  rw [ho]
  have : Region.wanted op (yielded ops a.tmps) = true := by simp [Region.wanted, hg2]
  simp only [this, if_true]
  exact .inl (Oper.wp_mono (fun a' w' hr => hr ops L (by simpa using hl) fun j ao' hj => by
    obtain ⟨i', o', g1, g2, g3⟩ := hs (j + 1) ao' (by simpa using hj)
    exact ⟨i', o', by simpa using g1, g2, g3⟩) (h op ops hc))

end
variable {P : Program} {nt : Nat} {dr : Nat → Array Oper → Option (List Nat)} {Q : Exit → Act → World → Prop} {a : Act} {w : World}
variable {I : Envs} {C1 : Ctx} {σ τ : St} {S : Nat → Prop}
theorem Pt.drew (h : Pt I C1 σ a w S) : Pt I C1 σ a { w with drawn := w.drawn + 1 } S := by
  obtain ⟨hM, hr, C, ρ, κ, hw0, hS0, hmu, hl, hok⟩ := h
  exact Pt.of_ok hM hr hl (@OK.ext I C σ.f a w { w with drawn := w.drawn + 1 } S ρ κ hok (Ext.of_heap rfl rfl rfl))
theorem Past.drew : Past S w S { w with drawn := w.drawn + 1 } := ⟨fun _ h => h, fun _ _ => rfl, Nat.le_refl _⟩
end Go.Vs

namespace Go.Vs
set_option linter.unusedSectionVars false
set_option linter.unusedVariables false
variable {P : Program} {nt : Nat} {Q : Exit → Act → World → Prop} {a : Act} {w : World} {S : Nat → Prop}

/-- A function by hand: its first point. -/
theorem Pt.calls [I : Envs] {dr : Nat → Array Oper → Option (List Nat)} {f : FuncId} {fn : Func} {body : Code} {ac : ACode} (hf : P.funcs[f]? = some fn) (hb : fn.body = some body) (hc : cCode P fn.ntmps dr body = some ac.bare) (hz : zB fn.ntmps dr body = true) {args : List AV} (hna : args.length ≤ fn.ntmps)
    {vs : Array Value} (hS : ∀ b, S b → b < w.heap.size) (he : Env S w) (hvs : vs.size = args.length) (hargs : ∀ j, j < args.length → RC S w (args.getD j .junk) (vs.getD j undef)) {R : Ending → World → Prop}
    (h : ∀ (C1 : Ctx) (a : Act), C1.nt = fn.ntmps → C1.w0 = w → C1.S0 = S → Pt I C1 ⟨ini 0 args, []⟩ a w S →
      At P fn.ntmps dr ac (fun e a' w' => (e = .ret ∨ e = .normal) ∧ a'.defers = [] ∧ ∃ v, (results fn a'.tmps).run P w' = .ok v w' ∧ R (.returned v) w') a w) : Calls P f vs w R :=
  calls_at hf hb hc hz hna hS he hvs hargs (fun _ => False) fun a hok => h _ a rfl rfl rfl (Pt.of_ok (fun _ h => h) (fun p hp => by cases hp) (Later.refl _) hok)

variable {I : Envs} {C1 : Ctx} {σ τ : St}
theorem NewDk.later {w1 w2 w3 : World} {ls : List (List (List AV))} {v : Value} {m : Mem} (hd : Dk w2 ls v m) (hn : ∀ b, m.D b → w1.heap.size ≤ b) {S S' : Nat → Prop} (hS : ∀ b, m.D b → S b) (hp : Past S w2 S' w3) : NewDk w1 w3 ls v :=
  ⟨m, hd.same hp.size fun b hb => hp.old b (hS b hb), hn⟩
/-- the last stretch by the framework -/
theorem Pt.fin {dr : Nat → Array Oper → Option (List Nat)} (hp : Pt I C1 σ a w S) (hdr : @DrawOK I P dr) (hnt : C1.nt = nt) {c : ACode} {E : AExit → St → Prop} (hv : ∀ C : Ctx, C.nt = nt → @wpc I P C dr c (fun _ => False) E σ) (hE : ∀ i σ, ¬ E (.exit i) σ)
    (hR : ∀ C a w, Later C1 C → @GoodL I C (E .ret) a w → Q .ret a w) : At P nt dr c Q a w := by
  obtain ⟨hM, hr, C, ρ, κ, hw0, hS0, hmu, hl, hok⟩ := hp
  have hCnt : C.nt = nt := hl.nt.trans hnt
  exact At.fw hdr hok hCnt (hv C hCnt) (fun a w hg => hg.no.elim) (fun i a w hg => by
    obtain ⟨σ', _, _, _, h, _⟩ := hg
    exact (hE i σ' h).elim) (fun a w hg => hR C a w hl hg)
theorem Past.grow {w' : World} {D : Nat → Prop} (hg : Grew w w') (hS : ∀ b, S b → b < w.heap.size) : Past S w (fun b => S b ∨ D b) w' := ⟨fun _ h => .inl h, fun b hb => hg.old b (hS b hb), hg.size⟩
theorem rc_v {v u : Value} (h : RC S w (.v v) u) : u = v := by cases h; rfl
/-- a call whose answer is closed -/
theorem Fn.calls0 [Envs] {f : FuncId} {ys : List AV} {r : AV} (h : Fn P f [] ys r []) (hc : isClo r = true) {vs : Array Value} (hS : ∀ b, S b → b < w.heap.size) (he : Env S w) (hvs : vs.size = ys.length) (hargs : ∀ j, j < ys.length → RC S w (ys.getD j .junk) (vs.getD j undef)) :
    Calls P f vs w fun e w' => ∃ v S', e = .returned v ∧ Grew w w' ∧ RC S' w' r v := by
  have hnone : ∀ n, Hn (([] : List Blk).map some) n = none := by
    intro n
    cases n <;> simp [Hn]
  have hok1 : HOK S w (fun _ => none) (fun _ => 0) (Hn (([] : List Blk).map some)) :=
    ⟨fun n b hb => (by rw [hnone] at hb; cases hb), fun n m y hn _ _ _ => (by rw [hnone] at hn; cases hn), hS, he⟩
  refine (h.2 S w _ _ vs hok1 (by simp) hvs fun j hj => .clo (hargs j hj)).mono ?_
  rintro e w' ⟨u, S', ρ', κ', rfl, hp, hu⟩
  exact ⟨u, S', rfl, ⟨hp.size, fun b hb => hp.old b hb mutOf_nil, hp.out⟩, RV.closed hu hc⟩
end Go.Vs

namespace Go.Vs
set_option linter.unusedSectionVars false
set_option linter.unusedVariables false

theorem At.closing {P : Program} {nt : Nat} {dr : Nat → Array Oper → Option (List Nat)} {n : Nat} {x : ACode} {Q : Exit → Act → World → Prop} {a : Act} {w : World} (h : At P nt dr x Q a w) : At P nt dr (.closing n x) Q a w := h

section
variable [Envs]
variable {P : Program} {nt : Nat} {Q : Exit → Act → World → Prop}
end
section
variable [I : Envs]
variable {P : Program} {nt : Nat} {Q : Exit → Act → World → Prop} {a : Act} {w : World}
end
variable {P : Program} {I : Envs} {C1 : Ctx} {σ τ : St} {S : Nat → Prop} {a : Act} {w : World}
theorem Pt.mv (h : Pt I C1 σ a w S) {d s : Nat} (hd : d < C1.nt) : Pt I C1 ⟨(d, look σ.s s) :: σ.s, σ.h⟩ (a.put (some d) (a.tmps.getD s undef)) w S := by
  obtain ⟨hM, hr, C, ρ, κ, hw0, hS0, hmu, hl, hok⟩ := h
  refine ⟨hM, hr, C, ρ, κ, hw0, hS0, hmu, hl, ?_⟩
  have := @OK.put I C σ.f a w S ρ κ hok (look σ.s s) (a.tmps.getD s undef) (@OK.slots I _ _ _ _ _ _ _ hok s) (some d) (fun d' hd' => by
    obtain rfl := Option.some.inj hd'
    rw [hl.nt]; exact hd)
  have e : (⟨(d, look σ.s s) :: σ.s, σ.h⟩ : St).f = ⟨upd σ.f.s (some d) (look σ.s s), σ.f.h⟩ := by
    simp [St.f, look, upd, eq_comm]
  rw [e]
  exact this
end Go.Vs

namespace Go.Vs
set_option linter.unusedSectionVars false
set_option linter.unusedVariables false
end Go.Vs

namespace Go.Vs
set_option linter.unusedSectionVars false
set_option linter.unusedVariables false

section
variable [Envs]
variable {P : Program} {nt : Nat} {Q : Exit → Act → World → Prop}
end
section
variable [I : Envs]
variable {P : Program} {nt : Nat} {Q : Exit → Act → World → Prop} {a : Act} {w : World}
end
variable {P : Program} {nt : Nat} {Q : Exit → Act → World → Prop} {a : Act} {w : World}
variable {I : Envs} {C1 : Ctx} {σ : St} {S : Nat → Prop}
end Go.Vs

namespace Go.Vs
set_option linter.unusedSectionVars false
section
variable [Envs]
variable {P : Program}
/-- A function whose answer reads by memory that is new has that answer by value. -/
theorem Fn.of_grew {f : FuncId} {args : List AV} {x : AV} (hb : HasBody P f) (hc : ∀ y, y ∈ args → isClo y = true)
    (h : ∀ (S : Nat → Prop) (w : World) (vs : Array Value), (∀ b, S b → b < w.heap.size) → Env S w → vs.size = args.length → (∀ j, j < args.length → RC S w (args.getD j .junk) (vs.getD j undef)) →
      Calls P f vs w fun e w' => ∃ (v : Value) (D : Nat → Prop), e = .returned v ∧ Grew w w' ∧ (∀ b, D b → w.heap.size ≤ b ∧ b < w'.heap.size) ∧ RC D w' x v) : Fn P f [] args x [] := by
  refine ⟨hb, fun S w ρ κ vs hok _ hvs hargs => (h S w vs hok.dom hok.env hvs fun j hj => (hargs j hj).closed (hc _ ?_)).mono ?_⟩
  · rw [List.getD_eq_getElem?_getD, List.getElem?_eq_getElem hj]; exact List.getElem_mem _
  · rintro e w' ⟨v, D, rfl, hg, hn, hr⟩
    have hnone : ∀ n, Hn ([] : List (Option Blk)) n = none := by
      intro n
      cases n <;> simp [Hn]
    refine ⟨_, fun b => S b ∨ D b, fun _ => none, fun _ => 0, rfl, ⟨⟨fun n b hb => (by rw [hnone] at hb; cases hb), fun n m y hn _ _ _ => (by rw [hnone] at hn; cases hn), fun b hb => hb.elim (fun h => Nat.lt_of_lt_of_le (hok.dom b h) hg.size) fun h => (hn b h).2, (hg.env hok.dom hok.env).mono (fun _ h => .inl h) fun _ _ => rfl⟩, hg.size, fun b hb _ => hg.old b hb, fun _ h => .inl h, fun b hb => hb.elim .inl fun h => .inr (.inl (hn b h).1), fun j x hj => (by simp at hj), hg.out, fun j b' hj => (by simp at hj)⟩, .clo ?_⟩
    exact hr.mono (fun _ h => .inr h) fun _ _ => rfl
theorem Grew.alloc (w : World) (o : Obj) : Grew w (w.alloc o) :=
  ⟨by show w.heap.size ≤ (w.heap.push o).size; simp, fun b hb => by show (w.heap.push o)[b]? = _; simp [Array.getElem?_push, Nat.ne_of_lt hb], rfl, rfl⟩
open Go.RowKit in
theorem Grew.of_below {w w' : World} (h : Below w.heap.size w w') : Grew w w' := ⟨h.size, h.block, h.os, h.output⟩
end
end Go.Vs
