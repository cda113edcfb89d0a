/- A walk by pieces: each piece of a code is taken by the framework, or by hand. -/
import Derived.Test.YtokfhfdnmnblfaaVtS
namespace Go.Vs
set_option linter.unusedSectionVars false
variable [Envs]
variable {P : Program} {C : Ctx} {a : Act} {w : World} {S : Nat → Prop} {ρ : Name → Option Nat} {κ : Name → Nat}

theorem OK.renL {σ : St} {n m : Name} (hn : n ≠ m) (hf : freshL m σ = true) (hok : OK C σ.f a w S ρ κ) : ∃ ρ' κ', OK C (renL n m σ).f a w S ρ' κ' := by
  have hf' := freshL_spec hf
  obtain ⟨ρ', κ', h1⟩ := hok.rename (n := n) (m := m) hn hf'.1.1 hf'.1.2
  refine ⟨ρ', κ', ?_⟩
  have e : (⟨fun u => rn (nmF n m) (σ.f.s u), fun x => if x = m then (σ.f.h n).map (rnB (nmF n m)) else if x = n then none else (σ.f.h x).map (rnB (nmF n m))⟩ : FSt) = (Vs.renL n m σ).f := by
    simp only [St.f, Vs.renL, FSt.mk.injEq]
    refine ⟨funext fun u => (look_map _ (by simp [rn]) _ u).symm, funext fun x => (hlook_ren _ x hf'.1.1).symm⟩
  rw [e] at h1
  exact h1
/-- one state knows all that another says, or does so under another name of one block -/
def ReL (σ τ : St) : Prop := LeL σ τ ∨ ∃ n m, n ≠ m ∧ freshL m σ = true ∧ LeL (Vs.renL n m σ) τ
theorem OK.rel {σ τ : St} (hok : OK C σ.f a w S ρ κ) (h : ReL σ τ) : ∃ ρ' κ', OK C τ.f a w S ρ' κ' := by
  rcases h with h | ⟨n, m, hn, hf, h⟩
  · exact ⟨ρ, κ, hok.le h⟩
  · obtain ⟨ρ', κ', h1⟩ := hok.renL hn hf
    exact ⟨ρ', κ', h1.le h⟩
theorem LoopK.introR {drawn : Nat → Array Oper → Option (List Nat)} (hdr : DrawOK P drawn) {X : Type} (Inv : X → St) (μ : X → Nat) (x0 : X) {c : ACode} {N : St → Prop} {E : AExit → St → Prop} {σ : St} {tg : Tag (N, E)} (h0 : LeL σ (Inv x0))
    (hr : ∀ x, wpc P C drawn c (fun σ' => ∃ x', ReL σ' (Inv x') ∧ μ x' < μ x) E (Inv x)) : LoopK P C drawn c N E σ tg := by
  show SemW P C drawn (.loop c) N E σ
  intro code Q a w S ρ κ hc hN hE hR hok
  cases code
  case loop cx =>
    simp only [cCode, ACode.bare] at hc
    cases h1 : cCode P C.nt drawn cx with
    | none => rw [h1] at hc; cases hc
    | some x' =>
      rw [h1] at hc
      simp only [Option.map_some, Option.some.injEq, ACode.loop.injEq] at hc
      subst hc
      classical
      -- the measure of a frame: the least that one of its readings has
      let G : Act → World → Prop := fun a w => ∃ x S ρ κ, OK C (Inv x).f a w S ρ κ
      let m : Act → World → Nat := fun a w => if h : ∃ n x, μ x = n ∧ ∃ S ρ κ, OK C (Inv x).f a w S ρ κ then (least _ h).choose else 0
      refine wp_loop G m ⟨x0, S, ρ, κ, hok.le h0⟩ ?_
      rintro a w hG
      have hex : ∃ n x, μ x = n ∧ ∃ S ρ κ, OK C (Inv x).f a w S ρ κ := by
        obtain ⟨x, S, ρ, κ, h⟩ := hG
        exact ⟨μ x, x, rfl, S, ρ, κ, h⟩
      obtain ⟨x, hx, S, ρ, κ, hokx⟩ := (least _ hex).choose_spec.1
      have hm : m a w = μ x := by simp only [m, dif_pos hex]; exact hx.symm
      refine wpc_sound hdr c _ _ _ (hr x) cx _ a w S ρ κ h1 (fun a' w' hg => ?_) hE hR hokx
      obtain ⟨σ', S', ρ', κ', ⟨x', hle, hlt⟩, hok'⟩ := hg
      obtain ⟨ρ', κ', hok2⟩ := hok'.rel hle
      refine ⟨⟨x', S', ρ', κ', hok2⟩, ?_⟩
      have hex' : ∃ n x, μ x = n ∧ ∃ S ρ κ, OK C (Inv x).f a' w' S ρ κ := ⟨μ x', x', rfl, S', ρ', κ', hok2⟩
      have : m a' w' ≤ μ x' := by
        simp only [m, dif_pos hex']
        exact (least _ hex').choose_spec.2 _ ⟨x', rfl, S', ρ', κ', hok2⟩
      omega
  all_goals (simp only [cCode, ACode.bare] at hc; first | (cases hc; done) | (split at hc <;> simp at hc) | (simp at hc))

theorem LoopK.atR {drawn : Nat → Array Oper → Option (List Nat)} (hdr : DrawOK P drawn) {X : Type} (M : X → List (Nat × AV)) (H : X → List (Name × Blk)) (μ : X → Nat) (x0 : X) {c : ACode} {N : St → Prop} {E : AExit → St → Prop} {σ : St} {tg : Tag (N, E)}
    (h0 : LeL σ ⟨sputs (M x0) σ.s, hputs (H x0) σ.h⟩)
    (hr : ∀ x, wpc P C drawn c (fun σ' => ∃ x', ReL σ' ⟨sputs (M x') σ.s, hputs (H x') σ.h⟩ ∧ μ x' < μ x) E ⟨sputs (M x) σ.s, hputs (H x) σ.h⟩) : LoopK P C drawn c N E σ tg :=
  LoopK.introR hdr (fun x => ⟨sputs (M x) σ.s, hputs (H x) σ.h⟩) μ x0 h0 hr
end Go.Vs

namespace Go.Vs
set_option linter.unusedSectionVars false
variable [Envs]
set_option linter.unusedVariables false
variable {P : Program} {C : Ctx} {a : Act} {w : World} {S : Nat → Prop} {ρ : Name → Option Nat} {κ : Name → Nat}

/-- A value that reads as x by blocks D, which were there when the context began, and which it does not know. -/
structure Hid (C : Ctx) (D : Nat → Prop) (x : AV) (v : Value) : Prop where
  rd : RC D C.w0 x v
  lt : ∀ b, D b → b < C.w0.heap.size
  no : ∀ b, D b → ¬ C.S0 b ∧ ¬ C.Mut b

theorem Hid.same {D : Nat → Prop} {x : AV} {v : Value} (hh : Hid C D x v) {σ : FSt} (hok : OK C σ a w S ρ κ) :
    (∀ b, D b → w.heap[b]? = C.w0.heap[b]?) ∧ (∀ b, D b → b < w.heap.size) ∧ (∀ b, D b → ¬ S b) ∧ ∀ b, D b → ∀ n, (σ.h n).isSome → ρ n ≠ some b := by
  refine ⟨fun b hb => hok.old b (hh.lt b hb) (hh.no b hb).2, fun b hb => Nat.lt_of_lt_of_le (hh.lt b hb) hok.size, fun b hb hs => ?_, fun b hb n hn he => ?_⟩
  · have := hh.lt b hb
    rcases hok.Snew b hs with h | h | h
    · exact (hh.no b hb).1 h
    · omega
    · exact (hh.no b hb).2 h
  · have := hh.lt b hb
    rcases hok.mine n b hn he with h | h
    · omega
    · exact (hh.no b hb).2 h

theorem Hid.now {D : Nat → Prop} {x : AV} {v : Value} (hh : Hid C D x v) {σ : FSt} (hok : OK C σ a w S ρ κ) : RC D w x v :=
  hh.rd.mono (fun _ h => h) (fun b hb => (hh.same hok).1 b hb)

/-- One context began behind another, and what it may write the other may write. -/
structure Later (C C' : Ctx) : Prop where
  nt : C'.nt = C.nt
  size : C.w0.heap.size ≤ C'.w0.heap.size
  old : ∀ b, b < C.w0.heap.size → ¬ C.Mut b → C'.w0.heap[b]? = C.w0.heap[b]?
  wr : ∀ b, C'.Mut b → C.w0.heap.size ≤ b ∨ C.Mut b
  s0 : ∀ b, C.S0 b → C'.S0 b
  new : ∀ b, C'.S0 b → C.S0 b ∨ C.w0.heap.size ≤ b ∨ C.Mut b
  out : C'.w0.os = C.w0.os ∧ C'.w0.output = C.w0.output
  base : C'.ρ0 = C.ρ0 ∧ C'.κ0 = C.κ0 ∧ C'.h0 = C.h0

theorem OK.back {C' : Ctx} (hl : Later C C') {σ : FSt} (h : OK C' σ a w S ρ κ) : OK C σ a w S ρ κ where
  nt := h.nt.trans hl.nt
  defers := h.defers
  slots := h.slots
  hok := h.hok
  size := Nat.le_trans hl.size h.size
  old b hb hm := by
    rw [← hl.old b hb hm]
    refine h.old b (Nat.lt_of_lt_of_le hb hl.size) fun h' => ?_
    rcases hl.wr b h' with h'' | h''
    · omega
    · exact hm h''
  mine n x h1 h2 := by
    rcases h.mine n x h1 h2 with h' | h'
    · exact .inl (Nat.le_trans hl.size h')
    · exact hl.wr x h'
  S0 b hb := h.S0 b (hl.s0 b hb)
  Snew b hb := by
    rcases h.Snew b hb with h' | h' | h'
    · exact hl.new b h'
    · exact .inr (.inl (Nat.le_trans hl.size h'))
    · exact .inr (hl.wr b h')
  out := ⟨h.out.1.trans hl.out.1, h.out.2.trans hl.out.2⟩
  keep j b hb := by rw [← hl.base.1, ← hl.base.2.1, ← hl.base.2.2]; exact h.keep j b hb

/-- a context begun anew: at this world, with this set and these names -/
def Ctx.anew (C : Ctx) (w : World) (S : Nat → Prop) (h : Name → Option Blk) (ρ : Name → Option Nat) : Ctx :=
  { C with w0 := w, S0 := S, Mut := fun b => ∃ n, (h n).isSome ∧ ρ n = some b }

theorem OK.anew {σ : FSt} (hok : OK C σ a w S ρ κ) : OK (C.anew w S σ.h ρ) σ a w S ρ κ where
  nt := hok.nt
  defers := hok.defers
  slots := hok.slots
  hok := hok.hok
  size := Nat.le_refl _
  old _ _ _ := rfl
  mine n x h1 h2 := .inr ⟨n, h1, h2⟩
  S0 _ h := h
  Snew _ h := .inl h
  out := ⟨rfl, rfl⟩
  keep := hok.keep

theorem OK.later {σ : FSt} (hok : OK C σ a w S ρ κ) : Later C (C.anew w S σ.h ρ) where
  nt := rfl
  size := hok.size
  old := hok.old
  wr b hb := by obtain ⟨n, h1, h2⟩ := hb; exact hok.mine n b h1 h2
  s0 := hok.S0
  new := hok.Snew
  out := hok.out
  base := ⟨rfl, rfl, rfl⟩

theorem Later.trans {C1 C2 C3 : Ctx} (h : Later C1 C2) (h' : Later C2 C3) : Later C1 C3 where
  nt := h'.nt.trans h.nt
  size := Nat.le_trans h.size h'.size
  old b hb hm := by
    rw [← h.old b hb hm]
    refine h'.old b (Nat.lt_of_lt_of_le hb h.size) fun hx => ?_
    rcases h.wr b hx with hy | hy
    · omega
    · exact hm hy
  wr b hb := by
    rcases h'.wr b hb with hx | hx
    · exact .inl (Nat.le_trans h.size hx)
    · exact h.wr b hx
  s0 b hb := h'.s0 b (h.s0 b hb)
  new b hb := by
    rcases h'.new b hb with hx | hx | hx
    · exact h.new b hx
    · exact .inr (.inl (Nat.le_trans h.size hx))
    · exact .inr (h.wr b hx)
  out := ⟨h'.out.1.trans h.out.1, h'.out.2.trans h.out.2⟩
  base := ⟨h'.base.1.trans h.base.1, h'.base.2.1.trans h.base.2.1, h'.base.2.2.trans h.base.2.2⟩

/-- the world in which hidden blocks were written: nothing that the walk knows has changed -/
theorem OK.wrote {σ : FSt} {D : Nat → Prop} {x : AV} {v : Value} (hh : Hid C D x v) (hok : OK C σ a w S ρ κ) {w' : World} (hs : w.heap.size ≤ w'.heap.size)
    (hw : ∀ b, b < w.heap.size → ¬ D b → w'.heap[b]? = w.heap[b]?) (ho : w'.os = w.os ∧ w'.output = w.output) :
    OK (C.anew w' S σ.h ρ) σ a w' S ρ κ := by
  obtain ⟨_, _, h3, h4⟩ := hh.same hok
  have hS : ∀ b, S b → w'.heap[b]? = w.heap[b]? := fun b hb => hw b (hok.hok.dom b hb) fun hd => h3 b hd hb
  have hN : ∀ n, (σ.h n).isSome → ∀ y, ρ n = some y → w'.heap[y]? = w.heap[y]? := fun n hn y hy => hw y (hok.hok.lt hn hy) fun hd => h4 y hd n hn hy
  refine ⟨hok.nt, hok.defers, fun t => ?_, ⟨fun n b hb => ?_, hok.hok.inj, fun b hb => Nat.lt_of_lt_of_le (hok.hok.dom b hb) hs, hok.hok.env.mono (fun _ h => h) hS⟩, Nat.le_refl _, fun _ _ _ => rfl, fun n x h1 h2 => .inr ⟨n, h1, h2⟩, fun _ h => h, fun _ h => .inl h, ⟨rfl, rfl⟩, hok.keep⟩
  · exact (hok.slots t).mono (fun _ h => h) hS fun m _ => NameOK.refl _ _ _ _
  · exact (hok.hok.blk n b hb).mono (fun _ h => h) (fun _ _ h => h) hS (hN n (by simp [hb])) rfl rfl fun m _ => NameOK.refl _ _ _ _

theorem mutOf_nil {ρ : Name → Option Nat} {b : Nat} : ¬ MutOf ρ [] b := by
  intro h
  simp [MutOf] at h

end Go.Vs

namespace Go.Vs
set_option linter.unusedSectionVars false
variable [Envs]
set_option linter.unusedVariables false
variable {P : Program} {C : Ctx} {a : Act} {w : World} {S : Nat → Prop} {ρ : Name → Option Nat} {κ : Name → Nat}

/-- The operations up to one: then the rest. -/
theorem region_pre {ops : Array Oper} {Q : Exit → Act → World → Prop} {K : St → Prop} {e m : Nat} (hK : ∀ (σ : St) (a : Act) (w : World) (S : Nat → Prop) (ρ : Name → Option Nat) (κ : Name → Nat), K σ → OK C σ.f a w S ρ κ → wpOps P ops Q (List.range' e m) a w) :
    ∀ (aops : List AOper) (k : Nat), k + aops.length = e → (∀ j ao, aops[j]? = some ao → ∃ o, ops[k + j]? = some o ∧ cOper P C.nt ops o = some ao.bare) →
    ∀ (σ : St) (a : Act) (w : World) (S : Nat → Prop) (ρ : Name → Option Nat) (κ : Name → Nat), vc P K aops σ → OK C σ.f a w S ρ κ → wpOps P ops Q (List.range' k (aops.length + m)) a w
  | [], k, hk, _, σ, a, w, S, ρ, κ, hv, hok => by
    simp only [List.length_nil, Nat.add_zero, Nat.zero_add] at hk ⊢
    subst hk
    exact hK σ a w S ρ κ hv hok
  | ao :: r, k, hk, hs, σ, a, w, S, ρ, κ, hv, hok => by
    obtain ⟨o, ho, hc⟩ := hs 0 ao (by simp)
    simp only [Nat.add_zero] at ho
    obtain ⟨h1, h2, h3, h4⟩ := cOper_spec hc
    rw [show (ao :: r).length + m = (r.length + m) + 1 by simp only [List.length_cons]; omega, List.range'_succ, wpOps_cons]
    have ih := region_pre hK r (k + 1) (by simp only [List.length_cons] at hk; omega) (fun j ao' hj => by
      obtain ⟨o', g1, g2⟩ := hs (j + 1) ao' (by simpa using hj)
      exact ⟨o', by rw [show k + 1 + j = k + (j + 1) by omega]; exact g1, g2⟩)
    have go : stepA P ao.dst σ (vc P K r) ao.op → o.wp P a w (wpOps P ops Q (List.range' (k + 1) (r.length + m))) Q := fun hst =>
      Oper.wp_mono (fun a' w' ⟨σ', S', ρ', κ', hK, hok'⟩ => ih σ' a' w' S' ρ' κ' hK hok') (step_sound (P := P) h1 hok h3 (by rw [h2]; exact hst))
    unfold wpOp
    rw [ho]
    simp only [vc] at hv
    rcases h4 with ⟨g1, g2⟩ | ⟨j, want, t, g1, g2, g3⟩
    · rw [g2] at hv
      have : Region.wanted o (yielded ops a.tmps) = true := by simp [Region.wanted, g1]
      simp only [this, if_true]
      exact .inl (go hv)
    · rw [g2] at hv
      simp only at hv
      split at hv
      · rename_i b hb
        have hw := wanted_of hok g1 g3 hb
        simp only [hw]
        by_cases hbw : b = want
        · simp only [hbw, beq_self_eq_true, if_true]
          exact .inl (go ((BrW_iff.1 hv).1 hbw))
        · have : (b == want) = false := by simpa using hbw
          simp only [this, Bool.false_eq_true, if_false]
          have hn : b = !want := by cases b <;> cases want <;> simp_all
          refine ih _ _ _ S ρ κ ((BrW_iff.1 hv).2 hn) ?_
          have := hok.put (x := .v undef) (v := undef) (.clo (.v _)) h3
          rw [h2] at this ⊢
          simpa [St.f, look_put, undef] using this
      · rename_i cs hb
        have hw := wanted_un hok g1 g3 hb
        simp only [hw, Bool.false_eq_true, if_false]
        refine ih _ _ _ S ρ κ hv ?_
        have := hok.put (x := .v undef) (v := undef) (.clo (.v _)) h3
        rw [h2] at this ⊢
        simpa [St.f, look_put, undef] using this
      · exact hv.elim

theorem compBuiltin_call {b : Builtin} {ts : List TypeId} {args l : List Operand} {f : Operand} (h : compBuiltin P b ts args = some (.call f l [])) : False := by
  unfold compBuiltin at h
  repeat' split at h
  all_goals simp at h

theorem comp_call {op : Op} {f : FuncId} {args : List Operand} (h : comp P op = some (.call (.func f) args [])) : ∃ c : Call, op = .call c ∧ c.callee = .value (.func f) ∧ args = c.args.toList := by
  cases op
  case call c =>
    simp only [comp] at h
    split at h
    · exact (compBuiltin_call h).elim
    · rename_i g hg
      split at h
      · split at h <;> simp at h
      · simp only [Option.some.injEq, AOp.call.injEq, Operand.func.injEq, and_true] at h
        exact ⟨c, rfl, by rw [hg, h.1], h.2.symm⟩
    · rename_i g _ hg
      simp only [Option.some.injEq, AOp.call.injEq, and_true] at h
      exact ⟨c, rfl, by rw [hg, h.1], h.2.symm⟩
    · cases h
  all_goals (unfold comp at h; repeat' split at h)
  all_goals first | contradiction | (simp at h; done) | (simp [Option.bind_eq_some_iff] at h; done)

theorem amap {α β : Type} (g : α → β) (l : Array α) : l.map g ++ #[] = (l.toList.map g).toArray := by cases l; simp
/-- A call whose doing is known. -/
theorem op_call {ops : Array Oper} {σ : FSt} {o : Oper} {ao : AOper} {f : FuncId} {args : List Operand} {bor : List Nat} (hc : cOper P C.nt ops o = some ao.bare) (hao : ao.op = .call (.func f) args bor) (hok : OK C σ a w S ρ κ) (hb : HasBody P f)
    {next : Act → World → Prop} {Q : Exit → Act → World → Prop} (h : Calls P f (args.map a.eval).toArray w fun e w' => ∃ u, e = .returned u ∧ next (a.put ao.dst u) w') : o.wp P a w next Q := by
  obtain ⟨h1, h2, _, _⟩ := cOper_spec hc
  rw [hao] at h1
  obtain ⟨c, hop, hcal, rfl⟩ := comp_call h1
  obtain ⟨fn, b, g1, g2, g3⟩ := hb
  have hf := hok.ev (.func f)
  obtain ⟨vs, hva, hl, _⟩ := inv_fn hf
  have hvs : vs = #[] := by
    apply Array.eq_empty_of_size_eq_zero
    simpa using hl.symm
  subst hvs
  have hrun : (execOp a.eval o).run P w = .ok (.enter f (c.args.map a.eval ++ #[])) w := by
    simp [execOp, hop, resolve, hcal, hva, Deferred.ofValue, invoke, callFunc, g1, g2, g3]
  have e := amap a.eval c.args
  unfold Oper.wp
  rw [hrun, e]
  simp only [Oper.upon]
  refine h.mono ?_
  rintro e' w' ⟨u, rfl, hn⟩
  rw [h2]
  exact hn
end Go.Vs

namespace Go.Vs
set_option linter.unusedSectionVars false
variable [Envs]
set_option linter.unusedVariables false
variable {P : Program} {C : Ctx} {a : Act} {w : World} {S : Nat → Prop} {ρ : Name → Option Nat} {κ : Name → Nat} {nt : Nat} {dr : Nat → Array Oper → Option (List Nat)} {Q : Exit → Act → World → Prop}

/-- no region whose order is drawn goes by an empty list -/
def zB (nt : Nat) (dr : Nat → Array Oper → Option (List Nat)) : Code → Bool
  | .region _ ops draw => !draw || (match dr nt ops with | some [] => false | _ => true)
  | .seq x y => zB nt dr x && zB nt dr y
  | .cond _ x y => zB nt dr x && zB nt dr y
  | .block _ x => zB nt dr x
  | .loop x => zB nt dr x
  | _ => true

/-- A code that resolves to this one does so. -/
def At (P : Program) (nt : Nat) (dr : Nat → Array Oper → Option (List Nat)) (ac : ACode) (Q : Exit → Act → World → Prop) (a : Act) (w : World) : Prop :=
  ∀ c : Code, cCode P nt dr c = some ac.bare → zB nt dr c = true → c.wp P Q a w

theorem At.mono {ac : ACode} {Q' : Exit → Act → World → Prop} (h : At P nt dr ac Q a w) (hq : ∀ e a w, Q e a w → Q' e a w) : At P nt dr ac Q' a w :=
  fun c hc hz => Code.wp_mono hq (h c hc hz)

theorem At.seq {x y : ACode} (h : At P nt dr x (Exit.then (At P nt dr y Q) Q) a w) : At P nt dr (.seq x y) Q a w := by
  intro c hc hzc
  cases c
  case seq cx cy =>
    simp only [cCode, ACode.bare] at hc
    split at hc
    · rename_i x' y' h1 h2
      simp only [Option.some.injEq, ACode.seq.injEq] at hc
      obtain ⟨rfl, rfl⟩ := hc
      simp only [zB, Bool.and_eq_true] at hzc
      refine wp_seq (Code.wp_mono (fun e a w hq => ?_) (h cx h1 hzc.1))
      cases e <;> first | exact hq cy h2 hzc.2 | exact hq
    · cases hc
  all_goals (simp only [cCode, ACode.bare] at hc; first | (cases hc; done) | (split at hc <;> simp at hc) | (simp at hc))

theorem At.block {x : ACode} {id : Nat} (h : At P nt dr x (Exit.inBlock id Q) a w) : At P nt dr (.block id x) Q a w := by
  intro c hc hzc
  cases c
  case block cid cx =>
    simp only [cCode, ACode.bare] at hc
    cases h1 : cCode P nt dr cx with
    | none => rw [h1] at hc; cases hc
    | some x' =>
      rw [h1] at hc
      simp only [Option.map_some, Option.some.injEq, ACode.block.injEq] at hc
      obtain ⟨rfl, rfl⟩ := hc
      exact wp_block (h cx h1 (by simpa [zB] using hzc))
  all_goals (simp only [cCode, ACode.bare] at hc; first | (cases hc; done) | (split at hc <;> simp at hc) | (simp at hc))

theorem At.exit {id : Nat} (h : Q (.exit id) a w) : At P nt dr (.exit id) Q a w := by
  intro c hc hzc
  cases c
  case exit cid =>
    simp only [cCode, ACode.bare, Option.some.injEq, ACode.exit.injEq] at hc
    subst hc
    exact wp_exit h
  all_goals (simp only [cCode, ACode.bare] at hc; first | (cases hc; done) | (split at hc <;> simp at hc) | (simp at hc))

theorem At.skip (h : Q .normal a w) : At P nt dr .skip Q a w := by
  intro c hc hzc
  cases c <;> simp [cCode, ACode.bare] at hc
  case skip => exact wp_skip h
  all_goals (first | (split at hc <;> simp at hc) | skip)

theorem At.ret (h : Q .ret a w) : At P nt dr .ret Q a w := by
  intro c hc hzc
  cases c
  case ret => exact wp_ret h
  all_goals (simp only [cCode, ACode.bare] at hc; first | (cases hc; done) | (split at hc <;> simp at hc) | (simp at hc))

theorem At.cond {x y : ACode} {co : Operand} {t : Bool} (hb : a.eval co = .bool t) (ht : t = true → At P nt dr x Q a w) (hf : t = false → At P nt dr y Q a w) : At P nt dr (.cond co x y) Q a w := by
  intro c hc hzc
  cases c
  case cond co' cx cy =>
    simp only [cCode, ACode.bare] at hc
    split at hc
    · rename_i x' y' h1 h2
      simp only [Option.some.injEq, ACode.cond.injEq] at hc
      obtain ⟨rfl, rfl, rfl⟩ := hc
      simp only [zB, Bool.and_eq_true] at hzc
      exact wp_cond_split hb (fun h => ht h cx h1 hzc.1) fun h => hf h cy h2 hzc.2
    · cases hc
  all_goals (simp only [cCode, ACode.bare] at hc; first | (cases hc; done) | (split at hc <;> simp at hc) | (simp at hc))

theorem At.loop {x : ACode} (I : Nat → Act → World → Prop) (hr : ∀ n a w, I n a w → At P nt dr x (Exit.then (fun a w => ∃ m, m < n ∧ I m a w) Q) a w) {n : Nat} (h0 : I n a w) : At P nt dr (.loop x) Q a w := by
  intro c hc hzc
  cases c
  case loop cx =>
    simp only [cCode, ACode.bare] at hc
    cases h1 : cCode P nt dr cx with
    | none => rw [h1] at hc; cases hc
    | some x' =>
      rw [h1] at hc
      simp only [Option.map_some, Option.some.injEq, ACode.loop.injEq] at hc
      subst hc
      classical
      let m : Act → World → Nat := fun a w => if h : ∃ n, I n a w then (least _ h).choose else 0
      refine wp_loop (fun a w => ∃ n, I n a w) m ⟨n, h0⟩ ?_
      rintro a w hex
      have hI := (least _ hex).choose_spec.1
      have hm : m a w = (least _ hex).choose := by simp only [m, dif_pos hex]
      refine Code.wp_mono (fun e a' w' hq => ?_) (hr _ a w hI cx h1 (by simpa [zB] using hzc))
      cases e
      case normal =>
        obtain ⟨k, hk, hIk⟩ := hq
        have hex' : ∃ n, I n a' w' := ⟨k, hIk⟩
        refine ⟨hex', ?_⟩
        have : m a' w' ≤ k := by
          simp only [m, dif_pos hex']
          exact (least _ hex').choose_spec.2 _ hIk
        rw [hm]; omega
      all_goals exact hq
  all_goals (simp only [cCode, ACode.bare] at hc; first | (cases hc; done) | (split at hc <;> simp at hc) | (simp at hc))

/-- A piece that the framework walks. -/
theorem At.fw {ac : ACode} {N : St → Prop} {E : AExit → St → Prop} {σ : St} (hdr : DrawOK P dr) (hok : OK C σ.f a w S ρ κ) (hnt : C.nt = nt) (hv : wpc P C dr ac N E σ)
    (hN : ∀ a w, GoodL C N a w → Q .normal a w) (hE : ∀ i a w, GoodL C (E (.exit i)) a w → Q (.exit i) a w) (hR : ∀ a w, GoodL C (E .ret) a w → Q .ret a w) : At P nt dr ac Q a w :=
  fun c hc _ => wpc_sound hdr ac N E σ hv c Q a w S ρ κ (by rw [hnt]; exact hc) hN hE hR hok

/-- what is left of a region is the framework's again, in a context of its own -/
def RestOK (P : Program) (nt : Nat) (post : List AOper) (Q : Exit → Act → World → Prop) (a : Act) (w : World) : Prop :=
  ∃ (C : Ctx) (σ : St) (S : Nat → Prop) (ρ : Name → Option Nat) (κ : Name → Nat) (K : St → Prop), C.nt = nt ∧ OK C σ.f a w S ρ κ ∧ vc P K post σ ∧ ∀ a w, GoodL C K a w → Q .normal a w

/-- A region in its order, of which one operation is taken by hand. -/
theorem At.region {pre post : List AOper} {o : AOper} {out : List Nat} {σ : St} (hok : OK C σ.f a w S ρ κ) (hnt : C.nt = nt) (hg : o.guard = none)
    (hv : vc P (fun σ1 => ∀ (a : Act) (w : World) (S : Nat → Prop) (ρ : Name → Option Nat) (κ : Name → Nat) (op : Oper) (ops : Array Oper), OK C σ1.f a w S ρ κ → cOper P nt ops op = some o.bare → op.wp P a w (RestOK P nt post Q) Q) pre σ) :
    At P nt dr (.region (pre ++ o :: post) out []) Q a w := by
  intro c hc hzc
  cases c
  case region id ops draw =>
    simp only [cCode, ACode.bare] at hc
    split at hc
    · rename_i fl' hdraw
      cases ho : cOps P nt ops ops.toList with
      | none => rw [ho] at hc; cases hc
      | some l =>
        rw [ho] at hc
        simp only [Option.map_some, Option.some.injEq, ACode.region.injEq, true_and] at hc
        obtain ⟨hl, hfl⟩ := hc
        subst hl; subst hfl
        cases draw with
        | true =>
          have hd : dr nt ops = some [] := by simpa using hdraw
          simp [zB, hd] at hzc
        | false =>
          obtain ⟨g1, g2⟩ := cOps_spec ho
          have hs : ∀ (j : Nat) (ao : AOper), (pre ++ o :: post)[j]? = some ao → ∃ op, ops[j]? = some op ∧ cOper P nt ops op = some ao.bare := fun j ao hj => by
            obtain ⟨op, q1, q2⟩ := g2 j ao hj
            exact ⟨op, by simpa using q1, q2⟩
          refine wp_region ?_
          have hlen : ops.size = pre.length + (post.length + 1) := by
            have : ops.size = (pre ++ o :: post).length := by simpa using g1
            rw [this]; simp
          rw [List.range_eq_range', hlen]
          refine region_pre (C := C) (K := _) (e := pre.length) (fun σ1 a w S ρ κ hK hok1 => ?_) pre 0 (by omega) (fun j ao hj => ?_) σ a w S ρ κ hv hok
          · obtain ⟨op, h1, h2⟩ := hs pre.length o (by simp)
            obtain ⟨_, _, _, h4⟩ := cOper_spec h2
            have hg2 : op.guard = none := by
              rcases h4 with ⟨h, _⟩ | ⟨j, want, t, _, h, _⟩
              · exact h
              · rw [hg] at h; cases h
            rw [List.range'_succ, wpOps_cons]
            unfold wpOp
            rw [h1]
            have : Region.wanted op (yielded ops a.tmps) = true := by simp [Region.wanted, hg2]
            simp only [this, if_true]
            refine .inl (Oper.wp_mono (fun a' w' hr => ?_) (hK a w S ρ κ op ops hok1 h2))
            obtain ⟨C', σ', S', ρ', κ', K', e1, e2, e3, e4⟩ := hr
            subst e1
            have := region_pre (C := C') (P := P) (ops := ops) (Q := Q) (K := K') (e := pre.length + 1 + post.length) (m := 0) (fun σ2 a2 w2 S2 ρ2 κ2 hk hok2 => by
              simp only [List.range'_zero]
              exact e4 a2 w2 ⟨σ2, S2, ρ2, κ2, hk, hok2⟩) post (pre.length + 1) rfl (fun j ao hj => by
              obtain ⟨op', q1, q2⟩ := hs (pre.length + 1 + j) ao (by
                rw [List.getElem?_append_right (by omega), show pre.length + 1 + j - pre.length = j + 1 by omega]
                simpa using hj)
              exact ⟨op', q1, q2⟩) σ' a' w' S' ρ' κ' e3 e2
            simpa using this
          · obtain ⟨op', q1, q2⟩ := hs j ao (by
              have : j < pre.length := by
                rcases Nat.lt_or_ge j pre.length with h | h
                · exact h
                · simp [List.getElem?_eq_none h] at hj
              rw [List.getElem?_append_left this]; exact hj)
            exact ⟨op', by simpa using q1, by rw [hnt]; exact q2⟩
    · cases hc
  all_goals (simp only [cCode, ACode.bare] at hc; first | (cases hc; done) | (split at hc <;> simp at hc) | (simp at hc))

/-- A region in its order, with a halt behind some of its operations. -/
theorem At.halt {pre post : List AOper} {out : List Nat} {σ : St} (hok : OK C σ.f a w S ρ κ) (hnt : C.nt = nt)
    (hv : vc P (fun σ1 => ∀ (a : Act) (w : World) (S : Nat → Prop) (ρ : Name → Option Nat) (κ : Name → Nat), OK C σ1.f a w S ρ κ → RestOK P nt post Q a w) pre σ) :
    At P nt dr (.region (pre ++ post) out []) Q a w := by
  intro c hc hzc
  cases c
  case region id ops draw =>
    simp only [cCode, ACode.bare] at hc
    split at hc
    · rename_i fl' hdraw
      cases ho : cOps P nt ops ops.toList with
      | none => rw [ho] at hc; cases hc
      | some l =>
        rw [ho] at hc
        simp only [Option.map_some, Option.some.injEq, ACode.region.injEq, true_and] at hc
        obtain ⟨hl, hfl⟩ := hc
        subst hl; subst hfl
        cases draw with
        | true =>
          have hd : dr nt ops = some [] := by simpa using hdraw
          simp [zB, hd] at hzc
        | false =>
          obtain ⟨g1, g2⟩ := cOps_spec ho
          have hs : ∀ (j : Nat) (ao : AOper), (pre ++ post)[j]? = some ao → ∃ op, ops[j]? = some op ∧ cOper P nt ops op = some ao.bare := fun j ao hj => by
            obtain ⟨op, q1, q2⟩ := g2 j ao hj
            exact ⟨op, by simpa using q1, q2⟩
          refine wp_region ?_
          have hlen : ops.size = pre.length + post.length := by
            have : ops.size = (pre ++ post).length := by simpa using g1
            rw [this]; simp
          rw [List.range_eq_range', hlen]
          refine region_pre (C := C) (K := _) (e := pre.length) (fun σ1 a w S ρ κ hK hok1 => ?_) pre 0 (by omega) (fun j ao hj => ?_) σ a w S ρ κ hv hok
          · obtain ⟨C', σ', S', ρ', κ', K', e1, e2, e3, e4⟩ := hK a w S ρ κ hok1
            subst e1
            have := region_pre (C := C') (P := P) (ops := ops) (Q := Q) (K := K') (e := pre.length + post.length) (m := 0) (fun σ2 a2 w2 S2 ρ2 κ2 hk hok2 => by
              simp only [List.range'_zero]
              exact e4 a2 w2 ⟨σ2, S2, ρ2, κ2, hk, hok2⟩) post pre.length rfl (fun j ao hj => by
              obtain ⟨op', q1, q2⟩ := hs (pre.length + j) ao (by
                rw [List.getElem?_append_right (by omega), show pre.length + j - pre.length = j by omega]
                exact hj)
              exact ⟨op', q1, q2⟩) σ' a w S' ρ' κ' e3 e2
            simpa using this
          · obtain ⟨op', q1, q2⟩ := hs j ao (by
              have : j < pre.length := by
                rcases Nat.lt_or_ge j pre.length with h | h
                · exact h
                · simp [List.getElem?_eq_none h] at hj
              rw [List.getElem?_append_left this]; exact hj)
            exact ⟨op', by simpa using q1, by rw [hnt]; exact q2⟩
    · cases hc
  all_goals (simp only [cCode, ACode.bare] at hc; first | (cases hc; done) | (split at hc <;> simp at hc) | (simp at hc))

/-- A function by pieces: handed closed values, in a context that may write M. -/
theorem calls_at {f : FuncId} {fn : Func} {body : Code} {ac : ACode} (hf : P.funcs[f]? = some fn) (hb : fn.body = some body) (hc : cCode P fn.ntmps dr body = some ac.bare) (hz : zB fn.ntmps dr body = true) {args : List AV} (hna : args.length ≤ fn.ntmps)
    {vs : Array Value} (hS : ∀ b, S b → b < w.heap.size) (he : Env S w) (hvs : vs.size = args.length) (hargs : ∀ j, j < args.length → RC S w (args.getD j .junk) (vs.getD j undef)) (M : Nat → Prop) {R : Ending → World → Prop}
    (h : ∀ a, OK ⟨fn.ntmps, w, S, M, fun _ => none, fun _ => 0, fun _ => none⟩ (⟨ini 0 args, []⟩ : St).f a w S (fun _ => none) (fun _ => 0) →
      At P fn.ntmps dr ac (fun e a' w' => (e = .ret ∨ e = .normal) ∧ a'.defers = [] ∧ ∃ v, (results fn a'.tmps).run P w' = .ok v w' ∧ R (.returned v) w') a w) : Calls P f vs w R := by
  refine calls_of_wp hf hb ?_
  refine Code.wp_mono (fun e a' w' hq => ?_) (h _ ?_ body hc hz)
  · obtain ⟨rfl | rfl, h1, v, h2, h3⟩ := hq
    · exact ⟨h1, v, h2, h3⟩
    · exact ⟨h1, v, h2, h3⟩
  · refine ⟨?_, rfl, fun t => ?_, ⟨fun n b hb => ?_, fun n m y hn _ _ _ => ?_, hS, he⟩, Nat.le_refl _, fun _ _ _ => rfl, fun n x h1 h2 => ?_, fun _ h => h, fun b hb => .inl hb, ⟨rfl, rfl⟩, fun j b hb => ?_⟩
    · simp only [Array.size_append, Array.size_replicate]; omega
    · simp only [St.f, look_ini, Nat.zero_le, true_and, Nat.zero_add, Nat.sub_zero]
      split
      · rename_i ht
        have e : (vs ++ Array.replicate (fn.ntmps - vs.size) undef).getD t undef = vs.getD t undef := by
          have h1 : t < vs.size := by omega
          simp [Array.getElem?_append, h1]
        rw [e]
        exact .clo (hargs t ht)
      · exact .junk _
    · simp [St.f, hlook] at hb
    · simp [St.f, hlook] at hn
    · simp [St.f, hlook] at h1
    · simp [St.f, hlook] at hb
end Go.Vs
