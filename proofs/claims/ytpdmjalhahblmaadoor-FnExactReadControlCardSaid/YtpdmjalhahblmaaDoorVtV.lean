/- Regions of which one operation is taken by hand. -/
import Derived.Test.YtpdmjalhahblmaaDoorVtS
namespace Go.Vs
set_option linter.unusedSectionVars false
variable [Envs]
variable {P : Program} {C : Ctx} {a : Act} {w : World} {S : Nat → Prop} {ρ : Name → Option Nat} {κ : Name → Nat}

theorem OK.renL {σ : St} {n m : Name} (hn : n ≠ m) (hf : freshL m σ = true) (hok : OK C σ.f a w S ρ κ) : ∃ ρ' κ', OK C (renL n m σ).f a w S ρ' κ' := by
  have hf' := freshL_spec hf
  obtain ⟨ρ', κ', h1⟩ := hok.rename (n := n) (m := m) hn hf'.1.1 hf'.1.2
  refine ⟨ρ', κ', ?_⟩
  have e : (⟨fun u => rn (nmF n m) (σ.f.s u), fun x => if x = m then (σ.f.h n).map (rnB (nmF n m)) else if x = n then none else (σ.f.h x).map (rnB (nmF n m))⟩ : FSt) = (Vs.renL n m σ).f := by
    simp only [St.f, Vs.renL, FSt.mk.injEq]
    refine ⟨funext fun u => (look_map _ (by simp [rn]) _ u).symm, funext fun x => (hlook_ren _ x hf'.1.1).symm⟩
  rw [e] at h1
  exact h1
end Go.Vs

namespace Go.Vs
set_option linter.unusedSectionVars false
variable [Envs]
set_option linter.unusedVariables false
variable {P : Program} {C : Ctx} {a : Act} {w : World} {S : Nat → Prop} {ρ : Name → Option Nat} {κ : Name → Nat}

/-- A value that reads as x by blocks D, which were there when the context began, and which it does not know. -/
structure Hid (C : Ctx) (D : Nat → Prop) (x : AV) (v : Value) : Prop where
  rd : RC D C.w0 x v
  lt : ∀ b, D b → b < C.w0.heap.size
  no : ∀ b, D b → ¬ C.S0 b ∧ ¬ C.Mut b

theorem Hid.same {D : Nat → Prop} {x : AV} {v : Value} (hh : Hid C D x v) {σ : FSt} (hok : OK C σ a w S ρ κ) :
    (∀ b, D b → w.heap[b]? = C.w0.heap[b]?) ∧ (∀ b, D b → b < w.heap.size) ∧ (∀ b, D b → ¬ S b) ∧ ∀ b, D b → ∀ n, (σ.h n).isSome → ρ n ≠ some b := by
  refine ⟨fun b hb => hok.old b (hh.lt b hb) (hh.no b hb).2, fun b hb => Nat.lt_of_lt_of_le (hh.lt b hb) hok.size, fun b hb hs => ?_, fun b hb n hn he => ?_⟩
  · have := hh.lt b hb
    rcases hok.Snew b hs with h | h | h
    · exact (hh.no b hb).1 h
    · omega
    · exact (hh.no b hb).2 h
  · have := hh.lt b hb
    rcases hok.mine n b hn he with h | h
    · omega
    · exact (hh.no b hb).2 h

theorem Hid.now {D : Nat → Prop} {x : AV} {v : Value} (hh : Hid C D x v) {σ : FSt} (hok : OK C σ a w S ρ κ) : RC D w x v :=
  hh.rd.mono (fun _ h => h) (fun b hb => (hh.same hok).1 b hb)

/-- One context began behind another, and what it may write the other may write. -/
structure Later (C C' : Ctx) : Prop where
  nt : C'.nt = C.nt
  size : C.w0.heap.size ≤ C'.w0.heap.size
  old : ∀ b, b < C.w0.heap.size → ¬ C.Mut b → C'.w0.heap[b]? = C.w0.heap[b]?
  wr : ∀ b, C'.Mut b → C.w0.heap.size ≤ b ∨ C.Mut b
  s0 : ∀ b, C.S0 b → C'.S0 b
  new : ∀ b, C'.S0 b → C.S0 b ∨ C.w0.heap.size ≤ b ∨ C.Mut b
  out : C'.w0.os = C.w0.os ∧ C'.w0.output = C.w0.output
  base : C'.ρ0 = C.ρ0 ∧ C'.κ0 = C.κ0 ∧ C'.h0 = C.h0

theorem OK.back {C' : Ctx} (hl : Later C C') {σ : FSt} (h : OK C' σ a w S ρ κ) : OK C σ a w S ρ κ where
  nt := h.nt.trans hl.nt
  defers := h.defers
  slots := h.slots
  hok := h.hok
  size := Nat.le_trans hl.size h.size
  old b hb hm := by
    rw [← hl.old b hb hm]
    refine h.old b (Nat.lt_of_lt_of_le hb hl.size) fun h' => ?_
    rcases hl.wr b h' with h'' | h''
    · omega
    · exact hm h''
  mine n x h1 h2 := by
    rcases h.mine n x h1 h2 with h' | h'
    · exact .inl (Nat.le_trans hl.size h')
    · exact hl.wr x h'
  S0 b hb := h.S0 b (hl.s0 b hb)
  Snew b hb := by
    rcases h.Snew b hb with h' | h' | h'
    · exact hl.new b h'
    · exact .inr (.inl (Nat.le_trans hl.size h'))
    · exact .inr (hl.wr b h')
  out := ⟨h.out.1.trans hl.out.1, h.out.2.trans hl.out.2⟩
  keep j b hb := by rw [← hl.base.1, ← hl.base.2.1, ← hl.base.2.2]; exact h.keep j b hb

/-- a context begun anew: at this world, with this set and these names -/
def Ctx.anew (C : Ctx) (w : World) (S : Nat → Prop) (h : Name → Option Blk) (ρ : Name → Option Nat) : Ctx :=
  { C with w0 := w, S0 := S, Mut := fun b => ∃ n, (h n).isSome ∧ ρ n = some b }

theorem OK.anew {σ : FSt} (hok : OK C σ a w S ρ κ) : OK (C.anew w S σ.h ρ) σ a w S ρ κ where
  nt := hok.nt
  defers := hok.defers
  slots := hok.slots
  hok := hok.hok
  size := Nat.le_refl _
  old _ _ _ := rfl
  mine n x h1 h2 := .inr ⟨n, h1, h2⟩
  S0 _ h := h
  Snew _ h := .inl h
  out := ⟨rfl, rfl⟩
  keep := hok.keep

theorem OK.later {σ : FSt} (hok : OK C σ a w S ρ κ) : Later C (C.anew w S σ.h ρ) where
  nt := rfl
  size := hok.size
  old := hok.old
  wr b hb := by obtain ⟨n, h1, h2⟩ := hb; exact hok.mine n b h1 h2
  s0 := hok.S0
  new := hok.Snew
  out := hok.out
  base := ⟨rfl, rfl, rfl⟩

theorem Later.trans {C1 C2 C3 : Ctx} (h : Later C1 C2) (h' : Later C2 C3) : Later C1 C3 where
  nt := h'.nt.trans h.nt
  size := Nat.le_trans h.size h'.size
  old b hb hm := by
    rw [← h.old b hb hm]
    refine h'.old b (Nat.lt_of_lt_of_le hb h.size) fun hx => ?_
    rcases h.wr b hx with hy | hy
    · omega
    · exact hm hy
  wr b hb := by
    rcases h'.wr b hb with hx | hx
    · exact .inl (Nat.le_trans h.size hx)
    · exact h.wr b hx
  s0 b hb := h'.s0 b (h.s0 b hb)
  new b hb := by
    rcases h'.new b hb with hx | hx | hx
    · exact h.new b hx
    · exact .inr (.inl (Nat.le_trans h.size hx))
    · exact .inr (h.wr b hx)
  out := ⟨h'.out.1.trans h.out.1, h'.out.2.trans h.out.2⟩
  base := ⟨h'.base.1.trans h.base.1, h'.base.2.1.trans h.base.2.1, h'.base.2.2.trans h.base.2.2⟩

/-- the world in which hidden blocks were written: nothing that the walk knows has changed -/
theorem OK.wrote {σ : FSt} {D : Nat → Prop} {x : AV} {v : Value} (hh : Hid C D x v) (hok : OK C σ a w S ρ κ) {w' : World} (hs : w.heap.size ≤ w'.heap.size)
    (hw : ∀ b, b < w.heap.size → ¬ D b → w'.heap[b]? = w.heap[b]?) (ho : w'.os = w.os ∧ w'.output = w.output) :
    OK (C.anew w' S σ.h ρ) σ a w' S ρ κ := by
  obtain ⟨_, _, h3, h4⟩ := hh.same hok
  have hS : ∀ b, S b → w'.heap[b]? = w.heap[b]? := fun b hb => hw b (hok.hok.dom b hb) fun hd => h3 b hd hb
  have hN : ∀ n, (σ.h n).isSome → ∀ y, ρ n = some y → w'.heap[y]? = w.heap[y]? := fun n hn y hy => hw y (hok.hok.lt hn hy) fun hd => h4 y hd n hn hy
  refine ⟨hok.nt, hok.defers, fun t => ?_, ⟨fun n b hb => ?_, hok.hok.inj, fun b hb => Nat.lt_of_lt_of_le (hok.hok.dom b hb) hs, hok.hok.env.mono (fun _ h => h) hS⟩, Nat.le_refl _, fun _ _ _ => rfl, fun n x h1 h2 => .inr ⟨n, h1, h2⟩, fun _ h => h, fun _ h => .inl h, ⟨rfl, rfl⟩, hok.keep⟩
  · exact (hok.slots t).mono (fun _ h => h) hS fun m _ => NameOK.refl _ _ _ _
  · exact (hok.hok.blk n b hb).mono (fun _ h => h) (fun _ _ h => h) hS (hN n (by simp [hb])) rfl rfl fun m _ => NameOK.refl _ _ _ _

theorem mutOf_nil {ρ : Name → Option Nat} {b : Nat} : ¬ MutOf ρ [] b := by
  intro h
  simp [MutOf] at h

end Go.Vs

namespace Go.Vs
set_option linter.unusedSectionVars false
variable [Envs]
set_option linter.unusedVariables false
variable {P : Program} {C : Ctx} {a : Act} {w : World} {S : Nat → Prop} {ρ : Name → Option Nat} {κ : Name → Nat}

/-- The operations up to one: then the rest. -/
theorem region_pre {ops : Array Oper} {Q : Exit → Act → World → Prop} {K : St → Prop} {e m : Nat} (hK : ∀ (σ : St) (a : Act) (w : World) (S : Nat → Prop) (ρ : Name → Option Nat) (κ : Name → Nat), K σ → OK C σ.f a w S ρ κ → wpOps P ops Q (List.range' e m) a w) :
    ∀ (aops : List AOper) (k : Nat), k + aops.length = e → (∀ j ao, aops[j]? = some ao → ∃ o, ops[k + j]? = some o ∧ cOper P C.nt ops o = some ao.bare) →
    ∀ (σ : St) (a : Act) (w : World) (S : Nat → Prop) (ρ : Name → Option Nat) (κ : Name → Nat), vc P K aops σ → OK C σ.f a w S ρ κ → wpOps P ops Q (List.range' k (aops.length + m)) a w
  | [], k, hk, _, σ, a, w, S, ρ, κ, hv, hok => by
    simp only [List.length_nil, Nat.add_zero, Nat.zero_add] at hk ⊢
    subst hk
    exact hK σ a w S ρ κ hv hok
  | ao :: r, k, hk, hs, σ, a, w, S, ρ, κ, hv, hok => by
    obtain ⟨o, ho, hc⟩ := hs 0 ao (by simp)
    simp only [Nat.add_zero] at ho
    obtain ⟨h1, h2, h3, h4⟩ := cOper_spec hc
    rw [show (ao :: r).length + m = (r.length + m) + 1 by simp only [List.length_cons]; omega, List.range'_succ, wpOps_cons]
    have ih := region_pre hK r (k + 1) (by simp only [List.length_cons] at hk; omega) (fun j ao' hj => by
      obtain ⟨o', g1, g2⟩ := hs (j + 1) ao' (by simpa using hj)
      exact ⟨o', by rw [show k + 1 + j = k + (j + 1) by omega]; exact g1, g2⟩)
    have go : stepA P ao.dst σ (vc P K r) ao.op → o.wp P a w (wpOps P ops Q (List.range' (k + 1) (r.length + m))) Q := fun hst =>
      Oper.wp_mono (fun a' w' ⟨σ', S', ρ', κ', hK, hok'⟩ => ih σ' a' w' S' ρ' κ' hK hok') (step_sound (P := P) h1 hok h3 (by rw [h2]; exact hst))
    unfold wpOp
    rw [ho]
    simp only [vc] at hv
    rcases h4 with ⟨g1, g2⟩ | ⟨j, want, t, g1, g2, g3⟩
    · rw [g2] at hv
      have : Region.wanted o (yielded ops a.tmps) = true := by simp [Region.wanted, g1]
      simp only [this, if_true]
      exact .inl (go hv)
    · rw [g2] at hv
      simp only at hv
      split at hv
      · rename_i b hb
        have hw := wanted_of hok g1 g3 hb
        simp only [hw]
        by_cases hbw : b = want
        · simp only [hbw, beq_self_eq_true, if_true]
          exact .inl (go ((BrW_iff.1 hv).1 hbw))
        · have : (b == want) = false := by simpa using hbw
          simp only [this, Bool.false_eq_true, if_false]
          have hn : b = !want := by cases b <;> cases want <;> simp_all
          refine ih _ _ _ S ρ κ ((BrW_iff.1 hv).2 hn) ?_
          have := hok.put (x := .v undef) (v := undef) (.clo (.v _)) h3
          rw [h2] at this ⊢
          simpa [St.f, look_put, undef] using this
      · rename_i cs hb
        have hw := wanted_un hok g1 g3 hb
        simp only [hw, Bool.false_eq_true, if_false]
        refine ih _ _ _ S ρ κ hv ?_
        have := hok.put (x := .v undef) (v := undef) (.clo (.v _)) h3
        rw [h2] at this ⊢
        simpa [St.f, look_put, undef] using this
      · exact hv.elim

theorem compBuiltin_call {b : Builtin} {ts : List TypeId} {args l : List Operand} {f : Operand} (h : compBuiltin P b ts args = some (.call f l [])) : False := by
  unfold compBuiltin at h
  repeat' split at h
  all_goals simp at h

theorem comp_call {op : Op} {f : FuncId} {args : List Operand} (h : comp P op = some (.call (.func f) args [])) : ∃ c : Call, op = .call c ∧ c.callee = .value (.func f) ∧ args = c.args.toList := by
  cases op
  case call c =>
    simp only [comp] at h
    split at h
    · exact (compBuiltin_call h).elim
    · rename_i g hg
      split at h
      · split at h <;> simp at h
      · simp only [Option.some.injEq, AOp.call.injEq, Operand.func.injEq, and_true] at h
        exact ⟨c, rfl, by rw [hg, h.1], h.2.symm⟩
    · rename_i g _ hg
      simp only [Option.some.injEq, AOp.call.injEq, and_true] at h
      exact ⟨c, rfl, by rw [hg, h.1], h.2.symm⟩
    · cases h
  all_goals (unfold comp at h; repeat' split at h)
  all_goals first | contradiction | (simp at h; done) | (simp [Option.bind_eq_some_iff] at h; done)

theorem amap {α β : Type} (g : α → β) (l : Array α) : l.map g ++ #[] = (l.toList.map g).toArray := by cases l; simp
/-- A call whose doing is known. -/
theorem op_call {ops : Array Oper} {σ : FSt} {o : Oper} {ao : AOper} {f : FuncId} {args : List Operand} {bor : List Nat} (hc : cOper P C.nt ops o = some ao.bare) (hao : ao.op = .call (.func f) args bor) (hok : OK C σ a w S ρ κ) (hb : HasBody P f)
    {next : Act → World → Prop} {Q : Exit → Act → World → Prop} (h : Calls P f (args.map a.eval).toArray w fun e w' => ∃ u, e = .returned u ∧ next (a.put ao.dst u) w') : o.wp P a w next Q := by
  obtain ⟨h1, h2, _, _⟩ := cOper_spec hc
  rw [hao] at h1
  obtain ⟨c, hop, hcal, rfl⟩ := comp_call h1
  obtain ⟨fn, b, g1, g2, g3⟩ := hb
  have hf := hok.ev (.func f)
  obtain ⟨vs, hva, hl, _⟩ := inv_fn hf
  have hvs : vs = #[] := by
    apply Array.eq_empty_of_size_eq_zero
    simpa using hl.symm
  subst hvs
  have hrun : (execOp a.eval o).run P w = .ok (.enter f (c.args.map a.eval ++ #[])) w := by
    simp [execOp, hop, resolve, hcal, hva, Deferred.ofValue, invoke, callFunc, g1, g2, g3]
  have e := amap a.eval c.args
  unfold Oper.wp
  rw [hrun, e]
  simp only [Oper.upon]
  refine h.mono ?_
  rintro e' w' ⟨u, rfl, hn⟩
  rw [h2]
  exact hn
end Go.Vs
