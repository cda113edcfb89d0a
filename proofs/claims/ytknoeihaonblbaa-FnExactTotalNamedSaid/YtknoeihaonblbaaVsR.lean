/- Reading operations change nothing: regions of them give the same in every order. -/
import Derived.Test.YtknoeihaonblbaaVsP
import Derived.StillTail
namespace Go.Vs
variable {P : Program} {C : Ctx} {a : Act} {w : World} {S : Nat → Prop} {ρ : Name → Option Nat} {κ : Name → Nat}

def isRd : AOp → Bool
  | .b2s _ | .box _ | .alloc _ | .bslice .. | .mk .. | .call .. | .store .. | .append .. => false
  | _ => true

def Told (P : Program) (a : Act) (w : World) (S : Nat → Prop) (ρ : Name → Option Nat) (κ : Name → Nat) (σ : St) (K : St → Prop) (o : Oper) : Prop :=
  ∃ x v, K ⟨put o.dst x σ.s, σ.h⟩ ∧ (execOp a.eval o).run P w = .ok (.value v) w ∧ RV S w ρ κ σ.f.h x v

theorem told_ans {σ : St} {K : St → Prop} {o : Oper} {s : Sem Value} (ho : execOp a.eval o = (do pure (Next.value (← s)))) (h : Ans P S w ρ κ σ.f.h (fun v => K ⟨put o.dst v σ.s, σ.h⟩) s) : Told P a w S ρ κ σ K o := by
  obtain ⟨x, v, hK, hrun, hx⟩ := h
  exact ⟨x, v, hK, by rw [ho]; exact run_v hrun, hx⟩

theorem step_told {σ : St} {K : St → Prop} {o : Oper} {op : AOp} (hc : comp P o.op = some op.bare) (hrd : isRd op = true) (hok : OK C σ.f a w S ρ κ)
    (hv : stepA P o.dst σ K op) : Told P a w S ρ κ σ K o := by
  generalize hop : o.op = oop at hc
  cases oop
  case move x =>
    simp only [comp, Option.some.injEq] at hc
    rcases bare_eq hc.symm with ⟨f, args, bor, rfl, h⟩ | ⟨_, rfl⟩
    · cases h
    · exact ⟨_, _, hv, by simp [execOp, hop], hok.ev x⟩
  case assign x =>
    simp only [comp, Option.some.injEq] at hc
    rcases bare_eq hc.symm with ⟨f, args, bor, rfl, h⟩ | ⟨_, rfl⟩
    · cases h
    · exact ⟨_, _, hv, by simp [execOp, hop], hok.ev x⟩
  case pick c x y =>
    simp only [comp, Option.some.injEq] at hc
    rcases bare_eq hc.symm with ⟨f, args, bor, rfl, h⟩ | ⟨_, rfl⟩
    · cases h
    · have hcv := hok.ev c
      simp only [stepA, rd] at hv
      split at hv
      · rename_i t ht
        rw [show evO σ.f.s c = _ from ht] at hcv
        have := inv_v hcv
        cases t
        · exact ⟨_, _, hv.2 rfl, by simp [execOp, hop, this, asBool], hok.ev y⟩
        · exact ⟨_, _, hv.1 rfl, by simp [execOp, hop, this, asBool], hok.ev x⟩
      · exact hv.elim
  case alloc t =>
    simp only [comp] at hc
    cases hz : zOf P t with
    | none => rw [hz] at hc; cases hc
    | some z =>
      rw [hz] at hc
      simp only [Option.map_some, Option.some.injEq] at hc
      rcases bare_eq hc.symm with ⟨f, args, bor, rfl, h⟩ | ⟨_, rfl⟩
      · cases h
      · simp [isRd] at hrd
  case box t x =>
    simp only [comp, Option.some.injEq] at hc
    rcases bare_eq hc.symm with ⟨f, args, bor, rfl, h⟩ | ⟨_, rfl⟩
    · cases h
    · simp [isRd] at hrd
  case build t ps =>
    simp only [comp] at hc
    split at hc
    · rename_i fs z hu hz
      split at hc
      · rename_i hall
        cases hp : bpS P fs ps.toList with
        | none => rw [hp] at hc; cases hc
        | some rp =>
          rw [hp] at hc
          simp only [Option.map_some, Option.some.injEq] at hc
          rcases bare_eq hc.symm with ⟨f, args, bor, rfl, h⟩ | ⟨_, rfl⟩
          · cases h
          · exact told_ans (by simp only [execOp, hop]) (run_build_struct hok hu hz hall hp hv)
      · cases hc
    · rename_i m e z hu hz
      cases hn : szOf P e with
      | none => rw [hn] at hc; cases hc
      | some n =>
        rw [hn] at hc
        simp only [Option.map_some, Option.some.injEq] at hc
        rcases bare_eq hc.symm with ⟨f, args, bor, rfl, h⟩ | ⟨_, rfl⟩
        · cases h
        · exact told_ans (by simp only [execOp, hop]) (run_build_array hok hu hz hn hv)
    · cases hc
  case buildSlice t m ps =>
    simp only [comp] at hc
    split at hc
    · rename_i e hu
      split at hc
      · rename_i k z hk hz
        simp only [Option.some.injEq] at hc
        rcases bare_eq hc.symm with ⟨f, args, bor, rfl, h⟩ | ⟨_, rfl⟩
        · cases h
        · simp [isRd] at hrd
      · cases hc
    · cases hc
  case load t x =>
    simp only [comp] at hc
    cases hl : ldOf P t with
    | none => rw [hl] at hc; cases hc
    | some p =>
      rw [hl] at hc
      simp only [Option.map_some, Option.some.injEq] at hc
      rcases bare_eq hc.symm with ⟨f, args, bor, rfl, h⟩ | ⟨_, rfl⟩
      · cases h
      · exact told_ans (by simp only [execOp, hop]) (rd_load hok hl hv)
  case store t A X =>
    simp only [comp] at hc
    cases hl : szOf P t with
    | none => rw [hl] at hc; cases hc
    | some k =>
      rw [hl] at hc
      simp only [Option.map_some, Option.some.injEq] at hc
      rcases bare_eq hc.symm with ⟨f, args, bor, rfl, h⟩ | ⟨_, rfl⟩
      · cases h
      · simp [isRd] at hrd
  case nilCheck x =>
    simp only [comp, Option.some.injEq] at hc
    rcases bare_eq hc.symm with ⟨f, args, bor, rfl, h⟩ | ⟨_, rfl⟩
    · cases h
    · exact (rd_nilc hok hop hv)
  case binOp op t x y yt =>
    simp only [comp] at hc
    split at hc
    · simp only [Option.some.injEq] at hc
      rcases bare_eq hc.symm with ⟨f, args, bor, rfl, h⟩ | ⟨_, rfl⟩
      · cases h
      · exact told_ans (by simp only [execOp, hop]) (rd_bin (t := t) hok hv)
    · simp only [Option.some.injEq] at hc
      rcases bare_eq hc.symm with ⟨f, args, bor, rfl, h⟩ | ⟨_, rfl⟩
      · cases h
      · exact told_ans (by simp only [execOp, hop]) (rd_binS (t := t) hok hv)
    · rename_i hu
      simp only [Option.some.injEq] at hc
      rcases bare_eq hc.symm with ⟨f, args, bor, rfl, h⟩ | ⟨_, rfl⟩
      · cases h
      · exact told_ans (by simp only [execOp, hop]) (rd_binB hok hu hv)
    · cases hc
  case unOp op t x =>
    simp only [comp, Option.some.injEq] at hc
    rcases bare_eq hc.symm with ⟨f, args, bor, rfl, h⟩ | ⟨_, rfl⟩
    · cases h
    · exact told_ans (by simp only [execOp, hop]) (rd_un hok hv)
  case convert s d x =>
    simp only [comp] at hc
    split at hc
    · rename_i h1 h2
      simp only [Option.some.injEq] at hc
      rcases bare_eq hc.symm with ⟨f, args, bor, rfl, h⟩ | ⟨_, rfl⟩
      · cases h
      · exact told_ans (by simp only [execOp, hop]) (rd_conv hok h1 h2 hv)
    · cases hc
  case makeFunc fn first caps =>
    cases fn
    case func g =>
      simp only [comp] at hc
      split at hc
      · rename_i hsz
        simp only [Option.some.injEq] at hc
        rcases bare_eq hc.symm with ⟨f, args, bor, rfl, h⟩ | ⟨_, rfl⟩
        · cases h
        · have hf0 : first = #[] := Array.eq_empty_of_size_eq_zero hsz
          have := rd_mkfn (P := P) (w := w) (K := fun v => K ⟨put o.dst v σ.s, σ.h⟩) hok hv
          refine told_ans (s := Instr.makeFunc (.func g) #[] (caps.map a.eval)) (by simp only [execOp, hop, hf0, List.map_toArray, List.map_nil]) ?_
          simpa using this
      · cases hc
    all_goals simp [comp] at hc
  case makeSlice t l c =>
    cases l
    case tmp l =>
      cases c
      case tmp c =>
        simp only [comp] at hc
        split at hc
        · rename_i hlc
          subst hlc
          split at hc
          · rename_i e hu
            split at hc
            · rename_i i hi
              split at hc
              · rename_i z hz
                simp only [Option.some.injEq] at hc
                rcases bare_eq hc.symm with ⟨f, args, bor, rfl, h⟩ | ⟨_, rfl⟩
                · cases h
                · simp [isRd] at hrd
              · cases hc
            · cases hc
          · cases hc
        · cases hc
      all_goals simp [comp] at hc
    all_goals simp [comp] at hc
  case slice t x lo hi mx =>
    cases mx
    case none =>
      simp only [comp] at hc
      split at hc
      · rename_i e hu
        cases hk : szOf P e with
        | none => rw [hk] at hc; cases hc
        | some k =>
          rw [hk] at hc
          simp only [Option.map_some, Option.some.injEq] at hc
          rcases bare_eq hc.symm with ⟨f, args, bor, rfl, h⟩ | ⟨_, rfl⟩
          · cases h
          · exact told_ans (by simp only [execOp, hop]; rfl) (rd_slc hok hu hk hv)
      · rename_i hu
        simp only [Option.some.injEq] at hc
        rcases bare_eq hc.symm with ⟨f, args, bor, rfl, h⟩ | ⟨_, rfl⟩
        · cases h
        · exact told_ans (by simp only [execOp, hop]; rfl) (rd_sstr hok hu hv)
      · cases hc
    case some => simp [comp] at hc
  case fieldAddr s x i =>
    simp only [comp] at hc
    split at hc
    · rename_i f hf
      split at hc
      · rename_i n hn
        simp only [Option.some.injEq] at hc
        rcases bare_eq hc.symm with ⟨f, args, bor, rfl, h⟩ | ⟨_, rfl⟩
        · cases h
        · exact told_ans (by simp only [execOp, hop]) (rd_fieldAddr hok hf hn (by omega) hv)
      · cases hc
    · cases hc
  case field s x i =>
    simp only [comp] at hc
    split at hc
    · rename_i f hf
      cases hl : ldOf P f.type with
      | none => rw [hl] at hc; cases hc
      | some p =>
        obtain ⟨g, n⟩ := p
        rw [hl] at hc
        simp only [Option.bind_some] at hc
        split at hc
        · rename_i hs
          simp only [Option.some.injEq] at hc
          rcases bare_eq hc.symm with ⟨f, args, bor, rfl, h⟩ | ⟨_, rfl⟩
          · cases h
          · have hg := ldOf_agg hl
            exact told_ans (by simp only [execOp, hop]) (rd_field hok hf hs hg (fun h => ldOf_one (h ▸ hl)) hv)
        · cases hc
    · cases hc
  case indexAddr t x i =>
    simp only [comp] at hc
    split at hc
    · rename_i e hu
      cases hk : szOf P e with
      | none => rw [hk] at hc; cases hc
      | some k =>
        rw [hk] at hc
        simp only [Option.map_some, Option.some.injEq] at hc
        rcases bare_eq hc.symm with ⟨f, args, bor, rfl, h⟩ | ⟨_, rfl⟩
        · cases h
        · exact told_ans (by simp only [execOp, hop]) (rd_idxSl hok hu hk hv)
    · rename_i n e hu
      cases hk : szOf P e with
      | none => rw [hk] at hc; cases hc
      | some k =>
        rw [hk] at hc
        simp only [Option.map_some, Option.some.injEq] at hc
        rcases bare_eq hc.symm with ⟨f, args, bor, rfl, h⟩ | ⟨_, rfl⟩
        · cases h
        · exact told_ans (by simp only [execOp, hop]) (rd_idxArr hok hu hk hv)
    · cases hc
  case index t x i =>
    simp only [comp] at hc
    split at hc
    · rename_i hu
      simp only [Option.some.injEq] at hc
      rcases bare_eq hc.symm with ⟨f, args, bor, rfl, h⟩ | ⟨_, rfl⟩
      · cases h
      · exact told_ans (by simp only [execOp, hop]) (rd_idxStr hok hu hv)
    · rename_i n e hu
      cases hl : ldOf P e with
      | none => rw [hl] at hc; cases hc
      | some p =>
        obtain ⟨g, k⟩ := p
        rw [hl] at hc
        simp only [Option.bind_some] at hc
        split at hc
        · rename_i hs
          simp only [Option.some.injEq] at hc
          rcases bare_eq hc.symm with ⟨f, args, bor, rfl, h⟩ | ⟨_, rfl⟩
          · cases h
          · have hg := ldOf_agg hl
            exact told_ans (by simp only [execOp, hop]) (rd_idxAgg hok hu hs hg (fun h => ldOf_one (h ▸ hl)) hv)
        · cases hc
    · cases hc
  case extract x i =>
    simp only [comp, Option.some.injEq] at hc
    rcases bare_eq hc.symm with ⟨f, args, bor, rfl, h⟩ | ⟨_, rfl⟩
    · cases h
    · exact told_ans (by simp only [execOp, hop]) (rd_extract hok hv)
  case call c =>
    simp only [comp] at hc
    split at hc
    · rename_i b hcal
      have hb := run_builtin (a := a) hop hcal
      unfold compBuiltin at hc
      split at hc
      · rename_i t x hts hxs
        have e1 := arr1 hts
        have e2 := arr1 hxs
        split at hc
        · rename_i e hu
          simp only [Option.some.injEq] at hc
          rcases bare_eq hc.symm with ⟨f, args, bor, rfl, h⟩ | ⟨_, rfl⟩
          · cases h
          · exact told_ans (s := Builtin.len_ #[t] o.type #[a.eval x]) (by rw [hb, e1, e2]; simp only [builtin, List.map_toArray, List.map_cons, List.map_nil]) (rd_len hok hu hv)
        · rename_i hu
          simp only [Option.some.injEq] at hc
          rcases bare_eq hc.symm with ⟨f, args, bor, rfl, h⟩ | ⟨_, rfl⟩
          · cases h
          · exact told_ans (s := Builtin.len_ #[t] o.type #[a.eval x]) (by rw [hb, e1, e2]; simp only [builtin, List.map_toArray, List.map_cons, List.map_nil]) (rd_lenS hok hu hv)
        · rename_i n e hu
          simp only [Option.some.injEq] at hc
          rcases bare_eq hc.symm with ⟨f, args, bor, rfl, h⟩ | ⟨_, rfl⟩
          · cases h
          · exact told_ans (s := Builtin.len_ #[t] o.type #[a.eval x]) (by rw [hb, e1, e2]; simp only [builtin, List.map_toArray, List.map_cons, List.map_nil]) (rd_lenC _ hu hv)
        · cases hc
      · rename_i t t2 A X hts hxs
        have e1 := arr2 hts
        have e2 := arr2 hxs
        split at hc
        · rename_i e e2' hu hu2
          split at hc
          · rename_i i hi
            split at hc
            · rename_i z hz
              split at hc
              · rename_i hzs
                simp only [Option.some.injEq] at hc
                rcases bare_eq hc.symm with ⟨f, args, bor, rfl, h⟩ | ⟨_, rfl⟩
                · cases h
                · simp [isRd] at hrd
              · cases hc
            · cases hc
          · cases hc
        · cases hc
      · rename_i t t2 x y hts hxs
        have e1 := arr2 hts
        have e2 := arr2 hxs
        simp only [Option.some.injEq] at hc
        rcases bare_eq hc.symm with ⟨f, args, bor, rfl, h⟩ | ⟨_, rfl⟩
        · cases h
        · exact told_ans (s := Builtin.max_ #[t, t2] o.type #[a.eval x, a.eval y]) (by rw [hb, e1, e2]; simp only [builtin, List.map_toArray, List.map_cons, List.map_nil]) (rd_mm (mx := true) (t := #[t, t2]) (T := o.type) hok hv)
      · rename_i t t2 x y hts hxs
        have e1 := arr2 hts
        have e2 := arr2 hxs
        simp only [Option.some.injEq] at hc
        rcases bare_eq hc.symm with ⟨f, args, bor, rfl, h⟩ | ⟨_, rfl⟩
        · cases h
        · exact told_ans (s := Builtin.min_ #[t, t2] o.type #[a.eval x, a.eval y]) (by rw [hb, e1, e2]; simp only [builtin, List.map_toArray, List.map_cons, List.map_nil]) (rd_mm (mx := false) (t := #[t, t2]) (T := o.type) hok hv)
      · cases hc
    · rename_i f hcal
      simp only [Option.some.injEq] at hc
      rcases bare_eq hc.symm with ⟨f', args, bor, rfl, h⟩ | ⟨hn, h⟩
      · simp only [AOp.call.injEq] at h
        simp [isRd] at hrd
      · exact absurd h (hn _ _ _)
    · cases hc
  all_goals simp [comp] at hc

theorem bare_rd {op op' : AOp} (h : op.bare = op'.bare) : isRd op = isRd op' := by
  cases op <;> cases op' <;> simp_all [AOp.bare, isRd]

theorem wpStill_of {ops : Array Oper} {Q : Act → Prop} {K : St → Prop} (hQ : ∀ a σ, K σ → OK C σ.f a w S ρ κ → Q a) : ∀ (aops : List AOper) (l : List Oper), l.length = aops.length → (∀ (j : Nat) (ao : AOper), aops[j]? = some ao → ∃ o : Oper, l[j]? = some o ∧ cOper P C.nt ops o = some ao.bare ∧ isRd ao.op = true) →
    ∀ (σ : St) (a : Act), vc P K aops σ → OK C σ.f a w S ρ κ → wpStill P ops w Q l a
  | [], [], _, _, σ, a, hv, hok => hQ a σ hv hok
  | [], _ :: _, hl, _, _, _, _, _ => by simp at hl
  | _ :: _, [], hl, _, _, _, _, _ => by simp at hl
  | ao :: r, o :: l, hl, hs, σ, a, hv, hok => by
    obtain ⟨o', ho, hc, hrd⟩ := hs 0 ao (by simp)
    simp only [List.getElem?_cons_zero, Option.some.injEq] at ho
    subst ho
    obtain ⟨h1, h2, h3, h4⟩ := cOper_spec hc
    have ih := wpStill_of hQ r l (by simpa using hl) (fun j ao' hj => by simpa using hs (j + 1) ao' (by simpa using hj))
    have go : stepA P ao.dst σ (vc P K r) ao.op → o.still P a w (wpStill P ops w Q l) := fun hst => by
      obtain ⟨x, v, hK, hrun, hx⟩ := step_told (P := P) h1 hrd hok (by rw [h2]; exact hst)
      unfold Oper.still
      rw [hrun, Oper.stillUpon_value]
      refine ih _ _ hK ?_
      have := hok.put hx h3
      simpa [St.f, look_put] using this
    unfold wpStill
    simp only [vc] at hv
    rcases h4 with ⟨g1, g2⟩ | ⟨j, want, t, g1, g2, g3⟩
    · rw [g2] at hv
      have : Region.wanted o (yielded ops a.tmps) = true := by simp [Region.wanted, g1]
      rw [if_pos this]
      exact go hv
    · rw [g2] at hv
      simp only at hv
      split at hv
      · rename_i b hb
        have hw := wanted_of hok g1 g3 hb
        by_cases hbw : b = want
        · rw [if_pos (by rw [hw]; simp [hbw])]
          exact go (hv.1 hbw)
        · rw [if_neg (by rw [hw]; simp [hbw])]
          have hn : b = !want := by cases b <;> cases want <;> simp_all
          refine ih _ _ (hv.2 hn) ?_
          have := hok.put (x := .junk) (v := undef) (.junk _) h3
          rw [h2] at this ⊢
          simpa [St.f, look_put] using this
      · exact hv.elim

/-- A region of reading operations alone, whose order is open only where it does not matter. -/
def drawnR (P : Program) (ops : Array Oper) : Bool := Region.lexB .any ops && ops.all fun o => match comp P o.op with | some op => isRd op | none => false

theorem drawn_still (hm : P.follows .mixedOrders = true) : DrawOK P (drawnR P) := by
  intro C id ops aops K Q σ a w S ρ κ hd hc hQ hv hok
  simp only [drawnR, Bool.and_eq_true] at hd
  obtain ⟨hB, hr⟩ := hd
  have hok' : OK C σ.f a { w with drawn := w.drawn + 1 } S ρ κ := hok.ext (Ext.of_heap rfl rfl rfl)
  obtain ⟨g1, g2⟩ := cOps_spec hc
  refine wp_region_still hm hB (wpStill_of (K := K) (S := S) (ρ := ρ) (κ := κ) (C := C) (fun a' σ' hK ho => hQ a' _ ⟨σ', S, ρ, κ, hK, ho⟩) aops ops.toList g1 (fun j ao hj => ?_) σ a hv hok')
  obtain ⟨o, q1, q2⟩ := g2 j ao hj
  refine ⟨o, q1, q2, ?_⟩
  have hmem : o ∈ ops := by simpa using List.mem_of_getElem? q1
  have := Array.all_eq_true'.1 hr o hmem
  obtain ⟨h1, _⟩ := cOper_spec q2
  rw [h1] at this
  simp only at this
  rw [← this]
  exact (bare_rd (by cases ao.op <;> rfl)).symm

theorem vc_append (K : St → Prop) : ∀ (l1 l2 : List AOper) (σ : St), vc P K (l1 ++ l2) σ ↔ vc P (vc P K l2) l1 σ
  | [], l2, σ => Iff.rfl
  | o :: r, l2, σ => by
    have ih : vc P K (r ++ l2) = vc P (vc P K l2) r := funext fun σ' => propext (vc_append K r l2 σ')
    simp only [List.cons_append, vc, ih]

def rdOp (P : Program) (o : Oper) : Bool := match comp P o.op with | some op => isRd op | none => false

/-- Reading operations in an open order, then a tail that keeps its order. -/
def drawnT (P : Program) (ops : Array Oper) : Bool := (List.range ops.size).any fun n => Region.lexTailB .any ops n && (ops.toList.take n).all (rdOp P)

theorem drawn_tail (hm : P.follows .mixedOrders = true) : DrawOK P (drawnT P) := by
  intro C id ops aops K Q σ a w S ρ κ hd hc hQ hv hok
  simp only [drawnT, List.any_eq_true, List.mem_range, Bool.and_eq_true] at hd
  obtain ⟨n, hn, hB, hr⟩ := hd
  have hok' : OK C σ.f a { w with drawn := w.drawn + 1 } S ρ κ := hok.ext (Ext.of_heap rfl rfl rfl)
  obtain ⟨g1, g2⟩ := cOps_spec hc
  obtain ⟨l⟩ := ops
  simp only at g1 g2 hr
  have hnl : n < l.length := by simpa using hn
  refine wp_region_still_tail n hm hB (wpStill_of (K := vc P K (aops.drop n)) (S := S) (ρ := ρ) (κ := κ) (C := C) (fun a' σ' hK ho => ?_) (aops.take n) (l.take n) (by simp; omega) (fun j ao hj => ?_) σ a (by rw [← vc_append, List.take_append_drop]; exact hv) hok')
  · have := region_wp (P := P) (ops := l.toArray) hQ (aops.drop n) n (fun j ao hj => by
      rw [List.getElem?_drop] at hj
      obtain ⟨o, q1, q2⟩ := g2 _ ao hj
      exact ⟨o, by simpa using q1, q2⟩) σ' a' _ S ρ κ hK ho
    rw [show (aops.drop n).length = (l.drop n).length by simp; omega, wpOps_eq_wpList (l.drop n) n (fun j => by simp)] at this
    exact this
  · rw [List.getElem?_take] at hj
    split at hj
    · rename_i hjn
      obtain ⟨o, q1, q2⟩ := g2 j ao hj
      have q1' : (l.take n)[j]? = some o := by rw [List.getElem?_take, if_pos hjn]; exact q1
      refine ⟨o, q1', q2, ?_⟩
      have := List.all_eq_true.1 hr o (List.mem_of_getElem? q1')
      obtain ⟨h1, _⟩ := cOper_spec q2
      simp only [rdOp, h1] at this
      rw [← this]
      exact (bare_rd (by cases ao.op <;> rfl)).symm
    · cases hj

def drawnB (P : Program) (ops : Array Oper) : Bool := drawnR P ops || drawnT P ops
theorem drawn_ok (hm : P.follows .mixedOrders = true) : DrawOK P (drawnB P) := by
  intro C id ops aops K Q σ a w S ρ κ hd hc hQ hv hok
  simp only [drawnB, Bool.or_eq_true] at hd
  rcases hd with hd | hd
  · exact drawn_still hm C id ops aops K Q σ a w S ρ κ hd hc hQ hv hok
  · exact drawn_tail hm C id ops aops K Q σ a w S ρ κ hd hc hQ hv hok

/-- The function of this number is this one, and its code is this one, resolved. -/
def CodeIsR (P : Program) (f : FuncId) (fn : Func) (ac : ACode) : Prop :=
  P.funcs[f]? = some fn ∧ (fn.body.bind (cCode P fn.ntmps (drawnB P))) = some ac.bare ∧ (fn.name != "runtime.NumGoroutine") = true

theorem CodeIsR.fn {f : FuncId} {fn : Func} {ac : ACode} (h : CodeIsR P f fn ac) (hm : P.follows .mixedOrders = true) {hin : List Blk} {args : List AV} {r : AV} {hout' : List (Option Blk)} (nt : Nat) (rs : List ResultVar) (B : List Name) (hout : List Blk) (hnt : fn.ntmps = nt) (hrs : fn.results.toList = rs)
    (ho : hout' = hout.map some) (hna : args.length ≤ nt) (hnd : nodupB B = true) (hB : ∀ j, j < hin.length → B[j]? = some (.b j))
    (hw : ∀ C : Ctx, wpc P C (drawnB P) ac (retK P rs B r hout) (fun e σ => match e with | .ret => retK P rs B r hout σ | .exit _ => False) ⟨ini 0 args, iniH 0 hin⟩) :
    Fn P f hin args r hout' := by
  subst hnt; subst hrs; subst ho
  obtain ⟨h1, h2, h3⟩ := h
  obtain ⟨body, hb, hc⟩ := Option.bind_eq_some_iff.1 h2
  exact Fn.intro (drawn_ok hm) B h1 hb (by simpa using h3) hc hna (nodupB_spec hnd) hB fun C _ => hw C
end Go.Vs
