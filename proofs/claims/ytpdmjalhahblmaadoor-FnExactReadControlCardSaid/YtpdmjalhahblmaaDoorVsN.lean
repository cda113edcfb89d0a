/- Every operation; a region that keeps its order. -/
import Derived.Test.YtpdmjalhahblmaaDoorVsM
namespace Go.Vs
set_option linter.unusedSectionVars false
variable [Envs]
variable {P : Program} {C : Ctx} {a : Act} {w : World} {S : Nat → Prop} {ρ : Name → Option Nat} {κ : Name → Nat}

theorem step_ans {σ : St} {K : St → Prop} {o : Oper} {Q : Exit → Act → World → Prop} (hok : OK C σ.f a w S ρ κ) (hd : ∀ d', o.dst = some d' → d' < C.nt) {s : Sem Value}
    (ho : execOp a.eval o = (do pure (Next.value (← s)))) (h : Ans P S w ρ κ σ.f.h (fun v => K ⟨put o.dst v σ.s, σ.h⟩) s) : o.wp P a w (GoodL C K) Q := by
  obtain ⟨x, v, hK, hrun, hx⟩ := h
  exact step_rd hok hd ⟨x, v, hK, by rw [ho]; exact run_v hrun, hx⟩

theorem step_made {σ : St} {K : St → Prop} {o : Oper} {d : Nat} {Q : Exit → Act → World → Prop} (hdst : o.dst = some d) (hd : d < C.nt) {s : Sem Value}
    (ho : execOp a.eval o = (do pure (Next.value (← s))))
    (h : Made P C σ.f a w S (.t d 0) (fun v b => (freshL (.t d 0) σ = true ∧ b.has (.t d 0) = false) ∧ K ⟨(d, v) :: σ.s, (.t d 0, b) :: σ.h⟩) s) : o.wp P a w (GoodL C K) Q := by
  obtain ⟨x, b, v, w', ⟨⟨h1, h2⟩, hK⟩, hrun, hok⟩ := h
  obtain ⟨ρ', κ', hok', hx⟩ := hok (freshL_spec h1) h2
  have e : (St.mk σ.s ((.t d 0, b) :: σ.h)).f = ⟨σ.f.s, hput σ.f.h (.t d 0) (some b)⟩ := by
    simp only [St.f, FSt.mk.injEq, true_and]
    funext m; simp only [hlook, hput]
  unfold Oper.wp
  rw [ho, run_v hrun]
  show GoodL C K (a.put o.dst v) w'
  rw [← e] at hok'
  rw [hdst]
  exact GoodL.put (σ := ⟨σ.s, (.t d 0, b) :: σ.h⟩) hok' (by rw [e]; exact hx) (fun d' h => by rw [← Option.some.inj h]; exact hd) hK

/-- what the operation leaves out: only what is told -/
theorem bare_eq {op op' : AOp} (h : op.bare0 = op') : (∃ f args bor, op = .call f args bor ∧ op' = .call f args []) ∨ ((∀ f args bor, op ≠ .call f args bor) ∧ op = op') := by
  cases op <;> simp only [AOp.bare0] at h <;> first
    | exact .inr ⟨by simp, h⟩
    | exact .inl ⟨_, _, _, rfl, h.symm⟩

theorem ldOf_agg {T : TypeId} {g : Bool} {k : Nat} (h : ldOf P T = some (g, k)) : isAggT P T = some g := by
  unfold ldOf at h
  split at h
  · rename_i n h1 h2
    simp only [Option.some.injEq, Prod.mk.injEq] at h
    rw [h1, h.1]
  · rename_i n h1 h2
    simp only [Option.some.injEq, Prod.mk.injEq] at h
    rw [h1, h.1]
  · cases h

theorem arr2 {α : Type} {x : Array α} {p q : α} (h : x.toList = [p, q]) : x = #[p, q] := by
  apply Array.ext'; simpa using h
theorem arr1 {α : Type} {x : Array α} {p : α} (h : x.toList = [p]) : x = #[p] := by
  apply Array.ext'; simpa using h

theorem run_builtin {o : Oper} {c : Call} {b : Builtin} (ho : o.op = .call c) (hc : c.callee = .builtin b) :
    execOp a.eval o = builtin b c.argTypes o.type (c.args.map fun | .const _ => true | _ => false) (c.args.map a.eval) := by
  simp only [execOp, ho, resolve, hc]
  rfl

theorem step_sound0 {σ : St} {K : St → Prop} {o : Oper} {op : AOp} {Q : Exit → Act → World → Prop} (hc : comp P o.op = some op.bare0) (hok : OK C σ.f a w S ρ κ) (hd : ∀ d', o.dst = some d' → d' < C.nt)
    (hv : stepA P o.dst σ K op) : o.wp P a w (GoodL C K) Q := by
  generalize hop : o.op = oop at hc
  cases oop
  case move x =>
    simp only [comp, Option.some.injEq] at hc
    rcases bare_eq hc.symm with ⟨f, args, bor, rfl, h⟩ | ⟨_, rfl⟩
    · cases h
    · exact step_rd hok hd ⟨_, _, hv, by simp [execOp, hop], hok.ev x⟩
  case assign x =>
    simp only [comp, Option.some.injEq] at hc
    rcases bare_eq hc.symm with ⟨f, args, bor, rfl, h⟩ | ⟨_, rfl⟩
    · cases h
    · exact step_rd hok hd ⟨_, _, hv, by simp [execOp, hop], hok.ev x⟩
  case pick c x y =>
    simp only [comp, Option.some.injEq] at hc
    rcases bare_eq hc.symm with ⟨f, args, bor, rfl, h⟩ | ⟨_, rfl⟩
    · cases h
    · have hcv := hok.ev c
      simp only [stepA, rd] at hv
      split at hv
      · rename_i t ht
        rw [show evO σ.f.s c = _ from ht] at hcv
        have := inv_v hcv
        cases t
        · exact step_rd hok hd ⟨_, _, hv.2 rfl, by simp [execOp, hop, this, asBool], hok.ev y⟩
        · exact step_rd hok hd ⟨_, _, hv.1 rfl, by simp [execOp, hop, this, asBool], hok.ev x⟩
      · exact hv.elim
  case alloc t =>
    simp only [comp] at hc
    cases hz : zOf P t with
    | none => rw [hz] at hc; cases hc
    | some z =>
      rw [hz] at hc
      simp only [Option.map_some, Option.some.injEq] at hc
      rcases bare_eq hc.symm with ⟨f, args, bor, rfl, h⟩ | ⟨_, rfl⟩
      · cases h
      · simp only [stepA] at hv
        split at hv
        · rename_i d hdst
          exact step_made hdst (hd d hdst) (by simp only [execOp, hop]) (al_alloc hok hz hv)
        · exact hv.elim
  case box t x =>
    simp only [comp, Option.some.injEq] at hc
    rcases bare_eq hc.symm with ⟨f, args, bor, rfl, h⟩ | ⟨_, rfl⟩
    · cases h
    · simp only [stepA] at hv
      split at hv
      · rename_i d hdst
        exact step_made hdst (hd d hdst) (by simp only [execOp, hop]) (al_box (T := t) hok hv)
      · exact hv.elim
  case build t ps =>
    simp only [comp] at hc
    split at hc
    · rename_i fs z hu hz
      split at hc
      · rename_i hall
        cases hp : bpS P fs ps.toList with
        | none => rw [hp] at hc; cases hc
        | some rp =>
          rw [hp] at hc
          simp only [Option.map_some, Option.some.injEq] at hc
          rcases bare_eq hc.symm with ⟨f, args, bor, rfl, h⟩ | ⟨_, rfl⟩
          · cases h
          · exact step_ans hok hd (by simp only [execOp, hop]) (run_build_struct hok hu hz hall hp hv)
      · cases hc
    · rename_i m e z hu hz
      cases hn : szOf P e with
      | none => rw [hn] at hc; cases hc
      | some n =>
        rw [hn] at hc
        simp only [Option.map_some, Option.some.injEq] at hc
        rcases bare_eq hc.symm with ⟨f, args, bor, rfl, h⟩ | ⟨_, rfl⟩
        · cases h
        · exact step_ans hok hd (by simp only [execOp, hop]) (run_build_array hok hu hz hn hv)
    · cases hc
  case buildSlice t m ps =>
    simp only [comp] at hc
    split at hc
    · rename_i e hu
      split at hc
      · rename_i k z hk hz
        simp only [Option.some.injEq] at hc
        rcases bare_eq hc.symm with ⟨f, args, bor, rfl, h⟩ | ⟨_, rfl⟩
        · cases h
        · simp only [stepA] at hv
          split at hv
          · rename_i d hdst
            refine step_made (σ := σ) (S := S) (K := K) hdst (hd d hdst) (s := Instr.buildSlice t m (ps.map fun (i, x) => (i, a.eval x))) (by simp only [execOp, hop]) ?_
            have := al_bslice hok hu hk hz hv
            have e1 : (ps.toList.map fun p => (p.1, a.eval p.2)).toArray = ps.map fun (i, x) => (i, a.eval x) := by
              apply Array.ext'; simp
            rw [e1] at this
            exact this
          · exact hv.elim
      · cases hc
    · cases hc
  case load t x =>
    simp only [comp] at hc
    cases hl : ldOf P t with
    | none => rw [hl] at hc; cases hc
    | some p =>
      rw [hl] at hc
      simp only [Option.map_some, Option.some.injEq] at hc
      rcases bare_eq hc.symm with ⟨f, args, bor, rfl, h⟩ | ⟨_, rfl⟩
      · cases h
      · exact step_ans hok hd (by simp only [execOp, hop]) (rd_load hok hl hv)
  case store t A X =>
    simp only [comp] at hc
    cases hl : szOf P t with
    | none => rw [hl] at hc; cases hc
    | some k =>
      rw [hl] at hc
      simp only [Option.map_some, Option.some.injEq] at hc
      rcases bare_eq hc.symm with ⟨f, args, bor, rfl, h⟩ | ⟨_, rfl⟩
      · cases h
      · obtain ⟨hdn, hv⟩ := hv
        have := wr_store hok (A := A) (X := X) hl (K := fun h' => ∃ l, hlook l = h' ∧ K ⟨σ.s, l⟩) (by
          simp only [wrS, St.f]
          split at hv
          · rename_i n e c hA
            rw [hA]
            split at hv
            · rename_i b cs hb hcs
              simp only [hb, hcs]
              exact ⟨hv.1, _, hlook_hset _ _ _, hv.2⟩
            · exact hv.elim
          · exact hv.elim)
        obtain ⟨h', w', ⟨l, rfl, hK⟩, hrun, hok'⟩ := this
        unfold Oper.wp
        have hr : (execOp a.eval o).run P w = .ok .skip w' := by simp [execOp, hop, hrun]
        rw [hr]
        simp only [Oper.upon, hdn, Act.put]
        exact ⟨⟨σ.s, l⟩, S, ρ, κ, hK, hok'⟩
  case nilCheck x =>
    simp only [comp, Option.some.injEq] at hc
    rcases bare_eq hc.symm with ⟨f, args, bor, rfl, h⟩ | ⟨_, rfl⟩
    · cases h
    · exact step_rd hok hd (rd_nilc hok hop hv)
  case binOp op t x y yt =>
    simp only [comp] at hc
    split at hc
    · simp only [Option.some.injEq] at hc
      rcases bare_eq hc.symm with ⟨f, args, bor, rfl, h⟩ | ⟨_, rfl⟩
      · cases h
      · exact step_ans hok hd (by simp only [execOp, hop]) (rd_bin (t := t) hok hv)
    · simp only [Option.some.injEq] at hc
      rcases bare_eq hc.symm with ⟨f, args, bor, rfl, h⟩ | ⟨_, rfl⟩
      · cases h
      · exact step_ans hok hd (by simp only [execOp, hop]) (rd_binS (t := t) hok hv)
    · rename_i hu
      simp only [Option.some.injEq] at hc
      rcases bare_eq hc.symm with ⟨f, args, bor, rfl, h⟩ | ⟨_, rfl⟩
      · cases h
      · exact step_ans hok hd (by simp only [execOp, hop]) (rd_binB hok hu hv)
    · rename_i hu
      split at hc
      · rename_i ks hks
        split at hc
        · rename_i hgg
          split at hc
          · simp only [Option.some.injEq] at hc
            rcases bare_eq hc.symm with ⟨f, args, bor, rfl, h⟩ | ⟨_, rfl⟩
            · cases h
            · exact step_ans hok hd (by simp only [execOp, hop]) (rd_eqA hok (.inl ⟨rfl, rfl⟩) hks hgg.1 hgg.2 hv)
          · simp only [Option.some.injEq] at hc
            rcases bare_eq hc.symm with ⟨f, args, bor, rfl, h⟩ | ⟨_, rfl⟩
            · cases h
            · exact step_ans hok hd (by simp only [execOp, hop]) (rd_eqA hok (.inr ⟨rfl, rfl⟩) hks hgg.1 hgg.2 hv)
          · cases hc
        · cases hc
      · cases hc
    · cases hc
  case unOp op t x =>
    simp only [comp, Option.some.injEq] at hc
    rcases bare_eq hc.symm with ⟨f, args, bor, rfl, h⟩ | ⟨_, rfl⟩
    · cases h
    · exact step_ans hok hd (by simp only [execOp, hop]) (rd_un hok hv)
  case convert s d x =>
    simp only [comp] at hc
    split at hc
    · rename_i h1 h2
      simp only [Option.some.injEq] at hc
      rcases bare_eq hc.symm with ⟨f, args, bor, rfl, h⟩ | ⟨_, rfl⟩
      · cases h
      · exact step_ans hok hd (by simp only [execOp, hop]) (rd_conv hok h1 h2 hv)
    · rename_i e h1 h2
      split at hc
      · rename_i h3
        simp only [Option.some.injEq] at hc
        rcases bare_eq hc.symm with ⟨f, args, bor, rfl, h⟩ | ⟨_, rfl⟩
        · cases h
        · exact step_ans hok hd (by simp only [execOp, hop]) (rd_b2s hok h1 h3 h2 hv)
      · cases hc
    · cases hc
  case makeFunc fn first caps =>
    cases fn
    case func g =>
      simp only [comp] at hc
      split at hc
      · rename_i hsz
        simp only [Option.some.injEq] at hc
        rcases bare_eq hc.symm with ⟨f, args, bor, rfl, h⟩ | ⟨_, rfl⟩
        · cases h
        · have hf0 : first = #[] := Array.eq_empty_of_size_eq_zero hsz
          have := rd_mkfn (P := P) (w := w) (K := fun v => K ⟨put o.dst v σ.s, σ.h⟩) hok hv
          refine step_ans hok hd (s := Instr.makeFunc (.func g) #[] (caps.map a.eval)) (by simp only [execOp, hop, hf0, List.map_toArray, List.map_nil]) ?_
          simpa using this
      · cases hc
    all_goals simp [comp] at hc
  case makeSlice t l c =>
    simp only [comp] at hc
    split at hc
    · rename_i hlc
      obtain rfl := sameO_eq hlc
      split at hc
      · rename_i e hu
        split at hc
        · rename_i i hi
          split at hc
          · rename_i z hz
            simp only [Option.some.injEq] at hc
            rcases bare_eq hc.symm with ⟨f, args, bor, rfl, h⟩ | ⟨_, rfl⟩
            · cases h
            · simp only [stepA] at hv
              split at hv
              · rename_i d hdst
                exact step_made hdst (hd d hdst) (by simp only [execOp, hop]) (al_mk hok hu hi hz hv)
              · exact hv.elim
          · cases hc
        · cases hc
      · cases hc
    · cases hc
  case slice t x lo hi mx =>
    cases mx
    case none =>
      simp only [comp] at hc
      split at hc
      · rename_i e hu
        cases hk : szOf P e with
        | none => rw [hk] at hc; cases hc
        | some k =>
          rw [hk] at hc
          simp only [Option.map_some, Option.some.injEq] at hc
          rcases bare_eq hc.symm with ⟨f, args, bor, rfl, h⟩ | ⟨_, rfl⟩
          · cases h
          · exact step_ans hok hd (by simp only [execOp, hop]; rfl) (rd_slc hok hu hk hv)
      · rename_i hu
        simp only [Option.some.injEq] at hc
        rcases bare_eq hc.symm with ⟨f, args, bor, rfl, h⟩ | ⟨_, rfl⟩
        · cases h
        · exact step_ans hok hd (by simp only [execOp, hop]; rfl) (rd_sstr hok hu hv)
      · cases hc
    case some => simp [comp] at hc
  case fieldAddr s x i =>
    simp only [comp] at hc
    split at hc
    · rename_i f hf
      split at hc
      · rename_i n hn
        simp only [Option.some.injEq] at hc
        rcases bare_eq hc.symm with ⟨f, args, bor, rfl, h⟩ | ⟨_, rfl⟩
        · cases h
        · exact step_ans hok hd (by simp only [execOp, hop]) (rd_fieldAddr hok hf hn (by omega) hv)
      · cases hc
    · cases hc
  case field s x i =>
    simp only [comp] at hc
    split at hc
    · rename_i f hf
      cases hl : ldOf P f.type with
      | none => rw [hl] at hc; cases hc
      | some p =>
        obtain ⟨g, n⟩ := p
        rw [hl] at hc
        simp only [Option.bind_some] at hc
        split at hc
        · rename_i hs
          simp only [Option.some.injEq] at hc
          rcases bare_eq hc.symm with ⟨f, args, bor, rfl, h⟩ | ⟨_, rfl⟩
          · cases h
          · have hg := ldOf_agg hl
            exact step_ans hok hd (by simp only [execOp, hop]) (rd_field hok hf hs hg (fun h => ldOf_one (h ▸ hl)) hv)
        · cases hc
    · cases hc
  case indexAddr t x i =>
    simp only [comp] at hc
    split at hc
    · rename_i e hu
      cases hk : szOf P e with
      | none => rw [hk] at hc; cases hc
      | some k =>
        rw [hk] at hc
        simp only [Option.map_some, Option.some.injEq] at hc
        rcases bare_eq hc.symm with ⟨f, args, bor, rfl, h⟩ | ⟨_, rfl⟩
        · cases h
        · exact step_ans hok hd (by simp only [execOp, hop]) (rd_idxSl hok hu hk hv)
    · rename_i n e hu
      cases hk : szOf P e with
      | none => rw [hk] at hc; cases hc
      | some k =>
        rw [hk] at hc
        simp only [Option.map_some, Option.some.injEq] at hc
        rcases bare_eq hc.symm with ⟨f, args, bor, rfl, h⟩ | ⟨_, rfl⟩
        · cases h
        · exact step_ans hok hd (by simp only [execOp, hop]) (rd_idxArr hok hu hk hv)
    · cases hc
  case index t x i =>
    simp only [comp] at hc
    split at hc
    · rename_i hu
      simp only [Option.some.injEq] at hc
      rcases bare_eq hc.symm with ⟨f, args, bor, rfl, h⟩ | ⟨_, rfl⟩
      · cases h
      · exact step_ans hok hd (by simp only [execOp, hop]) (rd_idxStr hok hu hv)
    · rename_i n e hu
      cases hl : ldOf P e with
      | none => rw [hl] at hc; cases hc
      | some p =>
        obtain ⟨g, k⟩ := p
        rw [hl] at hc
        simp only [Option.bind_some] at hc
        split at hc
        · rename_i hs
          simp only [Option.some.injEq] at hc
          rcases bare_eq hc.symm with ⟨f, args, bor, rfl, h⟩ | ⟨_, rfl⟩
          · cases h
          · have hg := ldOf_agg hl
            exact step_ans hok hd (by simp only [execOp, hop]) (rd_idxAgg hok hu hs hg (fun h => ldOf_one (h ▸ hl)) hv)
        · cases hc
    · cases hc
  case extract x i =>
    simp only [comp, Option.some.injEq] at hc
    rcases bare_eq hc.symm with ⟨f, args, bor, rfl, h⟩ | ⟨_, rfl⟩
    · cases h
    · exact step_ans hok hd (by simp only [execOp, hop]) (rd_extract hok hv)
  case call c =>
    simp only [comp] at hc
    split at hc
    · rename_i b hcal
      have hb := run_builtin (a := a) hop hcal
      unfold compBuiltin at hc
      split at hc
      · rename_i t x hts hxs
        have e1 := arr1 hts
        have e2 := arr1 hxs
        split at hc
        · rename_i e hu
          simp only [Option.some.injEq] at hc
          rcases bare_eq hc.symm with ⟨f, args, bor, rfl, h⟩ | ⟨_, rfl⟩
          · cases h
          · exact step_ans hok hd (s := Builtin.len_ #[t] o.type #[a.eval x]) (by rw [hb, e1, e2]; simp only [builtin, List.map_toArray, List.map_cons, List.map_nil]) (rd_len hok hu hv)
        · rename_i hu
          simp only [Option.some.injEq] at hc
          rcases bare_eq hc.symm with ⟨f, args, bor, rfl, h⟩ | ⟨_, rfl⟩
          · cases h
          · exact step_ans hok hd (s := Builtin.len_ #[t] o.type #[a.eval x]) (by rw [hb, e1, e2]; simp only [builtin, List.map_toArray, List.map_cons, List.map_nil]) (rd_lenS hok hu hv)
        · rename_i n e hu
          simp only [Option.some.injEq] at hc
          rcases bare_eq hc.symm with ⟨f, args, bor, rfl, h⟩ | ⟨_, rfl⟩
          · cases h
          · exact step_ans hok hd (s := Builtin.len_ #[t] o.type #[a.eval x]) (by rw [hb, e1, e2]; simp only [builtin, List.map_toArray, List.map_cons, List.map_nil]) (rd_lenC _ hu hv)
        · cases hc
      · rename_i t t2 A X hts hxs
        have e1 := arr2 hts
        have e2 := arr2 hxs
        split at hc
        · rename_i e e2' hu hu2
          split at hc
          · rename_i i hi
            split at hc
            · rename_i z hz
              split at hc
              · rename_i hzs
                simp only [Option.some.injEq] at hc
                rcases bare_eq hc.symm with ⟨f, args, bor, rfl, h⟩ | ⟨_, rfl⟩
                · cases h
                · simp only [stepA] at hv
                  split at hv
                  · rename_i d hdst
                    split at hv
                    · rename_i on l l' hbo hro
                      obtain ⟨⟨hf, h1, h2⟩, hK⟩ := hv
                      have hwr := wr_append (P := P) (ty := o.type) hok (K := fun σ' x => ∃ σl : St, σl.f = σ' ∧ K ⟨(d, x) :: σl.s, σl.h⟩) hu hu2 hi hz hzs (A := A) (X := X) (d := .t d 0) (fun on' l2 hbo' => by
                        simp only [St.f] at hbo'
                        rw [hbo] at hbo'
                        simp only [Option.some.injEq, Prod.mk.injEq] at hbo'
                        obtain ⟨rfl, rfl⟩ := hbo'
                        have := freshL_spec hf
                        rw [killOL_f] at this; exact this) (by
                        simp only [wrA, St.f, hbo, hro]
                        refine ⟨⟨h1, h2⟩, ⟨(killOL on σ).s, (.t d 0, .arr i.size (l ++ l') false) :: (killOL on σ).h⟩, ?_, hK⟩
                        have hkf := killOL_f on σ
                        have k1 : look (killOL on σ).s = (killO on ⟨look σ.s, hlook σ.h⟩).s := congrArg FSt.s hkf
                        have k2 : hlook (killOL on σ).h = (killO on ⟨look σ.s, hlook σ.h⟩).h := congrArg FSt.h hkf
                        simp only [FSt.mk.injEq]
                        refine ⟨k1, ?_⟩
                        funext m
                        simp only [hlook, hput, ← k2])
                      obtain ⟨σ', x, v, w', ρ', κ', ⟨σl, rfl, hK'⟩, hrun, hok', hx⟩ := hwr
                      unfold Oper.wp
                      have hr : (execOp a.eval o).run P w = .ok (.value v) w' := by
                        rw [hb, e1, e2]
                        simp only [builtin, List.map_toArray, List.map_cons, List.map_nil]
                        exact run_v hrun
                      rw [hr]
                      simp only [Oper.upon, hdst]
                      exact GoodL.put hok' hx (d := some d) (fun d' h => by rw [← Option.some.inj h]; exact hd d hdst) hK'
                    · exact hv.elim
                  · exact hv.elim
              · cases hc
            · cases hc
          · cases hc
        · cases hc
      · rename_i t t2 x y hts hxs
        have e1 := arr2 hts
        have e2 := arr2 hxs
        simp only [Option.some.injEq] at hc
        rcases bare_eq hc.symm with ⟨f, args, bor, rfl, h⟩ | ⟨_, rfl⟩
        · cases h
        · exact step_ans hok hd (s := Builtin.max_ #[t, t2] o.type #[a.eval x, a.eval y]) (by rw [hb, e1, e2]; simp only [builtin, List.map_toArray, List.map_cons, List.map_nil]) (rd_mm (mx := true) (t := #[t, t2]) (T := o.type) hok hv)
      · rename_i t t2 x y hts hxs
        have e1 := arr2 hts
        have e2 := arr2 hxs
        simp only [Option.some.injEq] at hc
        rcases bare_eq hc.symm with ⟨f, args, bor, rfl, h⟩ | ⟨_, rfl⟩
        · cases h
        · exact step_ans hok hd (s := Builtin.min_ #[t, t2] o.type #[a.eval x, a.eval y]) (by rw [hb, e1, e2]; simp only [builtin, List.map_toArray, List.map_cons, List.map_nil]) (rd_mm (mx := false) (t := #[t, t2]) (T := o.type) hok hv)
      · rename_i t x hts hxs
        have e1 := arr1 hts
        have e2 := arr1 hxs
        split at hc
        · rename_i e hu
          split at hc
          · rename_i i hi
            split at hc
            · rename_i z hz
              simp only [Option.some.injEq] at hc
              rcases bare_eq hc.symm with ⟨f, args, bor, rfl, h⟩ | ⟨_, rfl⟩
              · cases h
              · have hwr := wr_clr (P := P) (ty := o.type) hok hu hi hz (X := x) (K := fun h' => ∃ l, hlook l = h' ∧ K ⟨Vs.put o.dst (.v (.tuple #[])) σ.s, l⟩) (by
                  simp only [wrC, St.f]
                  simp only [stepA] at hv
                  split at hv
                  · rename_i n off len hA
                    rw [hA]
                    split at hv
                    · rename_i k' l fz hbk
                      simp only [hbk]
                      exact ⟨hv.1, _, hlook_hset _ _ _, hv.2⟩
                    · exact hv.elim
                  · exact hv.elim)
                obtain ⟨h', w', ⟨l, rfl, hK⟩, hrun, hok'⟩ := hwr
                unfold Oper.wp
                have hr : (execOp a.eval o).run P w = .ok (.value (.tuple #[])) w' := by
                  rw [hb, e1, e2]
                  simp only [builtin, List.map_toArray, List.map_cons, List.map_nil]
                  exact run_v hrun
                rw [hr]
                exact GoodL.put (σ := ⟨σ.s, l⟩) hok' (.clo (.v _)) hd hK
            · cases hc
          · cases hc
        · cases hc
      · cases hc
    · rename_i f hcal
      split at hc
      · rename_i hix
        split at hc
        · rename_i x y hxy
          simp only [Option.some.injEq] at hc
          rcases bare_eq hc.symm with ⟨f', args, bor, rfl, h⟩ | ⟨_, rfl⟩
          · cases h
          · exact step_rd hok hd (rd_idxB hok hop hcal (arr2 hxy) hix hv)
        · cases hc
      · simp only [Option.some.injEq] at hc
        rcases bare_eq hc.symm with ⟨f', args, bor, rfl, h⟩ | ⟨hn, h⟩
        · simp only [AOp.call.injEq] at h
          obtain ⟨rfl, rfl, _⟩ := h
          exact step_call hok hd hop hcal hv
        · exact absurd h (hn _ _ _)
    · rename_i f _ hcal
      simp only [Option.some.injEq] at hc
      rcases bare_eq hc.symm with ⟨f', args, bor, rfl, h⟩ | ⟨hn, h⟩
      · simp only [AOp.call.injEq] at h
        obtain ⟨rfl, rfl, _⟩ := h
        exact step_call hok hd hop hcal hv
      · exact absurd h (hn _ _ _)
    · cases hc
  all_goals simp [comp] at hc

/-- A row of the walk's own is closed: from here on it stays as it is. -/
theorem OK.close {σ : FSt} (hok : OK C σ a w S ρ κ) {n : Name} {k d : Nat} {rows : List (List AV)} {z : Bool} (hb : σ.h n = some (.arr k rows z)) (hd : σ.s d = .loc n 0 rows.length) :
    OK C ⟨upd σ.s (some d) (.sl k rows), fun m => if m = n then none else σ.h m⟩ a w (fun b => S b ∨ ρ n = some b) ρ κ := by
  have hS : ∀ b, S b → S b ∨ ρ n = some b := fun b h => .inl h
  have hn : ∀ m, NameOK ρ ρ κ κ σ.h (fun m => if m = n then none else σ.h m) m := by
    intro m b' hb'
    simp only at hb'
    split at hb'
    · cases hb'
    · exact ⟨rfl, rfl, b', hb', b'.same_refl⟩
  have hsome : ∀ m, ((fun m => if m = n then none else σ.h m) m).isSome → m ≠ n ∧ (σ.h m).isSome := by
    intro m hm
    simp only at hm
    split at hm
    · cases hm
    · exact ⟨by assumption, hm⟩
  have hv := hok.slots d
  rw [hd] at hv
  have hc := (conv_spec hok.hok hS (E := []) (ρ' := ρ) (κ' := κ) (h' := σ.h) (by simp) 8 true (.loc n 0 rows.length) (.sl k ((rows.drop 0).take rows.length)) [n] _ (by simp [conv, idxN, hb])
    (fun m hm y hy => by rw [List.mem_singleton.1 hm] at hy; exact .inr hy) hv).2.1 rfl
  rw [List.drop_zero, List.take_length] at hc
  refine ⟨hok.nt, hok.defers, fun t => ?_, ⟨fun m b' hb' => ?_, fun m m' y h1 h2 h3 h4 => hok.hok.inj m m' y (hsome m h1).2 (hsome m' h2).2 h3 h4, fun b hb' => ?_, hok.hok.env.mono hS fun _ _ => rfl⟩, hok.size, hok.old,
    fun m y h1 h2 => hok.mine m y (hsome m h1).2 h2, fun b h => .inl (hok.S0 b h), fun b h => ?_, hok.out, fun j b' hb' => ?_⟩
  · simp only [upd]
    split
    · subst_vars; exact .clo hc
    · exact (hok.slots t).mono hS (fun _ _ => rfl) fun m _ => hn m
  · simp only at hb'
    split at hb'
    · cases hb'
    · rename_i hmn
      refine (hok.hok.blk m b' hb').mono hS (fun x hx h => ?_) (fun _ _ => rfl) (fun _ _ => rfl) rfl rfl fun m' _ => hn m'
      rcases h with h | h
      · exact h
      · exact absurd (hok.hok.inj m n x (by simp [hb']) (by simp [hb]) hx h) hmn
  · rcases hb' with h | h
    · exact hok.hok.dom b h
    · exact hok.hok.lt (n := n) (by simp [hb]) h
  · rcases h with h | h
    · exact hok.Snew b h
    · exact .inr (hok.mine n b (by simp [hb]) h)
  · simp only at hb'
    split at hb'
    · cases hb'
    · exact hok.keep j b' hb'

theorem close_good {σ : St} {K : St → Prop} {n : Name} {k d : Nat} {rows : List (List AV)} {z : Bool} {s : List (Nat × AV)} {h : List (Name × Blk)} (hσ : σ = ⟨(d, .loc n 0 rows.length) :: s, (n, .arr k rows z) :: h⟩) (hn : hlook h n = none)
    (hK : K ⟨(d, .sl k rows) :: s, h⟩) (hok : OK C σ.f a w S ρ κ) : GoodL C K a w := by
  subst hσ
  have := hok.close (n := n) (k := k) (d := d) (rows := rows) (z := z) (by simp [St.f, hlook]) (by simp [St.f, look])
  refine ⟨⟨(d, .sl k rows) :: s, h⟩, fun b => S b ∨ ρ n = some b, ρ, κ, hK, ?_⟩
  have e1 : (⟨upd (St.f ⟨(d, .loc n 0 rows.length) :: s, (n, .arr k rows z) :: h⟩).s (some d) (.sl k rows), fun m => if m = n then none else (St.f ⟨(d, .loc n 0 rows.length) :: s, (n, .arr k rows z) :: h⟩).h m⟩ : FSt) = (⟨(d, .sl k rows) :: s, h⟩ : St).f := by
    simp only [St.f, FSt.mk.injEq]
    refine ⟨funext fun t => ?_, funext fun m => ?_⟩
    · simp only [upd, look]
      split <;> rfl
    · simp only [hlook]
      split
      · subst_vars; exact hn.symm
      · rfl
  rw [e1] at this
  exact this

theorem hlook_fresh {n : Name} {σ : St} (h : freshL n σ = true) : hlook σ.h n = none := (freshL_spec h).1.1

theorem step_sound {σ : St} {K : St → Prop} {o : Oper} {op : AOp} {Q : Exit → Act → World → Prop} (hc : comp P o.op = some op.bare) (hok : OK C σ.f a w S ρ κ) (hd : ∀ d', o.dst = some d' → d' < C.nt)
    (hv : stepA P o.dst σ K op) : o.wp P a w (GoodL C K) Q := by
  by_cases h1 : ∃ k y A X, op = .appendC k y A X
  · obtain ⟨k, y, A, X, rfl⟩ := h1
    cases hds : o.dst with
    | none => rw [hds] at hv; exact hv.elim
    | some d =>
      simp only [stepA, hds] at hv
      split at hv
      · rename_i on l l' hA hX
        obtain ⟨⟨hf, hsz⟩, hK⟩ := hv
        refine Oper.wp_mono (fun a' w' ⟨σ', S', ρ', κ', hσ, hok'⟩ => ?_) (step_sound0 (P := P) (op := .append k y A X) (K := fun σ' => σ' = ⟨(d, .loc (.t d 0) 0 (l.length + l'.length)) :: (killOL on σ).s, (.t d 0, .arr k (l ++ l') false) :: (killOL on σ).h⟩) hc hok hd (by
          simp only [stepA, hds, hA, hX]
          exact ⟨⟨hf, hsz⟩, trivial⟩))
        exact close_good (by rw [hσ, List.length_append]) (hlook_fresh hf) hK hok'
      · exact hv.elim
  · by_cases h2 : ∃ k m z ps, op = .bsliceC k m z ps
    · obtain ⟨k, m, z, ps, rfl⟩ := h2
      cases hds : o.dst with
      | none => rw [hds] at hv; exact hv.elim
      | some d =>
        simp only [stepA, hds] at hv
        refine Oper.wp_mono (fun a' w' ⟨σ', S', ρ', κ', ⟨rows, hσ, hf, hK⟩, hok'⟩ => ?_) (step_sound0 (P := P) (op := .bslice k m z ps) (K := fun σ' => ∃ rows, σ' = ⟨(d, .loc (.t d 0) 0 rows.length) :: σ.s, (.t d 0, .arr k rows false) :: σ.h⟩ ∧ freshL (.t d 0) σ = true ∧ K ⟨(d, .sl k rows) :: σ.s, σ.h⟩) hc hok hd (by
          simp only [stepA, hds]
          have : ∀ {K1 K2 : AV → Blk → Prop} {op : AOp}, (∀ v b, K1 v b → K2 v b) → al (evO (look σ.s)) (hlook σ.h) (.t d 0) K1 op → al (evO (look σ.s)) (hlook σ.h) (.t d 0) K2 op := by
            intro K1 K2 op hKK hk
            have lay : ∀ (ps : List (Nat × Nat × Operand)) (cs : List AV) {L1 L2 : List AV → Prop}, (∀ c, L1 c → L2 c) → layAll (evO (look σ.s)) (hlook σ.h) cs ps L1 → layAll (evO (look σ.s)) (hlook σ.h) cs ps L2 := by
              intro ps
              induction ps with
              | nil => intro cs L1 L2 hh hk; exact hh _ hk
              | cons p r ih =>
                intro cs L1 L2 hh hk
                obtain ⟨o, n, x⟩ := p
                simp only [layAll] at hk ⊢
                split at hk
                · exact ⟨hk.1, ih _ hh hk.2⟩
                · exact hk
            cases op <;> simp only [al] at hk ⊢ <;> try exact hk
            · split at hk
              · exact hKK _ _ hk
              · exact hk
            · exact ⟨hk.1, hKK _ _ hk.2⟩
            · exact ⟨hk.1, lay _ _ (fun c hc => ⟨hc.1, hKK _ _ hc.2⟩) hk.2⟩
            · split at hk
              · exact ⟨hk.1, hKK _ _ hk.2⟩
              · exact hk
          refine this (fun v b hvb => ?_) hv
          obtain ⟨h1, rows, rfl, rfl, hK⟩ := hvb
          exact ⟨h1, rows, rfl, h1.1, hK⟩))
        exact close_good hσ (hlook_fresh hf) hK hok'
    · by_cases h3 : ∃ g k A, op = .loadV g k A
      · obtain ⟨g, k, A, rfl⟩ := h3
        exact step_sound0 (op := .load g k A) hc hok hd (by simp only [stepA] at hv ⊢; exact rd_loadV hv)
      · by_cases h4 : ∃ f A, op = .fieldV f A
        · obtain ⟨f, A, rfl⟩ := h4
          exact step_sound0 (op := .fieldAddr f A) hc hok hd (by simp only [stepA] at hv ⊢; exact rd_fieldV hv)
        · have e : op.bare = op.bare0 := by
            cases op <;> first
              | rfl
              | exact absurd ⟨_, _, _, _, rfl⟩ h1
              | exact absurd ⟨_, _, _, _, rfl⟩ h2
              | exact absurd ⟨_, _, _, rfl⟩ h3
              | exact absurd ⟨_, _, rfl⟩ h4
          exact step_sound0 (by rw [hc, e]) hok hd hv

/-- A row that a slot names as a whole is closed: from here on it stays as it is. -/
def closeL (t : Nat) (σ : St) (N : St → Prop) : Prop := match look σ.s t with
  | .loc n lo m => match hlook σ.h n with
    | some (.arr k rows _) => (lo = 0 ∧ m = rows.length) ∧ N ⟨(t, .sl k rows) :: (killL n σ).s, (killL n σ).h⟩
    | _ => False
  | _ => N σ

theorem closeL_good {σ : St} {N : St → Prop} {t : Nat} (hv : closeL t σ N) (hok : OK C σ.f a w S ρ κ) : GoodL C N a w := by
  unfold closeL at hv
  split at hv
  · rename_i n lo m hl
    split at hv
    · rename_i k rows z hb
      obtain ⟨⟨rfl, rfl⟩, hN⟩ := hv
      have h1 := (hok.close (n := n) (k := k) (d := t) (rows := rows) (z := z) hb hl).kill n
      refine ⟨_, fun b => S b ∨ ρ n = some b, ρ, κ, hN, ?_⟩
      have e1 : killF n ⟨upd σ.f.s (some t) (.sl k rows), fun m => if m = n then none else σ.f.h m⟩ = (⟨(t, .sl k rows) :: (killL n σ).s, (killL n σ).h⟩ : St).f := by
        simp only [killF, St.f, FSt.mk.injEq]
        refine ⟨funext fun u => ?_, funext fun m => ?_⟩
        · simp only [upd, look]
          by_cases hu : u = t
          · subst hu; simp [scr, AV.has]
          · rw [if_neg hu, if_neg hu]
            exact (look_map (scr n) (by simp [scr, AV.has]) _ u).symm
        · simp only [killL, hlook_kill]
          split <;> simp
      rw [e1] at h1
      exact h1
    · exact hv.elim
  · exact ⟨σ, S, ρ, κ, hv, hok⟩

/-! ## another name for a block -/
def nmF (n m : Name) (x : Name) : Option Name := if x = n then some m else if x = m then none else some x

theorem OK.rename {σ : FSt} (hok : OK C σ a w S ρ κ) {n m : Name} (hnm : n ≠ m) (hm : σ.h m = none) (hmb : ∀ j, m ≠ .b j) :
    ∃ ρ' κ', OK C ⟨fun t => rn (nmF n m) (σ.s t), fun x => if x = m then (σ.h n).map (rnB (nmF n m)) else if x = n then none else (σ.h x).map (rnB (nmF n m))⟩ a w S ρ' κ' := by
  let ρ' : Name → Option Nat := fun x => if x = m then ρ n else ρ x
  let κ' : Name → Nat := fun x => if x = m then κ n else κ x
  let h' : Name → Option Blk := fun x => if x = m then (σ.h n).map (rnB (nmF n m)) else if x = n then none else (σ.h x).map (rnB (nmF n m))
  -- the old name of a block that is there
  have back : ∀ x b', h' x = some b' → ∃ y b, σ.h y = some b ∧ b' = rnB (nmF n m) b ∧ ρ' x = ρ y ∧ κ' x = κ y ∧ ((x = m ∧ y = n) ∨ (x = y ∧ x ≠ m ∧ x ≠ n)) := by
    intro x b' hb
    simp only [h'] at hb
    split at hb
    · rename_i hx
      obtain ⟨b, h1, h2⟩ := Option.map_eq_some_iff.1 hb
      exact ⟨n, b, h1, h2.symm, by simp [ρ', hx], by simp [κ', hx], .inl ⟨hx, rfl⟩⟩
    · rename_i hx
      split at hb
      · cases hb
      · rename_i hx2
        obtain ⟨b, h1, h2⟩ := Option.map_eq_some_iff.1 hb
        exact ⟨x, b, h1, h2.symm, by simp [ρ', hx], by simp [κ', hx], .inr ⟨rfl, hx, hx2⟩⟩
  have hφ : ∀ x y, nmF n m x = some y → ρ' y = ρ x ∧ κ' y = κ x ∧ ∀ b', h' y = some b' → ∃ b, σ.h x = some b ∧ b.same b' := by
    intro x y hxy
    have hy : ρ' y = ρ x ∧ κ' y = κ x ∧ (h' y = (σ.h x).map (rnB (nmF n m))) := by
      simp only [nmF] at hxy
      split at hxy
      · rename_i hx
        obtain rfl := Option.some.inj hxy
        exact ⟨by simp [ρ', hx], by simp [κ', hx], by simp [h', hx]⟩
      · rename_i hx
        split at hxy
        · cases hxy
        · rename_i hx2
          obtain rfl := Option.some.inj hxy
          exact ⟨by simp [ρ', hx2], by simp [κ', hx2], by simp [h', hx, hx2]⟩
    refine ⟨hy.1, hy.2.1, fun b' hb => ?_⟩
    rw [hy.2.2] at hb
    obtain ⟨b, h1, rfl⟩ := Option.map_eq_some_iff.1 hb
    exact ⟨b, h1, rnB_same _ _⟩
  have hsome : ∀ x, (h' x).isSome → ∃ y, (σ.h y).isSome ∧ ρ' x = ρ y ∧ ((x = m ∧ y = n) ∨ (x = y ∧ x ≠ m ∧ x ≠ n)) := by
    intro x hx
    obtain ⟨b', hb⟩ := Option.isSome_iff_exists.1 hx
    obtain ⟨y, b, h1, _, h2, _, h3⟩ := back x b' hb
    exact ⟨y, by simp [h1], h2, h3⟩
  refine ⟨ρ', κ', hok.nt, hok.defers, fun t => (hok.slots t).ren hφ, ⟨fun x b' hb => ?_, fun x y z hx hy hxz hyz => ?_, hok.hok.dom, hok.hok.env⟩, hok.size, hok.old, fun x z hx hz => ?_, hok.S0, hok.Snew, hok.out, fun j b hb => ?_⟩
  · obtain ⟨y, b, h1, rfl, h2, h3, _⟩ := back x b' hb
    have hbk := hok.hok.blk y b h1
    cases b with
    | var c z =>
      obtain ⟨u, cs, T, fr, g1, g2, g3, g4, g4', g5, g6, g7⟩ := hbk
      refine ⟨u, cs, T, fr, by rw [h2]; exact g1, g2, g3, g4, g4', by rw [h3]; exact g5, by rw [rnL_length]; exact g6, fun j hj => ?_⟩
      rw [rnL_length] at hj
      rw [rnL_getD _ _ _ hj]
      exact ⟨(g7 j hj).1, (g7 j hj).2.ren hφ⟩
    | arr k l z =>
      obtain ⟨g0, g⟩ := hbk
      refine ⟨g0, ?_⟩
      rcases g with ⟨g1, g2⟩ | ⟨u, cs, T, fr, g1, g2, g3, g4, g4', g5, g6, g7⟩
      · exact .inl ⟨by rw [h2]; exact g1, g2⟩
      · exact .inr ⟨u, cs, T, fr, by rw [h2]; exact g1, g2, g3, g4, g4', by rw [h3]; exact g5, g6, g7⟩
  · obtain ⟨x2, q1, q2, q3⟩ := hsome x hx
    obtain ⟨y2, r1, r2, r3⟩ := hsome y hy
    have e := hok.hok.inj x2 y2 z q1 r1 (by rw [← q2]; exact hxz) (by rw [← r2]; exact hyz)
    rcases q3 with ⟨rfl, rfl⟩ | ⟨rfl, q4, q5⟩ <;> rcases r3 with ⟨rfl, rfl⟩ | ⟨rfl, r4, r5⟩
    · rfl
    · exact absurd e.symm r5
    · exact absurd e q5
    · exact e
  · obtain ⟨y, q1, q2, _⟩ := hsome x hx
    exact hok.mine y z q1 (by rw [← q2]; exact hz)
  · obtain ⟨y, b0, h1, rfl, h2, h3, h4⟩ := back _ b hb
    rcases h4 with ⟨h4, _⟩ | ⟨rfl, _, _⟩
    · exact absurd h4.symm (hmb j)
    · obtain ⟨k1, k2, b1, k3, k4⟩ := hok.keep j b0 h1
      refine ⟨by rw [h2]; exact k1, by rw [h3]; exact k2, b1, k3, ?_⟩
      have := rnB_same (nmF n m) b0
      revert k4 this
      cases b1 <;> cases b0 <;> simp [Blk.same, rnB] <;> omega

def renL (n m : Name) (σ : St) : St := ⟨σ.s.map fun p => (p.1, rn (nmF n m) p.2), σ.h.map fun p => (if p.1 = n then m else p.1, rnB (nmF n m) p.2)⟩

theorem hlook_ren {n m : Name} : ∀ (l : List (Name × Blk)) (x : Name), hlook l m = none → hlook (l.map fun p => (if p.1 = n then m else p.1, rnB (nmF n m) p.2)) x =
    if x = m then (hlook l n).map (rnB (nmF n m)) else if x = n then none else (hlook l x).map (rnB (nmF n m))
  | [], x, _ => by simp [hlook]
  | (i, b) :: r, x, h => by
    simp only [hlook] at h
    have hi : ¬ m = i := fun e => by rw [if_pos e] at h; cases h
    rw [if_neg hi] at h
    have ih := hlook_ren (n := n) r x h
    simp only [List.map_cons, hlook]
    by_cases hin : i = n
    · subst hin
      by_cases hx : x = m
      · subst hx; simp
      · by_cases hx2 : x = i
        · subst hx2; rw [if_pos rfl, if_neg hx, ih, if_neg hx]; simp [hx]
        · rw [if_pos rfl, if_neg hx, ih, if_neg hx, if_neg hx2, if_neg hx, if_neg hx2, if_neg hx2]
    · rw [if_neg hin]
      by_cases hx : x = m
      · subst hx
        rw [if_neg hi, ih, if_pos rfl, if_pos rfl, if_neg (fun e => hin e.symm)]
      · by_cases hx2 : x = i
        · subst hx2
          rw [if_pos rfl, if_neg hx, if_neg hin, if_pos rfl]; rfl
        · rw [if_neg hx2, ih, if_neg hx, if_neg hx, if_neg hx2]

/-- The row that a slot names goes by the slot's own name; an older row of that name is forgotten. -/
def nameL (t : Nat) (σ : St) (N : St → Prop) : Prop := match look σ.s t with
  | .loc n _ _ => if n = .t t 0 then N σ else match hlook σ.h (.t t 0) with
    | none => freshL (.t t 0) σ = true ∧ N (renL n (.t t 0) σ)
    | some _ => freshL (.t t 0) (killL (.t t 0) σ) = true ∧ N (renL n (.t t 0) (killL (.t t 0) σ))
  | _ => N σ

theorem name_good {σ : St} {N : St → Prop} {t : Nat} {n : Name} (hn : n ≠ .t t 0) (hf : freshL (.t t 0) σ = true) (hN : N (renL n (.t t 0) σ)) (hok : OK C σ.f a w S ρ κ) : GoodL C N a w := by
  have hf' := freshL_spec hf
  obtain ⟨ρ', κ', h1⟩ := hok.rename (n := n) (m := .t t 0) hn hf'.1.1 (fun j => by simp)
  refine ⟨_, S, ρ', κ', hN, ?_⟩
  have e : (⟨fun u => rn (nmF n (.t t 0)) (σ.f.s u), fun x => if x = .t t 0 then (σ.f.h n).map (rnB (nmF n (.t t 0))) else if x = n then none else (σ.f.h x).map (rnB (nmF n (.t t 0)))⟩ : FSt) = (renL n (.t t 0) σ).f := by
    simp only [St.f, renL, FSt.mk.injEq]
    refine ⟨funext fun u => (look_map _ (by simp [rn]) _ u).symm, funext fun x => (hlook_ren _ x hf'.1.1).symm⟩
  rw [e] at h1
  exact h1

theorem nameL_good {σ : St} {N : St → Prop} {t : Nat} (hv : nameL t σ N) (hok : OK C σ.f a w S ρ κ) : GoodL C N a w := by
  unfold nameL at hv
  split at hv
  · rename_i n lo m hl
    split at hv
    · exact ⟨σ, S, ρ, κ, hv, hok⟩
    · rename_i hn
      split at hv
      · exact name_good hn hv.1 hv.2 hok
      · have hk := hok.kill (.t t 0)
        rw [← killL_f] at hk
        exact name_good hn hv.1 hv.2 hk
  · exact ⟨σ, S, ρ, κ, hv, hok⟩
end Go.Vs
