/- Every operation; a region that keeps its order. -/
import Derived.Test.YtaegnbfboeeijaaVsM
namespace Go.Vs
variable {P : Program} {C : Ctx} {a : Act} {w : World} {S : Nat → Prop} {ρ : Name → Option Nat} {κ : Name → Nat}

theorem step_ans {σ : St} {K : St → Prop} {o : Oper} {Q : Exit → Act → World → Prop} (hok : OK C σ.f a w S ρ κ) (hd : ∀ d', o.dst = some d' → d' < C.nt) {s : Sem Value}
    (ho : execOp a.eval o = (do pure (Next.value (← s)))) (h : Ans P S w ρ κ σ.f.h (fun v => K ⟨put o.dst v σ.s, σ.h⟩) s) : o.wp P a w (GoodL C K) Q := by
  obtain ⟨x, v, hK, hrun, hx⟩ := h
  exact step_rd hok hd ⟨x, v, hK, by rw [ho]; exact run_v hrun, hx⟩

theorem step_made {σ : St} {K : St → Prop} {o : Oper} {d : Nat} {Q : Exit → Act → World → Prop} (hdst : o.dst = some d) (hd : d < C.nt) {s : Sem Value}
    (ho : execOp a.eval o = (do pure (Next.value (← s))))
    (h : Made P C σ.f a w S (.t d 0) (fun v b => (freshL (.t d 0) σ = true ∧ b.has (.t d 0) = false) ∧ K ⟨(d, v) :: σ.s, (.t d 0, b) :: σ.h⟩) s) : o.wp P a w (GoodL C K) Q := by
  obtain ⟨x, b, v, w', ⟨⟨h1, h2⟩, hK⟩, hrun, hok⟩ := h
  obtain ⟨ρ', κ', hok', hx⟩ := hok (freshL_spec h1) h2
  have e : (St.mk σ.s ((.t d 0, b) :: σ.h)).f = ⟨σ.f.s, hput σ.f.h (.t d 0) (some b)⟩ := by
    simp only [St.f, FSt.mk.injEq, true_and]
    funext m; simp only [hlook, hput]
  unfold Oper.wp
  rw [ho, run_v hrun]
  show GoodL C K (a.put o.dst v) w'
  rw [← e] at hok'
  rw [hdst]
  exact GoodL.put (σ := ⟨σ.s, (.t d 0, b) :: σ.h⟩) hok' (by rw [e]; exact hx) (fun d' h => by rw [← Option.some.inj h]; exact hd) hK

/-- what the operation leaves out: only what is told -/
theorem bare_eq {op op' : AOp} (h : op.bare = op') : (∃ f args bor, op = .call f args bor ∧ op' = .call f args []) ∨ ((∀ f args bor, op ≠ .call f args bor) ∧ op = op') := by
  cases op <;> simp only [AOp.bare] at h <;> first
    | exact .inr ⟨by simp, h⟩
    | exact .inl ⟨_, _, _, rfl, h.symm⟩

theorem ldOf_agg {T : TypeId} {g : Bool} {k : Nat} (h : ldOf P T = some (g, k)) : isAggT P T = some g := by
  unfold ldOf at h
  split at h
  · rename_i n h1 h2
    simp only [Option.some.injEq, Prod.mk.injEq] at h
    rw [h1, h.1]
  · rename_i n h1 h2
    simp only [Option.some.injEq, Prod.mk.injEq] at h
    rw [h1, h.1]
  · cases h

theorem arr2 {α : Type} {x : Array α} {p q : α} (h : x.toList = [p, q]) : x = #[p, q] := by
  apply Array.ext'; simpa using h
theorem arr1 {α : Type} {x : Array α} {p : α} (h : x.toList = [p]) : x = #[p] := by
  apply Array.ext'; simpa using h

theorem run_builtin {o : Oper} {c : Call} {b : Builtin} (ho : o.op = .call c) (hc : c.callee = .builtin b) :
    execOp a.eval o = builtin b c.argTypes o.type (c.args.map fun | .const _ => true | _ => false) (c.args.map a.eval) := by
  simp only [execOp, ho, resolve, hc]
  rfl

theorem step_sound {σ : St} {K : St → Prop} {o : Oper} {op : AOp} {Q : Exit → Act → World → Prop} (hc : comp P o.op = some op.bare) (hok : OK C σ.f a w S ρ κ) (hd : ∀ d', o.dst = some d' → d' < C.nt)
    (hv : stepA P o.dst σ K op) : o.wp P a w (GoodL C K) Q := by
  generalize hop : o.op = oop at hc
  cases oop
  case move x =>
    simp only [comp, Option.some.injEq] at hc
    rcases bare_eq hc.symm with ⟨f, args, bor, rfl, h⟩ | ⟨_, rfl⟩
    · cases h
    · exact step_rd hok hd ⟨_, _, hv, by simp [execOp, hop], hok.ev x⟩
  case assign x =>
    simp only [comp, Option.some.injEq] at hc
    rcases bare_eq hc.symm with ⟨f, args, bor, rfl, h⟩ | ⟨_, rfl⟩
    · cases h
    · exact step_rd hok hd ⟨_, _, hv, by simp [execOp, hop], hok.ev x⟩
  case pick c x y =>
    simp only [comp, Option.some.injEq] at hc
    rcases bare_eq hc.symm with ⟨f, args, bor, rfl, h⟩ | ⟨_, rfl⟩
    · cases h
    · have hcv := hok.ev c
      simp only [stepA, rd] at hv
      split at hv
      · rename_i t ht
        rw [show evO σ.f.s c = _ from ht] at hcv
        have := inv_v hcv
        cases t
        · exact step_rd hok hd ⟨_, _, hv.2 rfl, by simp [execOp, hop, this, asBool], hok.ev y⟩
        · exact step_rd hok hd ⟨_, _, hv.1 rfl, by simp [execOp, hop, this, asBool], hok.ev x⟩
      · exact hv.elim
  case alloc t =>
    simp only [comp] at hc
    cases hz : zOf P t with
    | none => rw [hz] at hc; cases hc
    | some z =>
      rw [hz] at hc
      simp only [Option.map_some, Option.some.injEq] at hc
      rcases bare_eq hc.symm with ⟨f, args, bor, rfl, h⟩ | ⟨_, rfl⟩
      · cases h
      · simp only [stepA] at hv
        split at hv
        · rename_i d hdst
          exact step_made hdst (hd d hdst) (by simp only [execOp, hop]) (al_alloc hok hz hv)
        · exact hv.elim
  case box t x =>
    simp only [comp, Option.some.injEq] at hc
    rcases bare_eq hc.symm with ⟨f, args, bor, rfl, h⟩ | ⟨_, rfl⟩
    · cases h
    · simp only [stepA] at hv
      split at hv
      · rename_i d hdst
        exact step_made hdst (hd d hdst) (by simp only [execOp, hop]) (al_box (T := t) hok hv)
      · exact hv.elim
  case build t ps =>
    simp only [comp] at hc
    split at hc
    · rename_i fs z hu hz
      split at hc
      · rename_i hall
        cases hp : bpS P fs ps.toList with
        | none => rw [hp] at hc; cases hc
        | some rp =>
          rw [hp] at hc
          simp only [Option.map_some, Option.some.injEq] at hc
          rcases bare_eq hc.symm with ⟨f, args, bor, rfl, h⟩ | ⟨_, rfl⟩
          · cases h
          · exact step_ans hok hd (by simp only [execOp, hop]) (run_build_struct hok hu hz hall hp hv)
      · cases hc
    · rename_i m e z hu hz
      cases hn : szOf P e with
      | none => rw [hn] at hc; cases hc
      | some n =>
        rw [hn] at hc
        simp only [Option.map_some, Option.some.injEq] at hc
        rcases bare_eq hc.symm with ⟨f, args, bor, rfl, h⟩ | ⟨_, rfl⟩
        · cases h
        · exact step_ans hok hd (by simp only [execOp, hop]) (run_build_array hok hu hz hn hv)
    · cases hc
  case buildSlice t m ps =>
    simp only [comp] at hc
    split at hc
    · rename_i e hu
      split at hc
      · rename_i k z hk hz
        simp only [Option.some.injEq] at hc
        rcases bare_eq hc.symm with ⟨f, args, bor, rfl, h⟩ | ⟨_, rfl⟩
        · cases h
        · simp only [stepA] at hv
          split at hv
          · rename_i d hdst
            refine step_made (σ := σ) (S := S) (K := K) hdst (hd d hdst) (s := Instr.buildSlice t m (ps.map fun (i, x) => (i, a.eval x))) (by simp only [execOp, hop]) ?_
            have := al_bslice hok hu hk hz hv
            have e1 : (ps.toList.map fun p => (p.1, a.eval p.2)).toArray = ps.map fun (i, x) => (i, a.eval x) := by
              apply Array.ext'; simp
            rw [e1] at this
            exact this
          · exact hv.elim
      · cases hc
    · cases hc
  case load t x =>
    simp only [comp] at hc
    cases hl : ldOf P t with
    | none => rw [hl] at hc; cases hc
    | some p =>
      rw [hl] at hc
      simp only [Option.map_some, Option.some.injEq] at hc
      rcases bare_eq hc.symm with ⟨f, args, bor, rfl, h⟩ | ⟨_, rfl⟩
      · cases h
      · exact step_ans hok hd (by simp only [execOp, hop]) (rd_load hok hl hv)
  case store t A X =>
    simp only [comp] at hc
    cases hl : szOf P t with
    | none => rw [hl] at hc; cases hc
    | some k =>
      rw [hl] at hc
      simp only [Option.map_some, Option.some.injEq] at hc
      rcases bare_eq hc.symm with ⟨f, args, bor, rfl, h⟩ | ⟨_, rfl⟩
      · cases h
      · obtain ⟨hdn, hv⟩ := hv
        have := wr_store hok (A := A) (X := X) hl (K := fun h' => ∃ l, hlook l = h' ∧ K ⟨σ.s, l⟩) (by
          simp only [wrS, St.f]
          split at hv
          · rename_i n e c hA
            rw [hA]
            split at hv
            · rename_i b cs hb hcs
              simp only [hb, hcs]
              exact ⟨hv.1, _, hlook_hset _ _ _, hv.2⟩
            · exact hv.elim
          · exact hv.elim)
        obtain ⟨h', w', ⟨l, rfl, hK⟩, hrun, hok'⟩ := this
        unfold Oper.wp
        have hr : (execOp a.eval o).run P w = .ok .skip w' := by simp [execOp, hop, hrun]
        rw [hr]
        simp only [Oper.upon, hdn, Act.put]
        exact ⟨⟨σ.s, l⟩, S, ρ, κ, hK, hok'⟩
  case nilCheck x =>
    simp only [comp, Option.some.injEq] at hc
    rcases bare_eq hc.symm with ⟨f, args, bor, rfl, h⟩ | ⟨_, rfl⟩
    · cases h
    · exact step_rd hok hd (rd_nilc hok hop hv)
  case binOp op t x y yt =>
    simp only [comp] at hc
    split at hc
    · simp only [Option.some.injEq] at hc
      rcases bare_eq hc.symm with ⟨f, args, bor, rfl, h⟩ | ⟨_, rfl⟩
      · cases h
      · exact step_ans hok hd (by simp only [execOp, hop]) (rd_bin (t := t) hok hv)
    · simp only [Option.some.injEq] at hc
      rcases bare_eq hc.symm with ⟨f, args, bor, rfl, h⟩ | ⟨_, rfl⟩
      · cases h
      · exact step_ans hok hd (by simp only [execOp, hop]) (rd_binS (t := t) hok hv)
    · rename_i hu
      simp only [Option.some.injEq] at hc
      rcases bare_eq hc.symm with ⟨f, args, bor, rfl, h⟩ | ⟨_, rfl⟩
      · cases h
      · exact step_ans hok hd (by simp only [execOp, hop]) (rd_binB hok hu hv)
    · rename_i hu
      split at hc
      · rename_i ks hks
        split at hc
        · rename_i hgg
          split at hc
          · simp only [Option.some.injEq] at hc
            rcases bare_eq hc.symm with ⟨f, args, bor, rfl, h⟩ | ⟨_, rfl⟩
            · cases h
            · exact step_ans hok hd (by simp only [execOp, hop]) (rd_eqA hok (.inl ⟨rfl, rfl⟩) hks hgg.1 hgg.2 hv)
          · simp only [Option.some.injEq] at hc
            rcases bare_eq hc.symm with ⟨f, args, bor, rfl, h⟩ | ⟨_, rfl⟩
            · cases h
            · exact step_ans hok hd (by simp only [execOp, hop]) (rd_eqA hok (.inr ⟨rfl, rfl⟩) hks hgg.1 hgg.2 hv)
          · cases hc
        · cases hc
      · cases hc
    · cases hc
  case unOp op t x =>
    simp only [comp, Option.some.injEq] at hc
    rcases bare_eq hc.symm with ⟨f, args, bor, rfl, h⟩ | ⟨_, rfl⟩
    · cases h
    · exact step_ans hok hd (by simp only [execOp, hop]) (rd_un hok hv)
  case convert s d x =>
    simp only [comp] at hc
    split at hc
    · rename_i h1 h2
      simp only [Option.some.injEq] at hc
      rcases bare_eq hc.symm with ⟨f, args, bor, rfl, h⟩ | ⟨_, rfl⟩
      · cases h
      · exact step_ans hok hd (by simp only [execOp, hop]) (rd_conv hok h1 h2 hv)
    · rename_i e h1 h2
      split at hc
      · rename_i h3
        simp only [Option.some.injEq] at hc
        rcases bare_eq hc.symm with ⟨f, args, bor, rfl, h⟩ | ⟨_, rfl⟩
        · cases h
        · exact step_ans hok hd (by simp only [execOp, hop]) (rd_b2s hok h1 h3 h2 hv)
      · cases hc
    · cases hc
  case makeFunc fn first caps =>
    cases fn
    case func g =>
      simp only [comp] at hc
      split at hc
      · rename_i hsz
        simp only [Option.some.injEq] at hc
        rcases bare_eq hc.symm with ⟨f, args, bor, rfl, h⟩ | ⟨_, rfl⟩
        · cases h
        · have hf0 : first = #[] := Array.eq_empty_of_size_eq_zero hsz
          have := rd_mkfn (P := P) (w := w) (K := fun v => K ⟨put o.dst v σ.s, σ.h⟩) hok hv
          refine step_ans hok hd (s := Instr.makeFunc (.func g) #[] (caps.map a.eval)) (by simp only [execOp, hop, hf0, List.map_toArray, List.map_nil]) ?_
          simpa using this
      · cases hc
    all_goals simp [comp] at hc
  case makeSlice t l c =>
    cases l
    case tmp l =>
      cases c
      case tmp c =>
        simp only [comp] at hc
        split at hc
        · rename_i hlc
          subst hlc
          split at hc
          · rename_i e hu
            split at hc
            · rename_i i hi
              split at hc
              · rename_i z hz
                simp only [Option.some.injEq] at hc
                rcases bare_eq hc.symm with ⟨f, args, bor, rfl, h⟩ | ⟨_, rfl⟩
                · cases h
                · simp only [stepA] at hv
                  split at hv
                  · rename_i d hdst
                    exact step_made hdst (hd d hdst) (by simp only [execOp, hop]) (al_mk hok hu hi hz hv)
                  · exact hv.elim
              · cases hc
            · cases hc
          · cases hc
        · cases hc
      all_goals simp [comp] at hc
    all_goals simp [comp] at hc
  case slice t x lo hi mx =>
    cases mx
    case none =>
      simp only [comp] at hc
      split at hc
      · rename_i e hu
        cases hk : szOf P e with
        | none => rw [hk] at hc; cases hc
        | some k =>
          rw [hk] at hc
          simp only [Option.map_some, Option.some.injEq] at hc
          rcases bare_eq hc.symm with ⟨f, args, bor, rfl, h⟩ | ⟨_, rfl⟩
          · cases h
          · exact step_ans hok hd (by simp only [execOp, hop]; rfl) (rd_slc hok hu hk hv)
      · rename_i hu
        simp only [Option.some.injEq] at hc
        rcases bare_eq hc.symm with ⟨f, args, bor, rfl, h⟩ | ⟨_, rfl⟩
        · cases h
        · exact step_ans hok hd (by simp only [execOp, hop]; rfl) (rd_sstr hok hu hv)
      · cases hc
    case some => simp [comp] at hc
  case fieldAddr s x i =>
    simp only [comp] at hc
    split at hc
    · rename_i f hf
      split at hc
      · rename_i n hn
        simp only [Option.some.injEq] at hc
        rcases bare_eq hc.symm with ⟨f, args, bor, rfl, h⟩ | ⟨_, rfl⟩
        · cases h
        · exact step_ans hok hd (by simp only [execOp, hop]) (rd_fieldAddr hok hf hn (by omega) hv)
      · cases hc
    · cases hc
  case field s x i =>
    simp only [comp] at hc
    split at hc
    · rename_i f hf
      cases hl : ldOf P f.type with
      | none => rw [hl] at hc; cases hc
      | some p =>
        obtain ⟨g, n⟩ := p
        rw [hl] at hc
        simp only [Option.bind_some] at hc
        split at hc
        · rename_i hs
          simp only [Option.some.injEq] at hc
          rcases bare_eq hc.symm with ⟨f, args, bor, rfl, h⟩ | ⟨_, rfl⟩
          · cases h
          · have hg := ldOf_agg hl
            exact step_ans hok hd (by simp only [execOp, hop]) (rd_field hok hf hs hg (fun h => ldOf_one (h ▸ hl)) hv)
        · cases hc
    · cases hc
  case indexAddr t x i =>
    simp only [comp] at hc
    split at hc
    · rename_i e hu
      cases hk : szOf P e with
      | none => rw [hk] at hc; cases hc
      | some k =>
        rw [hk] at hc
        simp only [Option.map_some, Option.some.injEq] at hc
        rcases bare_eq hc.symm with ⟨f, args, bor, rfl, h⟩ | ⟨_, rfl⟩
        · cases h
        · exact step_ans hok hd (by simp only [execOp, hop]) (rd_idxSl hok hu hk hv)
    · rename_i n e hu
      cases hk : szOf P e with
      | none => rw [hk] at hc; cases hc
      | some k =>
        rw [hk] at hc
        simp only [Option.map_some, Option.some.injEq] at hc
        rcases bare_eq hc.symm with ⟨f, args, bor, rfl, h⟩ | ⟨_, rfl⟩
        · cases h
        · exact step_ans hok hd (by simp only [execOp, hop]) (rd_idxArr hok hu hk hv)
    · cases hc
  case index t x i =>
    simp only [comp] at hc
    split at hc
    · rename_i hu
      simp only [Option.some.injEq] at hc
      rcases bare_eq hc.symm with ⟨f, args, bor, rfl, h⟩ | ⟨_, rfl⟩
      · cases h
      · exact step_ans hok hd (by simp only [execOp, hop]) (rd_idxStr hok hu hv)
    · rename_i n e hu
      cases hl : ldOf P e with
      | none => rw [hl] at hc; cases hc
      | some p =>
        obtain ⟨g, k⟩ := p
        rw [hl] at hc
        simp only [Option.bind_some] at hc
        split at hc
        · rename_i hs
          simp only [Option.some.injEq] at hc
          rcases bare_eq hc.symm with ⟨f, args, bor, rfl, h⟩ | ⟨_, rfl⟩
          · cases h
          · have hg := ldOf_agg hl
            exact step_ans hok hd (by simp only [execOp, hop]) (rd_idxAgg hok hu hs hg (fun h => ldOf_one (h ▸ hl)) hv)
        · cases hc
    · cases hc
  case extract x i =>
    simp only [comp, Option.some.injEq] at hc
    rcases bare_eq hc.symm with ⟨f, args, bor, rfl, h⟩ | ⟨_, rfl⟩
    · cases h
    · exact step_ans hok hd (by simp only [execOp, hop]) (rd_extract hok hv)
  case call c =>
    simp only [comp] at hc
    split at hc
    · rename_i b hcal
      have hb := run_builtin (a := a) hop hcal
      unfold compBuiltin at hc
      split at hc
      · rename_i t x hts hxs
        have e1 := arr1 hts
        have e2 := arr1 hxs
        split at hc
        · rename_i e hu
          simp only [Option.some.injEq] at hc
          rcases bare_eq hc.symm with ⟨f, args, bor, rfl, h⟩ | ⟨_, rfl⟩
          · cases h
          · exact step_ans hok hd (s := Builtin.len_ #[t] o.type #[a.eval x]) (by rw [hb, e1, e2]; simp only [builtin, List.map_toArray, List.map_cons, List.map_nil]) (rd_len hok hu hv)
        · rename_i hu
          simp only [Option.some.injEq] at hc
          rcases bare_eq hc.symm with ⟨f, args, bor, rfl, h⟩ | ⟨_, rfl⟩
          · cases h
          · exact step_ans hok hd (s := Builtin.len_ #[t] o.type #[a.eval x]) (by rw [hb, e1, e2]; simp only [builtin, List.map_toArray, List.map_cons, List.map_nil]) (rd_lenS hok hu hv)
        · rename_i n e hu
          simp only [Option.some.injEq] at hc
          rcases bare_eq hc.symm with ⟨f, args, bor, rfl, h⟩ | ⟨_, rfl⟩
          · cases h
          · exact step_ans hok hd (s := Builtin.len_ #[t] o.type #[a.eval x]) (by rw [hb, e1, e2]; simp only [builtin, List.map_toArray, List.map_cons, List.map_nil]) (rd_lenC _ hu hv)
        · cases hc
      · rename_i t t2 A X hts hxs
        have e1 := arr2 hts
        have e2 := arr2 hxs
        split at hc
        · rename_i e e2' hu hu2
          split at hc
          · rename_i i hi
            split at hc
            · rename_i z hz
              split at hc
              · rename_i hzs
                simp only [Option.some.injEq] at hc
                rcases bare_eq hc.symm with ⟨f, args, bor, rfl, h⟩ | ⟨_, rfl⟩
                · cases h
                · simp only [stepA] at hv
                  split at hv
                  · rename_i d hdst
                    split at hv
                    · rename_i on l l' hbo hro
                      obtain ⟨⟨hf, h1, h2⟩, hK⟩ := hv
                      have hwr := wr_append (P := P) (ty := o.type) hok (K := fun σ' x => ∃ σl : St, σl.f = σ' ∧ K ⟨(d, x) :: σl.s, σl.h⟩) hu hu2 hi hz hzs (A := A) (X := X) (d := .t d 0) (fun on' l2 hbo' => by
                        simp only [St.f] at hbo'
                        rw [hbo] at hbo'
                        simp only [Option.some.injEq, Prod.mk.injEq] at hbo'
                        obtain ⟨rfl, rfl⟩ := hbo'
                        have := freshL_spec hf
                        rw [killOL_f] at this; exact this) (by
                        simp only [wrA, St.f, hbo, hro]
                        refine ⟨⟨h1, h2⟩, ⟨(killOL on σ).s, (.t d 0, .arr i.size (l ++ l') false) :: (killOL on σ).h⟩, ?_, hK⟩
                        have hkf := killOL_f on σ
                        have k1 : look (killOL on σ).s = (killO on ⟨look σ.s, hlook σ.h⟩).s := congrArg FSt.s hkf
                        have k2 : hlook (killOL on σ).h = (killO on ⟨look σ.s, hlook σ.h⟩).h := congrArg FSt.h hkf
                        simp only [FSt.mk.injEq]
                        refine ⟨k1, ?_⟩
                        funext m
                        simp only [hlook, hput, ← k2])
                      obtain ⟨σ', x, v, w', ρ', κ', ⟨σl, rfl, hK'⟩, hrun, hok', hx⟩ := hwr
                      unfold Oper.wp
                      have hr : (execOp a.eval o).run P w = .ok (.value v) w' := by
                        rw [hb, e1, e2]
                        simp only [builtin, List.map_toArray, List.map_cons, List.map_nil]
                        exact run_v hrun
                      rw [hr]
                      simp only [Oper.upon, hdst]
                      exact GoodL.put hok' hx (d := some d) (fun d' h => by rw [← Option.some.inj h]; exact hd d hdst) hK'
                    · exact hv.elim
                  · exact hv.elim
              · cases hc
            · cases hc
          · cases hc
        · cases hc
      · rename_i t t2 x y hts hxs
        have e1 := arr2 hts
        have e2 := arr2 hxs
        simp only [Option.some.injEq] at hc
        rcases bare_eq hc.symm with ⟨f, args, bor, rfl, h⟩ | ⟨_, rfl⟩
        · cases h
        · exact step_ans hok hd (s := Builtin.max_ #[t, t2] o.type #[a.eval x, a.eval y]) (by rw [hb, e1, e2]; simp only [builtin, List.map_toArray, List.map_cons, List.map_nil]) (rd_mm (mx := true) (t := #[t, t2]) (T := o.type) hok hv)
      · rename_i t t2 x y hts hxs
        have e1 := arr2 hts
        have e2 := arr2 hxs
        simp only [Option.some.injEq] at hc
        rcases bare_eq hc.symm with ⟨f, args, bor, rfl, h⟩ | ⟨_, rfl⟩
        · cases h
        · exact step_ans hok hd (s := Builtin.min_ #[t, t2] o.type #[a.eval x, a.eval y]) (by rw [hb, e1, e2]; simp only [builtin, List.map_toArray, List.map_cons, List.map_nil]) (rd_mm (mx := false) (t := #[t, t2]) (T := o.type) hok hv)
      · cases hc
    · rename_i f hcal
      split at hc
      · rename_i hix
        split at hc
        · rename_i x y hxy
          simp only [Option.some.injEq] at hc
          rcases bare_eq hc.symm with ⟨f', args, bor, rfl, h⟩ | ⟨_, rfl⟩
          · cases h
          · exact step_rd hok hd (rd_idxB hok hop hcal (arr2 hxy) hix hv)
        · cases hc
      · simp only [Option.some.injEq] at hc
        rcases bare_eq hc.symm with ⟨f', args, bor, rfl, h⟩ | ⟨hn, h⟩
        · simp only [AOp.call.injEq] at h
          obtain ⟨rfl, rfl, _⟩ := h
          exact step_call hok hd hop hcal hv
        · exact absurd h (hn _ _ _)
    · rename_i f _ hcal
      simp only [Option.some.injEq] at hc
      rcases bare_eq hc.symm with ⟨f', args, bor, rfl, h⟩ | ⟨hn, h⟩
      · simp only [AOp.call.injEq] at h
        obtain ⟨rfl, rfl, _⟩ := h
        exact step_call hok hd hop hcal hv
      · exact absurd h (hn _ _ _)
    · cases hc
  all_goals simp [comp] at hc
end Go.Vs
