/- Points of a walk: how a function begins and ends there. -/
import Derived.Test.YtokfhfdnmnblfaaVuD
namespace Go.Vs
set_option linter.unusedSectionVars false
set_option linter.unusedVariables false
section
variable [Envs]
variable {P : Program} {nt : Nat} {dr : Nat → Array Oper → Option (List Nat)} {Q : Exit → Act → World → Prop} {a : Act} {w : World}

/-- Operations in an order of their own. -/
def RgL (P : Program) (nt : Nat) (aops : List AOper) (Q : Exit → Act → World → Prop) (a : Act) (w : World) : Prop :=
  ∀ (ops : Array Oper) (L : List Nat), L.length = aops.length → (∀ (j : Nat) (ao : AOper), aops[j]? = some ao → ∃ (i : Nat) (o : Oper), L[j]? = some i ∧ ops[i]? = some o ∧ cOper P nt ops o = some ao.bare) → wpOps P ops Q L a w

theorem RgL.nil (h : Q .normal a w) : RgL P nt [] Q a w := by
  intro ops L hl _
  have : L = [] := by simpa using hl
  subst this; exact h

theorem RgL.fw {C : Ctx} {K : St → Prop} {post : List AOper} (hK : ∀ (σ : St) (a : Act) (w : World) (S : Nat → Prop) (ρ : Name → Option Nat) (κ : Name → Nat), K σ → OK C σ.f a w S ρ κ → RgL P C.nt post Q a w) :
    ∀ (pre : List AOper) (σ : St) (a : Act) (w : World) (S : Nat → Prop) (ρ : Name → Option Nat) (κ : Name → Nat), vc P K pre σ → OK C σ.f a w S ρ κ → RgL P C.nt (pre ++ post) Q a w
  | [], σ, a, w, S, ρ, κ, hv, hok => hK σ a w S ρ κ hv hok
  | ao :: r, σ, a, w, S, ρ, κ, hv, hok => by
    intro ops L hl hs
    cases L with
    | nil => simp at hl
    | cons i L =>
    obtain ⟨i', o, hi, ho, hc⟩ := hs 0 ao (by simp)
    obtain rfl : i = i' := by simpa using hi
    obtain ⟨h1, h2, h3, h4⟩ := cOper_spec hc
    rw [wpOps_cons]
    have ih : ∀ (σ : St) (a : Act) (w : World) (S : Nat → Prop) (ρ : Name → Option Nat) (κ : Name → Nat), vc P K r σ → OK C σ.f a w S ρ κ → wpOps P ops Q L a w := fun σ a w S ρ κ hv hok =>
      RgL.fw hK r σ a w S ρ κ hv hok ops L (by simpa using hl) (fun j ao' hj => by
        obtain ⟨i', o', g1, g2, g3⟩ := hs (j + 1) ao' (by simpa using hj)
        exact ⟨i', o', by simpa using g1, g2, g3⟩)
    have go : stepA P ao.dst σ (vc P K r) ao.op → o.wp P a w (wpOps P ops Q L) Q := fun hst =>
      Oper.wp_mono (fun a' w' ⟨σ', S', ρ', κ', hK, hok'⟩ => ih σ' a' w' S' ρ' κ' hK hok') (step_sound (P := P) h1 hok h3 (by rw [h2]; exact hst))
    unfold wpOp
    rw [ho]
    simp only [vc] at hv
    rcases h4 with ⟨g1, g2⟩ | ⟨j, want, t, g1, g2, g3⟩
    · rw [g2] at hv
      have : Region.wanted o (yielded ops a.tmps) = true := by simp [Region.wanted, g1]
      simp only [this, if_true]
      exact .inl (go hv)
    · rw [g2] at hv
      simp only at hv
      split at hv
      · rename_i b hb
        have hw := wanted_of hok g1 g3 hb
        simp only [hw]
        by_cases hbw : b = want
        · simp only [hbw, beq_self_eq_true, if_true]
          exact .inl (go ((BrW_iff.1 hv).1 hbw))
        · have : (b == want) = false := by simpa using hbw
          simp only [this, Bool.false_eq_true, if_false]
          have hn : b = !want := by cases b <;> cases want <;> simp_all
          refine ih _ _ _ S ρ κ ((BrW_iff.1 hv).2 hn) ?_
          have := hok.put (x := .v undef) (v := undef) (.clo (.v _)) h3
          rw [h2] at this ⊢
          simpa [St.f, look_put, undef] using this
      · rename_i cs hb
        have hw := wanted_un hok g1 g3 hb
        simp only [hw, Bool.false_eq_true, if_false]
        refine ih _ _ _ S ρ κ hv ?_
        have := hok.put (x := .v undef) (v := undef) (.clo (.v _)) h3
        rw [h2] at this ⊢
        simpa [St.f, look_put, undef] using this
      · exact hv.elim

theorem RgL.op {o : AOper} {r : List AOper} (hg : o.guard = none) (h : ∀ (op : Oper) (ops : Array Oper), cOper P nt ops op = some o.bare → op.wp P a w (RgL P nt r Q) Q) : RgL P nt (o :: r) Q a w := by
  intro ops L hl hs
  cases L with
  | nil => simp at hl
  | cons i L =>
  obtain ⟨i', op, hi, ho, hc⟩ := hs 0 o (by simp)
  obtain rfl : i = i' := by simpa using hi
  obtain ⟨_, _, _, h4⟩ := cOper_spec hc
  have hg2 : op.guard = none := by
    rcases h4 with ⟨h, _⟩ | ⟨j, want, t, _, h, _⟩
    · exact h
    · rw [hg] at h; cases h
  rw [wpOps_cons]
  unfold wpOp
  rw [ho]
  have : Region.wanted op (yielded ops a.tmps) = true := by simp [Region.wanted, hg2]
  simp only [this, if_true]
  exact .inl (Oper.wp_mono (fun a' w' hr => hr ops L (by simpa using hl) fun j ao' hj => by
    obtain ⟨i', o', g1, g2, g3⟩ := hs (j + 1) ao' (by simpa using hj)
    exact ⟨i', o', by simpa using g1, g2, g3⟩) (h op ops hc))

theorem At.rg {aops : List AOper} {out : List Nat} (h : RgL P nt aops Q a w) : At P nt dr (.region aops out []) Q a w := by
  intro c hc hzc
  cases c
  case region id ops draw =>
    simp only [cCode, ACode.bare] at hc
    split at hc
    · rename_i fl' hdraw
      cases ho : cOps P nt ops ops.toList with
      | none => rw [ho] at hc; cases hc
      | some l =>
        rw [ho] at hc
        simp only [Option.map_some, Option.some.injEq, ACode.region.injEq, true_and] at hc
        obtain ⟨hl, hfl⟩ := hc
        subst hl; subst hfl
        cases draw with
        | true =>
          have hd : dr nt ops = some [] := by simpa using hdraw
          simp [zB, hd] at hzc
        | false =>
          obtain ⟨g1, g2⟩ := cOps_spec ho
          have hlen : ops.size = aops.length := by simpa using g1
          refine wp_region (h ops _ (by rw [List.length_range, hlen]) fun j ao hj => ?_)
          obtain ⟨o, q1, q2⟩ := g2 j ao hj
          have hjl : j < ops.size := by
            rw [hlen]
            rcases Nat.lt_or_ge j aops.length with h | h
            · exact h
            · simp [List.getElem?_eq_none h] at hj
          exact ⟨j, o, by simp [hjl], by simpa using q1, q2⟩
    · cases hc
  all_goals (simp only [cCode, ACode.bare] at hc; first | (cases hc; done) | (split at hc <;> simp at hc) | (simp at hc))

end
variable {P : Program} {nt : Nat} {dr : Nat → Array Oper → Option (List Nat)} {Q : Exit → Act → World → Prop} {a : Act} {w : World}
variable {I : Envs} {C1 : Ctx} {σ τ : St} {S : Nat → Prop}
theorem Pt.drew (h : Pt I C1 σ a w S) : Pt I C1 σ a { w with drawn := w.drawn + 1 } S := by
  obtain ⟨hM, hr, C, ρ, κ, hw0, hS0, hmu, hl, hok⟩ := h
  exact Pt.of_ok hM hr hl (@OK.ext I C σ.f a w { w with drawn := w.drawn + 1 } S ρ κ hok (Ext.of_heap rfl rfl rfl))
theorem Past.drew : Past S w S { w with drawn := w.drawn + 1 } := ⟨fun _ h => h, fun _ _ => rfl, Nat.le_refl _⟩
/-- operations by the framework -/
theorem Pt.rg (hp : Pt I C1 σ a w S) (hnt : C1.nt = nt) {pre post : List AOper} (hτ : ∀ p, p ∈ τ.h → flatB p.2 ∧ p.2.fz = false) (hv : @vc I P (fun σ' => LeL σ' τ) pre σ)
    (h : ∀ a' w' S', Past S w S' w' → Pt I C1 τ a' w' S' → RgL P nt post Q a' w') : RgL P nt (pre ++ post) Q a w := by
  have hp' := hp
  obtain ⟨hM, hr, C, ρ, κ, hw0, hS0, hmu, hla, hok⟩ := hp
  have hCnt : C.nt = nt := hla.nt.trans hnt
  have hno : ∀ b, S b → b < w.heap.size ∧ ¬ C.Mut b := fun b hb => ⟨hp'.dom b hb, fun hm => by
    obtain ⟨n, hn, hx⟩ := hmu b hm
    obtain ⟨b', hb'⟩ := Option.isSome_iff_exists.1 hn
    exact @OK.noS I _ _ _ _ _ _ _ hok _ _ hb' (hr _ (hlook_mem2 hb')).2 _ hx hb⟩
  subst hCnt
  refine @RgL.fw I P Q C (fun σ' => LeL σ' τ) post (fun σ' a' w' S' ρ' κ' hle hok' => ?_) pre σ a w S ρ κ hv hok
  have hok2 := @OK.le I _ _ _ _ _ _ _ _ hok' hle
  exact h a' w' S' (Pt.later hw0 hS0 hno hok2) (Pt.of_ok hM hτ hla hok2)
/-- a call by hand -/
theorem Pt.rgcall (hp : Pt I C1 σ a w S) (hnt : C1.nt = nt) {f : FuncId} {ts : List Nat} {ys : List AV} {bor : List Nat} {d : Nat} {r : List AOper} (hb : HasBody P f) (hl : ts.length = ys.length) (hts : ∀ i, i < ts.length → look σ.s (ts.getD i 0) = ys.getD i .junk) (hcl : ∀ i, i < ts.length → isClo (ys.getD i .junk) = true)
    (h : ∀ vs : Array Value, vs.size = ys.length → (∀ j, j < ys.length → RC S w (ys.getD j .junk) (vs.getD j undef)) → Calls P f vs w fun e w' => ∃ u, e = .returned u ∧ RgL P nt r Q (a.put (some d) u) w') :
    RgL P nt (⟨some d, .call (.func f) (ts.map .tmp) bor, none⟩ :: r) Q a w := by
  have hval : ∀ i, i < ts.length → RC S w (ys.getD i .junk) (a.tmps.getD (ts.getD i 0) undef) := fun i hi => by
    have := hp.val (t := ts.getD i 0) (by rw [hts i hi]; exact hcl i hi)
    rw [hts i hi] at this
    exact this
  obtain ⟨hM, hr, C, ρ, κ, hw0, hS0, hmu, hla, hok⟩ := hp
  have hCnt : C.nt = nt := hla.nt.trans hnt
  refine RgL.op rfl fun op ops hcop => ?_
  refine @op_call I P C a w S ρ κ ops σ.f op _ f (ts.map .tmp) bor (by rw [hCnt]; exact hcop) rfl hok hb _ _ ?_
  refine h _ (by simp [hl]) fun j hj => ?_
  have hj' : j < ts.length := by omega
  have e2 : ((ts.map Operand.tmp).map a.eval).toArray.getD j undef = a.tmps.getD (ts.getD j 0) undef := by
    simp [hj', Act.eval]
  rw [e2]
  exact hval j hj'
end Go.Vs

namespace Go.Vs
set_option linter.unusedSectionVars false
set_option linter.unusedVariables false
variable {P : Program} {nt : Nat} {Q : Exit → Act → World → Prop} {a : Act} {w : World} {S : Nat → Prop}

/-- A function by hand: its first point. -/
theorem Pt.calls [I : Envs] {dr : Nat → Array Oper → Option (List Nat)} {f : FuncId} {fn : Func} {body : Code} {ac : ACode} (hf : P.funcs[f]? = some fn) (hb : fn.body = some body) (hc : cCode P fn.ntmps dr body = some ac.bare) (hz : zB fn.ntmps dr body = true) {args : List AV} (hna : args.length ≤ fn.ntmps)
    {vs : Array Value} (hS : ∀ b, S b → b < w.heap.size) (he : Env S w) (hvs : vs.size = args.length) (hargs : ∀ j, j < args.length → RC S w (args.getD j .junk) (vs.getD j undef)) {R : Ending → World → Prop}
    (h : ∀ (C1 : Ctx) (a : Act), C1.nt = fn.ntmps → C1.w0 = w → C1.S0 = S → Pt I C1 ⟨ini 0 args, []⟩ a w S →
      At P fn.ntmps dr ac (fun e a' w' => (e = .ret ∨ e = .normal) ∧ a'.defers = [] ∧ ∃ v, (results fn a'.tmps).run P w' = .ok v w' ∧ R (.returned v) w') a w) : Calls P f vs w R :=
  calls_at hf hb hc hz hna hS he hvs hargs (fun _ => False) fun a hok => h _ a rfl rfl rfl (Pt.of_ok (fun _ h => h) (fun p hp => by cases hp) (Later.refl _) hok)

theorem OK.exposeP [Envs] {C : Ctx} {ρ : Name → Option Nat} {κ : Name → Nat} {σ : FSt} (hok : OK C σ a w S ρ κ) {n : Name} {k len : Nat} {rows : List (List AV)} {z : Bool} (hb : σ.h n = some (.arr k rows z)) (hfl : ∀ r, r ∈ rows → flatL r = true) {v : Value} (hv : RV S w ρ κ σ.h (.loc n 0 len) v) :
    RC (fun b => ρ n = some b) w (.sl k (rows.take len)) v := by
  have hl := inv_loc hv k rows z hb
  obtain ⟨h0, base, cap, rfl, h1, h2, h3, _⟩ := hl
  have hlen : (rows.take len).length = len := by rw [List.length_take]; omega
  obtain ⟨hrk, hblk⟩ := hok.hok.blk n _ hb
  have e : ∀ i, i < len → (rows.take len).getD i [] = rows.getD i [] := fun i hi => by simp [hi]
  have key : RC (fun b => ρ n = some b) w (.sl k (rows.take len)) (.slice base (rows.take len).length cap) := by
    rcases hblk with ⟨hn, hnil⟩ | ⟨x, cs, T, fr, g1, g2, g3, _, _, g5, g6, g7⟩
    · subst hnil
      have : List.take len ([] : List (List AV)) = [] := by simp
      rw [this]
      refine .sl k [] base cap 0 0 (fun _ => undef) (by simp) (by simp) (by simp) (by simp) (by simp) ⟨by simp, h2⟩
    · refine .sl k _ base cap x 0 (fun i => cs.getD i undef) (fun hne => ?_) (fun i j hi hj => ?_) (fun i j hi hj => (g7 i j (by omega) hj).1) (fun i j hi hj => ?_) (fun i hi => ?_) ⟨by omega, h2⟩
      · have : 0 < len := by have := List.length_pos_iff.2 hne; omega
        obtain ⟨y, hy, hbase⟩ := h3 this
        rw [g1] at hy
        obtain rfl := Option.some.inj hy
        exact ⟨by rw [hbase]; simp, g1⟩
      · have hlt : i * k + j < cs.size := by
          have : i * k + k ≤ rows.length * k := by rw [← Nat.succ_mul]; exact Nat.mul_le_mul_right k (by omega)
          omega
        simp [World.cell?, g2, hlt]
      · rw [e i (by omega)]
        refine ((g7 i j (by omega) hj).2).flat ?_
        have hm : rows.getD i [] ∈ rows := by
          rw [List.getD_eq_getElem?_getD, List.getElem?_eq_getElem (by omega)]; exact List.getElem_mem _
        exact flatL_getD (hfl _ hm)
      · rw [e i (by omega)]; exact hrk i (by omega)
  rw [hlen] at key
  exact key

/-- An argument may be told otherwise, where the tables tell how it reads. -/
theorem Fn.knownR [Envs] {f : FuncId} {hin : List Blk} {ys ys' : List AV} {r : AV} {hout : List (Option Blk)} (h : Fn P f hin ys r hout) (hl : ys'.length = ys.length)
    (hk : ∀ j, j < ys.length → ys'.getD j .junk = ys.getD j .junk ∨ (isClo (ys'.getD j .junk) = true ∧ ∀ S w v, Env S w → RC S w (ys'.getD j .junk) v → RC S w (ys.getD j .junk) v)) : Fn P f hin ys' r hout :=
  ⟨h.1, fun S w ρ κ vs hok hfz hvs hr => h.2 S w ρ κ vs hok hfz (by rw [hvs, hl]) fun j hj => by
    have := hr j (by omega)
    rcases hk j hj with e | ⟨hc, hv⟩
    · rw [e] at this; exact this
    · exact .clo (hv S w _ hok.env (RV.closed this hc))⟩
/-- a result that is told otherwise -/
theorem Fn.resAs [Envs] {f : FuncId} {hin : List Blk} {ys : List AV} {r r' : AV} {hout : List (Option Blk)} (h : Fn P f hin ys r hout) (hc : isClo r = true) (hr : ∀ S w v, RC S w r v → RC S w r' v) : Fn P f hin ys r' hout :=
  ⟨h.1, fun S w ρ κ vs hok hfz hvs ha => (h.2 S w ρ κ vs hok hfz hvs ha).mono fun e w' he => by
    obtain ⟨v', S', ρ', κ', h1, h2, h3⟩ := he
    exact ⟨v', S', ρ', κ', h1, h2, .clo (hr S' w' v' (RV.closed h3 hc))⟩⟩
variable {I : Envs} {C1 : Ctx} {σ τ : St}
/-- the result is a row, and one more value -/
theorem Pt.resRow (h : Pt I C1 σ a w S) {fn : Func} {n : Name} {k len : Nat} {rows : List (List AV)} {c : Value} (hb : hlook σ.h n = some (.arr k rows false)) (hfl : ∀ r, r ∈ rows → flatL r = true)
    (hr : resL P σ (fun xs => oneOr xs = .tup [.loc n 0 len, .v c]) fn.results.toList) :
    a.defers = [] ∧ ∃ v x, (results fn a.tmps).run P w = .ok (.tuple #[v, c]) w ∧ RC (fun b => x = some b) w (.sl k (rows.take len)) v ∧ ∀ b, x = some b → C1.w0.heap.size ≤ b ∧ b < w.heap.size ∧ ¬ S b := by
  obtain ⟨hM, hrr, C, ρ, κ, hw0, hS0, hmu, hl, hok⟩ := h
  refine ⟨@OK.defers I _ _ _ _ _ _ _ hok, ?_⟩
  obtain ⟨y, u, hx, hxv, hrun⟩ := res_run (P := P) hok (fn := fn) (K := fun y => y = .tup [.loc n 0 len, .v c]) hr
  subst hx
  obtain ⟨v, rfl, hv⟩ : ∃ v, u = .tuple #[v, c] ∧ RV S w ρ κ σ.f.h (.loc n 0 len) v := by
    have key : ∃ vs : Array Value, u = .tuple vs ∧ vs.size = 2 ∧ RV S w ρ κ σ.f.h (.loc n 0 len) (vs.getD 0 undef) ∧ vs.getD 1 undef = c := by
      cases hxv with
      | clo h => cases h with
        | tup _ vs hl hr => have := hr 0 (by simp); cases this
      | tup _ vs hl hr => exact ⟨vs, rfl, by simpa using hl.symm, by simpa using hr 0 (by simp), inv_v (by simpa using hr 1 (by simp))⟩
    obtain ⟨vs, rfl, h2, h3, h4⟩ := key
    obtain ⟨l⟩ := vs
    match l, h2 with
    | [x, y], _ =>
      refine ⟨x, ?_, by simpa using h3⟩
      have : y = c := by simpa using h4
      rw [this]
  refine ⟨v, ρ n, hrun, @OK.exposeP a w S I C ρ κ σ.f hok n k len rows false hb hfl v hv, fun b hb' => ⟨?_, hok.hok.lt (n := n) (by rw [show σ.f.h n = _ from hb]; rfl) hb', ?_⟩⟩
  · rcases (@OK.back I _ _ _ _ _ _ _ hl _ hok).mine n b (by rw [show σ.f.h n = _ from hb]; rfl) hb' with h | h
    · exact h
    · exact (hM b h).elim
  · exact @OK.noS I _ _ _ _ _ _ _ hok _ _ hb rfl _ hb'
theorem rc_tup2 {v c u : Value} (h : RC S w (.tup [.v v, .v c]) u) : u = .tuple #[v, c] := by
  letI : Envs := ⟨[]⟩
  have key : ∃ vs : Array Value, u = .tuple vs ∧ vs.size = 2 ∧ vs.getD 0 undef = v ∧ vs.getD 1 undef = c := by
    cases h with
    | tup _ vs hl hr => exact ⟨vs, rfl, by simpa using hl.symm, inv_v (ρ := fun _ => none) (κ := fun _ => 0) (h := fun _ => none) (.clo (by simpa using hr 0 (by simp))), inv_v (ρ := fun _ => none) (κ := fun _ => 0) (h := fun _ => none) (.clo (by simpa using hr 1 (by simp)))⟩
  obtain ⟨vs, rfl, h2, h3, h4⟩ := key
  obtain ⟨l⟩ := vs
  match l, h2 with
  | [x, y], _ =>
    have e1 : x = v := by simpa using h3
    have e2 : y = c := by simpa using h4
    rw [e1, e2]
theorem tup2_rc (v c : Value) : RC S w (.tup [.v v, .v c]) (.tuple #[v, c]) :=
  .tup _ _ rfl fun j hj => by
    match j, hj with
    | 0, _ => exact .v _
    | 1, _ => exact .v _
/-- what a function of decks answers: a deck that was not there before, and the code 0 -/
def DkRes (w : World) (ls : List (List (List AV))) (e : Ending) (w' : World) : Prop := ∃ v, e = .returned (.tuple #[v, .int .i64 0]) ∧ Grew w w' ∧ NewDk w w' ls v
theorem NewDk.later {w1 w2 w3 : World} {ls : List (List (List AV))} {v : Value} {m : Mem} (hd : Dk w2 ls v m) (hn : ∀ b, m.D b → w1.heap.size ≤ b) {S S' : Nat → Prop} (hS : ∀ b, m.D b → S b) (hp : Past S w2 S' w3) : NewDk w1 w3 ls v :=
  ⟨m, hd.same hp.size fun b hb => hp.old b (hS b hb), hn⟩
/-- the end of such a function -/
theorem Pt.retDk (h : Pt I C1 σ a w S) {fn : Func} {v : Value} {w1 w2 : World} {S2 : Nat → Prop} {ls : List (List (List AV))} {m : Mem} (hw : C1.w0 = w1) (hd : Dk w2 ls v m) (hn : ∀ b, m.D b → w1.heap.size ≤ b) (hS : ∀ b, m.D b → S2 b) (hp : Past S2 w2 S w)
    (hr : resL P σ (fun xs => oneOr xs = .tup [.v v, .v (.int .i64 0)]) fn.results.toList) : a.defers = [] ∧ ∃ u, (results fn a.tmps).run P w = .ok u w ∧ DkRes w1 ls (.returned u) w := by
  obtain ⟨h1, u, h2, h3⟩ := h.res (fn := fn) (x := .tup [.v v, .v (.int .i64 0)]) rfl hr
  have := rc_tup2 h3
  subst this
  exact ⟨h1, _, h2, v, rfl, hw ▸ h.out, NewDk.later hd hn hS hp⟩

/-- the last stretch by the framework -/
theorem Pt.fin {dr : Nat → Array Oper → Option (List Nat)} (hp : Pt I C1 σ a w S) (hdr : @DrawOK I P dr) (hnt : C1.nt = nt) {c : ACode} {E : AExit → St → Prop} (hv : ∀ C : Ctx, C.nt = nt → @wpc I P C dr c (fun _ => False) E σ) (hE : ∀ i σ, ¬ E (.exit i) σ)
    (hR : ∀ C a w, Later C1 C → @GoodL I C (E .ret) a w → Q .ret a w) : At P nt dr c Q a w := by
  obtain ⟨hM, hr, C, ρ, κ, hw0, hS0, hmu, hl, hok⟩ := hp
  have hCnt : C.nt = nt := hl.nt.trans hnt
  exact At.fw hdr hok hCnt (hv C hCnt) (fun a w hg => hg.no.elim) (fun i a w hg => by
    obtain ⟨σ', _, _, _, h, _⟩ := hg
    exact (hE i σ' h).elim) (fun a w hg => hR C a w hl hg)
theorem Past.grow {w' : World} {D : Nat → Prop} (hg : Grew w w') (hS : ∀ b, S b → b < w.heap.size) : Past S w (fun b => S b ∨ D b) w' := ⟨fun _ h => .inl h, fun b hb => hg.old b (hS b hb), hg.size⟩
/-- what was known long ago is known behind marks of other memory -/
theorem Past.mark {S1 K : Nat → Prop} {w1 w' : World} {D : Nat → Prop} (h : Past S1 w1 S w) (hdom : ∀ b, S b → b < w.heap.size) (hsz : w.heap.size ≤ w'.heap.size) (hw : ∀ b, b < w.heap.size → ¬ D b → w'.heap[b]? = w.heap[b]?) (hD : ∀ b, D b → ¬ S1 b) (hK : ∀ b, S1 b → K b) : Past S1 w1 K w' :=
  ⟨hK, fun b hb => (hw b (hdom b (h.sub b hb)) fun hd => hD b hd hb).trans (h.old b hb), Nat.le_trans h.size hsz⟩
theorem Dk.past {ls : List (List (List AV))} {v : Value} {m : Mem} {S' : Nat → Prop} {w' : World} (hd : Dk w ls v m) (hS : ∀ b, m.D b → S b) (hp : Past S w S' w') : Dk w' ls v m := hd.same hp.size fun b hb => hp.old b (hS b hb)
theorem us2 {us : Array Value} (h : us.size = 2) {v c : Value} (h0 : us.getD 0 undef = v) (h1 : us.getD 1 undef = c) : us = #[v, c] := by
  obtain ⟨l⟩ := us
  match l, h with
  | [x, y], _ =>
    have e1 : x = v := by simpa using h0
    have e2 : y = c := by simpa using h1
    rw [e1, e2]
theorem us1 {us : Array Value} (h : us.size = 1) {v : Value} (h0 : us.getD 0 undef = v) : us = #[v] := by
  obtain ⟨l⟩ := us
  match l, h with
  | [x], _ =>
    have e1 : x = v := by simpa using h0
    rw [e1]
theorem rc_v {v u : Value} (h : RC S w (.v v) u) : u = v := by cases h; rfl
/-- a call whose answer is closed -/
theorem Fn.calls0 [Envs] {f : FuncId} {ys : List AV} {r : AV} (h : Fn P f [] ys r []) (hc : isClo r = true) {vs : Array Value} (hS : ∀ b, S b → b < w.heap.size) (he : Env S w) (hvs : vs.size = ys.length) (hargs : ∀ j, j < ys.length → RC S w (ys.getD j .junk) (vs.getD j undef)) :
    Calls P f vs w fun e w' => ∃ v S', e = .returned v ∧ Grew w w' ∧ RC S' w' r v := by
  have hnone : ∀ n, Hn (([] : List Blk).map some) n = none := by
    intro n
    cases n <;> simp [Hn]
  have hok1 : HOK S w (fun _ => none) (fun _ => 0) (Hn (([] : List Blk).map some)) :=
    ⟨fun n b hb => (by rw [hnone] at hb; cases hb), fun n m y hn _ _ _ => (by rw [hnone] at hn; cases hn), hS, he⟩
  refine (h.2 S w _ _ vs hok1 (by simp) hvs fun j hj => .clo (hargs j hj)).mono ?_
  rintro e w' ⟨u, S', ρ', κ', rfl, hp, hu⟩
  exact ⟨u, S', rfl, ⟨hp.size, fun b hb => hp.old b hb mutOf_nil, hp.out⟩, RV.closed hu hc⟩
/-- what a function of decks answers: a deck that was not there before, and a code -/
def DkResC (w : World) (ls : List (List (List AV))) (c : Value) (e : Ending) (w' : World) : Prop := ∃ v, e = .returned (.tuple #[v, c]) ∧ Grew w w' ∧ NewDk w w' ls v
theorem Fn.noDk [Envs] {f : FuncId} {ys : List AV} {c : Value} (h : Fn P f [] ys (.tup [.v (.slice none 0 0), .v c]) []) {vs : Array Value} (hS : ∀ b, S b → b < w.heap.size) (he : Env S w) (hvs : vs.size = ys.length) (hargs : ∀ j, j < ys.length → RC S w (ys.getD j .junk) (vs.getD j undef)) :
    Calls P f vs w (DkResC w [] c) := by
  refine (h.calls0 rfl hS he hvs hargs).mono ?_
  rintro e w' ⟨v, S', rfl, hg, hv⟩
  have := rc_tup2 hv
  subst this
  exact ⟨_, rfl, hg, _, Dk.nil w', fun b hb => by
    rcases hb with h | ⟨i, hi, _⟩
    · cases h
    · simp at hi⟩

end Go.Vs
