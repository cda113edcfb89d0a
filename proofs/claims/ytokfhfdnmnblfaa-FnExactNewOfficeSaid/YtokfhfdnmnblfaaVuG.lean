/- Regions whose order is drawn: copies of slots are taken first. Rows that are hidden as slices. -/
import Derived.Test.YtokfhfdnmnblfaaVuD
namespace Go.Vs
set_option linter.unusedSectionVars false
set_option linter.unusedVariables false
section
variable [Envs]
variable {P : Program} {nt : Nat} {dr : Nat → Array Oper → Option (List Nat)} {Q : Exit → Act → World → Prop} {a : Act} {w : World}

/-- Operations in an order of their own. -/
def RgL (P : Program) (nt : Nat) (aops : List AOper) (Q : Exit → Act → World → Prop) (a : Act) (w : World) : Prop :=
  ∀ (ops : Array Oper) (L : List Nat), L.length = aops.length → (∀ (j : Nat) (ao : AOper), aops[j]? = some ao → ∃ (i : Nat) (o : Oper), L[j]? = some i ∧ ops[i]? = some o ∧ cOper P nt ops o = some ao.bare) → wpOps P ops Q L a w

theorem RgL.nil (h : Q .normal a w) : RgL P nt [] Q a w := by
  intro ops L hl _
  have : L = [] := by simpa using hl
  subst this; exact h

theorem RgL.fw {C : Ctx} {K : St → Prop} {post : List AOper} (hK : ∀ (σ : St) (a : Act) (w : World) (S : Nat → Prop) (ρ : Name → Option Nat) (κ : Name → Nat), K σ → OK C σ.f a w S ρ κ → RgL P C.nt post Q a w) :
    ∀ (pre : List AOper) (σ : St) (a : Act) (w : World) (S : Nat → Prop) (ρ : Name → Option Nat) (κ : Name → Nat), vc P K pre σ → OK C σ.f a w S ρ κ → RgL P C.nt (pre ++ post) Q a w
  | [], σ, a, w, S, ρ, κ, hv, hok => hK σ a w S ρ κ hv hok
  | ao :: r, σ, a, w, S, ρ, κ, hv, hok => by
    intro ops L hl hs
    cases L with
    | nil => simp at hl
    | cons i L =>
    obtain ⟨i', o, hi, ho, hc⟩ := hs 0 ao (by simp)
    obtain rfl : i = i' := by simpa using hi
    obtain ⟨h1, h2, h3, h4⟩ := cOper_spec hc
    rw [wpOps_cons]
    have ih : ∀ (σ : St) (a : Act) (w : World) (S : Nat → Prop) (ρ : Name → Option Nat) (κ : Name → Nat), vc P K r σ → OK C σ.f a w S ρ κ → wpOps P ops Q L a w := fun σ a w S ρ κ hv hok =>
      RgL.fw hK r σ a w S ρ κ hv hok ops L (by simpa using hl) (fun j ao' hj => by
        obtain ⟨i', o', g1, g2, g3⟩ := hs (j + 1) ao' (by simpa using hj)
        exact ⟨i', o', by simpa using g1, g2, g3⟩)
    have go : stepA P ao.dst σ (vc P K r) ao.op → o.wp P a w (wpOps P ops Q L) Q := fun hst =>
      Oper.wp_mono (fun a' w' ⟨σ', S', ρ', κ', hK, hok'⟩ => ih σ' a' w' S' ρ' κ' hK hok') (step_sound (P := P) h1 hok h3 (by rw [h2]; exact hst))
    unfold wpOp
    rw [ho]
    simp only [vc] at hv
    rcases h4 with ⟨g1, g2⟩ | ⟨j, want, t, g1, g2, g3⟩
    · rw [g2] at hv
      have : Region.wanted o (yielded ops a.tmps) = true := by simp [Region.wanted, g1]
      simp only [this, if_true]
      exact .inl (go hv)
    · rw [g2] at hv
      simp only at hv
      split at hv
      · rename_i b hb
        have hw := wanted_of hok g1 g3 hb
        simp only [hw]
        by_cases hbw : b = want
        · simp only [hbw, beq_self_eq_true, if_true]
          exact .inl (go ((BrW_iff.1 hv).1 hbw))
        · have : (b == want) = false := by simpa using hbw
          simp only [this, Bool.false_eq_true, if_false]
          have hn : b = !want := by cases b <;> cases want <;> simp_all
          refine ih _ _ _ S ρ κ ((BrW_iff.1 hv).2 hn) ?_
          have := hok.put (x := .v undef) (v := undef) (.clo (.v _)) h3
          rw [h2] at this ⊢
          simpa [St.f, look_put, undef] using this
      · rename_i cs hb
        have hw := wanted_un hok g1 g3 hb
        simp only [hw, Bool.false_eq_true, if_false]
        refine ih _ _ _ S ρ κ hv ?_
        have := hok.put (x := .v undef) (v := undef) (.clo (.v _)) h3
        rw [h2] at this ⊢
        simpa [St.f, look_put, undef] using this
      · exact hv.elim

theorem RgL.op {o : AOper} {r : List AOper} (hg : o.guard = none) (h : ∀ (op : Oper) (ops : Array Oper), cOper P nt ops op = some o.bare → op.wp P a w (RgL P nt r Q) Q) : RgL P nt (o :: r) Q a w := by
  intro ops L hl hs
  cases L with
  | nil => simp at hl
  | cons i L =>
  obtain ⟨i', op, hi, ho, hc⟩ := hs 0 o (by simp)
  obtain rfl : i = i' := by simpa using hi
  obtain ⟨_, _, _, h4⟩ := cOper_spec hc
  have hg2 : op.guard = none := by
    rcases h4 with ⟨h, _⟩ | ⟨j, want, t, _, h, _⟩
    · exact h
    · rw [hg] at h; cases h
  rw [wpOps_cons]
  unfold wpOp
  rw [ho]
  have : Region.wanted op (yielded ops a.tmps) = true := by simp [Region.wanted, hg2]
  simp only [this, if_true]
  exact .inl (Oper.wp_mono (fun a' w' hr => hr ops L (by simpa using hl) fun j ao' hj => by
    obtain ⟨i', o', g1, g2, g3⟩ := hs (j + 1) ao' (by simpa using hj)
    exact ⟨i', o', by simpa using g1, g2, g3⟩) (h op ops hc))

theorem At.rg {aops : List AOper} {out : List Nat} (h : RgL P nt aops Q a w) : At P nt dr (.region aops out []) Q a w := by
  intro c hc hzc
  cases c
  case region id ops draw =>
    simp only [cCode, ACode.bare] at hc
    split at hc
    · rename_i fl' hdraw
      cases ho : cOps P nt ops ops.toList with
      | none => rw [ho] at hc; cases hc
      | some l =>
        rw [ho] at hc
        simp only [Option.map_some, Option.some.injEq, ACode.region.injEq, true_and] at hc
        obtain ⟨hl, hfl⟩ := hc
        subst hl; subst hfl
        cases draw with
        | true =>
          have hd : dr nt ops = some [] := by simpa using hdraw
          simp [zB, hd] at hzc
        | false =>
          obtain ⟨g1, g2⟩ := cOps_spec ho
          have hlen : ops.size = aops.length := by simpa using g1
          refine wp_region (h ops _ (by rw [List.length_range, hlen]) fun j ao hj => ?_)
          obtain ⟨o, q1, q2⟩ := g2 j ao hj
          have hjl : j < ops.size := by
            rw [hlen]
            rcases Nat.lt_or_ge j aops.length with h | h
            · exact h
            · simp [List.getElem?_eq_none h] at hj
          exact ⟨j, o, by simp [hjl], by simpa using q1, q2⟩
    · cases hc
  all_goals (simp only [cCode, ACode.bare] at hc; first | (cases hc; done) | (split at hc <;> simp at hc) | (simp at hc))

/-- all orders of a region -/
def ordGo (ops : Array Oper) : Nat → Array Bool → List (List Nat)
  | 0, _ => [[]]
  | fuel + 1, listed =>
    match (List.range ops.size).filter fun i => !listed.getD i true && ((ops[i]?).map (·.after.all fun e => !Region.binds .any e || listed.getD e.on false)).getD false with
    | [] => [[]]
    | rs => rs.flatMap fun i => (ordGo ops fuel (listed.setIfInBounds i true)).map (i :: ·)
theorem ordGo_mem (ops : Array Oper) : ∀ (fuel t : Nat) (listed : Array Bool) (acc : List Nat), ∃ L, L ∈ ordGo ops fuel listed ∧ Region.linearise.go .any ops fuel t listed acc = acc.reverse ++ L
  | 0, t, listed, acc => ⟨[], by simp [ordGo], by simp [Region.linearise.go]⟩
  | fuel + 1, t, listed, acc => by
    simp only [Region.linearise.go, ordGo]
    generalize hrs : ((List.range ops.size).filter fun i => !listed.getD i true && ((ops[i]?).map (·.after.all fun e => !Region.binds .any e || listed.getD e.on false)).getD false) = rs
    cases rs with
    | nil => exact ⟨[], by simp, by simp⟩
    | cons x xs =>
      have hlt : t % (x :: xs).length < (x :: xs).length := Nat.mod_lt _ (by simp)
      rw [List.getElem?_eq_getElem hlt]
      obtain ⟨L, h1, h2⟩ := ordGo_mem ops fuel (t / (x :: xs).length) (listed.setIfInBounds ((x :: xs)[t % (x :: xs).length]) true) ((x :: xs)[t % (x :: xs).length] :: acc)
      refine ⟨(x :: xs)[t % (x :: xs).length] :: L, ?_, ?_⟩
      · exact List.mem_flatMap.2 ⟨_, List.getElem_mem hlt, List.mem_map.2 ⟨L, h1, rfl⟩⟩
      · simp only [h2]; simp
def allOrd (ops : Array Oper) : List (List Nat) := ordGo ops ops.size (Array.replicate ops.size false)
theorem allOrd_mem (ops : Array Oper) (t : Nat) : Region.schedule true ops t ∈ allOrd ops := by
  obtain ⟨L, h1, h2⟩ := ordGo_mem ops ops.size t (Array.replicate ops.size false) []
  have e : Region.schedule true ops t = L := by
    simp only [Region.schedule, Bool.true_or, if_true, Region.linearise]
    simpa using h2
  rw [e]
  exact h1
/-- the framework's check, and regions of so many operations go by these orders -/
def drO (P : Program) (n0 : Nat) (OS : List (List Nat)) (nt : Nat) (ops : Array Oper) : Option (List Nat) :=
  if ops.size == n0 && !(allOrd ops == OS) then none else drawnG P nt ops
theorem drO_ok (hm : P.follows .mixedOrders = true) (n0 : Nat) (OS : List (List Nat)) : DrawOK P (drO P n0 OS) := by
  intro C id ops aops fl K Q σ a w S ρ κ hd
  refine drawn_ok hm C id ops aops fl K Q σ a w S ρ κ ?_
  unfold drO at hd
  split at hd
  · cases hd
  · exact hd
/-- A region whose order is drawn, order by order. -/
theorem At.rgs (hm : P.follows .mixedOrders = true) {n0 : Nat} {OS : List (List Nat)} {aops : List AOper} {out : List Nat} {f0 : Nat} {fl : List Nat} (hn : aops.length = n0) (hL : (OS.all fun L => L.all fun i => decide (i < n0)) = true)
    (h : ∀ L, L ∈ OS → RgL P nt (L.map fun i => aops.getD i default) Q a { w with drawn := w.drawn + 1 }) : At P nt (drO P n0 OS) (.region aops out (f0 :: fl)) Q a w := by
  intro c hc hzc
  cases c
  case region id ops draw =>
    simp only [cCode, ACode.bare] at hc
    split at hc
    · rename_i fl' hdraw
      cases ho : cOps P nt ops ops.toList with
      | none => rw [ho] at hc; cases hc
      | some l =>
        rw [ho] at hc
        simp only [Option.map_some, Option.some.injEq, ACode.region.injEq, true_and] at hc
        obtain ⟨hl, hfl⟩ := hc
        subst hl; subst hfl
        cases draw with
        | false => simp at hdraw
        | true =>
          have hd : drO P n0 OS nt ops = some (f0 :: fl) := by simpa using hdraw
          obtain ⟨g1, g2⟩ := cOps_spec ho
          have hlen : ops.size = aops.length := by simpa using g1
          have hOS : allOrd ops = OS := by
            unfold drO at hd
            split at hd
            · cases hd
            · rename_i hne
              simp only [hlen, hn, beq_self_eq_true, Bool.true_and, Bool.not_eq_true', Bool.not_eq_false] at hne
              simpa using hne
          refine wp_region_draw fun t => ?_
          rw [hm]
          have hmem := allOrd_mem ops t
          rw [hOS] at hmem
          have hlt : ∀ i, i ∈ Region.schedule true ops t → i < aops.length := fun i hi => by
            have := List.all_eq_true.1 (List.all_eq_true.1 hL _ hmem) i hi
            rw [hn]; simpa using this
          refine h _ hmem ops _ (by simp) fun j ao hj => ?_
          generalize Region.schedule true ops t = L at hlt hj
          simp only [List.getElem?_map, Option.map_eq_some_iff] at hj
          obtain ⟨i, hi, rfl⟩ := hj
          have hil : i < aops.length := hlt i (List.mem_of_getElem? hi)
          obtain ⟨o, q1, q2⟩ := g2 i (aops.getD i default) (by simp [hil])
          exact ⟨i, o, hi, by simpa using q1, q2⟩
    · cases hc
  all_goals (simp only [cCode, ACode.bare] at hc; first | (cases hc; done) | (split at hc <;> simp at hc) | (simp at hc))

end
variable {P : Program} {nt : Nat} {dr : Nat → Array Oper → Option (List Nat)} {Q : Exit → Act → World → Prop} {a : Act} {w : World}
variable {I : Envs} {C1 : Ctx} {σ τ : St} {S : Nat → Prop}
theorem Pt.drew (h : Pt I C1 σ a w S) : Pt I C1 σ a { w with drawn := w.drawn + 1 } S := by
  obtain ⟨hM, hr, C, ρ, κ, hw0, hS0, hmu, hl, hok⟩ := h
  exact Pt.of_ok hM hr hl (@OK.ext I C σ.f a w { w with drawn := w.drawn + 1 } S ρ κ hok (Ext.of_heap rfl rfl rfl))
theorem Past.drew : Past S w S { w with drawn := w.drawn + 1 } := ⟨fun _ h => h, fun _ _ => rfl, Nat.le_refl _⟩
/-- operations by the framework -/
theorem Pt.rg (hp : Pt I C1 σ a w S) (hnt : C1.nt = nt) {pre post : List AOper} (hτ : ∀ p, p ∈ τ.h → flatB p.2 ∧ p.2.fz = false) (hv : @vc I P (fun σ' => LeL σ' τ) pre σ)
    (h : ∀ a' w' S', Past S w S' w' → Pt I C1 τ a' w' S' → RgL P nt post Q a' w') : RgL P nt (pre ++ post) Q a w := by
  have hp' := hp
  obtain ⟨hM, hr, C, ρ, κ, hw0, hS0, hmu, hla, hok⟩ := hp
  have hCnt : C.nt = nt := hla.nt.trans hnt
  have hno : ∀ b, S b → b < w.heap.size ∧ ¬ C.Mut b := fun b hb => ⟨hp'.dom b hb, fun hm => by
    obtain ⟨n, hn, hx⟩ := hmu b hm
    obtain ⟨b', hb'⟩ := Option.isSome_iff_exists.1 hn
    exact @OK.noS I _ _ _ _ _ _ _ hok _ _ hb' (hr _ (hlook_mem2 hb')).2 _ hx hb⟩
  subst hCnt
  refine @RgL.fw I P Q C (fun σ' => LeL σ' τ) post (fun σ' a' w' S' ρ' κ' hle hok' => ?_) pre σ a w S ρ κ hv hok
  have hok2 := @OK.le I _ _ _ _ _ _ _ _ hok' hle
  exact h a' w' S' (Pt.later hw0 hS0 hno hok2) (Pt.of_ok hM hτ hla hok2)
/-- a call by hand -/
theorem Pt.rgcall (hp : Pt I C1 σ a w S) (hnt : C1.nt = nt) {f : FuncId} {ts : List Nat} {ys : List AV} {bor : List Nat} {d : Nat} {r : List AOper} (hb : HasBody P f) (hl : ts.length = ys.length) (hts : ∀ i, i < ts.length → look σ.s (ts.getD i 0) = ys.getD i .junk) (hcl : ∀ i, i < ts.length → isClo (ys.getD i .junk) = true)
    (h : ∀ vs : Array Value, vs.size = ys.length → (∀ j, j < ys.length → RC S w (ys.getD j .junk) (vs.getD j undef)) → Calls P f vs w fun e w' => ∃ u, e = .returned u ∧ RgL P nt r Q (a.put (some d) u) w') :
    RgL P nt (⟨some d, .call (.func f) (ts.map .tmp) bor, none⟩ :: r) Q a w := by
  have hval : ∀ i, i < ts.length → RC S w (ys.getD i .junk) (a.tmps.getD (ts.getD i 0) undef) := fun i hi => by
    have := hp.val (t := ts.getD i 0) (by rw [hts i hi]; exact hcl i hi)
    rw [hts i hi] at this
    exact this
  obtain ⟨hM, hr, C, ρ, κ, hw0, hS0, hmu, hla, hok⟩ := hp
  have hCnt : C.nt = nt := hla.nt.trans hnt
  refine RgL.op rfl fun op ops hcop => ?_
  refine @op_call I P C a w S ρ κ ops σ.f op _ f (ts.map .tmp) bor (by rw [hCnt]; exact hcop) rfl hok hb _ _ ?_
  refine h _ (by simp [hl]) fun j hj => ?_
  have hj' : j < ts.length := by omega
  have e2 : ((ts.map Operand.tmp).map a.eval).toArray.getD j undef = a.tmps.getD (ts.getD j 0) undef := by
    simp [hj', Act.eval]
  rw [e2]
  exact hval j hj'
end Go.Vs

namespace Go.Vs
set_option linter.unusedSectionVars false
set_option linter.unusedVariables false
variable {P : Program} {nt : Nat} {Q : Exit → Act → World → Prop} {a : Act} {w : World} {S : Nat → Prop}

/-- A function by hand: its first point. -/
theorem Pt.calls [I : Envs] {dr : Nat → Array Oper → Option (List Nat)} {f : FuncId} {fn : Func} {body : Code} {ac : ACode} (hf : P.funcs[f]? = some fn) (hb : fn.body = some body) (hc : cCode P fn.ntmps dr body = some ac.bare) (hz : zB fn.ntmps dr body = true) {args : List AV} (hna : args.length ≤ fn.ntmps)
    {vs : Array Value} (hS : ∀ b, S b → b < w.heap.size) (he : Env S w) (hvs : vs.size = args.length) (hargs : ∀ j, j < args.length → RC S w (args.getD j .junk) (vs.getD j undef)) {R : Ending → World → Prop}
    (h : ∀ (C1 : Ctx) (a : Act), C1.nt = fn.ntmps → C1.w0 = w → C1.S0 = S → Pt I C1 ⟨ini 0 args, []⟩ a w S →
      At P fn.ntmps dr ac (fun e a' w' => (e = .ret ∨ e = .normal) ∧ a'.defers = [] ∧ ∃ v, (results fn a'.tmps).run P w' = .ok v w' ∧ R (.returned v) w') a w) : Calls P f vs w R :=
  calls_at hf hb hc hz hna hS he hvs hargs (fun _ => False) fun a hok => h _ a rfl rfl rfl (Pt.of_ok (fun _ h => h) (fun p hp => by cases hp) (Later.refl _) hok)

theorem OK.exposeP [Envs] {C : Ctx} {ρ : Name → Option Nat} {κ : Name → Nat} {σ : FSt} (hok : OK C σ a w S ρ κ) {n : Name} {k len : Nat} {rows : List (List AV)} {z : Bool} (hb : σ.h n = some (.arr k rows z)) (hfl : ∀ r, r ∈ rows → flatL r = true) {v : Value} (hv : RV S w ρ κ σ.h (.loc n 0 len) v) :
    RC (fun b => ρ n = some b) w (.sl k (rows.take len)) v := by
  have hl := inv_loc hv k rows z hb
  obtain ⟨h0, base, cap, rfl, h1, h2, h3, _⟩ := hl
  have hlen : (rows.take len).length = len := by rw [List.length_take]; omega
  obtain ⟨hrk, hblk⟩ := hok.hok.blk n _ hb
  have e : ∀ i, i < len → (rows.take len).getD i [] = rows.getD i [] := fun i hi => by simp [hi]
  have key : RC (fun b => ρ n = some b) w (.sl k (rows.take len)) (.slice base (rows.take len).length cap) := by
    rcases hblk with ⟨hn, hnil⟩ | ⟨x, cs, T, fr, g1, g2, g3, _, _, g5, g6, g7⟩
    · subst hnil
      have : List.take len ([] : List (List AV)) = [] := by simp
      rw [this]
      refine .sl k [] base cap 0 0 (fun _ => undef) (by simp) (by simp) (by simp) (by simp) (by simp) ⟨by simp, h2⟩
    · refine .sl k _ base cap x 0 (fun i => cs.getD i undef) (fun hne => ?_) (fun i j hi hj => ?_) (fun i j hi hj => (g7 i j (by omega) hj).1) (fun i j hi hj => ?_) (fun i hi => ?_) ⟨by omega, h2⟩
      · have : 0 < len := by have := List.length_pos_iff.2 hne; omega
        obtain ⟨y, hy, hbase⟩ := h3 this
        rw [g1] at hy
        obtain rfl := Option.some.inj hy
        exact ⟨by rw [hbase]; simp, g1⟩
      · have hlt : i * k + j < cs.size := by
          have : i * k + k ≤ rows.length * k := by rw [← Nat.succ_mul]; exact Nat.mul_le_mul_right k (by omega)
          omega
        simp [World.cell?, g2, hlt]
      · rw [e i (by omega)]
        refine ((g7 i j (by omega) hj).2).flat ?_
        have hm : rows.getD i [] ∈ rows := by
          rw [List.getD_eq_getElem?_getD, List.getElem?_eq_getElem (by omega)]; exact List.getElem_mem _
        exact flatL_getD (hfl _ hm)
      · rw [e i (by omega)]; exact hrk i (by omega)
  rw [hlen] at key
  exact key

/-- An argument may be told otherwise, where the tables tell how it reads. -/
theorem Fn.knownR [Envs] {f : FuncId} {hin : List Blk} {ys ys' : List AV} {r : AV} {hout : List (Option Blk)} (h : Fn P f hin ys r hout) (hl : ys'.length = ys.length)
    (hk : ∀ j, j < ys.length → ys'.getD j .junk = ys.getD j .junk ∨ (isClo (ys'.getD j .junk) = true ∧ ∀ S w v, Env S w → RC S w (ys'.getD j .junk) v → RC S w (ys.getD j .junk) v)) : Fn P f hin ys' r hout :=
  ⟨h.1, fun S w ρ κ vs hok hfz hvs hr => h.2 S w ρ κ vs hok hfz (by rw [hvs, hl]) fun j hj => by
    have := hr j (by omega)
    rcases hk j hj with e | ⟨hc, hv⟩
    · rw [e] at this; exact this
    · exact .clo (hv S w _ hok.env (RV.closed this hc))⟩
/-- a result that is told otherwise -/
theorem Fn.resAs [Envs] {f : FuncId} {hin : List Blk} {ys : List AV} {r r' : AV} {hout : List (Option Blk)} (h : Fn P f hin ys r hout) (hc : isClo r = true) (hr : ∀ S w v, RC S w r v → RC S w r' v) : Fn P f hin ys r' hout :=
  ⟨h.1, fun S w ρ κ vs hok hfz hvs ha => (h.2 S w ρ κ vs hok hfz hvs ha).mono fun e w' he => by
    obtain ⟨v', S', ρ', κ', h1, h2, h3⟩ := he
    exact ⟨v', S', ρ', κ', h1, h2, .clo (hr S' w' v' (RV.closed h3 hc))⟩⟩
variable {I : Envs} {C1 : Ctx} {σ τ : St}
theorem NewDk.later {w1 w2 w3 : World} {ls : List (List (List AV))} {v : Value} {m : Mem} (hd : Dk w2 ls v m) (hn : ∀ b, m.D b → w1.heap.size ≤ b) {S S' : Nat → Prop} (hS : ∀ b, m.D b → S b) (hp : Past S w2 S' w3) : NewDk w1 w3 ls v :=
  ⟨m, hd.same hp.size fun b hb => hp.old b (hS b hb), hn⟩
/-- the last stretch by the framework -/
theorem Pt.fin {dr : Nat → Array Oper → Option (List Nat)} (hp : Pt I C1 σ a w S) (hdr : @DrawOK I P dr) (hnt : C1.nt = nt) {c : ACode} {E : AExit → St → Prop} (hv : ∀ C : Ctx, C.nt = nt → @wpc I P C dr c (fun _ => False) E σ) (hE : ∀ i σ, ¬ E (.exit i) σ)
    (hR : ∀ C a w, Later C1 C → @GoodL I C (E .ret) a w → Q .ret a w) : At P nt dr c Q a w := by
  obtain ⟨hM, hr, C, ρ, κ, hw0, hS0, hmu, hl, hok⟩ := hp
  have hCnt : C.nt = nt := hl.nt.trans hnt
  exact At.fw hdr hok hCnt (hv C hCnt) (fun a w hg => hg.no.elim) (fun i a w hg => by
    obtain ⟨σ', _, _, _, h, _⟩ := hg
    exact (hE i σ' h).elim) (fun a w hg => hR C a w hl hg)
theorem Past.grow {w' : World} {D : Nat → Prop} (hg : Grew w w') (hS : ∀ b, S b → b < w.heap.size) : Past S w (fun b => S b ∨ D b) w' := ⟨fun _ h => .inl h, fun b hb => hg.old b (hS b hb), hg.size⟩
/-- what was known long ago is known behind marks of other memory -/
theorem Past.mark {S1 K : Nat → Prop} {w1 w' : World} {D : Nat → Prop} (h : Past S1 w1 S w) (hdom : ∀ b, S b → b < w.heap.size) (hsz : w.heap.size ≤ w'.heap.size) (hw : ∀ b, b < w.heap.size → ¬ D b → w'.heap[b]? = w.heap[b]?) (hD : ∀ b, D b → ¬ S1 b) (hK : ∀ b, S1 b → K b) : Past S1 w1 K w' :=
  ⟨hK, fun b hb => (hw b (hdom b (h.sub b hb)) fun hd => hD b hd hb).trans (h.old b hb), Nat.le_trans h.size hsz⟩
theorem Dk.past {ls : List (List (List AV))} {v : Value} {m : Mem} {S' : Nat → Prop} {w' : World} (hd : Dk w ls v m) (hS : ∀ b, m.D b → S b) (hp : Past S w S' w') : Dk w' ls v m := hd.same hp.size fun b hb => hp.old b (hS b hb)
theorem us2 {us : Array Value} (h : us.size = 2) {v c : Value} (h0 : us.getD 0 undef = v) (h1 : us.getD 1 undef = c) : us = #[v, c] := by
  obtain ⟨l⟩ := us
  match l, h with
  | [x, y], _ =>
    have e1 : x = v := by simpa using h0
    have e2 : y = c := by simpa using h1
    rw [e1, e2]
theorem us1 {us : Array Value} (h : us.size = 1) {v : Value} (h0 : us.getD 0 undef = v) : us = #[v] := by
  obtain ⟨l⟩ := us
  match l, h with
  | [x], _ =>
    have e1 : x = v := by simpa using h0
    rw [e1]
theorem rc_v {v u : Value} (h : RC S w (.v v) u) : u = v := by cases h; rfl
/-- a call whose answer is closed -/
theorem Fn.calls0 [Envs] {f : FuncId} {ys : List AV} {r : AV} (h : Fn P f [] ys r []) (hc : isClo r = true) {vs : Array Value} (hS : ∀ b, S b → b < w.heap.size) (he : Env S w) (hvs : vs.size = ys.length) (hargs : ∀ j, j < ys.length → RC S w (ys.getD j .junk) (vs.getD j undef)) :
    Calls P f vs w fun e w' => ∃ v S', e = .returned v ∧ Grew w w' ∧ RC S' w' r v := by
  have hnone : ∀ n, Hn (([] : List Blk).map some) n = none := by
    intro n
    cases n <;> simp [Hn]
  have hok1 : HOK S w (fun _ => none) (fun _ => 0) (Hn (([] : List Blk).map some)) :=
    ⟨fun n b hb => (by rw [hnone] at hb; cases hb), fun n m y hn _ _ _ => (by rw [hnone] at hn; cases hn), hS, he⟩
  refine (h.2 S w _ _ vs hok1 (by simp) hvs fun j hj => .clo (hargs j hj)).mono ?_
  rintro e w' ⟨u, S', ρ', κ', rfl, hp, hu⟩
  exact ⟨u, S', rfl, ⟨hp.size, fun b hb => hp.old b hb mutOf_nil, hp.out⟩, RV.closed hu hc⟩
end Go.Vs

namespace Go.Vs
set_option linter.unusedSectionVars false
set_option linter.unusedVariables false

theorem At.closing {P : Program} {nt : Nat} {dr : Nat → Array Oper → Option (List Nat)} {n : Nat} {x : ACode} {Q : Exit → Act → World → Prop} {a : Act} {w : World} (h : At P nt dr x Q a w) : At P nt dr (.closing n x) Q a w := h

section
variable [Envs]
variable {P : Program} {nt : Nat} {Q : Exit → Act → World → Prop}
theorem wpOps_first {ops : Array Oper} {i : Nat} {oi : Oper} {v : Value} (hi : ops[i]? = some oi) (hsi : ∀ cs b, oi.op ≠ .select cs b) (hQ : ∀ c a w, ¬ Q (.panic c) a w) :
    ∀ (L1 L2 : List Nat) (a : Act) (w : World), (∀ j, j ∈ L1 → ∃ oj, ops[j]? = some oj ∧ oi.apart ops oj = true ∧ ∀ cs b, oj.op ≠ .select cs b) → Yields P ops oi v a → wpOps P ops Q (L1 ++ L2) (a.put oi.dst v) w → wpOps P ops Q (L1 ++ i :: L2) a w
  | [], L2, a, w, _, hy, h => by
    show wpOps P ops Q (i :: L2) a w
    rw [wpOps_cons]
    exact hy.wpOp hi h
  | j :: L1, L2, a, w, hL, hy, h => by
    obtain ⟨oj, hj, hap, hsj⟩ := hL j List.mem_cons_self
    show wpOps P ops Q (j :: (L1 ++ i :: L2)) a w
    rw [wpOps_cons]
    have h' : wpOps P ops Q (j :: (L1 ++ L2)) (a.put oi.dst v) w := h
    rw [wpOps_cons] at h'
    refine wpOp_mono (fun a' w' hk => ?_) (wpOp_put hj hap hsi hsj (fun c a w hq => (hQ c _ _ hq).elim) hy h')
    exact wpOps_first hi hsi hQ L1 L2 a' w' (fun j hj => hL j (List.mem_cons_of_mem _ hj)) hk.1 hk.2

def noSel (o : Oper) : Bool := match o.op with
  | .select _ _ => false
  | _ => true
theorem noSel_spec {o : Oper} (h : noSel o = true) : ∀ cs b, o.op ≠ .select cs b := by
  intro cs b e
  simp [noSel, e] at h
/-- operation i copies slot s to slot d, and is apart from all that may come before it -/
def frontB (ops : Array Oper) (OS : List (List Nat)) (i d s : Nat) : Bool := match ops[i]? with
  | some oi => oi.dst == some d && oi.guard.isNone && (match oi.op with | .move (.tmp t) => t == s | _ => false) && OS.all fun L => L.contains i && (L.takeWhile (fun j => j != i)).all fun j => match ops[j]? with
    | some oj => oi.apart ops oj && noSel oj
    | none => false
  | none => false
theorem frontB_spec {ops : Array Oper} {OS : List (List Nat)} {i d s : Nat} (h : frontB ops OS i d s = true) : ∃ oi, ops[i]? = some oi ∧ oi.dst = some d ∧ oi.guard = none ∧ oi.op = .move (.tmp s) ∧ ∀ L, L ∈ OS → i ∈ L ∧ ∀ j, j ∈ L.takeWhile (fun j => j != i) → ∃ oj, ops[j]? = some oj ∧ oi.apart ops oj = true ∧ ∀ cs b, oj.op ≠ .select cs b := by
  unfold frontB at h
  split at h
  · rename_i oi hoi
    simp only [Bool.and_eq_true, List.all_eq_true] at h
    obtain ⟨⟨⟨h1, h2⟩, h3⟩, h4⟩ := h
    refine ⟨oi, hoi, by simpa using h1, by simpa using h2, ?_, fun L hL => ?_⟩
    · split at h3
      · rename_i t ht
        rw [ht]
        have : t = s := by simpa using h3
        rw [this]
      · cases h3
    · obtain ⟨g1, g2⟩ := h4 L hL
      refine ⟨by simpa using g1, fun j hj => ?_⟩
      have := g2 j hj
      split at this
      · rename_i oj hoj
        simp only [Bool.and_eq_true] at this
        exact ⟨oj, hoj, this.1, noSel_spec this.2⟩
      · cases this
  · cases h
theorem takeWhile_split {i : Nat} : ∀ {L : List Nat}, i ∈ L → ∃ L2, L = L.takeWhile (fun j => j != i) ++ i :: L2
  | x :: L, h => by
    by_cases e : x = i
    · subst e; exact ⟨L, by simp⟩
    · have : i ∈ L := by simpa [Ne.symm e] using h
      obtain ⟨L2, h2⟩ := takeWhile_split this
      refine ⟨L2, ?_⟩
      have hx : (x != i) = true := by simpa using e
      rw [List.takeWhile_cons, if_pos hx, List.cons_append, ← h2]
theorem wpOps_mv {ops : Array Oper} {OS : List (List Nat)} {i d s : Nat} (h : frontB ops OS i d s = true) (hQ : ∀ c a w, ¬ Q (.panic c) a w) {L : List Nat} {a : Act} {w : World} (hi : i ∈ L) (hb : ∀ j, j ∈ L.takeWhile (fun j => j != i) → ∃ L0, L0 ∈ OS ∧ j ∈ L0.takeWhile (fun j => j != i))
    (hr : ∀ L1 L2, L = L1 ++ i :: L2 → L1 = L.takeWhile (fun j => j != i) → wpOps P ops Q (L1 ++ L2) (a.put (some d) (a.tmps.getD s undef)) w) : wpOps P ops Q L a w := by
  obtain ⟨oi, h1, h2, h3, h4, h5⟩ := frontB_spec h
  obtain ⟨L2, e⟩ := takeWhile_split hi
  rw [e]
  refine wpOps_first h1 (by rw [h4]; intro cs b e; cases e) hQ _ _ a w (fun j hj => ?_) (v := a.tmps.getD s undef) (.inl ⟨?_, fun w => ?_⟩) ?_
  · obtain ⟨L0, g1, g2⟩ := hb j hj
    exact (h5 L0 g1).2 j g2
  · simp [Region.wanted, h3]
  · simp [execOp, h4, Act.eval]
  · rw [h2]
    exact hr _ L2 e rfl
end
/-- the framework's check; regions of so many operations go by these orders, and two of their operations may be taken first -/
def drF (P : Program) (I : Envs) (n0 : Nat) (OS : List (List Nat)) (x y : Nat × Nat × Nat) (nt : Nat) (ops : Array Oper) : Option (List Nat) :=
  if ops.size == n0 && !(allOrd ops == OS && frontB ops OS x.1 x.2.1 x.2.2 && frontB ops OS y.1 y.2.1 y.2.2) then none else drawnG P nt ops
section
variable [I : Envs]
variable {P : Program} {nt : Nat} {Q : Exit → Act → World → Prop} {a : Act} {w : World}
theorem mem_takeWhile_filter {i k : Nat} (hne : k ≠ i) : ∀ {L1 L2 : List Nat} {j : Nat}, j ∈ (L1 ++ L2).takeWhile (fun j => j != i) → i ∉ L1 → j ∈ (L1 ++ k :: L2).takeWhile (fun j => j != i)
  | [], L2, j, h, _ => by
    have hk : (k != i) = true := by simpa using hne
    rw [List.nil_append, List.takeWhile_cons, if_pos hk]
    exact List.mem_cons_of_mem _ h
  | x :: L1, L2, j, h, hi => by
    have hx : (x != i) = true := by
      have : i ≠ x := fun e => hi (e ▸ List.mem_cons_self)
      simpa using Ne.symm this
    rw [List.cons_append, List.takeWhile_cons, if_pos hx] at h ⊢
    rcases List.mem_cons.1 h with rfl | h
    · exact List.mem_cons_self
    · exact List.mem_cons_of_mem _ (mem_takeWhile_filter hne h fun e => hi (List.mem_cons_of_mem _ e))
/-- A region whose order is drawn, order by order, two copies first. -/
theorem At.rgsF (hm : P.follows .mixedOrders = true) {I0 : Envs} {n0 : Nat} {OS : List (List Nat)} {i1 d1 s1 i2 d2 s2 : Nat} {aops : List AOper} {out : List Nat} {f0 : Nat} {fl : List Nat} (hn : aops.length = n0) (hL : (OS.all fun L => L.all fun i => decide (i < n0)) = true) (hii : i1 ≠ i2) (hi0 : ∀ L, L ∈ OS → i1 ∈ L ∧ i2 ∈ L ∧ L.Nodup)
    (hQ : ∀ c a w, ¬ Q (.panic c) a w)
    (h : ∀ L L', L ∈ OS → L' = L.filter (fun i => i != i1 && i != i2) → RgL P nt (L'.map fun i => aops.getD i default) Q ((a.put (some d1) (a.tmps.getD s1 undef)).put (some d2) ((a.put (some d1) (a.tmps.getD s1 undef)).tmps.getD s2 undef)) { w with drawn := w.drawn + 1 }) :
    At P nt (drF P I0 n0 OS (i1, d1, s1) (i2, d2, s2)) (.region aops out (f0 :: fl)) Q a w := by
  intro c hc hzc
  cases c
  case region id ops draw =>
    simp only [cCode, ACode.bare] at hc
    split at hc
    · rename_i fl' hdraw
      cases ho : cOps P nt ops ops.toList with
      | none => rw [ho] at hc; cases hc
      | some l =>
        rw [ho] at hc
        simp only [Option.map_some, Option.some.injEq, ACode.region.injEq, true_and] at hc
        obtain ⟨hl, hfl⟩ := hc
        subst hl; subst hfl
        cases draw with
        | false => simp at hdraw
        | true =>
          have hd : drF P I0 n0 OS (i1, d1, s1) (i2, d2, s2) nt ops = some (f0 :: fl) := by simpa using hdraw
          obtain ⟨g1, g2⟩ := cOps_spec ho
          have hlen : ops.size = aops.length := by simpa using g1
          have hall : allOrd ops = OS ∧ frontB ops OS i1 d1 s1 = true ∧ frontB ops OS i2 d2 s2 = true := by
            unfold drF at hd
            split at hd
            · cases hd
            · rename_i hne
              simp only [hlen, hn, beq_self_eq_true, Bool.true_and, Bool.not_eq_true', Bool.not_eq_false, Bool.and_eq_true] at hne
              exact ⟨by simpa using hne.1.1, hne.1.2, hne.2⟩
          obtain ⟨hOS, hf1, hf2⟩ := hall
          refine wp_region_draw fun t => ?_
          rw [hm]
          have hmem := allOrd_mem ops t
          rw [hOS] at hmem
          have hlt : ∀ i, i ∈ Region.schedule true ops t → i < aops.length := fun i hi => by
            have := List.all_eq_true.1 (List.all_eq_true.1 hL _ hmem) i hi
            rw [hn]; simpa using this
          generalize Region.schedule true ops t = L at hmem hlt
          obtain ⟨hm1, hm2, hnd⟩ := hi0 L hmem
          refine wpOps_mv hf1 hQ hm1 (fun j hj => ⟨L, hmem, hj⟩) fun L1 L2 e eL1 => ?_
          have hn1 : i1 ∉ L1 := fun hh => by
            rw [e] at hnd
            exact (List.nodup_append.1 hnd).2.2 i1 hh i1 List.mem_cons_self rfl
          have hm2' : i2 ∈ L1 ++ L2 := by
            rw [e] at hm2
            simp only [List.mem_append, List.mem_cons] at hm2 ⊢
            rcases hm2 with h | h | h
            · exact .inl h
            · exact (hii h.symm).elim
            · exact .inr h
          have hnd' : (L1 ++ L2).Nodup ∧ i1 ∉ L2 := by
            rw [e] at hnd
            have h1 := List.nodup_append.1 hnd
            have h2 := List.nodup_cons.1 h1.2.1
            exact ⟨List.nodup_append.2 ⟨h1.1, h2.2, fun a ha b hb => h1.2.2 a ha b (List.mem_cons_of_mem _ hb)⟩, h2.1⟩
          refine wpOps_mv hf2 hQ hm2' (fun j hj => ?_) fun M1 M2 e2 eM1 => ?_
          · by_cases hin : i2 ∈ L1
            · refine ⟨L, hmem, ?_⟩
              rw [e]
              have key : ∀ (A B B' : List Nat), i2 ∈ A → (A ++ B).takeWhile (fun j => j != i2) = (A ++ B').takeWhile (fun j => j != i2) := by
                intro A B B'
                induction A with
                | nil => intro h; cases h
                | cons x A ih =>
                  intro h
                  simp only [List.cons_append, List.takeWhile_cons]
                  split
                  · rename_i hx
                    have : i2 ∈ A := by
                      rcases List.mem_cons.1 h with rfl | h
                      · simp at hx
                      · exact h
                    rw [ih this]
                  · rfl
              rw [key L1 (i1 :: L2) L2 hin]
              exact hj
            · refine ⟨L, hmem, ?_⟩
              rw [e]
              exact mem_takeWhile_filter hii hj hin
          have hM : M1 ++ M2 = L.filter (fun i => i != i1 && i != i2) := by
            have hf : ∀ A : List Nat, i1 ∉ A → A.filter (fun i => i != i1 && i != i2) = A.filter (fun i => i != i2) := fun A hA => List.filter_congr fun x hx => by
              have : x ≠ i1 := fun e => hA (e ▸ hx)
              simp [this]
            rw [e, List.filter_append, List.filter_cons]
            simp only [bne_self_eq_false, Bool.false_and, Bool.false_eq_true, if_false]
            rw [← List.filter_append, hf _ (by simp [hn1, hnd'.2]), e2, List.filter_append, List.filter_cons]
            simp only [bne_self_eq_false, Bool.false_eq_true, if_false]
            have hnd2 := hnd'.1
            rw [e2] at hnd2
            have h1 := List.nodup_append.1 hnd2
            have h2 := List.nodup_cons.1 h1.2.1
            have hk : ∀ A : List Nat, i2 ∉ A → A.filter (fun i => i != i2) = A := fun A hA => List.filter_eq_self.2 fun x hx => by
              have : x ≠ i2 := fun e => hA (e ▸ hx)
              simp [this]
            rw [hk M1 fun hh => h1.2.2 i2 hh i2 List.mem_cons_self rfl, hk M2 h2.1]
          rw [hM]
          refine h L _ hmem rfl ops _ (by simp) fun j ao hj => ?_
          simp only [List.getElem?_map, Option.map_eq_some_iff] at hj
          obtain ⟨i, hi, rfl⟩ := hj
          have hil : i < aops.length := hlt i (List.mem_filter.1 (List.mem_of_getElem? hi)).1
          obtain ⟨o, q1, q2⟩ := g2 i (aops.getD i default) (by simp [hil])
          exact ⟨i, o, hi, by simpa using q1, q2⟩
    · cases hc
  all_goals (simp only [cCode, ACode.bare] at hc; first | (cases hc; done) | (split at hc <;> simp at hc) | (simp at hc))
end
variable {P : Program} {I : Envs} {C1 : Ctx} {σ τ : St} {S : Nat → Prop} {a : Act} {w : World}
theorem Pt.mv (h : Pt I C1 σ a w S) {d s : Nat} (hd : d < C1.nt) : Pt I C1 ⟨(d, look σ.s s) :: σ.s, σ.h⟩ (a.put (some d) (a.tmps.getD s undef)) w S := by
  obtain ⟨hM, hr, C, ρ, κ, hw0, hS0, hmu, hl, hok⟩ := h
  refine ⟨hM, hr, C, ρ, κ, hw0, hS0, hmu, hl, ?_⟩
  have := @OK.put I C σ.f a w S ρ κ hok (look σ.s s) (a.tmps.getD s undef) (@OK.slots I _ _ _ _ _ _ _ hok s) (some d) (fun d' hd' => by
    obtain rfl := Option.some.inj hd'
    rw [hl.nt]; exact hd)
  have e : (⟨(d, look σ.s s) :: σ.s, σ.h⟩ : St).f = ⟨upd σ.f.s (some d) (look σ.s s), σ.f.h⟩ := by
    simp [St.f, look, upd, eq_comm]
  rw [e]
  exact this
/-- A row that a slot holds is hidden: it lies in a block of its own. -/
theorem Pt.buryS (h : Pt I C1 σ a w S) {n : Name} {k : Nat} {rows : List (List AV)} (hb : hlook σ.h n = some (.arr k rows false)) (hfl : ∀ r, r ∈ rows → flatL r = true) {t : Nat} (ht : look σ.s t = .loc n 0 rows.length) (hkh : ∀ p, p ∈ (killL n σ).h → flatB p.2 ∧ p.2.fz = false) :
    ∃ s x c, (∃ b m c', s = Value.slice b m c') ∧ Own (fun _ => False) w x c k rows s ∧ (∀ b, x = some b → C1.w0.heap.size ≤ b ∧ b < w.heap.size ∧ ¬ S b) ∧
      ∀ s' : List (Nat × AV), (∀ p, p ∈ s' → (p.2 = look (killL n σ).s p.1 ∧ flat p.2 = true) ∨ (p.2 = look σ.s p.1 ∧ isClo p.2 = true) ∨ p = (t, .v s)) →
        Pt (keepE (fun b => S b ∨ x = some b) w) C1 ⟨s', (killL n σ).h⟩ a w (fun b => S b ∨ x = some b) := by
  have hbase := h.base
  have hdom := h.dom
  have hsub := h.sub
  have hval : ∀ {t : Nat}, isClo (look σ.s t) = true → RC S w (look σ.s t) (a.tmps.getD t undef) := fun hc => h.val hc
  obtain ⟨hM, hr, C, ρ, κ, hw0, hS0, hmu, hl, hok⟩ := h
  have hr0 := @OK.slots I _ _ _ _ _ _ _ hok t
  rw [show σ.f.s t = _ from ht] at hr0
  have hown := @OK.own I C a w S ρ κ σ.f hok n k rows hb hfl _ hr0
  have hnS : ∀ b, ρ n = some b → ¬ S b := fun b hb' => hown.no hb'
  have hlt : ∀ b, ρ n = some b → b < w.heap.size := fun b hb' => hok.hok.lt (n := n) (by rw [show σ.f.h n = _ from hb]; rfl) hb'
  have hge : ∀ b, ρ n = some b → C1.w0.heap.size ≤ b := fun b hb' => by
    rcases (@OK.back I _ _ _ _ _ _ _ hl _ hok).mine n b (by rw [show σ.f.h n = _ from hb]; rfl) hb' with h | h
    · exact h
    · exact (hM b h).elim
  obtain ⟨b0, c0, hsl⟩ : ∃ b0 c0, a.tmps.getD t undef = .slice b0 rows.length c0 := by
    obtain ⟨_, b1, c1, e, _⟩ := hown.loc k rows false rfl
    exact ⟨b1, c1, e⟩
  refine ⟨a.tmps.getD t undef, ρ n, κ n, ⟨_, _, _, hsl⟩, hown.mono (fun _ _ h => h) (fun _ _ => rfl), fun b hb' => ⟨hge b hb', hlt b hb', hnS b hb'⟩, fun s' hs' => ?_⟩
  have hkok : @OK I C (killL n σ).f a w S ρ κ := by rw [killL_f]; exact hok.kill n
  have hkn : ∀ m, ((killL n σ).f.h m).isSome → m ≠ n ∧ (σ.f.h m).isSome := fun m hm => by
    rw [killL_f] at hm
    simp only [killF] at hm
    split at hm
    · cases hm
    · rename_i hne
      refine ⟨hne, ?_⟩
      cases hx : σ.f.h m with
      | none => rw [hx] at hm; cases hm
      | some b => rfl
  obtain ⟨h1, h2⟩ := OK.jump I (keepE (fun b => S b ∨ ρ n = some b) w) hl hM hkok (fun _ => False) (Nat.le_refl _) (fun _ _ _ => rfl) (fun _ h => h.elim) ⟨rfl, rfl⟩ (S' := fun b => S b ∨ ρ n = some b) (fun b hb' => hb'.elim (hdom b) (hlt b)) (fun b hb' => .inl (hsub b hb'))
    (fun b hb' => hb'.elim (hbase b) fun h => .inr (hge b h)) (fun b hb' m hm hx => by
      obtain ⟨g1, g2⟩ := hkn m hm
      rcases hb' with h | h
      · obtain ⟨b', hb''⟩ := Option.isSome_iff_exists.1 g2
        exact @OK.noS I _ _ _ _ _ _ _ hok _ _ hb'' (hr _ (hlook_mem2 hb'')).2 _ hx h
      · exact g1 (hok.hok.inj m n b g2 (by rw [show σ.f.h n = _ from hb]; rfl) hx h)) keepE_env hkh s' (fun p hp => by
      rcases hs' p hp with h | ⟨e, hc⟩ | rfl
      · exact .inl h
      · right
        rw [e] at hc ⊢
        exact RC.mono (fun b hb => .inl hb) (fun _ _ => rfl) (hval hc)
      · right
        exact .v _)
  exact ⟨hM, hkh, _, ρ, κ, rfl, rfl, fun _ h => h, h2, h1⟩
end Go.Vs
