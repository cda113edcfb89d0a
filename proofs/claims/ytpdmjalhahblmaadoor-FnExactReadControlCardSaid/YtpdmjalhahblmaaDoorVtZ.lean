/- A row that is written while its walk does not know it. -/
import Derived.Test.YtpdmjalhahblmaaDoorVtV
namespace Go.Vs
set_option linter.unusedSectionVars false
variable [Envs]
set_option linter.unusedVariables false
variable {P : Program} {C : Ctx} {a : Act} {w : World} {S : Nat → Prop} {ρ : Name → Option Nat} {κ : Name → Nat} {nt : Nat} {dr : Nat → Array Oper → Option (List Nat)} {Q : Exit → Act → World → Prop}

/-- no region whose order is drawn goes by an empty list -/
def zB (nt : Nat) (dr : Nat → Array Oper → Option (List Nat)) : Code → Bool
  | .region _ ops draw => !draw || (match dr nt ops with | some [] => false | _ => true)
  | .seq x y => zB nt dr x && zB nt dr y
  | .cond _ x y => zB nt dr x && zB nt dr y
  | .block _ x => zB nt dr x
  | .loop x => zB nt dr x
  | _ => true

/-- A code that resolves to this one does so. -/
def At (P : Program) (nt : Nat) (dr : Nat → Array Oper → Option (List Nat)) (ac : ACode) (Q : Exit → Act → World → Prop) (a : Act) (w : World) : Prop :=
  ∀ c : Code, cCode P nt dr c = some ac.bare → zB nt dr c = true → c.wp P Q a w

theorem At.mono {ac : ACode} {Q' : Exit → Act → World → Prop} (h : At P nt dr ac Q a w) (hq : ∀ e a w, Q e a w → Q' e a w) : At P nt dr ac Q' a w :=
  fun c hc hz => Code.wp_mono hq (h c hc hz)

theorem At.seq {x y : ACode} (h : At P nt dr x (Exit.then (At P nt dr y Q) Q) a w) : At P nt dr (.seq x y) Q a w := by
  intro c hc hzc
  cases c
  case seq cx cy =>
    simp only [cCode, ACode.bare] at hc
    split at hc
    · rename_i x' y' h1 h2
      simp only [Option.some.injEq, ACode.seq.injEq] at hc
      obtain ⟨rfl, rfl⟩ := hc
      simp only [zB, Bool.and_eq_true] at hzc
      refine wp_seq (Code.wp_mono (fun e a w hq => ?_) (h cx h1 hzc.1))
      cases e <;> first | exact hq cy h2 hzc.2 | exact hq
    · cases hc
  all_goals (simp only [cCode, ACode.bare] at hc; first | (cases hc; done) | (split at hc <;> simp at hc) | (simp at hc))

theorem At.block {x : ACode} {id : Nat} (h : At P nt dr x (Exit.inBlock id Q) a w) : At P nt dr (.block id x) Q a w := by
  intro c hc hzc
  cases c
  case block cid cx =>
    simp only [cCode, ACode.bare] at hc
    cases h1 : cCode P nt dr cx with
    | none => rw [h1] at hc; cases hc
    | some x' =>
      rw [h1] at hc
      simp only [Option.map_some, Option.some.injEq, ACode.block.injEq] at hc
      obtain ⟨rfl, rfl⟩ := hc
      exact wp_block (h cx h1 (by simpa [zB] using hzc))
  all_goals (simp only [cCode, ACode.bare] at hc; first | (cases hc; done) | (split at hc <;> simp at hc) | (simp at hc))

theorem At.exit {id : Nat} (h : Q (.exit id) a w) : At P nt dr (.exit id) Q a w := by
  intro c hc hzc
  cases c
  case exit cid =>
    simp only [cCode, ACode.bare, Option.some.injEq, ACode.exit.injEq] at hc
    subst hc
    exact wp_exit h
  all_goals (simp only [cCode, ACode.bare] at hc; first | (cases hc; done) | (split at hc <;> simp at hc) | (simp at hc))

theorem At.skip (h : Q .normal a w) : At P nt dr .skip Q a w := by
  intro c hc hzc
  cases c <;> simp [cCode, ACode.bare] at hc
  case skip => exact wp_skip h
  all_goals (first | (split at hc <;> simp at hc) | skip)

theorem At.ret (h : Q .ret a w) : At P nt dr .ret Q a w := by
  intro c hc hzc
  cases c
  case ret => exact wp_ret h
  all_goals (simp only [cCode, ACode.bare] at hc; first | (cases hc; done) | (split at hc <;> simp at hc) | (simp at hc))

theorem At.cond {x y : ACode} {co : Operand} {t : Bool} (hb : a.eval co = .bool t) (ht : t = true → At P nt dr x Q a w) (hf : t = false → At P nt dr y Q a w) : At P nt dr (.cond co x y) Q a w := by
  intro c hc hzc
  cases c
  case cond co' cx cy =>
    simp only [cCode, ACode.bare] at hc
    split at hc
    · rename_i x' y' h1 h2
      simp only [Option.some.injEq, ACode.cond.injEq] at hc
      obtain ⟨rfl, rfl, rfl⟩ := hc
      simp only [zB, Bool.and_eq_true] at hzc
      exact wp_cond_split hb (fun h => ht h cx h1 hzc.1) fun h => hf h cy h2 hzc.2
    · cases hc
  all_goals (simp only [cCode, ACode.bare] at hc; first | (cases hc; done) | (split at hc <;> simp at hc) | (simp at hc))

theorem At.loop {x : ACode} (I : Nat → Act → World → Prop) (hr : ∀ n a w, I n a w → At P nt dr x (Exit.then (fun a w => ∃ m, m < n ∧ I m a w) Q) a w) {n : Nat} (h0 : I n a w) : At P nt dr (.loop x) Q a w := by
  intro c hc hzc
  cases c
  case loop cx =>
    simp only [cCode, ACode.bare] at hc
    cases h1 : cCode P nt dr cx with
    | none => rw [h1] at hc; cases hc
    | some x' =>
      rw [h1] at hc
      simp only [Option.map_some, Option.some.injEq, ACode.loop.injEq] at hc
      subst hc
      classical
      let m : Act → World → Nat := fun a w => if h : ∃ n, I n a w then (least _ h).choose else 0
      refine wp_loop (fun a w => ∃ n, I n a w) m ⟨n, h0⟩ ?_
      rintro a w hex
      have hI := (least _ hex).choose_spec.1
      have hm : m a w = (least _ hex).choose := by simp only [m, dif_pos hex]
      refine Code.wp_mono (fun e a' w' hq => ?_) (hr _ a w hI cx h1 (by simpa [zB] using hzc))
      cases e
      case normal =>
        obtain ⟨k, hk, hIk⟩ := hq
        have hex' : ∃ n, I n a' w' := ⟨k, hIk⟩
        refine ⟨hex', ?_⟩
        have : m a' w' ≤ k := by
          simp only [m, dif_pos hex']
          exact (least _ hex').choose_spec.2 _ hIk
        rw [hm]; omega
      all_goals exact hq
  all_goals (simp only [cCode, ACode.bare] at hc; first | (cases hc; done) | (split at hc <;> simp at hc) | (simp at hc))

/-- A piece that the framework walks. -/
theorem At.fw {ac : ACode} {N : St → Prop} {E : AExit → St → Prop} {σ : St} (hdr : DrawOK P dr) (hok : OK C σ.f a w S ρ κ) (hnt : C.nt = nt) (hv : wpc P C dr ac N E σ)
    (hN : ∀ a w, GoodL C N a w → Q .normal a w) (hE : ∀ i a w, GoodL C (E (.exit i)) a w → Q (.exit i) a w) (hR : ∀ a w, GoodL C (E .ret) a w → Q .ret a w) : At P nt dr ac Q a w :=
  fun c hc _ => wpc_sound hdr ac N E σ hv c Q a w S ρ κ (by rw [hnt]; exact hc) hN hE hR hok

/-- what is left of a region is the framework's again, in a context of its own -/
def RestOK (P : Program) (nt : Nat) (post : List AOper) (Q : Exit → Act → World → Prop) (a : Act) (w : World) : Prop :=
  ∃ (C : Ctx) (σ : St) (S : Nat → Prop) (ρ : Name → Option Nat) (κ : Name → Nat) (K : St → Prop), C.nt = nt ∧ OK C σ.f a w S ρ κ ∧ vc P K post σ ∧ ∀ a w, GoodL C K a w → Q .normal a w

/-- A region in its order, of which one operation is taken by hand. -/
theorem At.region {pre post : List AOper} {o : AOper} {out : List Nat} {σ : St} (hok : OK C σ.f a w S ρ κ) (hnt : C.nt = nt) (hg : o.guard = none)
    (hv : vc P (fun σ1 => ∀ (a : Act) (w : World) (S : Nat → Prop) (ρ : Name → Option Nat) (κ : Name → Nat) (op : Oper) (ops : Array Oper), OK C σ1.f a w S ρ κ → cOper P nt ops op = some o.bare → op.wp P a w (RestOK P nt post Q) Q) pre σ) :
    At P nt dr (.region (pre ++ o :: post) out []) Q a w := by
  intro c hc hzc
  cases c
  case region id ops draw =>
    simp only [cCode, ACode.bare] at hc
    split at hc
    · rename_i fl' hdraw
      cases ho : cOps P nt ops ops.toList with
      | none => rw [ho] at hc; cases hc
      | some l =>
        rw [ho] at hc
        simp only [Option.map_some, Option.some.injEq, ACode.region.injEq, true_and] at hc
        obtain ⟨hl, hfl⟩ := hc
        subst hl; subst hfl
        cases draw with
        | true =>
          have hd : dr nt ops = some [] := by simpa using hdraw
          simp [zB, hd] at hzc
        | false =>
          obtain ⟨g1, g2⟩ := cOps_spec ho
          have hs : ∀ (j : Nat) (ao : AOper), (pre ++ o :: post)[j]? = some ao → ∃ op, ops[j]? = some op ∧ cOper P nt ops op = some ao.bare := fun j ao hj => by
            obtain ⟨op, q1, q2⟩ := g2 j ao hj
            exact ⟨op, by simpa using q1, q2⟩
          refine wp_region ?_
          have hlen : ops.size = pre.length + (post.length + 1) := by
            have : ops.size = (pre ++ o :: post).length := by simpa using g1
            rw [this]; simp
          rw [List.range_eq_range', hlen]
          refine region_pre (C := C) (K := _) (e := pre.length) (fun σ1 a w S ρ κ hK hok1 => ?_) pre 0 (by omega) (fun j ao hj => ?_) σ a w S ρ κ hv hok
          · obtain ⟨op, h1, h2⟩ := hs pre.length o (by simp)
            obtain ⟨_, _, _, h4⟩ := cOper_spec h2
            have hg2 : op.guard = none := by
              rcases h4 with ⟨h, _⟩ | ⟨j, want, t, _, h, _⟩
              · exact h
              · rw [hg] at h; cases h
            rw [List.range'_succ, wpOps_cons]
            unfold wpOp
            rw [h1]
            have : Region.wanted op (yielded ops a.tmps) = true := by simp [Region.wanted, hg2]
            simp only [this, if_true]
            refine .inl (Oper.wp_mono (fun a' w' hr => ?_) (hK a w S ρ κ op ops hok1 h2))
            obtain ⟨C', σ', S', ρ', κ', K', e1, e2, e3, e4⟩ := hr
            subst e1
            have := region_pre (C := C') (P := P) (ops := ops) (Q := Q) (K := K') (e := pre.length + 1 + post.length) (m := 0) (fun σ2 a2 w2 S2 ρ2 κ2 hk hok2 => by
              simp only [List.range'_zero]
              exact e4 a2 w2 ⟨σ2, S2, ρ2, κ2, hk, hok2⟩) post (pre.length + 1) rfl (fun j ao hj => by
              obtain ⟨op', q1, q2⟩ := hs (pre.length + 1 + j) ao (by
                rw [List.getElem?_append_right (by omega), show pre.length + 1 + j - pre.length = j + 1 by omega]
                simpa using hj)
              exact ⟨op', q1, q2⟩) σ' a' w' S' ρ' κ' e3 e2
            simpa using this
          · obtain ⟨op', q1, q2⟩ := hs j ao (by
              have : j < pre.length := by
                rcases Nat.lt_or_ge j pre.length with h | h
                · exact h
                · simp [List.getElem?_eq_none h] at hj
              rw [List.getElem?_append_left this]; exact hj)
            exact ⟨op', by simpa using q1, by rw [hnt]; exact q2⟩
    · cases hc
  all_goals (simp only [cCode, ACode.bare] at hc; first | (cases hc; done) | (split at hc <;> simp at hc) | (simp at hc))

/-- A region in its order, with a halt behind some of its operations. -/
theorem At.halt {pre post : List AOper} {out : List Nat} {σ : St} (hok : OK C σ.f a w S ρ κ) (hnt : C.nt = nt)
    (hv : vc P (fun σ1 => ∀ (a : Act) (w : World) (S : Nat → Prop) (ρ : Name → Option Nat) (κ : Name → Nat), OK C σ1.f a w S ρ κ → RestOK P nt post Q a w) pre σ) :
    At P nt dr (.region (pre ++ post) out []) Q a w := by
  intro c hc hzc
  cases c
  case region id ops draw =>
    simp only [cCode, ACode.bare] at hc
    split at hc
    · rename_i fl' hdraw
      cases ho : cOps P nt ops ops.toList with
      | none => rw [ho] at hc; cases hc
      | some l =>
        rw [ho] at hc
        simp only [Option.map_some, Option.some.injEq, ACode.region.injEq, true_and] at hc
        obtain ⟨hl, hfl⟩ := hc
        subst hl; subst hfl
        cases draw with
        | true =>
          have hd : dr nt ops = some [] := by simpa using hdraw
          simp [zB, hd] at hzc
        | false =>
          obtain ⟨g1, g2⟩ := cOps_spec ho
          have hs : ∀ (j : Nat) (ao : AOper), (pre ++ post)[j]? = some ao → ∃ op, ops[j]? = some op ∧ cOper P nt ops op = some ao.bare := fun j ao hj => by
            obtain ⟨op, q1, q2⟩ := g2 j ao hj
            exact ⟨op, by simpa using q1, q2⟩
          refine wp_region ?_
          have hlen : ops.size = pre.length + post.length := by
            have : ops.size = (pre ++ post).length := by simpa using g1
            rw [this]; simp
          rw [List.range_eq_range', hlen]
          refine region_pre (C := C) (K := _) (e := pre.length) (fun σ1 a w S ρ κ hK hok1 => ?_) pre 0 (by omega) (fun j ao hj => ?_) σ a w S ρ κ hv hok
          · obtain ⟨C', σ', S', ρ', κ', K', e1, e2, e3, e4⟩ := hK a w S ρ κ hok1
            subst e1
            have := region_pre (C := C') (P := P) (ops := ops) (Q := Q) (K := K') (e := pre.length + post.length) (m := 0) (fun σ2 a2 w2 S2 ρ2 κ2 hk hok2 => by
              simp only [List.range'_zero]
              exact e4 a2 w2 ⟨σ2, S2, ρ2, κ2, hk, hok2⟩) post pre.length rfl (fun j ao hj => by
              obtain ⟨op', q1, q2⟩ := hs (pre.length + j) ao (by
                rw [List.getElem?_append_right (by omega), show pre.length + j - pre.length = j by omega]
                exact hj)
              exact ⟨op', q1, q2⟩) σ' a w S' ρ' κ' e3 e2
            simpa using this
          · obtain ⟨op', q1, q2⟩ := hs j ao (by
              have : j < pre.length := by
                rcases Nat.lt_or_ge j pre.length with h | h
                · exact h
                · simp [List.getElem?_eq_none h] at hj
              rw [List.getElem?_append_left this]; exact hj)
            exact ⟨op', by simpa using q1, by rw [hnt]; exact q2⟩
    · cases hc
  all_goals (simp only [cCode, ACode.bare] at hc; first | (cases hc; done) | (split at hc <;> simp at hc) | (simp at hc))

/-- A function by pieces: handed closed values, in a context that may write M. -/
theorem calls_at {f : FuncId} {fn : Func} {body : Code} {ac : ACode} (hf : P.funcs[f]? = some fn) (hb : fn.body = some body) (hc : cCode P fn.ntmps dr body = some ac.bare) (hz : zB fn.ntmps dr body = true) {args : List AV} (hna : args.length ≤ fn.ntmps)
    {vs : Array Value} (hS : ∀ b, S b → b < w.heap.size) (he : Env S w) (hvs : vs.size = args.length) (hargs : ∀ j, j < args.length → RC S w (args.getD j .junk) (vs.getD j undef)) (M : Nat → Prop) {R : Ending → World → Prop}
    (h : ∀ a, OK ⟨fn.ntmps, w, S, M, fun _ => none, fun _ => 0, fun _ => none⟩ (⟨ini 0 args, []⟩ : St).f a w S (fun _ => none) (fun _ => 0) →
      At P fn.ntmps dr ac (fun e a' w' => (e = .ret ∨ e = .normal) ∧ a'.defers = [] ∧ ∃ v, (results fn a'.tmps).run P w' = .ok v w' ∧ R (.returned v) w') a w) : Calls P f vs w R := by
  refine calls_of_wp hf hb ?_
  refine Code.wp_mono (fun e a' w' hq => ?_) (h _ ?_ body hc hz)
  · obtain ⟨rfl | rfl, h1, v, h2, h3⟩ := hq
    · exact ⟨h1, v, h2, h3⟩
    · exact ⟨h1, v, h2, h3⟩
  · refine ⟨?_, rfl, fun t => ?_, ⟨fun n b hb => ?_, fun n m y hn _ _ _ => ?_, hS, he⟩, Nat.le_refl _, fun _ _ _ => rfl, fun n x h1 h2 => ?_, fun _ h => h, fun b hb => .inl hb, ⟨rfl, rfl⟩, fun j b hb => ?_⟩
    · simp only [Array.size_append, Array.size_replicate]; omega
    · simp only [St.f, look_ini, Nat.zero_le, true_and, Nat.zero_add, Nat.sub_zero]
      split
      · rename_i ht
        have e : (vs ++ Array.replicate (fn.ntmps - vs.size) undef).getD t undef = vs.getD t undef := by
          have h1 : t < vs.size := by omega
          simp [Array.getElem?_append, h1]
        rw [e]
        exact .clo (hargs t ht)
      · exact .junk _
    · simp [St.f, hlook] at hb
    · simp [St.f, hlook] at hn
    · simp [St.f, hlook] at h1
    · simp [St.f, hlook] at hb
end Go.Vs

namespace Go.Vs
set_option linter.unusedSectionVars false
variable [Envs]
set_option linter.unusedVariables false
variable {P : Program} {C : Ctx} {a : Act} {w : World} {S : Nat → Prop} {ρ : Name → Option Nat} {κ : Name → Nat}

/-- What a slot is known to read as may be put into the state. -/
theorem OK.know {σ : FSt} (hok : OK C σ a w S ρ κ) {t : Nat} {x : AV} (hx : RV S w ρ κ σ.h x (a.tmps.getD t undef)) : OK C ⟨upd σ.s (some t) x, σ.h⟩ a w S ρ κ := by
  refine { hok with slots := fun u => ?_ }
  simp only [upd]
  by_cases hu : u = t
  · subst hu; simp only [if_true]; exact hx
  · simp only [hu, if_false]; exact hok.slots u

/-- Hidden memory stays hidden in a context that began later. -/
theorem Hid.later {C' : Ctx} {D : Nat → Prop} {x : AV} {v : Value} (hh : Hid C D x v) {σ : FSt} (hok : OK C σ a w S ρ κ) (h0 : C'.w0 = w) (h1 : ∀ b, C'.S0 b → S b) (h2 : ∀ b, C'.Mut b → ∃ n, (σ.h n).isSome ∧ ρ n = some b) : Hid C' D x v := by
  obtain ⟨g1, g2, g3, g4⟩ := hh.same hok
  refine ⟨by rw [h0]; exact hh.now hok, fun b hb => by rw [h0]; exact g2 b hb, fun b hb => ⟨fun hs => g3 b hb (h1 b hs), fun hm => ?_⟩⟩
  obtain ⟨n, e1, e2⟩ := h2 b hm
  exact g4 b hb n e1 e2

variable {nt : Nat} {dr : Nat → Array Oper → Option (List Nat)} {Q : Exit → Act → World → Prop}
theorem GoodL.le {τ : St} (h : GoodL C (fun σ => LeL σ τ) a w) : ∃ S ρ κ, OK C τ.f a w S ρ κ := by
  obtain ⟨σ, S, ρ, κ, h1, h2⟩ := h
  exact ⟨S, ρ, κ, h2.le h1⟩
theorem GoodL.no (h : GoodL C (fun _ => False) a w) : False := by
  obtain ⟨_, _, _, _, h, _⟩ := h
  exact h
end Go.Vs

namespace Go.Vs
set_option linter.unusedSectionVars false
variable [Envs]
set_option linter.unusedVariables false
variable {P : Program} {C : Ctx} {a : Act} {w : World} {S : Nat → Prop} {ρ : Name → Option Nat} {κ : Name → Nat}

/-- A value reads as a row of flat cells in a block of its own, which may be written. -/
structure Own (S : Nat → Prop) (w : World) (x : Option Nat) (c : Nat) (k : Nat) (rows : List (List AV)) (v : Value) : Prop where
  loc : LocOK (fun _ => x) (fun _ => c) (fun _ => some (.arr k rows false)) (.b 0) 0 rows.length v
  blk : BlkOK S w (fun _ => x) (fun _ => c) (fun _ => some (.arr k rows false)) (.b 0) (.arr k rows false)
  fl : ∀ r, r ∈ rows → flatL r = true

/-- from a walk that knows the row -/
theorem OK.own {σ : FSt} (hok : OK C σ a w S ρ κ) {n : Name} {k : Nat} {rows : List (List AV)} (hb : σ.h n = some (.arr k rows false)) (hfl : ∀ r, r ∈ rows → flatL r = true) {v : Value} (hv : RV S w ρ κ σ.h (.loc n 0 rows.length) v) :
    Own S w (ρ n) (κ n) k rows v := by
  refine ⟨fun k' l' z' hl => ?_, hok.hok.blk n _ hb, hfl⟩
  obtain ⟨rfl, rfl, rfl⟩ : k = k' ∧ rows = l' ∧ false = z' := by simpa using hl
  exact inv_loc hv k rows false hb

/-- in another world, and by another set -/
theorem Own.mono {S' : Nat → Prop} {w' : World} {x : Option Nat} {c k : Nat} {rows : List (List AV)} {v : Value} (h : Own S w x c k rows v) (hS : ∀ b, x = some b → ¬ S' b) (hw : ∀ b, x = some b → w'.heap[b]? = w.heap[b]?) : Own S' w' x c k rows v := by
  refine ⟨h.loc, ?_, h.fl⟩
  obtain ⟨hk, hb⟩ := h.blk
  refine ⟨hk, ?_⟩
  rcases hb with hb | ⟨y, cs, T, fr, g1, g2, g3, g4, g4', g5, g6, g7⟩
  · exact .inl hb
  · have g1' : x = some y := g1
    refine .inr ⟨y, cs, T, fr, g1, by rw [hw y g1']; exact g2, g3, fun _ => hS y g1', fun h => (by cases h), g5, g6, fun i j hi hj => ⟨(g7 i j hi hj).1, ?_⟩⟩
    refine RC.mono (S := fun _ => False) (w := w) (fun _ h => h.elim) (fun _ h => h.elim) (((g7 i j hi hj).2).flat (flatL_getD (h.fl _ ?_)))
    rw [List.getD_eq_getElem?_getD, List.getElem?_eq_getElem hi]; exact List.getElem_mem _

/-- rows, each in a block of its own -/
structure OwnL (S : Nat → Prop) (w : World) (k : Nat) (ls : List (List (List AV))) (ss : List Value) (xs : Nat → Option Nat) (cs : Nat → Nat) : Prop where
  len : ls.length = ss.length
  row : ∀ i, i < ss.length → Own S w (xs i) (cs i) k (ls.getD i []) (ss.getD i undef)
  dif : ∀ i j b, i < ss.length → j < ss.length → xs i = some b → xs j = some b → i = j

theorem OwnL.mono {S' : Nat → Prop} {w' : World} {k : Nat} {ls : List (List (List AV))} {ss : List Value} {xs : Nat → Option Nat} {cs : Nat → Nat} (h : OwnL S w k ls ss xs cs) (hS : ∀ i b, i < ss.length → xs i = some b → ¬ S' b) (hw : ∀ i b, i < ss.length → xs i = some b → w'.heap[b]? = w.heap[b]?) : OwnL S' w' k ls ss xs cs :=
  ⟨h.len, fun i hi => (h.row i hi).mono (fun b hb => hS i b hi hb) (fun b hb => hw i b hi hb), h.dif⟩

end Go.Vs

namespace Go.Vs
set_option linter.unusedSectionVars false
variable [Envs]
set_option linter.unusedVariables false
variable {P : Program} {C : Ctx} {a : Act} {w : World} {S : Nat → Prop} {ρ : Name → Option Nat} {κ : Name → Nat}

/-- one of many rows was written -/
theorem OwnL.write {w' : World} {k : Nat} {ls : List (List (List AV))} {ss : List Value} {xs : Nat → Option Nat} {cs : Nat → Nat} (h : OwnL S w k ls ss xs cs) {i : Nat} (hi : i < ss.length) {r : List (List AV)} (hr : Own S w' (xs i) (cs i) k r (ss.getD i undef))
    (hw : ∀ j b, j < ss.length → xs j = some b → xs i ≠ some b → w'.heap[b]? = w.heap[b]?) (hS : ∀ j b, j < ss.length → xs j = some b → ¬ S b) : OwnL S w' k (ls.set i r) ss xs cs := by
  refine ⟨by simp [h.len], fun j hj => ?_, h.dif⟩
  by_cases hji : j = i
  · subst hji
    have e : (ls.set j r).getD j [] = r := by simp [show j < ls.length by rw [h.len]; exact hj]
    rw [e]
    exact hr
  · have e : (ls.set i r).getD j [] = ls.getD j [] := by
      simp only [List.getD_eq_getElem?_getD]
      rw [List.getElem?_set_ne (Ne.symm hji)]
    rw [e]
    exact (h.row j hj).mono (fun b hb => hS j b hj hb) fun b hb => hw j b hj hb fun hx => hji (h.dif j i b hj hi hb hx)

/-- what is written in a block of its own is not what a walk knows -/
theorem Own.no {x : Option Nat} {c k : Nat} {rows : List (List AV)} {v : Value} (h : Own S w x c k rows v) {b : Nat} (hb : x = some b) : ¬ S b := by
  obtain ⟨_, ⟨g, _⟩ | ⟨y, cs, T, fr, g1, g2, g3, g4, _⟩⟩ := h.blk
  · have g' : x = none := g
    rw [g'] at hb; cases hb
  · have g1' : x = some y := g1
    rw [g1'] at hb
    obtain rfl := Option.some.inj hb
    exact g4 rfl
theorem Fn.has {f : FuncId} {hin : List Blk} {args : List AV} {r : AV} {hout : List (Option Blk)} (h : Fn P f hin args r hout) : HasBody P f := h.1
end Go.Vs
