/- Regions and code. -/
import Derived.Test.YtpdmjalhahblmaaDoorVsN
namespace Go.Vs
set_option linter.unusedSectionVars false
variable [Envs]
variable {P : Program} {C : Ctx} {a : Act} {w : World} {S : Nat → Prop} {ρ : Name → Option Nat} {κ : Name → Nat}

def vc (P : Program) (K : St → Prop) : List AOper → St → Prop
  | [], σ => K σ
  | o :: r, σ => match o.guard with
    | none => stepA P o.dst σ (vc P K r) o.op
    | some (g, want) => match look σ.s g with
      | .v (.bool b) => BrW b want (stepA P o.dst σ (vc P K r) o.op) (vc P K r ⟨put o.dst (.v (.tuple #[])) σ.s, σ.h⟩)
      | .v (.tuple _) => vc P K r ⟨put o.dst (.v (.tuple #[])) σ.s, σ.h⟩
      | _ => False

def AOper.bare (o : AOper) : AOper := { o with op := o.op.bare }

def cOper (P : Program) (nt : Nat) (ops : Array Oper) (o : Oper) : Option AOper :=
  match comp P o.op with
  | none => none
  | some op => if o.dst.all (fun d => decide (d < nt)) then
      match o.guard with
      | none => some ⟨o.dst, op, none⟩
      | some (j, want) => match (ops[j]?).bind (·.dst) with
        | some t => some ⟨o.dst, op, some (t, want)⟩
        | none => none
    else none

theorem cOper_spec {nt : Nat} {ops : Array Oper} {o : Oper} {ao : AOper} (h : cOper P nt ops o = some ao.bare) : comp P o.op = some ao.op.bare ∧ o.dst = ao.dst ∧ (∀ d, o.dst = some d → d < nt) ∧
    ((o.guard = none ∧ ao.guard = none) ∨ ∃ j want t, o.guard = some (j, want) ∧ ao.guard = some (t, want) ∧ (ops[j]?).bind (·.dst) = some t) := by
  unfold cOper at h
  split at h
  · cases h
  · rename_i op hop
    split at h
    · rename_i hd
      have hdd : ∀ d, o.dst = some d → d < nt := by
        intro d h1; rw [h1] at hd; simpa using hd
      split at h
      · rename_i hg
        simp only [Option.some.injEq, AOper.bare, AOper.mk.injEq] at h
        obtain ⟨h1, h2, h3⟩ := h
        exact ⟨by rw [hop, h2], h1, hdd, .inl ⟨hg, h3.symm⟩⟩
      · rename_i j want hg
        split at h
        · rename_i t ht
          simp only [Option.some.injEq, AOper.bare, AOper.mk.injEq] at h
          obtain ⟨h1, h2, h3⟩ := h
          exact ⟨by rw [hop, h2], h1, hdd, .inr ⟨j, want, t, hg, h3.symm, ht⟩⟩
        · cases h
    · cases h

theorem wanted_of {σ : St} {ops : Array Oper} {o : Oper} {j t : Nat} {want b : Bool} (hok : OK C σ.f a w S ρ κ) (hg : o.guard = some (j, want)) (ht : (ops[j]?).bind (·.dst) = some t) (hl : look σ.s t = .v (.bool b)) :
    Region.wanted o (yielded ops a.tmps) = (b == want) := by
  have hr := hok.slots t
  simp only [St.f] at hr
  rw [hl] at hr
  have hv := inv_v hr
  have : a.tmps[t]? = some (.bool b) := by
    cases hx : a.tmps[t]? with
    | none =>
      have : a.tmps.getD t undef = undef := by simp [hx]
      rw [this] at hv; simp [undef] at hv
    | some u =>
      have : a.tmps.getD t undef = u := by simp [hx]
      rw [this] at hv; rw [hv]
  simp [Region.wanted, hg, yielded, ht, this]

theorem wanted_un {σ : St} {ops : Array Oper} {o : Oper} {j t : Nat} {want : Bool} {cs : Array Value} (hok : OK C σ.f a w S ρ κ) (hg : o.guard = some (j, want)) (ht : (ops[j]?).bind (·.dst) = some t) (hl : look σ.s t = .v (.tuple cs)) :
    Region.wanted o (yielded ops a.tmps) = false := by
  have hr := hok.slots t
  simp only [St.f] at hr
  rw [hl] at hr
  have hv := inv_v hr
  cases hx : a.tmps[t]? with
  | none => simp [Region.wanted, hg, yielded, ht, hx]
  | some u =>
    have : a.tmps.getD t undef = u := by simp [hx]
    rw [this] at hv
    subst hv
    simp [Region.wanted, hg, yielded, ht, hx]

theorem region_wp {ops : Array Oper} {Q : Exit → Act → World → Prop} {K : St → Prop} (hQ : ∀ a w, GoodL C K a w → Q .normal a w) : ∀ (aops : List AOper) (k : Nat), (∀ j ao, aops[j]? = some ao → ∃ o, ops[k + j]? = some o ∧ cOper P C.nt ops o = some ao.bare) →
    ∀ (σ : St) (a : Act) (w : World) (S : Nat → Prop) (ρ : Name → Option Nat) (κ : Name → Nat), vc P K aops σ → OK C σ.f a w S ρ κ → wpOps P ops Q (List.range' k aops.length) a w
  | [], k, _, σ, a, w, S, ρ, κ, hv, hok => hQ a w ⟨σ, S, ρ, κ, hv, hok⟩
  | ao :: r, k, hs, σ, a, w, S, ρ, κ, hv, hok => by
    obtain ⟨o, ho, hc⟩ := hs 0 ao (by simp)
    simp only [Nat.add_zero] at ho
    obtain ⟨h1, h2, h3, h4⟩ := cOper_spec hc
    rw [List.length_cons, List.range'_succ, wpOps_cons]
    have ih := region_wp hQ r (k + 1) (fun j ao' hj => by
      obtain ⟨o', g1, g2⟩ := hs (j + 1) ao' (by simpa using hj)
      exact ⟨o', by rw [show k + 1 + j = k + (j + 1) by omega]; exact g1, g2⟩)
    have go : stepA P ao.dst σ (vc P K r) ao.op → o.wp P a w (wpOps P ops Q (List.range' (k + 1) r.length)) Q := fun hst =>
      Oper.wp_mono (fun a' w' ⟨σ', S', ρ', κ', hK, hok'⟩ => ih σ' a' w' S' ρ' κ' hK hok') (step_sound (P := P) h1 hok h3 (by rw [h2]; exact hst))
    unfold wpOp
    rw [ho]
    simp only [vc] at hv
    rcases h4 with ⟨g1, g2⟩ | ⟨j, want, t, g1, g2, g3⟩
    · rw [g2] at hv
      have : Region.wanted o (yielded ops a.tmps) = true := by simp [Region.wanted, g1]
      simp only [this, if_true]
      exact .inl (go hv)
    · rw [g2] at hv
      simp only at hv
      split at hv
      · rename_i b hb
        have hw := wanted_of hok g1 g3 hb
        simp only [hw]
        by_cases hbw : b = want
        · simp only [hbw, beq_self_eq_true, if_true]
          exact .inl (go ((BrW_iff.1 hv).1 hbw))
        · have : (b == want) = false := by simpa using hbw
          simp only [this, Bool.false_eq_true, if_false]
          have hn : b = !want := by cases b <;> cases want <;> simp_all
          refine ih _ _ _ S ρ κ ((BrW_iff.1 hv).2 hn) ?_
          have := hok.put (x := .v undef) (v := undef) (.clo (.v _)) h3
          rw [h2] at this ⊢
          simpa [St.f, look_put, undef] using this
      · rename_i cs hb
        have hw := wanted_un hok g1 g3 hb
        simp only [hw, Bool.false_eq_true, if_false]
        refine ih _ _ _ S ρ κ hv ?_
        have := hok.put (x := .v undef) (v := undef) (.clo (.v _)) h3
        rw [h2] at this ⊢
        simpa [St.f, look_put, undef] using this
      · exact hv.elim

/-! ## code -/
inductive AExit where
  | ret
  | exit (i : Nat)

inductive ACode where
  | skip
  | region (ops : List AOper) (out : List Nat) (fl : List Nat)
  | seq (x y : ACode)
  | cond (c : Operand) (x y : ACode)
  | block (id : Nat) (c : ACode)
  | loop (c : ACode)
  | exit (id : Nat)
  | ret
  | closing (t : Nat) (c : ACode)
  | naming (t : Nat) (c : ACode)

def keepL (s : List (Nat × AV)) : List Nat → List (Nat × AV)
  | [] => []
  | t :: r => (t, look s t) :: keepL s r

theorem look_keep (s : List (Nat × AV)) : ∀ (l : List Nat) (t : Nat), look (keepL s l) t = look s t ∨ look (keepL s l) t = .junk
  | [], t => .inr rfl
  | i :: r, t => by
    simp only [keepL, look]
    split
    · subst_vars; exact .inl rfl
    · exact look_keep s r t

/-- To know less. -/
theorem OK.less {σ σ' : FSt} (hok : OK C σ a w S ρ κ) (hs : ∀ t, σ'.s t = σ.s t ∨ σ'.s t = .junk) (hh : ∀ n b, σ'.h n = some b → σ.h n = some b) : OK C σ' a w S ρ κ := by
  have hn : ∀ m, NameOK ρ ρ κ κ σ.h σ'.h m := fun m b hb => ⟨rfl, rfl, b, hh m b hb, b.same_refl⟩
  have hsome : ∀ m, (σ'.h m).isSome → (σ.h m).isSome := by
    intro m hm
    obtain ⟨b, hb⟩ := Option.isSome_iff_exists.1 hm
    simp [hh m b hb]
  refine ⟨hok.nt, hok.defers, fun t => ?_, ⟨fun m b hb => ?_, fun m m' y h1 h2 h3 h4 => hok.hok.inj m m' y (hsome m h1) (hsome m' h2) h3 h4, hok.hok.dom, hok.hok.env⟩, hok.size, hok.old, fun m y h1 h2 => hok.mine m y (hsome m h1) h2, hok.S0, hok.Snew, hok.out, fun j b hb => hok.keep j b (hh _ _ hb)⟩
  · rcases hs t with e | e
    · rw [e]; exact (hok.slots t).mono (fun _ h => h) (fun _ _ => rfl) fun m _ => hn m
    · rw [e]; exact .junk _
  · exact (hok.hok.blk m b (hh m b hb)).mono (fun _ h => h) (fun _ _ h => h) (fun _ _ => rfl) (fun _ _ => rfl) rfl rfl fun m _ => hn m

def cOps (P : Program) (nt : Nat) (ops : Array Oper) : List Oper → Option (List AOper)
  | [] => some []
  | o :: r => match cOper P nt ops o, cOps P nt ops r with
    | some x, some l => some (x :: l)
    | _, _ => none

def cCode (P : Program) (nt : Nat) (drawn : Nat → Array Oper → Option (List Nat)) : Code → Option ACode
  | .skip => some .skip
  | .region _ ops draw => match (if draw then drawn nt ops else some []) with
    | some fl => (cOps P nt ops ops.toList).map fun l => .region l [] fl
    | none => none
  | .seq x y => match cCode P nt drawn x, cCode P nt drawn y with
    | some x, some y => some (.seq x y)
    | _, _ => none
  | .cond c x y => match cCode P nt drawn x, cCode P nt drawn y with
    | some x, some y => some (.cond c x y)
    | _, _ => none
  | .block id x => (cCode P nt drawn x).map (.block id)
  | .loop x => (cCode P nt drawn x).map .loop
  | .exit id => some (.exit id)
  | .ret => some .ret
  | _ => none

def ACode.bare : ACode → ACode
  | .region ops _ fl => .region (ops.map AOper.bare) [] fl
  | .seq x y => .seq x.bare y.bare
  | .cond c x y => .cond c x.bare y.bare
  | .block id x => .block id x.bare
  | .loop x => .loop x.bare
  | .closing _ x => x.bare
  | .naming _ x => x.bare
  | c => c

theorem cOps_spec {nt : Nat} {ops : Array Oper} : ∀ {l : List Oper} {r : List AOper}, cOps P nt ops l = some (r.map AOper.bare) → l.length = r.length ∧ ∀ (j : Nat) (ao : AOper), r[j]? = some ao → ∃ o, l[j]? = some o ∧ cOper P nt ops o = some ao.bare
  | [], r, h => by
    simp only [cOps, Option.some.injEq] at h
    have : r = [] := by simpa using h.symm
    subst this; simp
  | o :: l, r, h => by
    simp only [cOps] at h
    split at h
    · rename_i x l' h1 h2
      cases r with
      | nil => simp at h
      | cons ao r =>
        simp only [List.map_cons, Option.some.injEq, List.cons.injEq] at h
        obtain ⟨rfl, rfl⟩ := h
        obtain ⟨g1, g2⟩ := cOps_spec h2
        refine ⟨by simp [g1], fun j ao' hj => ?_⟩
        cases j with
        | zero =>
          simp only [List.getElem?_cons_zero, Option.some.injEq] at hj
          subst hj
          exact ⟨o, by simp, h1⟩
        | succ j => simpa using g2 j ao' (by simpa using hj)
    · cases h

/-- What a region asks whose order is open: the slots that float are empty, and the calls that float write nothing. -/
def entryB (fl : List Nat) (ops : List AOper) (σ : St) : Bool :=
  (fl.all fun d => σ.s.all fun p => !(p.1 == d)) && ops.all fun o => match o.op, o.dst with
    | .call _ _ bor, some d => bor.isEmpty || !fl.contains d || fl.contains (d + 2000000)
    | .bsliceC .., some d => !fl.contains d
    | .load .., some d => !fl.contains (d + 1000000)
    | .fieldAddr .., some d => !fl.contains (d + 1000000)
    | _, _ => true

/-- A check on drawn regions that is worth something. -/
def DrawOK (P : Program) (drawn : Nat → Array Oper → Option (List Nat)) : Prop :=
  ∀ (C : Ctx) (id : Nat) (ops : Array Oper) (aops : List AOper) (fl : List Nat) (K : St → Prop) (Q : Exit → Act → World → Prop) (σ : St) (a : Act) (w : World) (S : Nat → Prop) (ρ : Name → Option Nat) (κ : Name → Nat),
    drawn C.nt ops = some fl → cOps P C.nt ops ops.toList = some (aops.map AOper.bare) → entryB fl aops σ = true → (∀ a w, GoodL C K a w → Q .normal a w) → vc P K aops σ → OK C σ.f a w S ρ κ → (Code.region id ops true).wp P Q a w

def SemW (P : Program) (C : Ctx) (drawn : Nat → Array Oper → Option (List Nat)) (ac : ACode) (N : St → Prop) (E : AExit → St → Prop) (σ : St) : Prop :=
  ∀ (c : Code) (Q : Exit → Act → World → Prop) (a : Act) (w : World) (S : Nat → Prop) (ρ : Name → Option Nat) (κ : Name → Nat), cCode P C.nt drawn c = some ac.bare →
    (∀ a w, GoodL C N a w → Q .normal a w) → (∀ i a w, GoodL C (E (.exit i)) a w → Q (.exit i) a w) → (∀ a w, GoodL C (E .ret) a w → Q .ret a w) → OK C σ.f a w S ρ κ → c.wp P Q a w

/-- A region whose order is open: first its entry. -/
def RgK (b : Bool) (A : Prop) (_ : Tag (b, A)) : Prop := b = true ∧ A
theorem RgK.mk {b : Bool} {A : Prop} {t : Tag (b, A)} (h1 : b = true) (h2 : A) : RgK b A t := ⟨h1, h2⟩

def LoopK (P : Program) (C : Ctx) (drawn : Nat → Array Oper → Option (List Nat)) (c : ACode) (N : St → Prop) (E : AExit → St → Prop) (σ : St) (_ : Tag (N, E)) : Prop := SemW P C drawn (.loop c) N E σ

def wpc (P : Program) (C : Ctx) (drawn : Nat → Array Oper → Option (List Nat)) : ACode → (St → Prop) → (AExit → St → Prop) → St → Prop
  | .skip, N, _, σ => N σ
  | .region ops out fl, N, _, σ => match fl with
    | [] => vc P (fun σ' => N ⟨keepL σ'.s out, σ'.h⟩) ops σ
    | d :: r => RgK (entryB (d :: r) ops σ) (vc P (fun σ' => N ⟨keepL σ'.s out, σ'.h⟩) ops σ) .x
  | .seq x y, N, E, σ => wpc P C drawn x (wpc P C drawn y N E) E σ
  | .cond c x y, N, E, σ => match evO (look σ.s) c with
    | .v (.bool b) => Br b (wpc P C drawn x N E σ) (wpc P C drawn y N E σ) .x
    | _ => False
  | .block id x, N, E, σ => wpc P C drawn x N (fun e σ' => match e with
    | .exit i => (i = id → N σ') ∧ (i ≠ id → E (.exit i) σ')
    | .ret => E .ret σ') σ
  | .loop x, N, E, σ => LoopK P C drawn x N E σ .x
  | .exit id, _, E, σ => E (.exit id) σ
  | .ret, _, E, σ => E .ret σ
  | .closing t x, N, E, σ => wpc P C drawn x (fun σ' => closeL t σ' N) E σ
  | .naming t x, N, E, σ => wpc P C drawn x (fun σ' => nameL t σ' N) E σ


theorem wpc_sound {drawn : Nat → Array Oper → Option (List Nat)} (hdr : DrawOK P drawn) : ∀ (ac : ACode) (N : St → Prop) (E : AExit → St → Prop) (σ : St), wpc P C drawn ac N E σ → SemW P C drawn ac N E σ := by
  intro ac
  induction ac with
  | skip =>
    intro N E σ hv c Q a w S ρ κ hc hN hE hR hok
    cases c <;> simp [cCode, ACode.bare] at hc
    case skip => exact wp_skip (hN a w ⟨σ, S, ρ, κ, hv, hok⟩)
    all_goals (first | (split at hc <;> simp at hc) | skip)
  | region ops out fl =>
    intro N E σ hv c Q a w S ρ κ hc hN hE hR hok
    have hv : entryB fl ops σ = true ∧ vc P (fun σ' => N ⟨keepL σ'.s out, σ'.h⟩) ops σ := by
      cases fl with
      | nil =>
        refine ⟨?_, hv⟩
        simp only [entryB, List.all_nil, Bool.true_and, List.all_eq_true]
        intro o _
        split <;> simp
      | cons d r => exact hv
    have hN' : ∀ a w, GoodL C (fun σ' => N ⟨keepL σ'.s out, σ'.h⟩) a w → Q .normal a w := by
      rintro a w ⟨σ', S', ρ', κ', hK, hok'⟩
      exact hN a w ⟨_, S', ρ', κ', hK, hok'.less (look_keep _ _) (fun _ _ h => h)⟩
    cases c
    case region id cops draw =>
      simp only [cCode, ACode.bare] at hc
      split at hc
      · rename_i fl' hdraw
        cases ho : cOps P C.nt cops cops.toList with
        | none => rw [ho] at hc; cases hc
        | some l =>
          rw [ho] at hc
          simp only [Option.map_some, Option.some.injEq, ACode.region.injEq, true_and] at hc
          obtain ⟨hc, rfl⟩ := hc
          subst hc
          cases draw with
          | false =>
            obtain ⟨g1, g2⟩ := cOps_spec ho
            refine wp_region ?_
            have := region_wp (P := P) hN' ops 0 (fun j ao hj => by
              obtain ⟨o, q1, q2⟩ := g2 j ao hj
              exact ⟨o, by simpa using q1, q2⟩) σ a w S ρ κ hv.2 hok
            rw [List.range_eq_range', show cops.size = ops.length by simpa using g1]
            exact this
          | true =>
            exact hdr C id cops ops _ _ Q σ a w S ρ κ (by simpa using hdraw) ho hv.1 hN' hv.2 hok
      · cases hc
    all_goals (simp only [cCode, ACode.bare] at hc; first | (cases hc; done) | (split at hc <;> simp at hc) | (simp at hc))
  | seq x y ihx ihy =>
    intro N E σ hv c Q a w S ρ κ hc hN hE hR hok
    cases c
    case seq cx cy =>
      simp only [cCode, ACode.bare] at hc
      split at hc
      · rename_i x' y' h1 h2
        simp only [Option.some.injEq, ACode.seq.injEq] at hc
        obtain ⟨rfl, rfl⟩ := hc
        refine wp_seq (ihx _ _ _ hv cx _ a w S ρ κ h1 (fun a w hg => ?_) hE hR hok)
        obtain ⟨σ', S', ρ', κ', hK, hok'⟩ := hg
        exact ihy _ _ _ hK cy Q a w S' ρ' κ' h2 hN hE hR hok'
      · cases hc
    all_goals (simp only [cCode, ACode.bare] at hc; first | (cases hc; done) | (split at hc <;> simp at hc) | (simp at hc))
  | cond cc x y ihx ihy =>
    intro N E σ hv c Q a w S ρ κ hc hN hE hR hok
    cases c
    case cond co cx cy =>
      simp only [cCode, ACode.bare] at hc
      split at hc
      · rename_i x' y' h1 h2
        simp only [Option.some.injEq, ACode.cond.injEq] at hc
        obtain ⟨rfl, rfl, rfl⟩ := hc
        simp only [wpc] at hv
        split at hv
        · rename_i b hb
          have hev := hok.ev co
          rw [show evO σ.f.s co = _ from hb] at hev
          have hb' := inv_v hev
          cases b
          · exact wp_cond_false hb' (ihy _ _ _ (hv.get.2 rfl) cy Q a w S ρ κ h2 hN hE hR hok)
          · exact wp_cond_true hb' (ihx _ _ _ (hv.get.1 rfl) cx Q a w S ρ κ h1 hN hE hR hok)
        · exact hv.elim
      · cases hc
    all_goals (simp only [cCode, ACode.bare] at hc; first | (cases hc; done) | (split at hc <;> simp at hc) | (simp at hc))
  | block id x ih =>
    intro N E σ hv c Q a w S ρ κ hc hN hE hR hok
    cases c
    case block cid cx =>
      simp only [cCode, ACode.bare] at hc
      cases h1 : cCode P C.nt drawn cx with
      | none => rw [h1] at hc; cases hc
      | some x' =>
        rw [h1] at hc
        simp only [Option.map_some, Option.some.injEq, ACode.block.injEq] at hc
        obtain ⟨rfl, rfl⟩ := hc
        refine wp_block (ih _ _ _ hv cx _ a w S ρ κ h1 (fun a w hg => hN a w hg) (fun i a w hg => ?_) (fun a w hg => hR a w hg) hok)
        obtain ⟨σ', S', ρ', κ', hK, hok'⟩ := hg
        simp only [Exit.inBlock]
        by_cases hi : i = cid
        · rw [if_pos hi]; exact hN a w ⟨σ', S', ρ', κ', hK.1 hi, hok'⟩
        · rw [if_neg hi]; exact hE i a w ⟨σ', S', ρ', κ', hK.2 hi, hok'⟩
    all_goals (simp only [cCode, ACode.bare] at hc; first | (cases hc; done) | (split at hc <;> simp at hc) | (simp at hc))
  | loop x ih => intro N E σ hv; exact hv
  | exit id =>
    intro N E σ hv c Q a w S ρ κ hc hN hE hR hok
    cases c
    case exit cid =>
      simp only [cCode, ACode.bare, Option.some.injEq, ACode.exit.injEq] at hc
      subst hc
      exact wp_exit (hE _ a w ⟨σ, S, ρ, κ, hv, hok⟩)
    all_goals (simp only [cCode, ACode.bare] at hc; first | (cases hc; done) | (split at hc <;> simp at hc) | (simp at hc))
  | ret =>
    intro N E σ hv c Q a w S ρ κ hc hN hE hR hok
    cases c
    case ret => exact wp_ret (hR a w ⟨σ, S, ρ, κ, hv, hok⟩)
    all_goals (simp only [cCode, ACode.bare] at hc; first | (cases hc; done) | (split at hc <;> simp at hc) | (simp at hc))
  | closing t x ih =>
    intro N E σ hv c Q a w S ρ κ hc hN hE hR hok
    refine ih _ _ _ hv c Q a w S ρ κ hc (fun a' w' hg => ?_) hE hR hok
    obtain ⟨σ', S', ρ', κ', hcl, hok'⟩ := hg
    exact hN a' w' (closeL_good hcl hok')
  | naming t x ih =>
    intro N E σ hv c Q a w S ρ κ hc hN hE hR hok
    refine ih _ _ _ hv c Q a w S ρ κ hc (fun a' w' hg => ?_) hE hR hok
    obtain ⟨σ', S', ρ', κ', hcl, hok'⟩ := hg
    exact hN a' w' (nameL_good hcl hok')

/-- One state knows all that another says. -/
def LeL (σ σ' : St) : Prop := (∀ p, p ∈ σ'.s → look σ.s p.1 = p.2 ∨ p.2 = .junk) ∧ ∀ p, p ∈ σ'.h → hlook σ.h p.1 = some p.2

theorem OK.le {σ σ' : St} (hok : OK C σ.f a w S ρ κ) (h : LeL σ σ') : OK C σ'.f a w S ρ κ := by
  refine hok.less (fun t => ?_) (fun n b hb => h.2 _ (hlook_mem _ _ _ hb))
  have key : ∀ (l : List (Nat × AV)), (∀ p, p ∈ l → look σ.s p.1 = p.2 ∨ p.2 = .junk) → look l t = look σ.s t ∨ look l t = .junk := by
    intro l
    induction l with
    | nil => intro _; exact .inr rfl
    | cons p r ih =>
      intro hl
      obtain ⟨i, x⟩ := p
      simp only [look]
      split
      · rcases hl (i, x) (by simp) with h | h
        · subst_vars; exact .inl h.symm
        · exact .inr h
      · exact ih fun q hq => hl q (by simp [hq])
  exact key σ'.s h.1

theorem least (p : Nat → Prop) (h : ∃ n, p n) : ∃ n, p n ∧ ∀ m, p m → n ≤ m := by
  classical
  obtain ⟨n, hn⟩ := h
  induction n using Nat.strongRecOn with
  | ind n ih =>
    by_cases hm : ∃ m, m < n ∧ p m
    · obtain ⟨m, hlt, hpm⟩ := hm
      exact ih m hlt hpm
    · refine ⟨n, hn, fun m hpm => ?_⟩
      apply Nat.le_of_not_lt
      intro hlt
      exact hm ⟨m, hlt, hpm⟩

theorem LoopK.intro {drawn : Nat → Array Oper → Option (List Nat)} (hdr : DrawOK P drawn) {X : Type} (Inv : X → St) (μ : X → Nat) (x0 : X) {c : ACode} {N : St → Prop} {E : AExit → St → Prop} {σ : St} {tg : Tag (N, E)} (h0 : LeL σ (Inv x0))
    (hr : ∀ x, wpc P C drawn c (fun σ' => ∃ x', LeL σ' (Inv x') ∧ μ x' < μ x) E (Inv x)) : LoopK P C drawn c N E σ tg := by
  show SemW P C drawn (.loop c) N E σ
  intro code Q a w S ρ κ hc hN hE hR hok
  cases code
  case loop cx =>
    simp only [cCode, ACode.bare] at hc
    cases h1 : cCode P C.nt drawn cx with
    | none => rw [h1] at hc; cases hc
    | some x' =>
      rw [h1] at hc
      simp only [Option.map_some, Option.some.injEq, ACode.loop.injEq] at hc
      subst hc
      classical
      -- the measure of a frame: the least that one of its readings has
      let G : Act → World → Prop := fun a w => ∃ x S ρ κ, OK C (Inv x).f a w S ρ κ
      let m : Act → World → Nat := fun a w => if h : ∃ n x, μ x = n ∧ ∃ S ρ κ, OK C (Inv x).f a w S ρ κ then (least _ h).choose else 0
      refine wp_loop G m ⟨x0, S, ρ, κ, hok.le h0⟩ ?_
      rintro a w hG
      have hex : ∃ n x, μ x = n ∧ ∃ S ρ κ, OK C (Inv x).f a w S ρ κ := by
        obtain ⟨x, S, ρ, κ, h⟩ := hG
        exact ⟨μ x, x, rfl, S, ρ, κ, h⟩
      obtain ⟨x, hx, S, ρ, κ, hokx⟩ := (least _ hex).choose_spec.1
      have hm : m a w = μ x := by simp only [m, dif_pos hex]; exact hx.symm
      refine wpc_sound hdr c _ _ _ (hr x) cx _ a w S ρ κ h1 (fun a' w' hg => ?_) hE hR hokx
      obtain ⟨σ', S', ρ', κ', ⟨x', hle, hlt⟩, hok'⟩ := hg
      have hok2 := hok'.le hle
      refine ⟨⟨x', S', ρ', κ', hok2⟩, ?_⟩
      have hex' : ∃ n x, μ x = n ∧ ∃ S ρ κ, OK C (Inv x).f a' w' S ρ κ := ⟨μ x', x', rfl, S', ρ', κ', hok2⟩
      have : m a' w' ≤ μ x' := by
        simp only [m, dif_pos hex']
        exact (least _ hex').choose_spec.2 _ ⟨x', rfl, S', ρ', κ', hok2⟩
      omega
  all_goals (simp only [cCode, ACode.bare] at hc; first | (cases hc; done) | (split at hc <;> simp at hc) | (simp at hc))
end Go.Vs
