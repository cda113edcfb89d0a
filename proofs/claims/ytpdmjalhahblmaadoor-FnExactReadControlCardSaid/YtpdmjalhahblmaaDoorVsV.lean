/- Effects of operations whose order may be open. -/
import Derived.Test.YtpdmjalhahblmaaDoorVsT
namespace Go.Vs
set_option linter.unusedSectionVars false
variable [Envs]
variable {P : Program} {C : Ctx} {a : Act} {w : World} {S : Nat → Prop} {ρ : Name → Option Nat} {κ : Name → Nat}
variable {N : Name → Prop} {h h' : Name → Option Blk} {ev ev' : Operand → AV}

theorem al_agr {n : Name} (ha : Agr N h h') {op : AOp} {K : AV → Blk → Prop} (hz : ∀ z, op = .alloc z → OffL N z) (hz2 : ∀ k m z ps, op = .bslice k m z ps → OffL N z) (hz3 : ∀ k m z x, op = .mk k m z x → OffL N z)
    (he : ∀ o, o ∈ opnds op → ev o = ev' o ∧ Off N (ev o)) (hk : al ev h n K op) : al ev' h' n K op := by
  cases op
  case box x =>
    have ⟨e1, e2⟩ := he x (by simp [opnds])
    simp only [al, ← e1, ← cellsO_agr ha e2] at hk ⊢
    exact hk
  case alloc z =>
    simp only [al] at hk ⊢
    rw [← all_congr (p := fun x => oneB h x && isClo x) fun x hx => by rw [oneB_agr ha ((hz z rfl).mem x hx)]]
    exact hk
  case bslice k m z ps =>
    simp only [al] at hk ⊢
    rw [← all_congr (p := oneB h) fun x hx => oneB_agr ha ((hz2 k m z ps rfl).mem x hx)]
    refine ⟨hk.1, layAll_agr ha (fun p hp => ?_) hk.2⟩
    obtain ⟨q, hq, rfl⟩ := List.mem_map.1 hp
    exact he _ (by simp only [opnds, List.mem_map]; exact ⟨q, hq, rfl⟩)
  case mk k y z x =>
    have ⟨e1, e2⟩ := he x (by simp [opnds])
    simp only [al, ← e1] at hk ⊢
    split at hk
    · rw [← all_congr (p := fun x => oneB h x && isClo x) fun x hx => by rw [oneB_agr ha ((hz3 k y z _ rfl).mem x hx)]]
      exact hk
    · exact hk.elim
  all_goals exact hk.elim

theorem al_point {n : Name} {op : AOp} {K : AV → Blk → Prop} (hk : al ev h n K op) : ∃ x b, K x b ∧ (∀ K' : AV → Blk → Prop, K' x b → al ev h n K' op) ∧
    (∀ N : Name → Prop, ¬ N n → Off N x) ∧ ∀ N : Name → Prop, (∀ z, op = .alloc z → OffL N z) → (∀ o, o ∈ opnds op → Off N (ev o)) → OffB N b := by
  cases op
  case box x =>
    simp only [al] at hk ⊢
    split at hk
    · rename_i c hc
      exact ⟨_, _, hk, fun _ h => h, fun N hn => Off.mk_ptr hn, fun N _ ho m hm => cellsO_off (ho x (by simp [opnds])) hc m hm⟩
    · exact hk.elim
  case alloc z =>
    simp only [al] at hk ⊢
    exact ⟨_, _, hk.2, fun _ h => ⟨hk.1, h⟩, fun N hn => Off.mk_ptr hn, fun N hz _ m hm => hz z rfl m hm⟩
  case bslice k m z ps =>
    simp only [al] at hk ⊢
    obtain ⟨c, ⟨h1, h2⟩, h3⟩ := layAll_point hk.2
    refine ⟨_, _, h2, fun K' h => ⟨hk.1, layAll_mono (fun c' hc' => ?_) h3⟩, fun N hn => Off.mk_loc hn, fun N _ _ m hm => rfl⟩
    rw [hc']; exact ⟨h1, h⟩
  case mk k y z x =>
    simp only [al] at hk ⊢
    split at hk
    · exact ⟨_, _, hk.2, fun _ h => ⟨hk.1, h⟩, fun N hn => Off.mk_loc hn, fun N _ _ m hm => rfl⟩
    · exact hk.elim
  all_goals exact hk.elim

theorem mapO_agr {f g : AV → Option (AV × List Name)} : ∀ {c : List AV}, (∀ x, x ∈ c → f x = g x) → mapO f c = mapO g c
  | [], _ => rfl
  | x :: r, hh => by simp only [mapO, hh x (by simp), mapO_agr (c := r) fun y hy => hh y (by simp [hy])]

theorem mapO_names {f : AV → Option (AV × List Name)} (p : Name → Prop) : ∀ {c c' : List AV} {L : List Name}, (∀ x, x ∈ c → ∀ y L, f x = some (y, L) → ∀ n, n ∈ L → p n) → mapO f c = some (c', L) → ∀ n, n ∈ L → p n
  | [], c', L, _, hm, n, hn => by
    simp only [mapO, Option.some.injEq, Prod.mk.injEq] at hm
    rw [← hm.2] at hn; cases hn
  | x :: r, c', L, hh, hm, n, hn => by
    simp only [mapO] at hm
    split at hm
    · rename_i y L1 ys L2 h1 h2
      simp only [Option.some.injEq, Prod.mk.injEq] at hm
      rw [← hm.2] at hn
      rcases List.mem_append.1 hn with hn | hn
      · exact hh x (by simp) y L1 h1 n hn
      · exact mapO_names p (fun z hz => hh z (by simp [hz])) h2 n hn
    · cases hm

theorem conv_agr (ha : Agr N h h') (hb : ∀ n b, ¬ N n → h n = some b → OffB N b) : ∀ (m : Nat) (c : Bool) (x : AV), Off N x → conv h m [] c x = conv h' m [] c x ∧ ∀ y L, conv h m [] c x = some (y, L) → ∀ n, n ∈ L → ¬ N n := by
  intro m
  induction m with
  | zero => intro c x _; exact ⟨rfl, fun y L h => by simp [conv] at h⟩
  | succ m ih =>
    intro c x ho
    have lists : ∀ (c : Bool) (cs : List AV), OffL N cs → mapO (conv h m [] c) cs = mapO (conv h' m [] c) cs ∧ ∀ ys L, mapO (conv h m [] c) cs = some (ys, L) → ∀ n, n ∈ L → ¬ N n := fun c cs hcs =>
      ⟨mapO_agr fun x hx => (ih c x (hcs.mem x hx)).1, fun ys L hm => mapO_names (fun n => ¬ N n) (fun x hx y L hc => (ih c x (hcs.mem x hx)).2 y L hc) hm⟩
    cases x
    case junk => exact ⟨rfl, fun y L h => by simp only [conv] at h; split at h <;> simp at h; rw [h.2]; simp⟩
    case v x => exact ⟨rfl, fun y L h => by simp only [conv, Option.some.injEq, Prod.mk.injEq] at h; rw [← h.2]; simp⟩
    case sl k l => exact ⟨rfl, fun y L h => by simp only [conv, Option.some.injEq, Prod.mk.injEq] at h; rw [← h.2]; simp⟩
    case ro c => exact ⟨rfl, fun y L h => by simp only [conv, Option.some.injEq, Prod.mk.injEq] at h; rw [← h.2]; simp⟩
    case loc n off len =>
      simp only [conv, idxN]
      cases hx : h n with
      | none => rw [ha.none ho.loc hx]; exact ⟨rfl, fun y L h => by simp at h⟩
      | some b =>
        obtain ⟨b', hb', e⟩ := ha.some ho.loc hx
        rw [hb']
        cases b with
        | var c z =>
          obtain ⟨z', rfl⟩ := frz_var e
          exact ⟨rfl, fun y L h => by simp at h⟩
        | arr k l z =>
          obtain ⟨z', rfl⟩ := frz_arr e
          refine ⟨rfl, fun y L h => ?_⟩
          simp only [Option.some.injEq, Prod.mk.injEq] at h
          rw [← h.2]
          intro n' hn'
          rw [List.mem_singleton.1 hn']; exact ho.loc
    case ptr n e o =>
      simp only [conv, idxN]
      cases hx : h n with
      | none => rw [ha.none ho.ptr hx]; exact ⟨rfl, fun y L h => by simp at h⟩
      | some b =>
        obtain ⟨b', hb', e'⟩ := ha.some ho.ptr hx
        rw [hb']
        have hbo := hb n b ho.ptr hx
        cases b with
        | var c z =>
          obtain ⟨z', rfl⟩ := frz_var e'
          have hl := lists true c hbo
          simp only [hl.1, true_and]
          intro y L h
          cases hm : mapO (conv h' m [] true) c with
          | none => rw [hm] at h; simp at h
          | some q =>
            rw [hm] at h
            simp only [Option.map_some, Option.some.injEq, Prod.mk.injEq] at h
            rw [← h.2]
            intro n' hn'
            rcases List.mem_cons.1 hn' with rfl | hn'
            · exact ho.ptr
            · exact hl.2 q.1 q.2 (by rw [hl.1, hm]) n' hn'
        | arr k l z =>
          obtain ⟨z', rfl⟩ := frz_arr e'
          refine ⟨rfl, fun y L h => ?_⟩
          simp only [Option.some.injEq, Prod.mk.injEq] at h
          rw [← h.2]
          intro n' hn'
          rw [List.mem_singleton.1 hn']; exact ho.ptr
    all_goals
      rename_i cs
      have hl := lists c cs (by first | exact ho.fn | exact ho.agg | exact ho.tup)
      simp only [conv, hl.1, true_and]
      intro y L h
      cases hm : mapO (conv h' m [] c) cs with
      | none => rw [hm] at h; simp at h
      | some q =>
        rw [hm] at h
        simp only [Option.map_some, Option.some.injEq, Prod.mk.injEq] at h
        rw [← h.2]
        exact hl.2 q.1 q.2 (by rw [hl.1, hm])

mutual
theorem rn_has (φ : Name → Option Name) (n : Name) (hφ : ∀ m, φ m ≠ some n) : ∀ x : AV, (rn φ x).has n = false
  | .v _ => rfl
  | .sl _ _ => rfl
  | .ro _ => rfl
  | .junk => rfl
  | .loc m off len => by
    simp only [rn]
    cases hm : φ m with
    | none => rfl
    | some m' =>
      simp only [AV.has, decide_eq_false_iff_not]
      rintro rfl; exact hφ m hm
  | .ptr m e c => by
    simp only [rn]
    cases hm : φ m with
    | none => rfl
    | some m' =>
      simp only [AV.has, decide_eq_false_iff_not]
      rintro rfl; exact hφ m hm
  | .fn f c => by simp only [rn, AV.has]; exact rnL_has φ n hφ c
  | .agg c => by simp only [rn, AV.has]; exact rnL_has φ n hφ c
  | .tup c => by simp only [rn, AV.has]; exact rnL_has φ n hφ c
theorem rnL_has (φ : Name → Option Name) (n : Name) (hφ : ∀ m, φ m ≠ some n) : ∀ c : List AV, hasL n (rnL φ c) = false
  | [] => rfl
  | x :: r => by simp only [rnL, hasL, rn_has φ n hφ x, rnL_has φ n hφ r, Bool.or_self]
end
end Go.Vs

namespace Go.Vs
set_option linter.unusedSectionVars false
variable [Envs]
variable {P : Program} {C : Ctx} {a : Act} {w : World} {S : Nat → Prop} {ρ : Name → Option Nat} {κ : Name → Nat}

structure Dl where
  v : AV
  nb : List (Name × Blk)
  fz : Bool
  L : List Name
  nn : Name → Prop

def app (d : Option Nat) (δ : Dl) (σ : FSt) : FSt :=
  ⟨upd σ.s d δ.v, fun m => (hlook δ.nb m).or ((σ.h m).map fun b => if δ.fz = true ∧ m ∈ δ.L then frz b else b)⟩

/-- constants in an operation's own cells -/
def isV : AV → Bool
  | .v _ => true
  | _ => false

def okZ : AOp → Bool
  | .build z _ => z.all isV
  | .alloc z => z.all isV
  | .bslice _ _ z _ => z.all isV
  | .mk _ _ z _ => z.all isV
  | _ => true

/-- The operations whose order may be open. -/
def freeA : AOp → Bool
  | .call _ _ bor => bor.isEmpty
  | .store .. | .append .. | .appendC .. | .bsliceC .. | .clr .. => false
  | op => okZ op

theorem allV_nm {p : Name → Prop} {z : List AV} (h : z.all isV = true) : NmL p z := by
  intro x hx
  have := List.all_eq_true.1 h x hx
  cases x <;> simp [isV] at this
  exact .v _ _
theorem allV_off {N : Name → Prop} {z : List AV} (h : z.all isV = true) : OffL N z := by
  refine OffL.of_mem fun x hx => ?_
  have := List.all_eq_true.1 h x hx
  cases x <;> simp [isV] at this
  exact Off.v _

inductive Eff (P : Program) (d : Option Nat) (op : AOp) (σ : FSt) : Dl → Prop
  | rd (v : AV) (h1 : isRd op = true) (h2 : ∀ K : AV → Prop, K v → Vs.rd (evO σ.s) σ.h K op)
      (h3 : ∀ p : Name → Prop, (∀ o, o ∈ opnds op → Nm p (evO σ.s o)) → (∀ n b, p n → σ.h n = some b → NmB p b) → Nm p v) : Eff P d op σ ⟨v, [], false, [], fun _ => False⟩
  | al (d' : Nat) (hd : d = some d') (v : AV) (b : Blk) (h1 : ∀ K : AV → Blk → Prop, K v b → Vs.al (evO σ.s) σ.h (.t d' 0) K op) (hf : FreshF (.t d' 0) σ) (hn : b.has (.t d' 0) = false)
      (h2 : ∀ N : Name → Prop, ¬ N (.t d' 0) → Off N v) (h3 : ∀ N : Name → Prop, (∀ o, o ∈ opnds op → Off N (evO σ.s o)) → OffB N b) : Eff P d op σ ⟨v, [(.t d' 0, b)], false, [], fun n => n = .t d' 0⟩
  | call (d' : Nat) (hd : d = some d') (f : Operand) (args : List Operand) (hop : op = .call f args []) (g : FuncId) (caps : List AV) (hg : evO σ.s f = .fn g caps) (ys : List AV) (L : List Name)
      (hm : mapO (conv σ.h 8 [] false) (args.map (evO σ.s) ++ caps) = some (ys, L)) (r : AV) (hout : List (Option Blk)) (fz : Bool) (hfn : Fn P g [] ys r hout)
      (hflat : fz = false → (L = [] ∨ (flat r = true ∧ ∀ b, some b ∈ hout → flatB b))) (hfr : ∀ j, j < hout.length → FreshF (.t d' j) σ) :
      Eff P d op σ ⟨rn (phi [] d' hout.length) r, newsL (rnB (phi [] d' hout.length)) d' 0 0 hout, fz, L, fun n => ∃ j, j < hout.length ∧ n = .t d' j⟩

/-- The state says each thing once. -/
def Canon (σ : St) : Prop := (∀ p, p ∈ σ.s → look σ.s p.1 = p.2) ∧ ∀ p, p ∈ σ.h → hlook σ.h p.1 = some p.2

def dedS : List (Nat × AV) → List (Nat × AV)
  | [] => []
  | (i, x) :: r => (i, x) :: (dedS r).filter fun p => !decide (p.1 = i)
def dedH : List (Name × Blk) → List (Name × Blk)
  | [] => []
  | (i, x) :: r => (i, x) :: (dedH r).filter fun p => !decide (p.1 = i)

theorem look_filter (i : Nat) : ∀ (s : List (Nat × AV)) (t : Nat), t ≠ i → look (s.filter fun p => !decide (p.1 = i)) t = look s t
  | [], _, _ => rfl
  | (j, x) :: r, t, ht => by
    by_cases hj : j = i
    · simp only [List.filter_cons, hj, decide_true, Bool.not_true, Bool.false_eq_true, if_false, look, ht, look_filter i r t ht]
    · simp only [List.filter_cons, hj, decide_false, Bool.not_false, if_true, look, look_filter i r t ht]
theorem hlook_filter (i : Name) : ∀ (s : List (Name × Blk)) (t : Name), t ≠ i → hlook (s.filter fun p => !decide (p.1 = i)) t = hlook s t
  | [], _, _ => rfl
  | (j, x) :: r, t, ht => by
    by_cases hj : j = i
    · simp only [List.filter_cons, hj, decide_true, Bool.not_true, Bool.false_eq_true, if_false, hlook, ht, hlook_filter i r t ht]
    · simp only [List.filter_cons, hj, decide_false, Bool.not_false, if_true, hlook, hlook_filter i r t ht]

theorem dedS_spec : ∀ s : List (Nat × AV), look (dedS s) = look s ∧ ∀ p, p ∈ dedS s → look (dedS s) p.1 = p.2
  | [] => ⟨rfl, by simp [dedS]⟩
  | (i, x) :: r => by
    obtain ⟨h1, h2⟩ := dedS_spec r
    have e : look (dedS ((i, x) :: r)) = look ((i, x) :: r) := by
      funext t
      simp only [dedS, look]
      split
      · rfl
      · rename_i ht
        rw [look_filter i _ _ ht, h1]
    refine ⟨e, fun p hp => ?_⟩
    simp only [dedS, List.mem_cons, List.mem_filter, Bool.not_eq_true', decide_eq_false_iff_not] at hp
    rcases hp with rfl | ⟨hp, hne⟩
    · simp [dedS, look]
    · simp only [dedS, look, hne, if_false]
      rw [look_filter i _ _ hne]
      exact h2 p hp
theorem dedH_spec : ∀ s : List (Name × Blk), hlook (dedH s) = hlook s ∧ ∀ p, p ∈ dedH s → hlook (dedH s) p.1 = some p.2
  | [] => ⟨rfl, by simp [dedH]⟩
  | (i, x) :: r => by
    obtain ⟨h1, h2⟩ := dedH_spec r
    have e : hlook (dedH ((i, x) :: r)) = hlook ((i, x) :: r) := by
      funext t
      simp only [dedH, hlook]
      split
      · rfl
      · rename_i ht
        rw [hlook_filter i _ _ ht, h1]
    refine ⟨e, fun p hp => ?_⟩
    simp only [dedH, List.mem_cons, List.mem_filter, Bool.not_eq_true', decide_eq_false_iff_not] at hp
    rcases hp with rfl | ⟨hp, hne⟩
    · simp [dedH, hlook]
    · simp only [dedH, hlook, hne, if_false]
      rw [hlook_filter i _ _ hne]
      exact h2 p hp

def canon (σ : St) : St := ⟨dedS σ.s, dedH σ.h⟩
theorem canon_f (σ : St) : (canon σ).f = σ.f := by simp only [canon, St.f, (dedS_spec σ.s).1, (dedH_spec σ.h).1]
theorem canon_ok (σ : St) : Canon (canon σ) := ⟨(dedS_spec σ.s).2, (dedH_spec σ.h).2⟩

theorem freshL_of {n : Name} {σ : St} (hc : Canon σ) (hn : n.isT = true) (hf : FreshF n σ.f) : freshL n σ = true := by
  simp only [freshL, Bool.and_eq_true, List.all_eq_true, Bool.not_eq_true', decide_eq_false_iff_not]
  refine ⟨⟨hn, fun p hp => ?_⟩, fun p hp => ⟨?_, ?_⟩⟩
  · rw [← hc.1 p hp]; exact hf.2.1 p.1
  · intro e
    have h1 := hf.1.1
    have h2 := hc.2 p hp
    rw [e] at h2
    simp only [St.f] at h1
    rw [h1] at h2; cases h2
  · exact hf.2.2 p.1 p.2 (hc.2 p hp)

theorem stepA_rd {op : AOp} (h : isRd op = true) {d : Option Nat} {σ : St} {K : St → Prop} : stepA P d σ K op ↔ rd (evO (look σ.s)) (hlook σ.h) (fun v => K ⟨put d v σ.s, σ.h⟩) op := by
  cases op <;> first | rfl | simp [isRd] at h

theorem app_rd {d : Option Nat} {σ : St} {v : AV} {nn : Name → Prop} : (St.mk (put d v σ.s) σ.h).f = app d ⟨v, [], false, [], nn⟩ σ.f := by
  simp only [St.f, app, look_put, hlook, Option.none_or, Bool.false_eq_true, false_and, if_false]
  congr 1
  funext m
  cases hlook σ.h m <;> rfl

theorem app_al {d : Nat} {σ : St} {v : AV} {b : Blk} {n : Name} {nn : Name → Prop} : (St.mk ((d, v) :: σ.s) ((n, b) :: σ.h)).f = app (some d) ⟨v, [(n, b)], false, [], nn⟩ σ.f := by
  simp only [St.f, app, Bool.false_eq_true, false_and, if_false]
  congr 1
  funext m
  simp only [hlook]
  by_cases hm : m = n
  · simp [hm]
  · simp only [hm, if_false, Option.none_or]
    cases hlook σ.h m <;> rfl

theorem app_call {d : Nat} {σ : St} {v : AV} {hout : List (Option Blk)} {fz : Bool} {L : List Name} {nn : Name → Prop} :
    (St.mk ((d, v) :: σ.s) (aftL σ.h [] d hout fz L)).f = app (some d) ⟨v, newsL (rnB (phi [] d hout.length)) d 0 0 hout, fz, L, nn⟩ σ.f := by
  simp only [St.f, app]
  congr 1
  funext m
  unfold aftL
  rw [hlook_append]
  simp only [List.length_nil]
  congr 1
  rw [hlook_olds _ (fun m b b' h => by simp [aftF, idxN] at h)]
  cases hlook σ.h m with
  | none => rfl
  | some b => simp [aftF, idxN]

theorem eff_of_step {d : Option Nat} {σ : St} {K : St → Prop} {op : AOp} (hfree : freeA op = true) (hd : isRd op = true ∨ d.isSome = true) (hv : stepA P d σ K op) :
    ∃ δ, Eff P d op σ.f δ ∧ ∃ σ' : St, σ'.f = app d δ σ.f ∧ K σ' := by
  by_cases hr : isRd op = true
  · rw [stepA_rd hr] at hv
    obtain ⟨x, h1, h2, h3⟩ := rd_point hv
    refine ⟨_, .rd x hr h2 (fun p ho hb => h3 p (fun z ps e => ?_) ho hb), _, app_rd, h1⟩
    subst e
    exact allV_nm (by simpa [freeA, okZ] using hfree)
  · have hd := hd.resolve_left hr
    obtain ⟨d', rfl⟩ := Option.isSome_iff_exists.1 hd
    have alc : ∀ {op : AOp}, freeA op = true → al (evO (look σ.s)) (hlook σ.h) (.t d' 0) (fun v b => (freshL (.t d' 0) σ = true ∧ b.has (.t d' 0) = false) ∧ K ⟨(d', v) :: σ.s, (.t d' 0, b) :: σ.h⟩) op →
        ∃ δ, Eff P (some d') op σ.f δ ∧ ∃ σ' : St, σ'.f = app (some d') δ σ.f ∧ K σ' := by
      intro op hfree hv
      obtain ⟨x, b, ⟨⟨h1, h2⟩, h3⟩, h4, h5, h6⟩ := al_point hv
      refine ⟨_, .al d' rfl x b h4 (freshL_spec h1) h2 h5 (fun N ho => h6 N (fun z e => ?_) ho), _, app_al, h3⟩
      subst e
      exact allV_off (by simpa [freeA, okZ] using hfree)
    cases op
    case box x => exact alc hfree hv
    case alloc z => exact alc hfree hv
    case bslice k m z ps => exact alc hfree hv
    case mk k y z n => exact alc hfree hv
    case call f args bor =>
      simp only [freeA, List.isEmpty_iff] at hfree
      subst hfree
      simp only [stepA, callL] at hv
      split at hv
      · rename_i g caps hg
        have hB : borN σ.h (args.map (evO (look σ.s))) [] = [] := rfl
        rw [hB] at hv
        split at hv
        · rename_i ys L1 hin L2 h1 h2
          simp only [blksO, Option.some.injEq, Prod.mk.injEq] at h2
          obtain ⟨rfl, rfl⟩ := h2
          obtain ⟨_, r, hout, fz, hfn, hflat, hfr, hK⟩ := hv
          simp only [List.append_nil, Option.getD_some, List.length_nil] at hflat hfr hK
          have hfr' : ∀ j, j < hout.length → FreshF (.t d' j) σ.f := by
            intro j hj
            simp only [freshAll, List.all_eq_true, List.mem_range] at hfr
            have := hfr j hj
            simp only [Nat.not_lt_zero, decide_false, Bool.false_or] at this
            exact freshL_spec this
          exact ⟨_, .call d' rfl f args rfl g caps hg ys L1 h1 r hout fz hfn hflat hfr', _, app_call, hK⟩
        · exact hv.elim
      · exact hv.elim
    all_goals first | (simp [freeA] at hfree; done) | (simp [isRd] at hr; done)

theorem step_of_eff {d : Option Nat} {σ : St} {op : AOp} {δ : Dl} (hc : Canon σ) (he : Eff P d op σ.f δ) : stepA P d σ (fun σ' => σ'.f = app d δ σ.f) op := by
  cases he with
  | rd v h1 h2 h3 =>
    rw [stepA_rd h1]
    exact h2 _ app_rd
  | al d' hd v b h1 hf hn h2 h3 =>
    subst hd
    have hfl := freshL_of hc rfl hf
    have := h1 (fun v b => (freshL (.t d' 0) σ = true ∧ b.has (.t d' 0) = false) ∧ (St.mk ((d', v) :: σ.s) ((.t d' 0, b) :: σ.h)).f = app (some d') ⟨v, [(.t d' 0, b)], false, [], fun n => n = .t d' 0⟩ σ.f) ⟨⟨hfl, hn⟩, app_al⟩
    cases op <;> first
      | exact this.elim
      | (simp only [stepA]
         exact h1 _ ⟨⟨hfl, hn⟩, app_al⟩)
  | call d' hd f args hop g caps hg ys L hm r hout fz hfn hflat hfr =>
    subst hd; subst hop
    simp only [stepA, callL]
    have hg' : evO (look σ.s) f = .fn g caps := hg
    have hm' : mapO (conv (hlook σ.h) 8 [] false) (args.map (evO (look σ.s)) ++ caps) = some (ys, L) := hm
    have hB : borN σ.h (args.map (evO (look σ.s))) [] = [] := rfl
    rw [hg', hB]
    simp only [hm', blksO]
    refine ⟨rfl, r, hout, fz, hfn, by simpa using hflat, ?_, ?_⟩
    · simp only [freshAll, List.all_eq_true, List.mem_range]
      intro j hj
      simp only [Option.getD_some, freshL_of hc rfl (hfr j hj), Bool.or_true]
    · simp only [List.append_nil, Option.getD_some, List.length_nil]
      exact app_call
end Go.Vs
