/- Operations whose order is open: effects, and that two of them may change places. -/
import Derived.Test.YthpokkcbbpapdaaVsT
namespace Go.Vs
variable {P : Program} {C : Ctx} {a : Act} {w : World} {S : Nat → Prop} {ρ : Name → Option Nat} {κ : Name → Nat}
variable {N : Name → Prop} {h h' : Name → Option Blk} {ev ev' : Operand → AV}

theorem al_agr {n : Name} (ha : Agr N h h') {op : AOp} {K : AV → Blk → Prop} (hz : ∀ z, op = .alloc z → OffL N z) (hz2 : ∀ k m z ps, op = .bslice k m z ps → OffL N z) (hz3 : ∀ k m z x, op = .mk k m z x → OffL N z)
    (he : ∀ o, o ∈ opnds op → ev o = ev' o ∧ Off N (ev o)) (hk : al ev h n K op) : al ev' h' n K op := by
  cases op
  case box x =>
    have ⟨e1, e2⟩ := he x (by simp [opnds])
    simp only [al, ← e1, ← cellsO_agr ha e2] at hk ⊢
    exact hk
  case alloc z =>
    simp only [al] at hk ⊢
    rw [← all_congr (p := fun x => oneB h x && isClo x) fun x hx => by rw [oneB_agr ha ((hz z rfl).mem x hx)]]
    exact hk
  case bslice k m z ps =>
    simp only [al] at hk ⊢
    rw [← all_congr (p := oneB h) fun x hx => oneB_agr ha ((hz2 k m z ps rfl).mem x hx)]
    refine ⟨hk.1, layAll_agr ha (fun p hp => ?_) hk.2⟩
    obtain ⟨q, hq, rfl⟩ := List.mem_map.1 hp
    exact he _ (by simp only [opnds, List.mem_map]; exact ⟨q, hq, rfl⟩)
  case mk k y z x =>
    have ⟨e1, e2⟩ := he x (by simp [opnds])
    simp only [al, ← e1] at hk ⊢
    split at hk
    · rw [← all_congr (p := fun x => oneB h x && isClo x) fun x hx => by rw [oneB_agr ha ((hz3 k y z _ rfl).mem x hx)]]
      exact hk
    · exact hk.elim
  all_goals exact hk.elim

theorem al_point {n : Name} {op : AOp} {K : AV → Blk → Prop} (hk : al ev h n K op) : ∃ x b, K x b ∧ (∀ K' : AV → Blk → Prop, K' x b → al ev h n K' op) ∧
    (∀ N : Name → Prop, ¬ N n → Off N x) ∧ ∀ N : Name → Prop, (∀ z, op = .alloc z → OffL N z) → (∀ o, o ∈ opnds op → Off N (ev o)) → OffB N b := by
  cases op
  case box x =>
    simp only [al] at hk ⊢
    split at hk
    · rename_i c hc
      exact ⟨_, _, hk, fun _ h => h, fun N hn => Off.mk_ptr hn, fun N _ ho m hm => cellsO_off (ho x (by simp [opnds])) hc m hm⟩
    · exact hk.elim
  case alloc z =>
    simp only [al] at hk ⊢
    exact ⟨_, _, hk.2, fun _ h => ⟨hk.1, h⟩, fun N hn => Off.mk_ptr hn, fun N hz _ m hm => hz z rfl m hm⟩
  case bslice k m z ps =>
    simp only [al] at hk ⊢
    obtain ⟨c, ⟨h1, h2⟩, h3⟩ := layAll_point hk.2
    refine ⟨_, _, h2, fun K' h => ⟨hk.1, layAll_mono (fun c' hc' => ?_) h3⟩, fun N hn => Off.mk_loc hn, fun N _ _ m hm => rfl⟩
    rw [hc']; exact ⟨h1, h⟩
  case mk k y z x =>
    simp only [al] at hk ⊢
    split at hk
    · exact ⟨_, _, hk.2, fun _ h => ⟨hk.1, h⟩, fun N hn => Off.mk_loc hn, fun N _ _ m hm => rfl⟩
    · exact hk.elim
  all_goals exact hk.elim

theorem mapO_agr {f g : AV → Option (AV × List Name)} : ∀ {c : List AV}, (∀ x, x ∈ c → f x = g x) → mapO f c = mapO g c
  | [], _ => rfl
  | x :: r, hh => by simp only [mapO, hh x (by simp), mapO_agr (c := r) fun y hy => hh y (by simp [hy])]

theorem mapO_names {f : AV → Option (AV × List Name)} (p : Name → Prop) : ∀ {c c' : List AV} {L : List Name}, (∀ x, x ∈ c → ∀ y L, f x = some (y, L) → ∀ n, n ∈ L → p n) → mapO f c = some (c', L) → ∀ n, n ∈ L → p n
  | [], c', L, _, hm, n, hn => by
    simp only [mapO, Option.some.injEq, Prod.mk.injEq] at hm
    rw [← hm.2] at hn; cases hn
  | x :: r, c', L, hh, hm, n, hn => by
    simp only [mapO] at hm
    split at hm
    · rename_i y L1 ys L2 h1 h2
      simp only [Option.some.injEq, Prod.mk.injEq] at hm
      rw [← hm.2] at hn
      rcases List.mem_append.1 hn with hn | hn
      · exact hh x (by simp) y L1 h1 n hn
      · exact mapO_names p (fun z hz => hh z (by simp [hz])) h2 n hn
    · cases hm

theorem conv_agr (ha : Agr N h h') (hb : ∀ n b, ¬ N n → h n = some b → OffB N b) : ∀ (m : Nat) (c : Bool) (x : AV), Off N x → conv h m [] c x = conv h' m [] c x ∧ ∀ y L, conv h m [] c x = some (y, L) → ∀ n, n ∈ L → ¬ N n := by
  intro m
  induction m with
  | zero => intro c x _; exact ⟨rfl, fun y L h => by simp [conv] at h⟩
  | succ m ih =>
    intro c x ho
    have lists : ∀ (c : Bool) (cs : List AV), OffL N cs → mapO (conv h m [] c) cs = mapO (conv h' m [] c) cs ∧ ∀ ys L, mapO (conv h m [] c) cs = some (ys, L) → ∀ n, n ∈ L → ¬ N n := fun c cs hcs =>
      ⟨mapO_agr fun x hx => (ih c x (hcs.mem x hx)).1, fun ys L hm => mapO_names (fun n => ¬ N n) (fun x hx y L hc => (ih c x (hcs.mem x hx)).2 y L hc) hm⟩
    cases x
    case junk => exact ⟨rfl, fun y L h => by simp only [conv] at h; split at h <;> simp at h; rw [h.2]; simp⟩
    case v x => exact ⟨rfl, fun y L h => by simp only [conv, Option.some.injEq, Prod.mk.injEq] at h; rw [← h.2]; simp⟩
    case sl k l => exact ⟨rfl, fun y L h => by simp only [conv, Option.some.injEq, Prod.mk.injEq] at h; rw [← h.2]; simp⟩
    case ro c => exact ⟨rfl, fun y L h => by simp only [conv, Option.some.injEq, Prod.mk.injEq] at h; rw [← h.2]; simp⟩
    case loc n off len =>
      simp only [conv, idxN]
      cases hx : h n with
      | none => rw [ha.none ho.loc hx]; exact ⟨rfl, fun y L h => by simp at h⟩
      | some b =>
        obtain ⟨b', hb', e⟩ := ha.some ho.loc hx
        rw [hb']
        cases b with
        | var c z =>
          obtain ⟨z', rfl⟩ := frz_var e
          exact ⟨rfl, fun y L h => by simp at h⟩
        | arr k l z =>
          obtain ⟨z', rfl⟩ := frz_arr e
          refine ⟨rfl, fun y L h => ?_⟩
          simp only [Option.some.injEq, Prod.mk.injEq] at h
          rw [← h.2]
          intro n' hn'
          rw [List.mem_singleton.1 hn']; exact ho.loc
    case ptr n e o =>
      simp only [conv, idxN]
      cases hx : h n with
      | none => rw [ha.none ho.ptr hx]; exact ⟨rfl, fun y L h => by simp at h⟩
      | some b =>
        obtain ⟨b', hb', e'⟩ := ha.some ho.ptr hx
        rw [hb']
        have hbo := hb n b ho.ptr hx
        cases b with
        | var c z =>
          obtain ⟨z', rfl⟩ := frz_var e'
          have hl := lists true c hbo
          simp only [hl.1, true_and]
          intro y L h
          cases hm : mapO (conv h' m [] true) c with
          | none => rw [hm] at h; simp at h
          | some q =>
            rw [hm] at h
            simp only [Option.map_some, Option.some.injEq, Prod.mk.injEq] at h
            rw [← h.2]
            intro n' hn'
            rcases List.mem_cons.1 hn' with rfl | hn'
            · exact ho.ptr
            · exact hl.2 q.1 q.2 (by rw [hl.1, hm]) n' hn'
        | arr k l z =>
          obtain ⟨z', rfl⟩ := frz_arr e'
          refine ⟨rfl, fun y L h => ?_⟩
          simp only [Option.some.injEq, Prod.mk.injEq] at h
          rw [← h.2]
          intro n' hn'
          rw [List.mem_singleton.1 hn']; exact ho.ptr
    all_goals
      rename_i cs
      have hl := lists c cs (by first | exact ho.fn | exact ho.agg | exact ho.tup)
      simp only [conv, hl.1, true_and]
      intro y L h
      cases hm : mapO (conv h' m [] c) cs with
      | none => rw [hm] at h; simp at h
      | some q =>
        rw [hm] at h
        simp only [Option.map_some, Option.some.injEq, Prod.mk.injEq] at h
        rw [← h.2]
        exact hl.2 q.1 q.2 (by rw [hl.1, hm])

mutual
theorem rn_has (φ : Name → Option Name) (n : Name) (hφ : ∀ m, φ m ≠ some n) : ∀ x : AV, (rn φ x).has n = false
  | .v _ => rfl
  | .sl _ _ => rfl
  | .ro _ => rfl
  | .junk => rfl
  | .loc m off len => by
    simp only [rn]
    cases hm : φ m with
    | none => rfl
    | some m' =>
      simp only [AV.has, decide_eq_false_iff_not]
      rintro rfl; exact hφ m hm
  | .ptr m e c => by
    simp only [rn]
    cases hm : φ m with
    | none => rfl
    | some m' =>
      simp only [AV.has, decide_eq_false_iff_not]
      rintro rfl; exact hφ m hm
  | .fn f c => by simp only [rn, AV.has]; exact rnL_has φ n hφ c
  | .agg c => by simp only [rn, AV.has]; exact rnL_has φ n hφ c
  | .tup c => by simp only [rn, AV.has]; exact rnL_has φ n hφ c
theorem rnL_has (φ : Name → Option Name) (n : Name) (hφ : ∀ m, φ m ≠ some n) : ∀ c : List AV, hasL n (rnL φ c) = false
  | [] => rfl
  | x :: r => by simp only [rnL, hasL, rn_has φ n hφ x, rnL_has φ n hφ r, Bool.or_self]
end
end Go.Vs
