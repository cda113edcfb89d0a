/- What is held of the marks of a deck. -/
import Derived.Test.YtokfhfdnmnblfaaYwMc
import Derived.Test.YtokfhfdnmnblfaaYwMa
import Derived.Test.YtokfhfdnmnblfaaYwMd
import Derived.Test.YtokfhfdnmnblfaaYwSy
import Derived.Test.YtokfhfdnmnblfaaVuF
import Derived.Test.YtokfhfdnmnblfaaYwC
namespace Go.Proofs.Ytokfhfdnmnblfaa
open Go.Vs
set_option linter.unusedSectionVars false
variable [Vs.Envs]
set_option linter.unusedSimpArgs false
set_option linter.unusedVariables false
attribute [local irreducible] Vs.Fn pun cmT flt fltV zR chOK areCh chTo chAt l03 chB rk cd3 chI stp stpTo
theorem slc_of {w : World} {l : List (List Int)} {v : Value} {m : Vs.Mem} (hd : Vs.Dk w (l.map (E cI)) v m) : ∃ lv : List Slc, lv.map Prod.snd = l ∧ m.ss = lv.map slV := by
  have hl : l.length = m.ss.length := by simpa using hd.rows.len
  have hs : ∀ s, s ∈ m.ss → ∃ b n c, s = .slice b n c := fun s hs => by
    obtain ⟨i, hi, rfl⟩ := List.mem_iff_getElem.1 hs
    have := (hd.rows.row i hi).loc 1 _ false rfl
    obtain ⟨_, b, c, e, _⟩ := this
    exact ⟨_, _, _, by simpa [hi] using e⟩
  generalize m.ss = ss at hl hs
  clear hd
  induction l generalizing ss with
  | nil => exact ⟨[], rfl, by simpa using hl.symm⟩
  | cons x r ih =>
    cases ss with
    | nil => simp at hl
    | cons s t =>
      obtain ⟨b, n, c, rfl⟩ := hs s List.mem_cons_self
      obtain ⟨lv, g1, g2⟩ := ih t (by simpa using hl) fun s h => hs s (List.mem_cons_of_mem _ h)
      exact ⟨((b, n, c), x) :: lv, by simp [g1], by simp [g2, slV]⟩
theorem ownL_flt (q : Slc → Bool) {S : Nat → Prop} {w : World} {lv : List Slc} {xs : Nat → Option Nat} {cs : Nat → Nat} (h : Vs.OwnL S w 1 (lv.map fun x => E cI x.2) (lv.map slV) xs cs) :
    ∀ n, n ≤ lv.length → ∃ xs' cs', Vs.OwnL S w 1 ((fltV q (lv.take n)).map fun x => E cI x.2) ((fltV q (lv.take n)).map slV) xs' cs' ∧ ∀ i b, i < (fltV q (lv.take n)).length → xs' i = some b → ∃ j, j < n ∧ xs j = some b
  | 0, _ => ⟨fun _ => none, fun _ => 0, by
      have e : fltV q (lv.take 0) = [] := by simp [fltV]
      rw [e]
      exact ⟨⟨rfl, by simp, by simp⟩, by simp⟩⟩
  | n + 1, hn => by
    obtain ⟨xs', cs', h1, h2⟩ := ownL_flt q h n (by omega)
    rw [fltV_succ (show n < lv.length by omega)]
    cases hq : q lv[n]
    · simp only [Bool.false_eq_true, if_false, List.map_append, List.map_cons, List.map_nil]
      have hr := h.row n (by rw [List.length_map]; omega)
      have e1 : (lv.map fun x => E cI x.2).getD n [] = E cI lv[n].2 := by simp [show n < lv.length by omega]
      have e2 : (lv.map slV).getD n undef = slV lv[n] := by simp [show n < lv.length by omega]
      rw [e1, e2] at hr
      have h3 := h1.snoc hr (fun i b hi hb e => by
        obtain ⟨j, hj, hjb⟩ := h2 i b (by simpa using hi) hb
        have := h.dif j n b (by simp; omega) (by simp; omega) hjb e
        omega)
      refine ⟨_, _, h3, fun i b hi hb => ?_⟩
      simp only [List.length_map] at hb
      simp only [List.length_append, List.length_singleton] at hi
      split at hb
      · exact ⟨n, by omega, hb⟩
      · obtain ⟨j, hj, hjb⟩ := h2 i b (by omega) hb
        exact ⟨j, by omega, hjb⟩
    · simp only [if_true, List.append_nil]
      exact ⟨xs', cs', h1, fun i b hi hb => by
        obtain ⟨j, hj, hjb⟩ := h2 i b hi hb
        exact ⟨j, by omega, hjb⟩⟩
theorem rowV_take (l : List Slc) (n : Nat) : (E cV l ++ zR n).take l.length = E cV l := by
  rw [List.take_append_of_le_length (by rw [E_len]; exact Nat.le_refl _)]
  exact List.take_of_length_le (by rw [E_len]; exact Nat.le_refl _)
theorem flatRow (l : List Slc) (n : Nat) : ∀ r, r ∈ E cV l ++ zR n → Vs.flatL r = true := fun r hr => by
  rcases List.mem_append.1 hr with h | h
  · obtain ⟨x, _, rfl⟩ := List.mem_map.1 h
    rfl
  · unfold zR at h
    rw [List.eq_of_mem_replicate h]
    rfl
theorem fltV_snd (q : List Int → Bool) (lv : List Slc) : (fltV (qV q) lv).map Prod.snd = flt q (lv.map Prod.snd) := by
  unfold fltV flt
  rw [List.filter_map]
  rfl
theorem has1 {f : FuncId} {fn : Func} {ac : ACode} (h : CodeIsR Try.prog f fn ac) : HasBody Try.prog f := Vs.CodeIsR.has h
set_option maxHeartbeats 1000000 in
theorem selectBetween_dk (l : List (List Int)) (fr to : Int) (s : ByteArray) (hk : smallC l) (hz : s.size ≤ 1048576) (h0 : selC fr to s l = 0) {S : Nat → Prop} {w : World} {vs : Array Value} (hS : ∀ b, S b → b < w.heap.size) (he : Env S w) (hvs : vs.size = 4) (hargs : ∀ j, j < 4 → RC S w (([.sl 1 (E cC l), .agg (cFd fr to), .v (.string s), .v (.string s)] : List AV).getD j .junk) (vs.getD j undef)) : Calls Try.prog F.impl_SelectBetween vs w (Vs.DkRes w ((flt (offT fr to s) l).map (E cI))) := by
  have CC := collateT fr to [l] ⟨by simp, fun d hd => by simp at hd; subst hd; exact hk⟩ [s, s] (by simp) (fun t ht => by simp at ht; subst ht; exact hz)
  rw [show colT fr to [s, s] [l] = selC fr to s l from rfl, h0] at CC
  obtain ⟨hd, hf, hsz, hch, hall⟩ := selC_ok h0
  have ho := okF_of hd hf
  have hsn : ∀ x, x ∈ l → s.size ≤ to.toNat - fr.toNat := fun x hx => by
    have hz2 : ((s.size : Int)) = W (to - fr) := by simpa using hsz
    obtain ⟨f0, f1, f2, f3⟩ := ho x hx
    rw [show W (to - fr) = to - fr from wrap_in (by omega) (by omega)] at hz2
    omega
  obtain ⟨h1, h2, _⟩ := Cd.impl_SelectBetween_ok
  obtain ⟨body, hb, hc⟩ := Option.bind_eq_some_iff.1 h2
  have hz : (Try.f80.body.map (zB Try.f80.ntmps (drawnG Try.prog))) = some true := by kernel_rfl
  rw [hb] at hz
  have hdr := drawn_ok Try.mixed
  refine Vs.Pt.calls (dr := drawnG Try.prog) (ac := Cd.impl_SelectBetween) h1 hb hc (by simpa using hz) (args := [.sl 1 (E cC l), .agg (cFd fr to), .v (.string s), .v (.string s)]) (by rw [Cd.impl_SelectBetween_nt]; exact Nat.le_of_ble_eq_true rfl) hS he hvs hargs fun C1 a hnt hw0 hS0 hp => ?_
  unfold Cd.impl_SelectBetween
  refine hp.go hdr hnt 2 _ (τ := ⟨[(0, .sl 1 (E cC l)), (5, .ptr (.t 5 0) 0 0), (6, .ptr (.t 6 0) 0 0), (7, .ptr (.t 7 0) 0 0)], [(.t 5 0, .var (cFd fr to) false), (.t 6 0, .var [.v (.string s)] false), (.t 7 0, .var [.v (.string s)] false)]⟩) (X := True) (E := fun _ _ => False) (fun p hp => by
      simp only [List.mem_cons, List.not_mem_nil, or_false] at hp
      rcases hp with rfl | rfl | rfl
      · exact ⟨rfl, rfl⟩
      · exact ⟨rfl, rfl⟩
      · exact ⟨rfl, rfl⟩) (fun C hC => ?_) (fun i σ h => h) (fun C a w hl hg => hg.no.elim) fun a1 w1 S1 p1 hp1 _ => ?_
  · simp -dsimp only [go_sem, reduceIte, reduceCtorEq, Nat.reduceEqDiff, Nat.reduceLT, Nat.reduceLeDiff, Nat.reduceAdd, Nat.reduceMul, Nat.reduceSub, Int.reduceToNat, Int.reduceNeg, cC, cFd, List.replicate_succ, List.replicate_zero, List.flatten_cons, List.flatten_nil, List.cons_append, List.nil_append, List.set_cons_zero, List.set_cons_succ, List.length_cons, List.length_nil, List.length_set]
    repeat' (first
      | (refine RgK.mk rfl ?_; simp -dsimp only [go_sem, reduceIte, reduceCtorEq, Nat.reduceEqDiff, Nat.reduceLT, Nat.reduceLeDiff, Nat.reduceAdd, Nat.reduceMul, Nat.reduceSub, Int.reduceToNat, Int.reduceNeg, cC, cFd, List.replicate_succ, List.replicate_zero, List.flatten_cons, List.flatten_nil, List.cons_append, List.nil_append, List.set_cons_zero, List.set_cons_succ, List.length_cons, List.length_nil, List.length_set])
      | (refine Br.mk (fun h => ?_) (fun h => ?_) <;> simp -dsimp only [go_sem, reduceIte, reduceCtorEq, Nat.reduceEqDiff, Nat.reduceLT, Nat.reduceLeDiff, Nat.reduceAdd, Nat.reduceMul, Nat.reduceSub, Int.reduceToNat, Int.reduceNeg, h, cC, cFd, List.replicate_succ, List.replicate_zero, List.flatten_cons, List.flatten_nil, List.cons_append, List.nil_append, List.set_cons_zero, List.set_cons_succ, List.length_cons, List.length_nil, List.length_set])
      | (refine CallK.flat (by first | exact CC) rfl ?_; simp -dsimp only [go_sem, reduceIte, reduceCtorEq, Nat.reduceEqDiff, Nat.reduceLT, Nat.reduceLeDiff, Nat.reduceAdd, Nat.reduceMul, Nat.reduceSub, Int.reduceToNat, Int.reduceNeg, cC, cFd, List.replicate_succ, List.replicate_zero, List.flatten_cons, List.flatten_nil, List.cons_append, List.nil_append, List.set_cons_zero, List.set_cons_succ, List.length_cons, List.length_nil, List.length_set])
      | (refine CallK.pure (by first | exact CC) ?_; simp -dsimp only [go_sem, reduceIte, reduceCtorEq, Nat.reduceEqDiff, Nat.reduceLT, Nat.reduceLeDiff, Nat.reduceAdd, Nat.reduceMul, Nat.reduceSub, Int.reduceToNat, Int.reduceNeg, cC, cFd, List.replicate_succ, List.replicate_zero, List.flatten_cons, List.flatten_nil, List.cons_append, List.nil_append, List.set_cons_zero, List.set_cons_succ, List.length_cons, List.length_nil, List.length_set])
      | (refine And.intro (by first | rfl | omega | decide | (refine ⟨?_, ?_⟩ <;> (first | rfl | omega | decide)) | (refine ⟨?_, ?_, ?_⟩ <;> (first | rfl | omega | decide)) | (refine ⟨?_, ?_, ?_, ?_⟩ <;> (first | rfl | omega | decide))) ?_; try simp -dsimp only [go_sem, reduceIte, reduceCtorEq, Nat.reduceEqDiff, Nat.reduceLT, Nat.reduceLeDiff, Nat.reduceAdd, Nat.reduceMul, Nat.reduceSub, Int.reduceToNat, Int.reduceNeg, cC, cFd, List.replicate_succ, List.replicate_zero, List.flatten_cons, List.flatten_nil, List.cons_append, List.nil_append, List.set_cons_zero, List.set_cons_succ, List.length_cons, List.length_nil, List.length_set])
      | fail)

    all_goals first | exact ⟨by simp [Vs.LeL, Vs.look, Vs.hlook], trivial⟩ | (simp [Vs.LeL, Vs.look, Vs.hlook]; done) | trace_state
  refine At.seq (At.rg (hp1.rg hnt (pre := [⟨some 21, .mv (.tmp 0), none⟩]) (post := ⟨some 22, .call (.func F.impl_newDeck) ([21].map .tmp) [], none⟩ :: [⟨some 23, .mkfn F.impl_SelectBetween_1 [(.tmp 5), (.tmp 6), (.tmp 7)], none⟩, ⟨some 24, .call (.func F.slices_DeleteFunc___impl_Card_impl_Card_) [(.tmp 22), (.tmp 23)] [0], none⟩, ⟨some 8, .mv (.tmp 24), none⟩, ⟨some 9, .mv (.const (.int .i64 (0))), none⟩]) (τ := ⟨(21, .sl 1 (E cC l)) :: [(5, .ptr (.t 5 0) 0 0), (6, .ptr (.t 6 0) 0 0), (7, .ptr (.t 7 0) 0 0)], [(.t 5 0, .var (cFd fr to) false), (.t 6 0, .var [.v (.string s)] false), (.t 7 0, .var [.v (.string s)] false)]⟩) (fun p hp => by
      simp only [List.mem_cons, List.not_mem_nil, or_false] at hp
      rcases hp with rfl | rfl | rfl
      · exact ⟨rfl, rfl⟩
      · exact ⟨rfl, rfl⟩
      · exact ⟨rfl, rfl⟩) ?_ fun a2 w2 S2 p2 hp2 => hp2.rgcall hnt (ts := [21]) (ys := [.sl 1 (E cC l)]) (has1 Cd.impl_newDeck_ok) rfl (fun i hi => by match i, hi with | 0, _ => rfl) (fun i hi => by match i, hi with | 0, _ => rfl) fun us hus hr => ?_))
  · simp -dsimp only [go_sem, reduceIte, reduceCtorEq, Nat.reduceEqDiff, Nat.reduceLT, Nat.reduceLeDiff, Nat.reduceAdd, Nat.reduceMul, Nat.reduceSub, Int.reduceToNat, Int.reduceNeg, cC, cFd, List.replicate_succ, List.replicate_zero, List.flatten_cons, List.flatten_nil, List.cons_append, List.nil_append, List.set_cons_zero, List.set_cons_succ, List.length_cons, List.length_nil, List.length_set]
    simp [Vs.LeL, Vs.look, Vs.hlook]
  have hr0 : RC S2 w2 (.sl 1 (E cC l)) (us.getD 0 undef) := hr 0 Nat.zero_lt_one
  obtain ⟨u0, rfl⟩ : ∃ u0, us = #[u0] := by
    obtain ⟨ul⟩ := us
    match ul, hus with
    | [u0], _ => exact ⟨u0, rfl⟩
  have hr1 : RC S2 w2 (.sl 1 (E cC l)) u0 := hr0
  refine (newDeck_dk l hk hp2.dom hp2.env hr1).mono ?_
  rintro e w3 ⟨v, rfl, hg, m, hd3, hn, c, ho3⟩
  refine ⟨v, rfl, ?_⟩
  have hw2 : w.heap.size ≤ w2.heap.size := by rw [← hw0]; exact hp2.size
  have hp3 := (hp2.grow hg (D := m.D) (fun b hb => ⟨hn b hb, hd3.lt b hb⟩) [(5, .ptr (.t 5 0) 0 0), (6, .ptr (.t 6 0) 0 0), (7, .ptr (.t 7 0) 0 0)] (fun p hp => by
      simp only [List.mem_cons, List.not_mem_nil, or_false] at hp
      rcases hp with rfl | rfl | rfl <;> exact ⟨rfl, .inl rfl⟩)).put (d := 22) (by rw [hnt, Cd.impl_SelectBetween_nt]; omega) v
  obtain ⟨lv, hlv, hss⟩ := slc_of hd3
  have hrow : (m.ss.map fun s => [AV.v s]) = E cV lv := by rw [hss, List.map_map]; rfl
  have hlen : lv.length = l.length := by rw [← hlv, List.length_map]
  rw [hrow] at ho3
  have hp4 := hp3.adopt (n := .t 22 0) rfl ho3 (fun b hb => ⟨by rw [hw0]; have := hn b (.inl hb); omega, .inr (.inl hb), fun h => by rw [hS0] at h; have := hS b h; have := hn b (.inl hb); omega⟩) (t := 22) rfl (fun p hp => by
      simp only [List.mem_cons, List.not_mem_nil, or_false] at hp
      rcases hp with rfl | rfl | rfl | rfl <;> rfl)
  rw [E_len] at hp4
  -- each card by its slice
  have hcard : ∀ x, x ∈ lv → ∀ (S' : Nat → Prop) (w' : World), @Vs.Env (Vs.keepE (fun b => (S2 b ∨ m.D b) ∧ m.x0 ≠ some b) w3) S' w' → RC S' w' (.sl 1 (E cI x.2)) (slV x) := fun x hx S' w' he' => by
    obtain ⟨i, hi, rfl⟩ := List.mem_iff_getElem.1 hx
    have hi' : i < m.ss.length := by rw [hss, List.length_map]; exact hi
    have hrw := (hd3.rows.row i hi').rc
    have e1 : (l.map (E cI)).getD i [] = E cI lv[i].2 := by rw [← hlv]; simp [hi]
    have e2 : m.ss.getD i undef = slV lv[i] := by rw [hss]; simp [hi]
    rw [e1, e2] at hrw
    refine Vs.keepE_known (fun b hb => hp4.dom b hb) he' (hrw.mono (fun b hb => ⟨.inr (.inr ⟨i, hi', hb⟩), fun e => (hd3.rows.row i hi').no hb e⟩) fun _ _ => rfl)
  have hD5 : ∀ (I' : Vs.Envs), I' = Vs.keepE (fun b => (S2 b ∨ m.D b) ∧ m.x0 ≠ some b) w3 → @Vs.Fn I' Try.prog F.slices_DeleteFunc___impl_Card_impl_Card_ [.arr 1 (E cV lv) false] [.loc (.b 0) 0 lv.length, .fn F.impl_SelectBetween_1 [.ro (cFd fr to), .ro [.v (.string s)], .ro [.v (.string s)]]] (.loc (.b 0) 0 (fltV (qV (offT fr to s)) lv).length) [some (.arr 1 (E cV (fltV (qV (offT fr to s)) lv) ++ zR (lv.length - (fltV (qV (offT fr to s)) lv).length)) false)] := fun I' hI' => by
    subst hI'
    letI I' := Vs.keepE (fun b => (S2 b ∨ m.D b) ∧ m.x0 ≠ some b) w3
    refine delV (qV (offT fr to s)) F.impl_SelectBetween_1 [.ro (cFd fr to), .ro [.v (.string s)], .ro [.v (.string s)]] rfl lv (by rw [hlen]; exact hk.1) fun x hx => ?_
    have hxl : x.2 ∈ l := by rw [← hlv]; exact List.mem_map.2 ⟨x, hx, rfl⟩
    refine Vs.Fn.knownR (sel1 x.2 fr to s (ho _ hxl) (hsn _ hxl)) rfl fun j hj => ?_
    match j, hj with
    | 0, _ =>
      refine .inr ⟨rfl, fun S' w' u he' hu => ?_⟩
      cases hu with
      | agg _ us hl2 hr2 =>
        refine .agg _ us hl2 fun j hj => ?_
        obtain rfl : j = 0 := by simpa [cC] using hj
        have h3 : RC S' w' (.v (.slice x.1.1 x.1.2.1 x.1.2.2)) (us.getD 0 undef) := hr2 0 (by simp [cV])
        rw [inv_v (ρ := fun _ => none) (κ := fun _ => 0) (h := fun _ => none) (.clo h3)]
        exact hcard x hx S' w' he'
    | 1, _ => exact .inl rfl
    | 2, _ => exact .inl rfl
    | 3, _ => exact .inl rfl
  have hD := hD5 _ rfl
  have hq := rowV_take (fltV (qV (offT fr to s)) lv) (lv.length - (fltV (qV (offT fr to s)) lv).length)
  have hql : (fltV (qV (offT fr to s)) lv).length ≤ lv.length := fltV_len ..
  have hfl := flatRow (fltV (qV (offT fr to s)) lv) (lv.length - (fltV (qV (offT fr to s)) lv).length)
  generalize hZ : zR (lv.length - (fltV (qV (offT fr to s)) lv).length) = Z at hD hq hfl
  letI I4 := Vs.keepE (fun b => (S2 b ∨ m.D b) ∧ m.x0 ≠ some b) w3
  refine hp4.rg (pre := [⟨some 23, .mkfn F.impl_SelectBetween_1 [(.tmp 5), (.tmp 6), (.tmp 7)], none⟩, ⟨some 24, .call (.func F.slices_DeleteFunc___impl_Card_impl_Card_) [(.tmp 22), (.tmp 23)] [0], none⟩, ⟨some 8, .mv (.tmp 24), none⟩, ⟨some 9, .mv (.const (.int .i64 (0))), none⟩]) (post := []) hnt (τ := ⟨[(8, .loc (.t 22 0) 0 (fltV (qV (offT fr to s)) lv).length), (9, .v (.int .i64 0))], [(.t 22 0, .arr 1 (E cV (fltV (qV (offT fr to s)) lv) ++ Z) false)]⟩) (fun p hp => by
      simp only [List.mem_cons, List.not_mem_nil, or_false] at hp
      subst hp
      exact ⟨hfl, rfl⟩) ?_ fun a5 w5 S5 p5 hp5 => RgL.nil ?_
  · simp -dsimp only [go_sem, reduceIte, reduceCtorEq, Nat.reduceEqDiff, Nat.reduceLT, Nat.reduceLeDiff, Nat.reduceAdd, Nat.reduceMul, Nat.reduceSub, Int.reduceToNat, Int.reduceNeg, cC, cFd, List.replicate_succ, List.replicate_zero, List.flatten_cons, List.flatten_nil, List.cons_append, List.nil_append, List.set_cons_zero, List.set_cons_succ, List.length_cons, List.length_nil, List.length_set, List.flatMap_cons, List.flatMap_nil, cellN, topN, nestN, List.getD_cons_zero, List.append_nil, List.mem_singleton, List.mem_cons, List.not_mem_nil, or_false, false_or, Vs.Name.t.injEq]
    refine ⟨rfl, CallK.borL hD rfl ?_⟩
    simp -dsimp only [go_sem, reduceIte, reduceCtorEq, Nat.reduceEqDiff, Nat.reduceLT, Nat.reduceLeDiff, Nat.reduceAdd, Nat.reduceMul, Nat.reduceSub, Int.reduceToNat, Int.reduceNeg, List.getElem?_cons_zero, List.drop_zero, E_len, List.length_append, cC, cFd, List.replicate_succ, List.replicate_zero, List.flatten_cons, List.flatten_nil, List.cons_append, List.nil_append, List.set_cons_zero, List.set_cons_succ, List.length_cons, List.length_nil, List.length_set]
    first | (simp [Vs.LeL, Vs.look, Vs.hlook]; done) | trace_state
  -- the end
  obtain ⟨hdf, u, x, hrun, hroot, hxx⟩ := hp5.resRow (fn := Try.f80) (n := .t 22 0) rfl hfl (c := .int .i64 0) (len := (fltV (qV (offT fr to s)) lv).length) (by
    show Vs.resL Try.prog _ _ [_, _]
    simp [Vs.resL, Vs.resV, Vs.look, Vs.oneOr])
  rw [hq] at hroot
  have hrl : (lv.map fun x => E cI x.2) = l.map (E cI) := by rw [← hlv, List.map_map]; rfl
  obtain ⟨xs', cs', hown, hsub⟩ := ownL_flt (qV (offT fr to s)) (S := fun _ => False) (w := w3) (lv := lv) (xs := m.xs) (cs := m.cs) (by rw [hrl, ← hss]; exact hd3.rows.mono (fun _ _ _ _ h => h) fun _ _ _ _ => rfl) lv.length (Nat.le_refl _)
  rw [List.take_length] at hown hsub
  have hin : ∀ i b, i < (fltV (qV (offT fr to s)) lv).length → xs' i = some b → (m.D b ∧ m.x0 ≠ some b) := fun i b hi hb => by
    obtain ⟨j, hj, hjb⟩ := hsub i b hi hb
    have hj' : j < m.ss.length := by rw [hss, List.length_map]; exact hj
    exact ⟨.inr ⟨j, hj', hjb⟩, fun e => (hd3.rows.row j hj').no hjb e⟩
  have hin5 : ∀ i b, i < (fltV (qV (offT fr to s)) lv).length → xs' i = some b → S5 b ∧ w5.heap[b]? = w3.heap[b]? := fun i b hi hb => by
    obtain ⟨g1, g2⟩ := hin i b hi hb
    exact ⟨p5.sub b ⟨.inr g1, g2⟩, p5.old b ⟨.inr g1, g2⟩⟩
  have hfs : ((fltV (qV (offT fr to s)) lv).map fun x => E cI x.2) = (flt (offT fr to s) l).map (E cI) := by
    rw [← hlv, ← fltV_snd, List.map_map]; rfl
  refine At.ret ⟨.inl rfl, hdf, _, hrun, u, rfl, hw0 ▸ hp5.out, ⟨x, (fltV (qV (offT fr to s)) lv).map slV, xs', cs'⟩, ⟨?_, ?_, fun b hb => ?_⟩, fun b hb => ?_⟩
  · have e : (((fltV (qV (offT fr to s)) lv).map slV).map fun s => [AV.v s]) = E cV (fltV (qV (offT fr to s)) lv) := by rw [List.map_map]; rfl
    show RC _ w5 (.sl 1 (((fltV (qV (offT fr to s)) lv).map slV).map fun s => [AV.v s])) u
    rw [e]
    exact hroot
  · show Vs.OwnL _ w5 1 ((flt (offT fr to s) l).map (E cI)) ((fltV (qV (offT fr to s)) lv).map slV) xs' cs'
    rw [← hfs]
    exact hown.mono (fun i b hi hb e => (hxx b e).2.2 (hin5 i b (by simpa using hi) hb).1) fun i b hi hb => (hin5 i b (by simpa using hi) hb).2
  · rcases hb with hb | ⟨i, hi, hb⟩
    · exact (hxx b hb).2.1
    · exact hp5.dom b (hin5 i b (by simpa using hi) hb).1
  · rcases hb with hb | ⟨i, hi, hb⟩
    · rw [← hw0]; exact (hxx b hb).1
    · have := hn b (hin i b (by simpa using hi) hb).1
      omega
end Go.Proofs.Ytokfhfdnmnblfaa

namespace Go.Proofs.Ytokfhfdnmnblfaa
open Go.Vs
set_option linter.unusedSectionVars false
variable [Vs.Envs]
set_option linter.unusedSimpArgs false
set_option linter.unusedVariables false
attribute [local irreducible] Vs.Fn pun cmT flt zR chOK areCh chTo chAt l03 chB rk cd3 chI stp stpTo
theorem newDeck_dk1 (l : List (List Int)) (hk : smallC l) {S : Nat → Prop} {w : World} {us : Array Value} (hS : ∀ b, S b → b < w.heap.size) (he : Env S w) (hus : us.size = 1) (hr : ∀ j, j < 1 → RC S w (([.sl 1 (E cC l)] : List AV).getD j .junk) (us.getD j undef)) :
    Calls Try.prog F.impl_newDeck us w fun e w' => ∃ v, e = .returned v ∧ Vs.Grew w w' ∧ ∃ m, Vs.Dk w' (l.map (E cI)) v m ∧ (∀ b, m.D b → w.heap.size ≤ b) ∧ ∃ c, Vs.Own (fun _ => False) w' m.x0 c 1 (m.ss.map fun s => [AV.v s]) v := by
  obtain ⟨u0, rfl⟩ : ∃ u0, us = #[u0] := by
    obtain ⟨ul⟩ := us
    match ul, hus with
    | [u0], _ => exact ⟨u0, rfl⟩
  exact newDeck_dk l hk hS he (hr 0 Nat.zero_lt_one)
set_option maxHeartbeats 1000000 in
theorem selectEqual_dk (l : List (List Int)) (fr to : Int) (s : ByteArray) (hk : smallC l) (hz2 : s.size ≤ 1048576) (h0 : selC fr to s l = 0) {S : Nat → Prop} {w : World} {vs : Array Value} (hS : ∀ b, S b → b < w.heap.size) (he : Env S w) (hvs : vs.size = 3) (hargs : ∀ j, j < 3 → RC S w (([.sl 1 (E cC l), .agg (cFd fr to), .v (.string s)] : List AV).getD j .junk) (vs.getD j undef)) : Calls Try.prog F.impl_SelectEqual vs w (Vs.DkRes w ((flt (offT fr to s) l).map (E cI))) := by
  obtain ⟨h1, h2, _⟩ := Cd.impl_SelectEqual_ok
  obtain ⟨body, hb, hc⟩ := Option.bind_eq_some_iff.1 h2
  have hz : (Try.f66.body.map (zB Try.f66.ntmps (drawnG Try.prog))) = some true := by kernel_rfl
  rw [hb] at hz
  have hdr := drawn_ok Try.mixed
  refine Vs.Pt.calls (dr := drawnG Try.prog) (ac := Cd.impl_SelectEqual) h1 hb hc (by simpa using hz) (args := [.sl 1 (E cC l), .agg (cFd fr to), .v (.string s)]) (by rw [Cd.impl_SelectEqual_nt]; exact Nat.le_of_ble_eq_true rfl) hS he hvs hargs fun C1 a hnt hw0 hS0 hp => ?_
  unfold Cd.impl_SelectEqual
  refine hp.go hdr hnt 1 _ (τ := ⟨[(0, .sl 1 (E cC l)), (2, .v (.string s)), (4, .ptr (.t 4 0) 0 0)], [(.t 4 0, .var (cFd fr to) false)]⟩) (X := True) (E := fun _ _ => False) (fun p hp => by
      simp only [List.mem_cons, List.not_mem_nil, or_false] at hp
      rcases hp with rfl
      · exact ⟨rfl, rfl⟩) (fun C hC => ?_) (fun i σ h => h) (fun C a w hl hg => hg.no.elim) fun a1 w1 S1 p1 hp1 _ => ?_
  · simp -dsimp only [go_sem, reduceIte, reduceCtorEq, Nat.reduceEqDiff, Nat.reduceLT, Nat.reduceLeDiff, Nat.reduceAdd, Nat.reduceMul, Nat.reduceSub, Int.reduceToNat, Int.reduceNeg, cC, cFd, List.replicate_succ, List.replicate_zero, List.flatten_cons, List.flatten_nil, List.cons_append, List.nil_append, List.set_cons_zero, List.set_cons_succ, List.length_cons, List.length_nil, List.length_set, cP]
    first | (simp [Vs.LeL, Vs.look, Vs.hlook]; done) | trace_state
  refine At.seq (At.rg (hp1.rg hnt (pre := [⟨some 8, .mv (.tmp 0), none⟩, ⟨some 9, .load true 2 (.tmp 4), none⟩, ⟨some 10, .mv (.tmp 2), none⟩, ⟨some 11, .mv (.tmp 2), none⟩]) (post := ⟨some 12, .call (.func F.impl_SelectBetween) ([8, 9, 10, 11].map .tmp) [], none⟩ :: [⟨some 13, .extract (.tmp 12) 0, none⟩, ⟨some 14, .extract (.tmp 12) 1, none⟩, ⟨some 6, .mv (.tmp 13), none⟩, ⟨some 7, .mv (.tmp 14), none⟩]) (τ := ⟨[(8, .sl 1 (E cC l)), (9, .agg (cFd fr to)), (10, .v (.string s)), (11, .v (.string s))], [(.t 4 0, .var (cFd fr to) false)]⟩) (fun p hp => by
        simp only [List.mem_cons, List.not_mem_nil, or_false] at hp
        rcases hp with rfl
        · exact ⟨rfl, rfl⟩) ?_ fun a2 w2 S2 p2 hp2 => hp2.rgcall hnt (ts := [8, 9, 10, 11]) (ys := [.sl 1 (E cC l), .agg (cFd fr to), .v (.string s), .v (.string s)]) (has1 Cd.impl_SelectBetween_ok) rfl (fun i hi => by match i, hi with | 0, _ => rfl | 1, _ => rfl | 2, _ => rfl | 3, _ => rfl) (fun i hi => by match i, hi with | 0, _ => rfl | 1, _ => rfl | 2, _ => rfl | 3, _ => rfl) fun us hus hr => ?_))
  · simp -dsimp only [go_sem, reduceIte, reduceCtorEq, Nat.reduceEqDiff, Nat.reduceLT, Nat.reduceLeDiff, Nat.reduceAdd, Nat.reduceMul, Nat.reduceSub, Int.reduceToNat, Int.reduceNeg, cC, cFd, List.replicate_succ, List.replicate_zero, List.flatten_cons, List.flatten_nil, List.cons_append, List.nil_append, List.set_cons_zero, List.set_cons_succ, List.length_cons, List.length_nil, List.length_set, cP]
    simp [Vs.LeL, Vs.look, Vs.hlook]
  refine (selectBetween_dk l fr to s hk hz2 h0 hp2.dom hp2.env hus hr).mono ?_
  rintro e w3 ⟨v, rfl, hg, m, hd3, hn⟩
  refine ⟨_, rfl, ?_⟩
  have hp3 := (hp2.grow hg (D := m.D) (fun b hb => ⟨hn b hb, hd3.lt b hb⟩) [] (fun p hp => by cases hp)).putR (d := 12) (by rw [hnt, Cd.impl_SelectEqual_nt]; omega) (r := .tup [.v v, .v (.int .i64 0)]) (Vs.tup2_rc _ _)
  letI I3 := Vs.keepE (fun b => S2 b ∨ m.D b) w3
  refine hp3.rg (pre := [⟨some 13, .extract (.tmp 12) 0, none⟩, ⟨some 14, .extract (.tmp 12) 1, none⟩, ⟨some 6, .mv (.tmp 13), none⟩, ⟨some 7, .mv (.tmp 14), none⟩]) (post := []) hnt (τ := ⟨[(6, .v v), (7, .v (.int .i64 0))], []⟩) (fun p hp => by cases hp) ?_ fun a5 w5 S5 p5 hp5 => RgL.nil ?_
  · simp -dsimp only [go_sem, reduceIte, reduceCtorEq, Nat.reduceEqDiff, Nat.reduceLT, Nat.reduceLeDiff, Nat.reduceAdd, Nat.reduceMul, Nat.reduceSub, Int.reduceToNat, Int.reduceNeg, cC, cFd, List.replicate_succ, List.replicate_zero, List.flatten_cons, List.flatten_nil, List.cons_append, List.nil_append, List.set_cons_zero, List.set_cons_succ, List.length_cons, List.length_nil, List.length_set, cP]
    simp [Vs.LeL, Vs.look, Vs.hlook]
  have hfin := hp5.retDk (fn := Try.f66) hw0 hd3 (fun b hb => by have := hn b hb; have h9 := hp2.size; rw [hw0] at h9; omega) (fun b hb => .inr hb) p5 (by
    show Vs.resL Try.prog _ _ [_, _]
    simp [Vs.resL, Vs.resV, Vs.look, Vs.oneOr])
  refine At.ret ?_
  first | exact ⟨.inl rfl, hfin⟩ | (simp only [Exit.inBlock, Exit.then]; exact ⟨.inl trivial, hfin⟩)
attribute [local irreducible] cfC cfL
set_option maxHeartbeats 1000000 in
theorem cardsFor_dk (x : Spc) (l : List (List Int)) (hk : smallC l) (hz2 : x.text.size ≤ 1048576) (h0 : cfC x l = 0) {S : Nat → Prop} {w : World} {vs : Array Value} (hS : ∀ b, S b → b < w.heap.size) (he : Env S w) (hvs : vs.size = 2) (hargs : ∀ j, j < 2 → RC S w (([.agg (cP x), .sl 1 (E cC l)] : List AV).getD j .junk) (vs.getD j undef)) : Calls Try.prog F.impl_cardsFor vs w (Vs.DkRes w ((cfL x l).map (E cI))) := by
  have VD := validDeck l hk.2 hk.1
  have DC := deckColumns l
  have VS := impl_ValidSpec x (widB l) hz2
  have hd : deckB l = true := by
    unfold cfC at h0
    cases hd : deckB l
    · rw [hd] at h0; simp at h0
    · rfl
  have hv : (inB (widB l) 1 20 && spcB x (widB l)) = true := by
    unfold cfC at h0
    cases hv : (inB (widB l) 1 20 && spcB x (widB l))
    · rw [hd, hv] at h0; simp at h0
    · rfl
  rw [hd] at VD
  rw [hv] at VS
  obtain ⟨h1, h2, _⟩ := Cd.impl_cardsFor_ok
  obtain ⟨body, hb, hc⟩ := Option.bind_eq_some_iff.1 h2
  have hz : (Try.f47.body.map (zB Try.f47.ntmps (drawnG Try.prog))) = some true := by kernel_rfl
  rw [hb] at hz
  have hdr := drawn_ok Try.mixed
  refine Vs.Pt.calls (dr := drawnG Try.prog) (ac := Cd.impl_cardsFor) h1 hb hc (by simpa using hz) (args := [.agg (cP x), .sl 1 (E cC l)]) (by rw [Cd.impl_cardsFor_nt]; exact Nat.le_of_ble_eq_true rfl) hS he hvs hargs fun C1 a hnt hw0 hS0 hp => ?_
  unfold Cd.impl_cardsFor
  refine hp.go hdr hnt 1 _ (τ := ⟨[(1, .sl 1 (E cC l)), (2, .ptr (.t 2 0) 0 0)], [(.t 2 0, .var (cP x) false)]⟩) (X := True) (E := fun _ _ => False) (fun p hp => by
        simp only [List.mem_cons, List.not_mem_nil, or_false] at hp
        rcases hp with rfl
        · exact ⟨rfl, rfl⟩) (fun C hC => ?_) (fun i σ h => h) (fun C a w hl hg => hg.no.elim) fun a1 w1 S1 p1 hp1 _ => ?_
  · simp -dsimp only [go_sem, reduceIte, reduceCtorEq, Nat.reduceEqDiff, Nat.reduceLT, Nat.reduceLeDiff, Nat.reduceAdd, Nat.reduceMul, Nat.reduceSub, Int.reduceToNat, Int.reduceNeg, cC, cFd, List.replicate_succ, List.replicate_zero, List.flatten_cons, List.flatten_nil, List.cons_append, List.nil_append, List.set_cons_zero, List.set_cons_succ, List.length_cons, List.length_nil, List.length_set, cP]
    skip
    all_goals first | (simp [Vs.LeL, Vs.look, Vs.hlook]; done) | trace_state
  refine At.seq (At.block ?_)
  refine hp1.go hdr hnt 1 _ (τ := ⟨[(6, .v (.bool false)), (1, .sl 1 (E cC l)), (2, .ptr (.t 2 0) 0 0)], [(.t 2 0, .var (cP x) false)]⟩) (X := True) (E := fun _ _ => False) (fun p hp => by
        simp only [List.mem_cons, List.not_mem_nil, or_false] at hp
        rcases hp with rfl
        · exact ⟨rfl, rfl⟩) (fun C hC => ?_) (fun i σ h => h) (fun C a w hl hg => hg.no.elim) fun a1 w1 S1 p2 hp2 _ => ?_
  · simp -dsimp only [go_sem, reduceIte, reduceCtorEq, Nat.reduceEqDiff, Nat.reduceLT, Nat.reduceLeDiff, Nat.reduceAdd, Nat.reduceMul, Nat.reduceSub, Int.reduceToNat, Int.reduceNeg, cC, cFd, List.replicate_succ, List.replicate_zero, List.flatten_cons, List.flatten_nil, List.cons_append, List.nil_append, List.set_cons_zero, List.set_cons_succ, List.length_cons, List.length_nil, List.length_set, cP]
    repeat' (first
      | (refine RgK.mk rfl ?_; simp -dsimp only [go_sem, reduceIte, reduceCtorEq, Nat.reduceEqDiff, Nat.reduceLT, Nat.reduceLeDiff, Nat.reduceAdd, Nat.reduceMul, Nat.reduceSub, Int.reduceToNat, Int.reduceNeg, cC, cFd, List.replicate_succ, List.replicate_zero, List.flatten_cons, List.flatten_nil, List.cons_append, List.nil_append, List.set_cons_zero, List.set_cons_succ, List.length_cons, List.length_nil, List.length_set, cP])
      | (refine Br.mk (fun h => ?_) (fun h => ?_) <;> simp -dsimp only [go_sem, reduceIte, reduceCtorEq, Nat.reduceEqDiff, Nat.reduceLT, Nat.reduceLeDiff, Nat.reduceAdd, Nat.reduceMul, Nat.reduceSub, Int.reduceToNat, Int.reduceNeg, h, cC, cFd, List.replicate_succ, List.replicate_zero, List.flatten_cons, List.flatten_nil, List.cons_append, List.nil_append, List.set_cons_zero, List.set_cons_succ, List.length_cons, List.length_nil, List.length_set, cP])
      | (refine CallK.flat (by first | exact VD) rfl ?_; simp -dsimp only [go_sem, reduceIte, reduceCtorEq, Nat.reduceEqDiff, Nat.reduceLT, Nat.reduceLeDiff, Nat.reduceAdd, Nat.reduceMul, Nat.reduceSub, Int.reduceToNat, Int.reduceNeg, cC, cFd, List.replicate_succ, List.replicate_zero, List.flatten_cons, List.flatten_nil, List.cons_append, List.nil_append, List.set_cons_zero, List.set_cons_succ, List.length_cons, List.length_nil, List.length_set, cP])
      | (refine CallK.pure (by first | exact VD) ?_; simp -dsimp only [go_sem, reduceIte, reduceCtorEq, Nat.reduceEqDiff, Nat.reduceLT, Nat.reduceLeDiff, Nat.reduceAdd, Nat.reduceMul, Nat.reduceSub, Int.reduceToNat, Int.reduceNeg, cC, cFd, List.replicate_succ, List.replicate_zero, List.flatten_cons, List.flatten_nil, List.cons_append, List.nil_append, List.set_cons_zero, List.set_cons_succ, List.length_cons, List.length_nil, List.length_set, cP])
      | (refine And.intro (by first | rfl | omega | decide | (refine ⟨?_, ?_⟩ <;> (first | rfl | omega | decide)) | (refine ⟨?_, ?_, ?_⟩ <;> (first | rfl | omega | decide)) | (refine ⟨?_, ?_, ?_, ?_⟩ <;> (first | rfl | omega | decide))) ?_; try simp -dsimp only [go_sem, reduceIte, reduceCtorEq, Nat.reduceEqDiff, Nat.reduceLT, Nat.reduceLeDiff, Nat.reduceAdd, Nat.reduceMul, Nat.reduceSub, Int.reduceToNat, Int.reduceNeg, cC, cFd, List.replicate_succ, List.replicate_zero, List.flatten_cons, List.flatten_nil, List.cons_append, List.nil_append, List.set_cons_zero, List.set_cons_succ, List.length_cons, List.length_nil, List.length_set, cP])
      | fail)

    all_goals first | (simp [Vs.LeL, Vs.look, Vs.hlook]; done) | trace_state
  refine hp2.cond rfl (fun h => (by cases h)) fun _ => ?_
  refine hp2.go hdr hnt 1 _ (τ := ⟨[(10, .v (.bool false)), (1, .sl 1 (E cC l)), (2, .ptr (.t 2 0) 0 0)], [(.t 2 0, .var (cP x) false)]⟩) (X := True) (E := fun _ _ => False) (fun p hp => by
        simp only [List.mem_cons, List.not_mem_nil, or_false] at hp
        rcases hp with rfl
        · exact ⟨rfl, rfl⟩) (fun C hC => ?_) (fun i σ h => h) (fun C a w hl hg => hg.no.elim) fun a1 w1 S1 p3 hp3 _ => ?_
  · simp -dsimp only [go_sem, reduceIte, reduceCtorEq, Nat.reduceEqDiff, Nat.reduceLT, Nat.reduceLeDiff, Nat.reduceAdd, Nat.reduceMul, Nat.reduceSub, Int.reduceToNat, Int.reduceNeg, cC, cFd, List.replicate_succ, List.replicate_zero, List.flatten_cons, List.flatten_nil, List.cons_append, List.nil_append, List.set_cons_zero, List.set_cons_succ, List.length_cons, List.length_nil, List.length_set, cP]
    repeat' (first
      | (refine RgK.mk rfl ?_; simp -dsimp only [go_sem, reduceIte, reduceCtorEq, Nat.reduceEqDiff, Nat.reduceLT, Nat.reduceLeDiff, Nat.reduceAdd, Nat.reduceMul, Nat.reduceSub, Int.reduceToNat, Int.reduceNeg, cC, cFd, List.replicate_succ, List.replicate_zero, List.flatten_cons, List.flatten_nil, List.cons_append, List.nil_append, List.set_cons_zero, List.set_cons_succ, List.length_cons, List.length_nil, List.length_set, cP])
      | (refine Br.mk (fun h => ?_) (fun h => ?_) <;> simp -dsimp only [go_sem, reduceIte, reduceCtorEq, Nat.reduceEqDiff, Nat.reduceLT, Nat.reduceLeDiff, Nat.reduceAdd, Nat.reduceMul, Nat.reduceSub, Int.reduceToNat, Int.reduceNeg, h, cC, cFd, List.replicate_succ, List.replicate_zero, List.flatten_cons, List.flatten_nil, List.cons_append, List.nil_append, List.set_cons_zero, List.set_cons_succ, List.length_cons, List.length_nil, List.length_set, cP])
      | (refine CallK.flat (by first | exact VD | exact DC | exact VS) rfl ?_; simp -dsimp only [go_sem, reduceIte, reduceCtorEq, Nat.reduceEqDiff, Nat.reduceLT, Nat.reduceLeDiff, Nat.reduceAdd, Nat.reduceMul, Nat.reduceSub, Int.reduceToNat, Int.reduceNeg, cC, cFd, List.replicate_succ, List.replicate_zero, List.flatten_cons, List.flatten_nil, List.cons_append, List.nil_append, List.set_cons_zero, List.set_cons_succ, List.length_cons, List.length_nil, List.length_set, cP])
      | (refine CallK.pure (by first | exact VD | exact DC | exact VS) ?_; simp -dsimp only [go_sem, reduceIte, reduceCtorEq, Nat.reduceEqDiff, Nat.reduceLT, Nat.reduceLeDiff, Nat.reduceAdd, Nat.reduceMul, Nat.reduceSub, Int.reduceToNat, Int.reduceNeg, cC, cFd, List.replicate_succ, List.replicate_zero, List.flatten_cons, List.flatten_nil, List.cons_append, List.nil_append, List.set_cons_zero, List.set_cons_succ, List.length_cons, List.length_nil, List.length_set, cP])
      | (refine And.intro (by first | rfl | omega | decide | (refine ⟨?_, ?_⟩ <;> (first | rfl | omega | decide)) | (refine ⟨?_, ?_, ?_⟩ <;> (first | rfl | omega | decide)) | (refine ⟨?_, ?_, ?_, ?_⟩ <;> (first | rfl | omega | decide))) ?_; try simp -dsimp only [go_sem, reduceIte, reduceCtorEq, Nat.reduceEqDiff, Nat.reduceLT, Nat.reduceLeDiff, Nat.reduceAdd, Nat.reduceMul, Nat.reduceSub, Int.reduceToNat, Int.reduceNeg, cC, cFd, List.replicate_succ, List.replicate_zero, List.flatten_cons, List.flatten_nil, List.cons_append, List.nil_append, List.set_cons_zero, List.set_cons_succ, List.length_cons, List.length_nil, List.length_set, cP])
      | fail)

    all_goals first | (simp [Vs.LeL, Vs.look, Vs.hlook]; done) | trace_state
  refine hp3.cond rfl (fun h => (by cases h)) fun _ => ?_
  cases hn : noText x.text
  · have hsc : selC x.w0 x.w1 x.text l = 0 := by
      unfold cfC at h0
      rw [hd, hv, hn] at h0; simpa using h0
    have hcl : cfL x l = flt (offT x.w0 x.w1 x.text) l := by unfold cfL; rw [hn]; rfl
    rw [hcl]
    unfold noText at hn
    refine hp3.go hdr hnt 1 _ (τ := ⟨[(16, .v (.bool false)), (1, .sl 1 (E cC l)), (2, .ptr (.t 2 0) 0 0)], [(.t 2 0, .var (cP x) false)]⟩) (X := True) (E := fun _ _ => False) (fun p hp => by
          simp only [List.mem_cons, List.not_mem_nil, or_false] at hp
          rcases hp with rfl
          · exact ⟨rfl, rfl⟩) (fun C hC => ?_) (fun i σ h => h) (fun C a w hl hg => hg.no.elim) fun a1 w1 S1 p4 hp4 _ => ?_
    · simp -dsimp only [go_sem, reduceIte, reduceCtorEq, Nat.reduceEqDiff, Nat.reduceLT, Nat.reduceLeDiff, Nat.reduceAdd, Nat.reduceMul, Nat.reduceSub, Int.reduceToNat, Int.reduceNeg, cC, cFd, List.replicate_succ, List.replicate_zero, List.flatten_cons, List.flatten_nil, List.cons_append, List.nil_append, List.set_cons_zero, List.set_cons_succ, List.length_cons, List.length_nil, List.length_set, cP, hn]
      skip
      all_goals first | (simp [Vs.LeL, Vs.look, Vs.hlook]; done) | trace_state
    refine hp4.cond rfl (fun h => (by cases h)) fun _ => At.skip ?_
    simp only [Exit.inBlock, Exit.then]
    refine At.seq (At.rg (hp4.rg hnt (pre := [⟨some 22, .mv (.tmp 1), none⟩, ⟨some 23, .fieldAddr 0 (.tmp 2), none⟩, ⟨some 24, .load true 2 (.tmp 23), none⟩, ⟨some 25, .fieldAddr 2 (.tmp 2), none⟩, ⟨some 26, .load false 1 (.tmp 25), none⟩]) (post := ⟨some 27, .call (.func F.impl_SelectEqual) ([22, 24, 26].map .tmp) [], none⟩ :: [⟨some 28, .extract (.tmp 27) 0, none⟩, ⟨some 29, .extract (.tmp 27) 1, none⟩, ⟨some 4, .mv (.tmp 28), none⟩, ⟨some 5, .mv (.tmp 29), none⟩]) (τ := ⟨[(22, .sl 1 (E cC l)), (24, .agg (cFd x.w0 x.w1)), (26, .v (.string x.text))], [(.t 2 0, .var (cP x) false)]⟩) (fun p hp => by
          simp only [List.mem_cons, List.not_mem_nil, or_false] at hp
          rcases hp with rfl
          · exact ⟨rfl, rfl⟩) ?_ fun a2 w2 S2 p2 hp2 => hp2.rgcall hnt (ts := [22, 24, 26]) (ys := [.sl 1 (E cC l), .agg (cFd x.w0 x.w1), .v (.string x.text)]) (has1 Cd.impl_SelectEqual_ok) rfl (fun i hi => by match i, hi with | 0, _ => rfl | 1, _ => rfl | 2, _ => rfl) (fun i hi => by match i, hi with | 0, _ => rfl | 1, _ => rfl | 2, _ => rfl) fun us hus hr => ?_))
    · simp -dsimp only [go_sem, reduceIte, reduceCtorEq, Nat.reduceEqDiff, Nat.reduceLT, Nat.reduceLeDiff, Nat.reduceAdd, Nat.reduceMul, Nat.reduceSub, Int.reduceToNat, Int.reduceNeg, cC, cFd, List.replicate_succ, List.replicate_zero, List.flatten_cons, List.flatten_nil, List.cons_append, List.nil_append, List.set_cons_zero, List.set_cons_succ, List.length_cons, List.length_nil, List.length_set, cP]
      simp [Vs.LeL, Vs.look, Vs.hlook]
    refine (selectEqual_dk l x.w0 x.w1 x.text hk hz2 hsc hp2.dom hp2.env hus hr).mono ?_
    rintro e w3 ⟨v, rfl, hg, m, hd3, hn⟩
    refine ⟨_, rfl, ?_⟩
    have hp3 := (hp2.grow hg (D := m.D) (fun b hb => ⟨hn b hb, hd3.lt b hb⟩) [] (fun p hp => by cases hp)).putR (d := 27) (by rw [hnt, Cd.impl_cardsFor_nt]; omega) (r := .tup [.v v, .v (.int .i64 0)]) (Vs.tup2_rc _ _)
    letI I3 := Vs.keepE (fun b => S2 b ∨ m.D b) w3
    refine hp3.rg (pre := [⟨some 28, .extract (.tmp 27) 0, none⟩, ⟨some 29, .extract (.tmp 27) 1, none⟩, ⟨some 4, .mv (.tmp 28), none⟩, ⟨some 5, .mv (.tmp 29), none⟩]) (post := []) hnt (τ := ⟨[(4, .v v), (5, .v (.int .i64 0))], []⟩) (fun p hp => by cases hp) ?_ fun a5 w5 S5 p5 hp5 => RgL.nil ?_
    · simp -dsimp only [go_sem, reduceIte, reduceCtorEq, Nat.reduceEqDiff, Nat.reduceLT, Nat.reduceLeDiff, Nat.reduceAdd, Nat.reduceMul, Nat.reduceSub, Int.reduceToNat, Int.reduceNeg, cC, cFd, List.replicate_succ, List.replicate_zero, List.flatten_cons, List.flatten_nil, List.cons_append, List.nil_append, List.set_cons_zero, List.set_cons_succ, List.length_cons, List.length_nil, List.length_set, cP]
      simp [Vs.LeL, Vs.look, Vs.hlook]
    have hfin := hp5.retDk (fn := Try.f47) hw0 hd3 (fun b hb => by have := hn b hb; have h9 := hp2.size; rw [hw0] at h9; omega) (fun b hb => .inr hb) p5 (by
      show Vs.resL Try.prog _ _ [_, _]
      simp [Vs.resL, Vs.resV, Vs.look, Vs.oneOr])
    refine At.ret ?_
    first | exact ⟨.inl rfl, hfin⟩ | (simp only [Exit.inBlock, Exit.then]; exact ⟨.inl trivial, hfin⟩)
  · have hcl : cfL x l = l := by unfold cfL; rw [hn]; rfl
    rw [hcl]
    unfold noText at hn
    refine hp3.go hdr hnt 1 _ (τ := ⟨[(16, .v (.bool true)), (1, .sl 1 (E cC l)), (2, .ptr (.t 2 0) 0 0)], [(.t 2 0, .var (cP x) false)]⟩) (X := True) (E := fun _ _ => False) (fun p hp => by
          simp only [List.mem_cons, List.not_mem_nil, or_false] at hp
          rcases hp with rfl
          · exact ⟨rfl, rfl⟩) (fun C hC => ?_) (fun i σ h => h) (fun C a w hl hg => hg.no.elim) fun a1 w1 S1 p4 hp4 _ => ?_
    · simp -dsimp only [go_sem, reduceIte, reduceCtorEq, Nat.reduceEqDiff, Nat.reduceLT, Nat.reduceLeDiff, Nat.reduceAdd, Nat.reduceMul, Nat.reduceSub, Int.reduceToNat, Int.reduceNeg, cC, cFd, List.replicate_succ, List.replicate_zero, List.flatten_cons, List.flatten_nil, List.cons_append, List.nil_append, List.set_cons_zero, List.set_cons_succ, List.length_cons, List.length_nil, List.length_set, cP, hn]
      skip
      all_goals first | (simp [Vs.LeL, Vs.look, Vs.hlook]; done) | trace_state
    refine hp4.cond rfl (fun _ => ?_) fun h => (by cases h)
    refine At.seq (At.rg (hp4.rg hnt (pre := [⟨some 20, .mv (.tmp 1), none⟩]) (post := ⟨some 21, .call (.func F.impl_newDeck) ([20].map .tmp) [], none⟩ :: [⟨some 4, .mv (.tmp 21), none⟩, ⟨some 5, .mv (.const (.int .i64 (0))), none⟩]) (τ := ⟨[(20, .sl 1 (E cC l))], [(.t 2 0, .var (cP x) false)]⟩) (fun p hp => by
          simp only [List.mem_cons, List.not_mem_nil, or_false] at hp
          rcases hp with rfl
          · exact ⟨rfl, rfl⟩) ?_ fun a2 w2 S2 p2 hp2 => hp2.rgcall hnt (ts := [20]) (ys := [.sl 1 (E cC l)]) (has1 Cd.impl_newDeck_ok) rfl (fun i hi => by match i, hi with | 0, _ => rfl) (fun i hi => by match i, hi with | 0, _ => rfl) fun us hus hr => ?_))
    · simp -dsimp only [go_sem, reduceIte, reduceCtorEq, Nat.reduceEqDiff, Nat.reduceLT, Nat.reduceLeDiff, Nat.reduceAdd, Nat.reduceMul, Nat.reduceSub, Int.reduceToNat, Int.reduceNeg, cC, cFd, List.replicate_succ, List.replicate_zero, List.flatten_cons, List.flatten_nil, List.cons_append, List.nil_append, List.set_cons_zero, List.set_cons_succ, List.length_cons, List.length_nil, List.length_set, cP]
      simp [Vs.LeL, Vs.look, Vs.hlook]
    refine (newDeck_dk1 l hk hp2.dom hp2.env hus hr).mono ?_
    rintro e w3 ⟨v, rfl, hg, m, hd3, hn, _⟩
    refine ⟨_, rfl, ?_⟩
    have hp3 := (hp2.grow hg (D := m.D) (fun b hb => ⟨hn b hb, hd3.lt b hb⟩) [] (fun p hp => by cases hp)).putR (d := 21) (by rw [hnt, Cd.impl_cardsFor_nt]; omega) (r := .v v) (.v _)
    letI I3 := Vs.keepE (fun b => S2 b ∨ m.D b) w3
    refine hp3.rg (pre := [⟨some 4, .mv (.tmp 21), none⟩, ⟨some 5, .mv (.const (.int .i64 (0))), none⟩]) (post := []) hnt (τ := ⟨[(4, .v v), (5, .v (.int .i64 0))], []⟩) (fun p hp => by cases hp) ?_ fun a5 w5 S5 p5 hp5 => RgL.nil ?_
    · simp -dsimp only [go_sem, reduceIte, reduceCtorEq, Nat.reduceEqDiff, Nat.reduceLT, Nat.reduceLeDiff, Nat.reduceAdd, Nat.reduceMul, Nat.reduceSub, Int.reduceToNat, Int.reduceNeg, cC, cFd, List.replicate_succ, List.replicate_zero, List.flatten_cons, List.flatten_nil, List.cons_append, List.nil_append, List.set_cons_zero, List.set_cons_succ, List.length_cons, List.length_nil, List.length_set, cP]
      simp [Vs.LeL, Vs.look, Vs.hlook]
    have hfin := hp5.retDk (fn := Try.f47) hw0 hd3 (fun b hb => by have := hn b hb; have h9 := hp2.size; rw [hw0] at h9; omega) (fun b hb => .inr hb) p5 (by
      show Vs.resL Try.prog _ _ [_, _]
      simp [Vs.resL, Vs.resV, Vs.look, Vs.oneOr])
    refine At.ret ?_
    first | exact ⟨.inl rfl, hfin⟩ | (simp only [Exit.inBlock, Exit.then]; exact ⟨.inl trivial, hfin⟩)
set_option maxHeartbeats 1000000 in
theorem CardsFor_dk (x : Spc) (l : List (List Int)) (hk : smallC l) (hz2 : x.text.size ≤ 1048576) (h0 : cfC x l = 0) {S : Nat → Prop} {w : World} {vs : Array Value} (hS : ∀ b, S b → b < w.heap.size) (he : Env S w) (hvs : vs.size = 2) (hargs : ∀ j, j < 2 → RC S w (([.agg (cP x), .sl 1 (E cC l)] : List AV).getD j .junk) (vs.getD j undef)) : Calls Try.prog F.impl_CardsFor vs w (Vs.DkRes w ((cfL x l).map (E cI))) := by
  obtain ⟨h1, h2, _⟩ := Cd.impl_CardsFor_ok
  obtain ⟨body, hb, hc⟩ := Option.bind_eq_some_iff.1 h2
  have hz : (Try.f21.body.map (zB Try.f21.ntmps (drawnG Try.prog))) = some true := by kernel_rfl
  rw [hb] at hz
  have hdr := drawn_ok Try.mixed
  refine Vs.Pt.calls (dr := drawnG Try.prog) (ac := Cd.impl_CardsFor) h1 hb hc (by simpa using hz) (args := [.agg (cP x), .sl 1 (E cC l)]) (by rw [Cd.impl_CardsFor_nt]; exact Nat.le_of_ble_eq_true rfl) hS he hvs hargs fun C1 a hnt hw0 hS0 hp => ?_
  unfold Cd.impl_CardsFor
  refine hp.go hdr hnt 1 _ (τ := ⟨[(1, .sl 1 (E cC l)), (2, .ptr (.t 2 0) 0 0)], [(.t 2 0, .var (cP x) false)]⟩) (X := True) (E := fun _ _ => False) (fun p hp => by
        simp only [List.mem_cons, List.not_mem_nil, or_false] at hp
        rcases hp with rfl
        · exact ⟨rfl, rfl⟩) (fun C hC => ?_) (fun i σ h => h) (fun C a w hl hg => hg.no.elim) fun a1 w1 S1 p1 hp1 _ => ?_
  · simp -dsimp only [go_sem, reduceIte, reduceCtorEq, Nat.reduceEqDiff, Nat.reduceLT, Nat.reduceLeDiff, Nat.reduceAdd, Nat.reduceMul, Nat.reduceSub, Int.reduceToNat, Int.reduceNeg, cC, cFd, List.replicate_succ, List.replicate_zero, List.flatten_cons, List.flatten_nil, List.cons_append, List.nil_append, List.set_cons_zero, List.set_cons_succ, List.length_cons, List.length_nil, List.length_set, cP]
    skip
    all_goals first | (simp [Vs.LeL, Vs.look, Vs.hlook]; done) | trace_state
  refine At.seq (At.rg (hp1.rg hnt (pre := [⟨some 6, .load true 7 (.tmp 2), none⟩, ⟨some 7, .mv (.tmp 1), none⟩]) (post := ⟨some 8, .call (.func F.impl_cardsFor) ([6, 7].map .tmp) [], none⟩ :: [⟨some 9, .extract (.tmp 8) 0, none⟩, ⟨some 10, .extract (.tmp 8) 1, none⟩, ⟨some 4, .mv (.tmp 9), none⟩, ⟨some 5, .mv (.tmp 10), none⟩]) (τ := ⟨[(6, .agg (cP x)), (7, .sl 1 (E cC l))], [(.t 2 0, .var (cP x) false)]⟩) (fun p hp => by
        simp only [List.mem_cons, List.not_mem_nil, or_false] at hp
        rcases hp with rfl
        · exact ⟨rfl, rfl⟩) ?_ fun a2 w2 S2 p2 hp2 => hp2.rgcall hnt (ts := [6, 7]) (ys := [.agg (cP x), .sl 1 (E cC l)]) (has1 Cd.impl_cardsFor_ok) rfl (fun i hi => by match i, hi with | 0, _ => rfl | 1, _ => rfl) (fun i hi => by match i, hi with | 0, _ => rfl | 1, _ => rfl) fun us hus hr => ?_))
  · simp -dsimp only [go_sem, reduceIte, reduceCtorEq, Nat.reduceEqDiff, Nat.reduceLT, Nat.reduceLeDiff, Nat.reduceAdd, Nat.reduceMul, Nat.reduceSub, Int.reduceToNat, Int.reduceNeg, cC, cFd, List.replicate_succ, List.replicate_zero, List.flatten_cons, List.flatten_nil, List.cons_append, List.nil_append, List.set_cons_zero, List.set_cons_succ, List.length_cons, List.length_nil, List.length_set, cP]
    simp [Vs.LeL, Vs.look, Vs.hlook]
  refine (cardsFor_dk x l hk hz2 h0 hp2.dom hp2.env hus hr).mono ?_
  rintro e w3 ⟨v, rfl, hg, m, hd3, hn⟩
  refine ⟨_, rfl, ?_⟩
  have hp3 := (hp2.grow hg (D := m.D) (fun b hb => ⟨hn b hb, hd3.lt b hb⟩) [] (fun p hp => by cases hp)).putR (d := 8) (by rw [hnt, Cd.impl_CardsFor_nt]; omega) (r := .tup [.v v, .v (.int .i64 0)]) (Vs.tup2_rc _ _)
  letI I3 := Vs.keepE (fun b => S2 b ∨ m.D b) w3
  refine hp3.rg (pre := [⟨some 9, .extract (.tmp 8) 0, none⟩, ⟨some 10, .extract (.tmp 8) 1, none⟩, ⟨some 4, .mv (.tmp 9), none⟩, ⟨some 5, .mv (.tmp 10), none⟩]) (post := []) hnt (τ := ⟨[(4, .v v), (5, .v (.int .i64 0))], []⟩) (fun p hp => by cases hp) ?_ fun a5 w5 S5 p5 hp5 => RgL.nil ?_
  · simp -dsimp only [go_sem, reduceIte, reduceCtorEq, Nat.reduceEqDiff, Nat.reduceLT, Nat.reduceLeDiff, Nat.reduceAdd, Nat.reduceMul, Nat.reduceSub, Int.reduceToNat, Int.reduceNeg, cC, cFd, List.replicate_succ, List.replicate_zero, List.flatten_cons, List.flatten_nil, List.cons_append, List.nil_append, List.set_cons_zero, List.set_cons_succ, List.length_cons, List.length_nil, List.length_set, cP]
    simp [Vs.LeL, Vs.look, Vs.hlook]
  have hfin := hp5.retDk (fn := Try.f21) hw0 hd3 (fun b hb => by have := hn b hb; have h9 := hp2.size; rw [hw0] at h9; omega) (fun b hb => .inr hb) p5 (by
    show Vs.resL Try.prog _ _ [_, _]
    simp [Vs.resL, Vs.resV, Vs.look, Vs.oneOr])
  refine At.ret ?_
  first | exact ⟨.inl rfl, hfin⟩ | (simp only [Exit.inBlock, Exit.then]; exact ⟨.inl trivial, hfin⟩)
end Go.Proofs.Ytokfhfdnmnblfaa

namespace Go.Proofs.Ytokfhfdnmnblfaa
open Go.Vs
set_option linter.unusedSectionVars false
variable [Vs.Envs]
set_option linter.unusedSimpArgs false
set_option linter.unusedVariables false
attribute [local irreducible] Vs.Fn
theorem totD_take {l : List (List Int)} (hk : smallC l) (i : Nat) : totD (l.take i) ≤ 2 ^ 40 := by
  have h1 := totD_le (l := l.take i) fun c hc => hk.2 c (List.mem_of_mem_take hc)
  have h2 : (l.take i).length ≤ 1048576 := by rw [List.length_take]; have := hk.1; omega
  have := Nat.mul_le_mul_right 1048576 h2
  omega
set_option maxHeartbeats 1000000 in
theorem heldCardS (l : List (List Int)) (k : Nat) (hk : smallC l) (hk0 : k ≤ 2 ^ 60) : Vs.Fn Try.prog F.laws_heldCardS [] [.sl 1 (E cC (mkD k l)), .v (.int .i64 k)] (.v (.int .i64 (k + totD l : Nat))) [] := by
  have hlr : (mkD k l).length = l.length := mkD_len k l
  have hl := hk.1
  refine Cd.laws_heldCardS_ok.fn0 Try.mixed Cd.laws_heldCardS_nt Cd.laws_heldCardS_rs rfl fun X => ?_
  unfold Cd.laws_heldCardS
  simp -dsimp only [go_sem, reduceIte, reduceCtorEq, Nat.reduceEqDiff, Nat.reduceLT, Nat.reduceLeDiff, Nat.reduceAdd, Nat.reduceMul, Nat.reduceSub, Int.reduceToNat, Int.reduceNeg]
  refine LoopK.at (drawn_ok Try.mixed) (X := { i : Nat // i ≤ l.length }) (fun i => [(1, .v (.int .i64 (k + totD (l.take i.1) : Nat))), (5, .v (.int .i64 i.1))]) (fun i => []) (fun i => l.length - i.1) ⟨0, by omega⟩ ?_ ?_
  · simp [Vs.LeL, Vs.look, Vs.hlook, Vs.sput, Vs.sputs, Vs.hset, Vs.hputs, totD]
  · rintro ⟨i, hi⟩
    simp -dsimp only [go_sem, reduceIte, reduceCtorEq, Nat.reduceEqDiff, Nat.reduceLT, Nat.reduceLeDiff, Nat.reduceAdd, Nat.reduceMul, Nat.reduceSub, Int.reduceToNat, Int.reduceNeg, E_len, hlr]
    refine Br.mk (fun hc => ?_) fun hc => ?_
    · have hlt : i < l.length := by simpa using hc
      have hw := wrap_succ hlt hl
      have hgi : (E cC (mkD k l)).getD i [] = [.sl 1 (E cI (mkR (mI (k + totD (l.take i))) l[i] l[i].length))] := mkD_get k hlt
      have hb := totD_take hk i
      have H := heldInt64S l[i] (k + totD (l.take i)) (hk.2 _ (List.getElem_mem hlt)) (by omega)
      have hn : decide (((k + totD (l.take i) + l[i].length : Nat) : Int) < 0) = false := decide_eq_false (by omega)
      have hs : k + totD (l.take i) + l[i].length = k + totD (l.take (i + 1)) := by rw [take_succ hlt, totD_snoc]; omega
      rw [hs] at H hn
      simp -dsimp only [go_sem, reduceIte, reduceCtorEq, Nat.reduceEqDiff, Nat.reduceLT, Nat.reduceLeDiff, Nat.reduceAdd, Nat.reduceMul, Nat.reduceSub, Int.reduceToNat, Int.reduceNeg, hw, hgi, hlr, hn, E_len]
      repeat' (first
        | (refine RgK.mk rfl ?_; simp -dsimp only [go_sem, reduceIte, reduceCtorEq, Nat.reduceEqDiff, Nat.reduceLT, Nat.reduceLeDiff, Nat.reduceAdd, Nat.reduceMul, Nat.reduceSub, Int.reduceToNat, Int.reduceNeg, hw, hgi, hlr, hn, E_len])
        | (refine Br.mk (fun h => ?_) (fun h => ?_) <;> simp -dsimp only [go_sem, reduceIte, reduceCtorEq, Nat.reduceEqDiff, Nat.reduceLT, Nat.reduceLeDiff, Nat.reduceAdd, Nat.reduceMul, Nat.reduceSub, Int.reduceToNat, Int.reduceNeg, h, hw, hgi, hlr, hn, E_len])
        | (refine CallK.flat (by first | exact H) rfl ?_; simp -dsimp only [go_sem, reduceIte, reduceCtorEq, Nat.reduceEqDiff, Nat.reduceLT, Nat.reduceLeDiff, Nat.reduceAdd, Nat.reduceMul, Nat.reduceSub, Int.reduceToNat, Int.reduceNeg, hw, hgi, hlr, hn, E_len])
        | (refine CallK.pure (by first | exact H) ?_; simp -dsimp only [go_sem, reduceIte, reduceCtorEq, Nat.reduceEqDiff, Nat.reduceLT, Nat.reduceLeDiff, Nat.reduceAdd, Nat.reduceMul, Nat.reduceSub, Int.reduceToNat, Int.reduceNeg, hw, hgi, hlr, hn, E_len])
        | (refine And.intro (by first | rfl | omega | decide | (refine ⟨?_, ?_⟩ <;> (first | rfl | omega | decide)) | (refine ⟨?_, ?_, ?_⟩ <;> (first | rfl | omega | decide)) | (refine ⟨?_, ?_, ?_, ?_⟩ <;> (first | rfl | omega | decide))) ?_)
        | fail)

      all_goals (exact ⟨⟨i + 1, by omega⟩, by simp [Vs.LeL, Vs.look, Vs.hlook, Vs.sput, Vs.sputs, Vs.hset, Vs.hputs], by simp only; omega⟩)
    · have hge : i = l.length := by
        have : ¬ i < l.length := by simpa using hc
        omega
      subst hge
      simp -dsimp only [go_sem, reduceIte, reduceCtorEq, Nat.reduceEqDiff, Nat.reduceLT, Nat.reduceLeDiff, Nat.reduceAdd, Nat.reduceMul, Nat.reduceSub, Int.reduceToNat, Int.reduceNeg]
      simp

end Go.Proofs.Ytokfhfdnmnblfaa
