/- Cards that lie in memory of their own, deleted out of a row. -/
import Derived.Test.YtokfhfdnmnblfaaYwQf
import Derived.Test.YtokfhfdnmnblfaaVuD
namespace Go.Proofs.Ytokfhfdnmnblfaa
open Go.Vs
set_option linter.unusedSectionVars false
variable [Vs.Envs]
set_option linter.unusedSimpArgs false
set_option linter.unusedVariables false
attribute [local irreducible] Vs.Fn chOK areCh chTo chAt l03 chB rk cd3 chI stp stpTo
/-- a card's slice, and its columns -/
abbrev Slc := (Option Addr × Nat × Nat) × List Int
def slV (x : Slc) : Value := .slice x.1.1 x.1.2.1 x.1.2.2
def cV (x : Slc) : List AV := [.v (.slice x.1.1 x.1.2.1 x.1.2.2)]
def qV (q : List Int → Bool) (x : Slc) : Bool := q x.2
def fltV (q : Slc → Bool) (l : List Slc) : List Slc := l.filter fun x => !q x
theorem fltV_succ {q : Slc → Bool} {l : List Slc} {j : Nat} (h : j < l.length) : fltV q (l.take (j + 1)) = fltV q (l.take j) ++ (if q l[j] then [] else [l[j]]) := by
  unfold fltV
  rw [take_succ h, List.filter_append]
  congr 1
  cases hq : q l[j] <;> simp [List.filter_cons, hq]
theorem fltV_len (q : Slc → Bool) (l : List Slc) : (fltV q l).length ≤ l.length := List.length_filter_le ..
theorem fltV_none {q : Slc → Bool} {l : List Slc} (h : l.all (fun x => !q x) = true) : fltV q l = l := by
  unfold fltV
  exact List.filter_eq_self.2 (List.all_eq_true.1 h)
theorem idxV_cases (q : Slc → Bool) (l : List Slc) : (idxP q l = -1 ∧ l.all (fun x => !q x) = true) ∨ ∃ i : Nat, ∃ h : i < l.length, idxP q l = i ∧ q l[i] = true ∧ (l.take i).all (fun x => !q x) = true := by
  unfold idxP
  cases h : l.findIdx? q with
  | none =>
    rw [List.findIdx?_eq_none_iff] at h
    exact .inl ⟨rfl, List.all_eq_true.2 fun x hx => by simp [h x hx]⟩
  | some i =>
    rw [List.findIdx?_eq_some_iff_getElem] at h
    obtain ⟨hi, hp, h2⟩ := h
    refine .inr ⟨i, hi, rfl, hp, List.all_eq_true.2 fun x hx => ?_⟩
    obtain ⟨j, hj, rfl⟩ := List.mem_take_iff_getElem.1 hx
    simpa using h2 j (by omega)
theorem EV_setm (m : List Slc) (i : Nat) (x : Slc) : (E cV m).set i [.v (.slice x.1.1 x.1.2.1 x.1.2.2)] = E cV (m.set i x) := by simp [E, List.map_set, cV]
theorem EV_takeall (l : List Slc) : (E cV l).take l.length = E cV l := List.take_of_length_le (by simp [E])
theorem clrV_row {m : List Slc} {i n : Nat} (hm : m.length = n) (hi : i ≤ n) : clrL (E cV m) i (n - i) [.v (.slice none 0 0)] = E cV (m.take i) ++ zR (n - i) := by
  unfold clrL zR
  have h1 : (E cV m).take i = E cV (m.take i) := by simp [E, List.map_take]
  have h2 : (E cV m).drop (i + (n - i)) = [] := List.drop_eq_nil_of_le (by rw [E_len]; omega)
  rw [h1, h2, List.append_nil]
attribute [local irreducible] fltV idxP zR clrL
set_option maxHeartbeats 1000000 in
theorem delV (q : Slc → Bool) (g : FuncId) (caps : List AV) (hcaps : cellsB caps = true) (l : List Slc) (hl : l.length ≤ 1048576) (hq : ∀ x, x ∈ l → Vs.Fn Try.prog g [] (.agg (cV x) :: caps) (.v (.bool (q x))) []) :
    Vs.Fn Try.prog F.slices_DeleteFunc___impl_Card_impl_Card_ [.arr 1 (E cV l) false] [.loc (.b 0) 0 l.length, .fn g caps] (.loc (.b 0) 0 (fltV q l).length) [some (.arr 1 (E cV (fltV q l) ++ zR (l.length - (fltV q l).length)) false)] := by
  have hidx : Vs.Fn Try.prog F.slices_IndexFunc___impl_Card_impl_Card_ [] [.sl 1 (E cV l), .fn g caps] (.v (.int .i64 (idxP q l))) [] :=
    ixA_fn Try.mixed (k := 1) Cd.slices_IndexFunc___impl_Card_impl_Card__ok Cd.slices_IndexFunc___impl_Card_impl_Card__nt Cd.slices_IndexFunc___impl_Card_impl_Card__rs rfl q g caps hcaps (fun _ => rfl) (fun _ => rfl) hq hl
  refine Cd.slices_DeleteFunc___impl_Card_impl_Card__ok.fn Try.mixed (hin := [.arr 1 (E cV l) false]) _ _ [.b 0] [.arr 1 (E cV (fltV q l) ++ zR (l.length - (fltV q l).length)) false] Cd.slices_DeleteFunc___impl_Card_impl_Card__nt Cd.slices_DeleteFunc___impl_Card_impl_Card__rs rfl (by simp) rfl (by simp) fun X => ?_
  unfold Cd.slices_DeleteFunc___impl_Card_impl_Card_
  simp -dsimp only [go_sem, reduceIte, reduceCtorEq, Nat.reduceEqDiff, Nat.reduceLT, Nat.reduceLeDiff, Nat.reduceAdd, Nat.reduceMul, Nat.reduceSub, Int.reduceToNat, Int.reduceNeg, conv_cells hcaps _ 6, conv_cells hcaps _ 7, EV_takeall, E_len]
  refine CallK.flat hidx rfl ?_
  rcases idxV_cases q l with ⟨hn, hall⟩ | ⟨i0, hi0, hn, hq0, hall⟩
  · have e1 : ((-1 : Int) == -1) = true := rfl
    rw [hn]
    have hfl := fltV_none hall
    rw [hfl]
    have hz0 : E cV l ++ zR (l.length - l.length) = E cV l := by unfold zR; simp
    simp -dsimp only [go_sem, reduceIte, reduceCtorEq, Nat.reduceEqDiff, Nat.reduceLT, Nat.reduceLeDiff, Nat.reduceAdd, Nat.reduceMul, Nat.reduceSub, Int.reduceToNat, Int.reduceNeg, e1, E_len, List.replicate_succ, List.replicate_zero, List.flatten_cons, List.flatten_nil, List.cons_append, List.nil_append, List.set_cons_zero, List.set_cons_succ, List.length_cons, List.length_nil, List.length_set]
    exact ⟨[], [], rfl, by rw [hz0]⟩
  · have e1 : ((i0 : Int) == -1) = false := beq_eq_false_iff_ne.2 (by omega)
    have hw0 := wrap_succ hi0 hl
    rw [hn]
    simp -dsimp only [go_sem, reduceIte, reduceCtorEq, Nat.reduceEqDiff, Nat.reduceLT, Nat.reduceLeDiff, Nat.reduceAdd, Nat.reduceMul, Nat.reduceSub, Int.reduceToNat, Int.reduceNeg, e1, hw0, E_len, List.replicate_succ, List.replicate_zero, List.flatten_cons, List.flatten_nil, List.cons_append, List.nil_append, List.set_cons_zero, List.set_cons_succ, List.length_cons, List.length_nil, List.length_set]
    refine LoopK.at (drawn_ok Try.mixed) (X := { zz : Nat × Nat × List Slc // (zz.1 ≤ l.length ∧ zz.2.1 < zz.1) ∧ zz.2.2.length = l.length ∧ zz.2.2.take zz.2.1 = fltV q (l.take zz.1) ∧ zz.2.2.drop zz.1 = l.drop zz.1 }) (fun zz => [(5, .v (.int .i64 zz.1.2.1)), (6, .v (.int .i64 zz.1.1))]) (fun zz => [(.b 0, .arr 1 (E cV zz.1.2.2) false)]) (fun zz => l.length - zz.1.1) ⟨(i0 + 1, i0, l), ⟨show i0 + 1 ≤ l.length by omega, show i0 < i0 + 1 by omega⟩, rfl, ?_, rfl⟩ ?_ ?_
    · show l.take i0 = fltV q (l.take (i0 + 1))
      rw [fltV_succ hi0, fltV_none hall, hq0]; simp
    · simp [Vs.LeL, Vs.look, Vs.hlook, Vs.sput, Vs.sputs, Vs.hset, Vs.hputs]
    · rintro ⟨⟨j, i, m⟩, ⟨hj, hij⟩, hm, ht, hd⟩
      dsimp only at hj hij hm ht hd
      simp -dsimp only [go_sem, reduceIte, reduceCtorEq, Nat.reduceEqDiff, Nat.reduceLT, Nat.reduceLeDiff, Nat.reduceAdd, Nat.reduceMul, Nat.reduceSub, Int.reduceToNat, Int.reduceNeg]
      refine Br.mk (fun hc => ?_) fun hc => ?_
      · have hlt : j < l.length := by simpa using hc
        have hw := wrap_succ hlt hl
        have hwi := wrap_succ (show i < l.length by omega) hl
        have hjm : j < m.length := by omega
        have him : i < m.length := by omega
        have hmj : m[j] = l[j] := by
          have h1 := congrArg (fun x => x[0]?) hd
          simpa [List.getElem?_drop, hjm, hlt] using h1
        have hgm : (E cV m).getD j [] = [.v (.slice l[j].1.1 l[j].1.2.1 l[j].1.2.2)] := by rw [E_get hjm, hmj]; rfl
        have hgi : (E cV m).getD i [] = [.v (.slice m[i].1.1 m[i].1.2.1 m[i].1.2.2)] := E_get him
        have hlm : (E cV m).length = l.length := by rw [E_len]; exact hm
        have hcj : Vs.Fn Try.prog g [] (.agg [.v (.slice l[j].1.1 l[j].1.2.1 l[j].1.2.2)] :: caps) (.v (.bool (q l[j]))) [] := hq _ (List.getElem_mem hlt)
        have hsm := EV_setm m i l[j]
        have hdd : m.drop (j + 1) = l.drop (j + 1) := by
          have h1 := congrArg (List.drop 1) hd
          simpa [List.drop_drop] using h1
        cases hqj : q l[j]
        · have htt : (m.set i l[j]).take (i + 1) = fltV q (l.take (j + 1)) := by
            rw [fltV_succ hlt, hqj, ← ht, take_succ (show i < (m.set i l[j]).length by simpa using him)]
            simp only [List.append_cancel_right_eq, List.getElem_set_self, if_false, Bool.false_eq_true]
            rw [List.take_set_of_le (Nat.le_refl _)]
          have hd2 : (m.set i l[j]).drop (j + 1) = l.drop (j + 1) := by rw [List.drop_set_of_lt (by omega), hdd]
          simp -dsimp only [go_sem, reduceIte, reduceCtorEq, Nat.reduceEqDiff, Nat.reduceLT, Nat.reduceLeDiff, Nat.reduceAdd, Nat.reduceMul, Nat.reduceSub, Int.reduceToNat, Int.reduceNeg, hw, hwi, hgm, hgi, hlm, hsm, hqj, conv_cells hcaps _ 6, conv_cells hcaps _ 7, has_cells hcaps, List.replicate_succ, List.replicate_zero, List.flatten_cons, List.flatten_nil, List.cons_append, List.nil_append, List.set_cons_zero, List.set_cons_succ, List.length_cons, List.length_nil, List.length_set]
          repeat' (first
            | (refine RgK.mk rfl ?_; simp -dsimp only [go_sem, reduceIte, reduceCtorEq, Nat.reduceEqDiff, Nat.reduceLT, Nat.reduceLeDiff, Nat.reduceAdd, Nat.reduceMul, Nat.reduceSub, Int.reduceToNat, Int.reduceNeg, hw, hwi, hgm, hgi, hlm, hsm, hqj, conv_cells hcaps _ 6, conv_cells hcaps _ 7, has_cells hcaps, List.replicate_succ, List.replicate_zero, List.flatten_cons, List.flatten_nil, List.cons_append, List.nil_append, List.set_cons_zero, List.set_cons_succ, List.length_cons, List.length_nil, List.length_set])
            | (refine Br.mk (fun h => ?_) (fun h => ?_) <;> simp -dsimp only [go_sem, reduceIte, reduceCtorEq, Nat.reduceEqDiff, Nat.reduceLT, Nat.reduceLeDiff, Nat.reduceAdd, Nat.reduceMul, Nat.reduceSub, Int.reduceToNat, Int.reduceNeg, h, hw, hwi, hgm, hgi, hlm, hsm, hqj, conv_cells hcaps _ 6, conv_cells hcaps _ 7, has_cells hcaps, List.replicate_succ, List.replicate_zero, List.flatten_cons, List.flatten_nil, List.cons_append, List.nil_append, List.set_cons_zero, List.set_cons_succ, List.length_cons, List.length_nil, List.length_set])
            | (refine CallK.flat (by first | exact hcj) rfl ?_; simp -dsimp only [go_sem, reduceIte, reduceCtorEq, Nat.reduceEqDiff, Nat.reduceLT, Nat.reduceLeDiff, Nat.reduceAdd, Nat.reduceMul, Nat.reduceSub, Int.reduceToNat, Int.reduceNeg, hw, hwi, hgm, hgi, hlm, hsm, hqj, conv_cells hcaps _ 6, conv_cells hcaps _ 7, has_cells hcaps, List.replicate_succ, List.replicate_zero, List.flatten_cons, List.flatten_nil, List.cons_append, List.nil_append, List.set_cons_zero, List.set_cons_succ, List.length_cons, List.length_nil, List.length_set])
            | (refine CallK.pure (by first | exact hcj) ?_; simp -dsimp only [go_sem, reduceIte, reduceCtorEq, Nat.reduceEqDiff, Nat.reduceLT, Nat.reduceLeDiff, Nat.reduceAdd, Nat.reduceMul, Nat.reduceSub, Int.reduceToNat, Int.reduceNeg, hw, hwi, hgm, hgi, hlm, hsm, hqj, conv_cells hcaps _ 6, conv_cells hcaps _ 7, has_cells hcaps, List.replicate_succ, List.replicate_zero, List.flatten_cons, List.flatten_nil, List.cons_append, List.nil_append, List.set_cons_zero, List.set_cons_succ, List.length_cons, List.length_nil, List.length_set])
            | (refine And.intro (by first | rfl | omega | decide | exact ⟨by omega, by omega⟩ | (refine ⟨?_, ?_⟩ <;> (first | rfl | omega | decide | exact ⟨by omega, by omega⟩)) | (refine ⟨?_, ?_, ?_⟩ <;> (first | rfl | omega | decide | exact ⟨by omega, by omega⟩)) | (refine ⟨?_, ?_, ?_, ?_⟩ <;> (first | rfl | omega | decide | exact ⟨by omega, by omega⟩))) ?_)
            | fail)

          all_goals first | omega | (exact ⟨⟨(j + 1, i + 1, m.set i l[j]), ⟨by dsimp only; omega, by dsimp only; omega⟩, by simpa using hm, htt, hd2⟩, by simp [Vs.LeL, Vs.look, Vs.hlook, Vs.sput, Vs.sputs, Vs.hset, Vs.hputs], by simp only; omega⟩)
        · have htt : m.take i = fltV q (l.take (j + 1)) := by rw [fltV_succ hlt, hqj, ← ht]; simp
          simp -dsimp only [go_sem, reduceIte, reduceCtorEq, Nat.reduceEqDiff, Nat.reduceLT, Nat.reduceLeDiff, Nat.reduceAdd, Nat.reduceMul, Nat.reduceSub, Int.reduceToNat, Int.reduceNeg, hw, hwi, hgm, hgi, hlm, hsm, hqj, conv_cells hcaps _ 6, conv_cells hcaps _ 7, has_cells hcaps, List.replicate_succ, List.replicate_zero, List.flatten_cons, List.flatten_nil, List.cons_append, List.nil_append, List.set_cons_zero, List.set_cons_succ, List.length_cons, List.length_nil, List.length_set]
          repeat' (first
            | (refine RgK.mk rfl ?_; simp -dsimp only [go_sem, reduceIte, reduceCtorEq, Nat.reduceEqDiff, Nat.reduceLT, Nat.reduceLeDiff, Nat.reduceAdd, Nat.reduceMul, Nat.reduceSub, Int.reduceToNat, Int.reduceNeg, hw, hwi, hgm, hgi, hlm, hsm, hqj, conv_cells hcaps _ 6, conv_cells hcaps _ 7, has_cells hcaps, List.replicate_succ, List.replicate_zero, List.flatten_cons, List.flatten_nil, List.cons_append, List.nil_append, List.set_cons_zero, List.set_cons_succ, List.length_cons, List.length_nil, List.length_set])
            | (refine Br.mk (fun h => ?_) (fun h => ?_) <;> simp -dsimp only [go_sem, reduceIte, reduceCtorEq, Nat.reduceEqDiff, Nat.reduceLT, Nat.reduceLeDiff, Nat.reduceAdd, Nat.reduceMul, Nat.reduceSub, Int.reduceToNat, Int.reduceNeg, h, hw, hwi, hgm, hgi, hlm, hsm, hqj, conv_cells hcaps _ 6, conv_cells hcaps _ 7, has_cells hcaps, List.replicate_succ, List.replicate_zero, List.flatten_cons, List.flatten_nil, List.cons_append, List.nil_append, List.set_cons_zero, List.set_cons_succ, List.length_cons, List.length_nil, List.length_set])
            | (refine CallK.flat (by first | exact hcj) rfl ?_; simp -dsimp only [go_sem, reduceIte, reduceCtorEq, Nat.reduceEqDiff, Nat.reduceLT, Nat.reduceLeDiff, Nat.reduceAdd, Nat.reduceMul, Nat.reduceSub, Int.reduceToNat, Int.reduceNeg, hw, hwi, hgm, hgi, hlm, hsm, hqj, conv_cells hcaps _ 6, conv_cells hcaps _ 7, has_cells hcaps, List.replicate_succ, List.replicate_zero, List.flatten_cons, List.flatten_nil, List.cons_append, List.nil_append, List.set_cons_zero, List.set_cons_succ, List.length_cons, List.length_nil, List.length_set])
            | (refine CallK.pure (by first | exact hcj) ?_; simp -dsimp only [go_sem, reduceIte, reduceCtorEq, Nat.reduceEqDiff, Nat.reduceLT, Nat.reduceLeDiff, Nat.reduceAdd, Nat.reduceMul, Nat.reduceSub, Int.reduceToNat, Int.reduceNeg, hw, hwi, hgm, hgi, hlm, hsm, hqj, conv_cells hcaps _ 6, conv_cells hcaps _ 7, has_cells hcaps, List.replicate_succ, List.replicate_zero, List.flatten_cons, List.flatten_nil, List.cons_append, List.nil_append, List.set_cons_zero, List.set_cons_succ, List.length_cons, List.length_nil, List.length_set])
            | (refine And.intro (by first | rfl | omega | decide | exact ⟨by omega, by omega⟩ | (refine ⟨?_, ?_⟩ <;> (first | rfl | omega | decide | exact ⟨by omega, by omega⟩)) | (refine ⟨?_, ?_, ?_⟩ <;> (first | rfl | omega | decide | exact ⟨by omega, by omega⟩)) | (refine ⟨?_, ?_, ?_, ?_⟩ <;> (first | rfl | omega | decide | exact ⟨by omega, by omega⟩))) ?_)
            | fail)

          all_goals first | omega | (exact ⟨⟨(j + 1, i, m), ⟨by dsimp only; omega, by dsimp only; omega⟩, hm, htt, hdd⟩, by simp [Vs.LeL, Vs.look, Vs.hlook, Vs.sput, Vs.sputs, Vs.hset, Vs.hputs], by simp only; omega⟩)
      · have hge : j = l.length := by
          have : ¬ j < l.length := by simpa using hc
          omega
        subst hge
        rw [List.take_length] at ht
        have hfi : (fltV q l).length = i := by rw [← ht]; simp; omega
        have hlm : (E cV m).length = l.length := by rw [E_len]; exact hm
        have hcl := clrV_row hm (show i ≤ l.length by omega)
        rw [ht] at hcl
        have hti : ((l.length : Int) - (i : Int)).toNat = l.length - i := by omega
        rw [hfi]
        simp -dsimp only [go_sem, reduceIte, reduceCtorEq, Nat.reduceEqDiff, Nat.reduceLT, Nat.reduceLeDiff, Nat.reduceAdd, Nat.reduceMul, Nat.reduceSub, Int.reduceToNat, Int.reduceNeg, hlm, hcl, hti, List.replicate_succ, List.replicate_zero, List.flatten_cons, List.flatten_nil, List.cons_append, List.nil_append, List.set_cons_zero, List.set_cons_succ, List.length_cons, List.length_nil, List.length_set]
        have hti2 : ((i : Int) - 0).toNat = i := by omega
        rw [hti2]
        exact ⟨⟨⟨by omega, by omega, by omega⟩, by omega, ⟨by omega, by omega, by omega⟩, ⟨[], [], rfl, rfl⟩⟩, fun h => h rfl⟩
end Go.Proofs.Ytokfhfdnmnblfaa
