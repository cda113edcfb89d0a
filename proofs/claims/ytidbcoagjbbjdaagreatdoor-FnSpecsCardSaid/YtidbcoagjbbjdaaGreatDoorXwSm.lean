/- SortedBy: the program and the reference. -/
import Derived.Test.YtidbcoagjbbjdaaGreatDoorVsD
import Derived.Test.YtidbcoagjbbjdaaGreatDoorXwQe
import Derived.Test.YtidbcoagjbbjdaaGreatDoorVtR
import Derived.Test.YtidbcoagjbbjdaaGreatDoorXwC
import Derived.Test.YtidbcoagjbbjdaaGreatDoorXwSd
set_option linter.all false
set_option maxHeartbeats 8000000
namespace Go.Proofs.YtidbcoagjbbjdaaGreatDoor
open Go.Vs
section
variable [Vs.Tab 0 Vs.powP]
attribute [local irreducible] Vs.Fn chOK areCh chTo chAt l03 chB rk cd3 chI stp stpTo
def flt (q : List Int → Bool) (l : List (List Int)) : List (List Int) := l.filter fun x => !q x
theorem flt_succ {q : List Int → Bool} {l : List (List Int)} {j : Nat} (h : j < l.length) : flt q (l.take (j + 1)) = flt q (l.take j) ++ (if q l[j] then [] else [l[j]]) := by
 unfold flt
 rw [take_succ h, List.filter_append]
 congr 1
 cases hq : q l[j] <;> simp [List.filter_cons, hq]
theorem flt_len (q : List Int → Bool) (l : List (List Int)) : (flt q l).length ≤ l.length := List.length_filter_le ..
theorem flt_none {q : List Int → Bool} {l : List (List Int)} (h : l.all (fun x => !q x) = true) : flt q l = l := by
 unfold flt
 exact List.filter_eq_self.2 (List.all_eq_true.1 h)
theorem idxP_cases (q : List Int → Bool) (l : List (List Int)) : (idxP q l = -1 ∧ l.all (fun x => !q x) = true) ∨ ∃ i : Nat, ∃ h : i < l.length, idxP q l = i ∧ q l[i] = true ∧ (l.take i).all (fun x => !q x) = true := by
 unfold idxP
 cases h : l.findIdx? q with
 | none =>
  rw [List.findIdx?_eq_none_iff] at h
  exact .inl ⟨rfl, List.all_eq_true.2 fun x hx => by simp [h x hx]⟩
 | some i =>
  rw [List.findIdx?_eq_some_iff_getElem] at h
  obtain ⟨hi, hp, h2⟩ := h
  refine .inr ⟨i, hi, rfl, hp, List.all_eq_true.2 fun x hx => ?_⟩
  obtain ⟨j, hj, rfl⟩ := List.mem_take_iff_getElem.1 hx
  simpa using h2 j (by omega)
theorem E_setm (m : List (List Int)) (i : Nat) (x : List Int) : (E cC m).set i [.sl 1 (E cI x)] = E cC (m.set i x) := by simp [E, List.map_set, cC]
theorem E_takeall (l : List (List Int)) : (E cC l).take l.length = E cC l := List.take_of_length_le (by simp [E])
def zR (n : Nat) : List (List AV) := List.replicate n [.v (.slice none 0 0)]
theorem clr_row {m : List (List Int)} {i n : Nat} (hm : m.length = n) (hi : i ≤ n) : clrL (E cC m) i (n - i) [.v (.slice none 0 0)] = E cC (m.take i) ++ zR (n - i) := by
 unfold clrL zR
 have h1 : (E cC m).take i = E cC (m.take i) := by simp [E, List.map_take]
 have h2 : (E cC m).drop (i + (n - i)) = [] := List.drop_eq_nil_of_le (by rw [E_len]; omega)
 rw [h1, h2, List.append_nil]
theorem has_cells {c : List AV} (h : cellsB c = true) (n : Name) : hasL n c = false := by
 induction c with
 | nil => rfl
 | cons x r ih =>
  simp only [cellsB, List.all_cons, Bool.and_eq_true] at h
  have hx : x.has n = false := by
   have h1 := h.1
   cases x <;> first | rfl | simp [cellB] at h1
  simp [hasL, hx, ih h.2]
attribute [local irreducible] flt idxP zR clrL
theorem delF (q : List Int → Bool) (g : FuncId) (caps : List AV) (hcaps : cellsB caps = true) (l : List (List Int)) (hl : l.length ≤ 1048576) (hq : ∀ x, x ∈ l → Vs.Fn Tryz.prog g [] (.agg (cC x) :: caps) (.v (.bool (q x))) []) :
  Vs.Fn Tryz.prog F.dlf_Card [.arr 1 (E cC l) false] [.loc (.b 0) 0 l.length, .fn g caps] (.loc (.b 0) 0 (flt q l).length) [some (.arr 1 (E cC (flt q l) ++ zR (l.length - (flt q l).length)) false)] := by
 have hidx : Fz F.ixf_Card [.sl 1 (E cC l), .fn g caps] (.v (.int .i64 (idxP q l))) :=
  ixA_fn Tryz.mixed (k := 1) Cd.ixf_Card_k.o Cd.ixf_Card_k.n Cd.ixf_Card_k.r rfl q g caps hcaps (fun _ => rfl) (fun _ => rfl) hq hl
 refine Cd.dlf_Card_k.o.fn Tryz.mixed (hin := [.arr 1 (E cC l) false]) _ _ [.b 0] [.arr 1 (E cC (flt q l) ++ zR (l.length - (flt q l).length)) false] Cd.dlf_Card_k.n Cd.dlf_Card_k.r rfl (by simp) rfl (by simp) fun X => ?_
 unfold Cd.dlf_Card
 simp -dsimp only [go_sem, conv_cells hcaps _ 6, conv_cells hcaps _ 7, E_takeall, E_len]
 refine CallK.flat hidx rfl ?_
 rcases idxP_cases q l with ⟨hn, hall⟩ | ⟨i0, hi0, hn, hq0, hall⟩
 ·have e1 : ((-1 : Int) == -1) = true := rfl
  rw [hn]
  have hfl := flt_none hall
  rw [hfl]
  have hz0 : E cC l ++ zR (l.length - l.length) = E cC l := by unfold zR; simp
  simp -dsimp only [go_sem, e1, E_len, List.replicate_succ, List.replicate_zero, List.flatten_cons, List.flatten_nil, List.cons_append, List.nil_append, List.set_cons_zero, List.set_cons_succ, List.length_cons, List.length_nil, List.length_set]
  exact ⟨[], [], rfl, by rw [hz0]⟩
 ·have e1 : ((i0 : Int) == -1) = false := beq_eq_false_iff_ne.2 (by omega)
  have hw0 := wrap_succ hi0 hl
  rw [hn]
  simp -dsimp only [go_sem, e1, hw0, E_len, List.replicate_succ, List.replicate_zero, List.flatten_cons, List.flatten_nil, List.cons_append, List.nil_append, List.set_cons_zero, List.set_cons_succ, List.length_cons, List.length_nil, List.length_set]
  refine LoopK.at dM (X := { zz : Nat × Nat × List (List Int) // (zz.1 ≤ l.length ∧ zz.2.1 < zz.1) ∧ zz.2.2.length = l.length ∧ zz.2.2.take zz.2.1 = flt q (l.take zz.1) ∧ zz.2.2.drop zz.1 = l.drop zz.1 }) (fun zz => [(5, .v (.int .i64 zz.1.2.1)), (6, .v (.int .i64 zz.1.1))]) (fun zz => [(.b 0, .arr 1 (E cC zz.1.2.2) false)]) (fun zz => l.length - zz.1.1) ⟨(i0 + 1, i0, l), ⟨show i0 + 1 ≤ l.length by omega, show i0 < i0 + 1 by omega⟩, rfl, ?_, rfl⟩ ?_ ?_
  ·show l.take i0 = flt q (l.take (i0 + 1))
   rw [flt_succ hi0, flt_none hall, hq0]; simp
  ·exact le0
  ·rintro ⟨⟨j, i, m⟩, ⟨hj, hij⟩, hm, ht, hd⟩
   dsimp only at hj hij hm ht hd
   simp -dsimp only [go_sem]
   refine Br.mk (fun hc => ?_) fun hc => ?_
   ·have hlt : j < l.length := by simpa using hc
    have hw := wrap_succ hlt hl
    have hwi := wrap_succ (show i < l.length by omega) hl
    have hjm : j < m.length := by omega
    have him : i < m.length := by omega
    have hmj : m[j] = l[j] := by
     have h1 := congrArg (fun x => x[0]?) hd
     simpa [List.getElem?_drop, hjm, hlt] using h1
    have hgm : (E cC m).getD j [] = [.sl 1 (E cI l[j])] := by rw [E_get hjm, hmj]; rfl
    have hgi : (E cC m).getD i [] = [.sl 1 (E cI m[i])] := E_get him
    have hlm : (E cC m).length = l.length := by rw [E_len]; exact hm
    have hcj : Vs.Fn Tryz.prog g [] (.agg [.sl 1 (E cI l[j])] :: caps) (.v (.bool (q l[j]))) [] := hq _ (List.getElem_mem hlt)
    have hsm := E_setm m i l[j]
    have hdd : m.drop (j + 1) = l.drop (j + 1) := by
     have h1 := congrArg (List.drop 1) hd
     simpa [List.drop_drop] using h1
    cases hqj : q l[j]
    ·have htt : (m.set i l[j]).take (i + 1) = flt q (l.take (j + 1)) := by
      rw [flt_succ hlt, hqj, ← ht, take_succ (show i < (m.set i l[j]).length by simpa using him)]
      simp only [List.append_cancel_right_eq, List.getElem_set_self, if_false, Bool.false_eq_true]
      rw [List.take_set_of_le (Nat.le_refl _)]
     have hd2 : (m.set i l[j]).drop (j + 1) = l.drop (j + 1) := by rw [List.drop_set_of_lt (by omega), hdd]
     repeat' first|simp -dsimp only [go_sem, hw, hwi, hgm, hgi, hlm, hsm, hqj, conv_cells hcaps _ 6, conv_cells hcaps _ 7, has_cells hcaps, List.replicate_succ, List.replicate_zero, List.flatten_cons, List.flatten_nil, List.cons_append, List.nil_append, List.set_cons_zero, List.set_cons_succ, List.length_cons, List.length_nil, List.length_set]|apply Br.mk<;>intro h<;>try simp -dsimp only[h]|refine CallK.c (by first|exact hcj) ?_|refine aC ?_|fail
     all_goals first | omega | (exact ⟨⟨(j + 1, i + 1, m.set i l[j]), ⟨by dsimp only; omega, by dsimp only; omega⟩, by simpa using hm, htt, hd2⟩, by simp [Vs.LeL, Vs.look, Vs.hlook, Vs.sput, Vs.sputs, Vs.hset, Vs.hputs], by simp only; omega⟩)
    ·have htt : m.take i = flt q (l.take (j + 1)) := by rw [flt_succ hlt, hqj, ← ht]; simp
     repeat' first|simp -dsimp only [go_sem, hw, hwi, hgm, hgi, hlm, hsm, hqj, conv_cells hcaps _ 6, conv_cells hcaps _ 7, has_cells hcaps, List.replicate_succ, List.replicate_zero, List.flatten_cons, List.flatten_nil, List.cons_append, List.nil_append, List.set_cons_zero, List.set_cons_succ, List.length_cons, List.length_nil, List.length_set]|apply Br.mk<;>intro h<;>try simp -dsimp only[h]|refine CallK.c (by first|exact hcj) ?_|refine aC ?_|fail
     all_goals first | omega | (exact ⟨⟨(j + 1, i, m), ⟨by dsimp only; omega, by dsimp only; omega⟩, hm, htt, hdd⟩, by simp [Vs.LeL, Vs.look, Vs.hlook, Vs.sput, Vs.sputs, Vs.hset, Vs.hputs], by simp only; omega⟩)
   ·have hge : j = l.length := by
     have : ¬ j < l.length := by simpa using hc
     omega
    subst hge
    rw [List.take_length] at ht
    have hfi : (flt q l).length = i := by rw [← ht]; simp; omega
    have hlm : (E cC m).length = l.length := by rw [E_len]; exact hm
    have hcl := clr_row hm (show i ≤ l.length by omega)
    rw [ht] at hcl
    have hti : ((l.length : Int) - (i : Int)).toNat = l.length - i := by omega
    rw [hfi]
    simp -dsimp only [go_sem, hlm, hcl, hti, List.replicate_succ, List.replicate_zero, List.flatten_cons, List.flatten_nil, List.cons_append, List.nil_append, List.set_cons_zero, List.set_cons_succ, List.length_cons, List.length_nil, List.length_set]
    have hti2 : ((i : Int) - 0).toNat = i := by omega
    rw [hti2]
    exact ⟨⟨⟨by omega, by omega, by omega⟩, by omega, ⟨by omega, by omega, by omega⟩, ⟨[], [], rfl, rfl⟩⟩, fun h => h rfl⟩
end
section
variable [Vs.Tab 0 Vs.powP]
attribute [local irreducible] Vs.Fn chOK areCh chTo chAt l03 chB rk cd3 chI stp stpTo flt idxP zR clrL
theorem CallK.borL {P : Program} {f : FuncId} {b : Blk} {ys : List AV} {L : List Vs.Name} {d : Option Nat} {σ : St} {n : Vs.Name} {K : St → Prop} {t : Tag K} {r : AV} {hout : List (Option Blk)} (hfn : Vs.Fn P f [b] ys r hout) (hfr : freshAll (d.getD 0) 1 hout.length σ = true)
  (hK : K ⟨put d (rn (phi [n] (d.getD 0) hout.length) r) σ.s, aftL σ.h [n] (d.getD 0) hout true L⟩) : CallK P f [b] ys L d σ [n] K t :=
 ⟨r, hout, true, hfn, fun h => (by cases h), hfr, hK⟩
theorem row_take (m : List (List Int)) (k : Nat) : (E cC m ++ zR k).take m.length = E cC m := by
 have : m.length = (E cC m).length := (E_len ..).symm
 rw [this, List.take_left']
 rfl
end
section
variable [Vs.Tab 0 Vs.powP]
attribute [local irreducible] Vs.Fn chOK areCh chTo chAt l03 chB rk cd3 chI stp stpTo stb
theorem sortStable (g : FuncId) (caps : List AV) (hcaps : cellsB caps = true) (cf : Int → Int → Int) (D : Int → Prop) (hc : CmpOK Tryz.prog g caps cf D) (l : List Int) (hD : ∀ x, x ∈ l → D x) (hl : l.length ≤ 40) :
  Vs.Fn Tryz.prog F.sortst___int64 [.arr 1 (E cI l) false] [.loc (.b 0) 0 l.length, .fn g caps] (.tup []) [some (.arr 1 (E cI (stb (ltf cf) l)) false)] := by
 have ST := stable g caps hcaps cf D hc l hD hl
 refine Cd.sortst___int64_k.o.fn Tryz.mixed (hin := [.arr 1 (E cI l) false]) _ _ [.b 0] [.arr 1 (E cI (stb (ltf cf) l)) false] Cd.sortst___int64_k.n Cd.sortst___int64_k.r rfl (by simp) rfl (by simp) fun X => ?_
 unfold Cd.sortst___int64
 repeat' first|simp -dsimp only [go_sem, List.flatMap_cons, List.flatMap_nil, cellN, topN, nestN, List.getD_cons_zero, List.append_nil, List.nil_append, List.cons_append, conv_cells hcaps _ 6, conv_cells hcaps _ 7, E_len]|apply Br.mk<;>intro h<;>try simp -dsimp only[h]|refine CallK.bor (by first|exact ST) rfl ?_|refine aC ?_|fail
 all_goals first | exact ⟨_, _, rfl, rfl⟩
def cfO (fr to : Int) (l : List (List Int)) (i j : Int) : Int := cmF fr to (l.getD i.toNat []) (l.getD j.toNat [])
def inO (n : Nat) (x : Int) : Prop := 0 ≤ x ∧ x < (n : Int)
theorem cC_get {l : List (List Int)} {x : Int} (h : inO l.length x) : (E cC l).getD x.toNat [] = [.sl 1 (E cI (l.getD x.toNat []))] := by
 have hlt : x.toNat < l.length := by have := h.1; have := h.2; omega
 rw [E_get hlt]; simp [cC, List.getD, hlt]
theorem mem_get {l : List (List Int)} {x : Int} (h : inO l.length x) : l.getD x.toNat [] ∈ l := by
 have hlt : x.toNat < l.length := by have := h.1; have := h.2; omega
 have e : l.getD x.toNat [] = l[x.toNat] := by simp [List.getD, hlt]
 rw [e]; exact List.getElem_mem hlt
theorem orderBy1 (l : List (List Int)) (fr to : Int) (ho : ∀ c, c ∈ l → okF fr to c) : CmpOK Tryz.prog F.i_orderBy_1 [.ro [.sl 1 (E cC l)], .ro (cFd fr to)] (cfO fr to l) (inO l.length) := by
 intro x y hx hy
 have gx := cC_get hx
 have gy := cC_get hy
 have x0 := hx.1
 have x1 := hx.2
 have y0 := hy.1
 have y1 := hy.2
 have C := compareFields (l.getD x.toNat []) (l.getD y.toNat []) fr to (ho _ (mem_get hx)) (ho _ (mem_get hy))
 rw [show cmF fr to (l.getD x.toNat []) (l.getD y.toNat []) = cfO fr to l x y from rfl] at C
 refine fn0 Cd.i_orderBy_1_k fun X => ?_
 repeat' first|simp -dsimp only [go_sem, cC, cFd, gx, gy, E_len]|apply Br.mk<;>intro h<;>try simp -dsimp only[h]|refine CallK.c (by first|exact C) ?_|refine aC ?_|fail
 all_goals first | exact ⟨_, _, rfl, rfl⟩ | simp
def iota (n : Nat) : List Int := (List.range n).map fun i : Nat => (i : Int)
theorem iota_succ (n : Nat) : iota (n + 1) = iota n ++ [(n : Int)] := by simp [iota, List.range_succ]
theorem iota_len (n : Nat) : (iota n).length = n := by simp [iota]
theorem iota_in {n : Nat} : ∀ x, x ∈ iota n → inO n x := by
 intro x hx
 obtain ⟨i, hi, rfl⟩ := List.mem_map.1 hx
 have := List.mem_range.1 hi
 exact ⟨by omega, by omega⟩
def ordL (fr to : Int) (l : List (List Int)) : List Int := stb (ltf (cfO fr to l)) (iota l.length)
theorem ordL_len (fr to : Int) (l : List (List Int)) : (ordL fr to l).length = l.length := by rw [ordL, stb_length, iota_len]
attribute [local go_sem] E_len in
theorem orderBy (l : List (List Int)) (fr to : Int) (ho : ∀ c, c ∈ l → okF fr to c) (hl : l.length ≤ 40) : Fz F.i_orderBy [.sl 1 (E cC l), .agg (cFd fr to)] (.sl 1 (E cI (ordL fr to l))) := by
 refine fn0 Cd.i_orderBy_k fun X => ?_
 repeat' first|simp -dsimp only [go_sem, cC, cFd]|apply Br.mk<;>intro h<;>try simp -dsimp only[h]|refine aC ?_|fail
 refine LoopK.at dM (X := { zz : Nat × (Unit) // zz.1 ≤ l.length ∧ True }) (fun zz => [(5, .loc (.t 5 0) 0 zz.1.1), (10, .v (.int .i64 zz.1.1))]) (fun zz => [(.t 5 0, .arr 1 (E cI (iota zz.1.1)) false)]) (fun zz => l.length - zz.1.1) ⟨(0, ()), by omega, trivial⟩ ?_ ?_
 ·simp [Vs.LeL, Vs.look, Vs.hlook, Vs.sput, Vs.sputs, Vs.hset, Vs.hputs, Vs.E, iota]
 ·rintro ⟨⟨i, _⟩, hi, hg⟩
  dsimp only at hi hg
  simp -dsimp only [go_sem, cC, cFd, iota_len, List.mem_singleton, List.mem_cons, List.not_mem_nil, or_false, false_or, Vs.Name.t.injEq, List.flatMap_cons, List.flatMap_nil, cellN, topN, nestN, List.getD_cons_zero, List.append_nil, List.nil_append, List.cons_append]
  refine Br.mk (fun hc => ?_) fun hc => ?_
  ·have hlt : i < l.length := Dq
   have hw := wrap_succ hlt (by omega)
   have hap : E cI (iota i) ++ [[.v (.int .i64 (i : Int))]] = E cI (iota (i + 1)) := by rw [iota_succ, E_append]; rfl
   repeat' first|simp -dsimp only [go_sem, hw, hap, cC, cFd, iota_len, List.mem_singleton, List.mem_cons, List.not_mem_nil, or_false, false_or, Vs.Name.t.injEq, List.flatMap_cons, List.flatMap_nil, cellN, topN, nestN, List.getD_cons_zero, List.append_nil, List.nil_append, List.cons_append]|apply Br.mk<;>intro h<;>try simp -dsimp only[h]|refine aC ?_|fail
   all_goals first | omega | (exact nx (i + 1, ()) trivial (h2 := by simp [Vs.LeL, Vs.look, Vs.hlook, Vs.sput, Vs.sputs, Vs.hset, Vs.hputs, hap]))
  ·have hge : i = l.length := by
    have : ¬ i < l.length := Dq
    omega
   subst hge
   simp -dsimp only [go_sem, cC, cFd, iota_len, List.mem_singleton, List.mem_cons, List.not_mem_nil, or_false, false_or, Vs.Name.t.injEq, List.flatMap_cons, List.flatMap_nil, cellN, topN, nestN, List.getD_cons_zero, List.append_nil, List.nil_append, List.cons_append]
   have ST := sortStable F.i_orderBy_1 [.ro [.sl 1 (E cC l)], .ro (cFd fr to)] rfl (cfO fr to l) (inO l.length) (orderBy1 l fr to ho) (iota l.length) iota_in (by rw [iota_len]; exact hl)
   rw [show stb (ltf (cfO fr to l)) (iota l.length) = ordL fr to l from rfl, iota_len] at ST
   refine ⟨⟨rfl, CallK.borL ST rfl ?_⟩, fun h => h rfl⟩
   simp -dsimp only [go_sem, ordL_len fr to l, List.mem_singleton, List.mem_cons, List.not_mem_nil, or_false, false_or, Vs.Name.t.injEq, List.flatMap_cons, List.flatMap_nil, cellN, topN, nestN, List.getD_cons_zero, List.append_nil, List.nil_append, List.cons_append]
   have htk : (E cI (ordL fr to l)).take l.length = E cI (ordL fr to l) := List.take_of_length_le (by rw [E_len, ordL_len fr to l]; exact Nat.le_refl _)
   first | exact ⟨_, _, rfl, rfl⟩ | (simp only [htk]; exact ⟨_, _, rfl, rfl⟩)
theorem cmpR_anti : ∀ (a b : List Int), a.length = b.length → cmpR b a = - cmpR a b
 | [], [], _ => rfl
 | x :: a, y :: b, h => by
  have ih := cmpR_anti a b (by simpa using h)
  simp only [cmpR]
  by_cases h1 : rk x < rk y
  ·have h2 : ¬ rk y < rk x := by omega
   have h3 : rk y > rk x := by omega
   simp [h1, h2, h3]
  ·by_cases h2 : rk y < rk x
   ·simp [h1, h2]
   ·simp [h1, h2, ih]
 | [], _ :: _, h => by simp at h
 | _ :: _, [], h => by simp at h
theorem cmpR_zero : ∀ (a b c : List Int), a.length = b.length → b.length = c.length → cmpR a b = 0 → cmpR a c = cmpR b c
 | [], [], c, _, _, _ => rfl
 | x :: a, y :: b, [], _, h, _ => by simp at h
 | x :: a, y :: b, z :: c, h1, h2, h => by
  simp only [cmpR] at h ⊢
  split at h
  ·cases h
  ·split at h
   ·cases h
   ·have ih := cmpR_zero a b c (by simpa using h1) (by simpa using h2) h
    have e : rk x = rk y := by omega
    rw [e, ih]
 | [], _ :: _, _, h, _, _ => by simp at h
 | _ :: _, [], _, h, _, _ => by simp at h
theorem cmpR_trans : ∀ (a b c : List Int), a.length = b.length → b.length = c.length → cmpR a b < 0 → cmpR b c ≤ 0 → cmpR a c < 0
 | [], [], c, _, _, h, _ => by simp [cmpR] at h
 | x :: a, y :: b, [], _, h, _, _ => by simp at h
 | x :: a, y :: b, z :: c, h1, h2, h, h' => by
  simp only [cmpR] at h h' ⊢
  split at h
  ·split at h'
   ·rw [if_pos (by omega)]; omega
   ·split at h'
    ·omega
    ·rw [if_pos (by omega)]; omega
  ·split at h
   ·omega
   ·split at h'
    ·rw [if_pos (by omega)]; omega
    ·split at h'
     ·omega
     ·rw [if_neg (by omega), if_neg (by omega)]
      exact cmpR_trans a b c (by simpa using h1) (by simpa using h2) h h'
 | [], _ :: _, _, h, _, _, _ => by simp at h
 | _ :: _, [], _, h, _, _, _ => by simp at h
end
section
variable [Vs.Tab 0 Vs.powP]
attribute [local irreducible] Vs.Fn chOK areCh chTo chAt l03 chB rk cd3 chI stp stpTo stb
def ordR (fr to : Int) (l : List (List Int)) (x y : Int) : Prop := (inO l.length x ∧ inO l.length y) ∧ (cfO fr to l x y < 0 ∨ (cfO fr to l x y = 0 ∧ x < y))
section
variable {fr to : Int} {l : List (List Int)} (ho : ∀ c, c ∈ l → okF fr to c)
include ho
theorem cf_len {x : Int} (hx : inO l.length x) : (fH fr to (l.getD x.toNat [])).length = to.toNat - fr.toNat := fH_len (ho _ (mem_get hx))
theorem cf_anti {x y : Int} (hx : inO l.length x) (hy : inO l.length y) : cfO fr to l y x = - cfO fr to l x y := cmpR_anti _ _ (by rw [cf_len ho hx, cf_len ho hy])
theorem cf_zero {x y z : Int} (hx : inO l.length x) (hy : inO l.length y) (hz : inO l.length z) (h : cfO fr to l x y = 0) : cfO fr to l x z = cfO fr to l y z :=
 cmpR_zero _ _ _ (by rw [cf_len ho hx, cf_len ho hy]) (by rw [cf_len ho hy, cf_len ho hz]) h
theorem cf_trans {x y z : Int} (hx : inO l.length x) (hy : inO l.length y) (hz : inO l.length z) (h : cfO fr to l x y < 0) (h' : cfO fr to l y z ≤ 0) : cfO fr to l x z < 0 :=
 cmpR_trans _ _ _ (by rw [cf_len ho hx, cf_len ho hy]) (by rw [cf_len ho hy, cf_len ho hz]) h h'
theorem ordR_trans (x y z : Int) (h1 : ordR fr to l x y) (h2 : ordR fr to l y z) : ordR fr to l x z := by
 obtain ⟨⟨hx, hy⟩, h1⟩ := h1
 obtain ⟨⟨_, hz⟩, h2⟩ := h2
 refine ⟨⟨hx, hz⟩, ?_⟩
 rcases h1 with h1 | ⟨h1, h3⟩
 ·exact .inl (cf_trans ho hx hy hz h1 (by omega))
 ·rw [cf_zero ho hx hy hz h1]
  rcases h2 with h2 | ⟨h2, h4⟩
  ·exact .inl h2
  ·exact .inr ⟨h2, by omega⟩
theorem ordR_asym (x y : Int) (h1 : ordR fr to l x y) : ¬ ordR fr to l y x := by
 rintro ⟨⟨hy, hx⟩, h2⟩
 have e := cf_anti ho hx hy
 have h1 := h1.2
 omega
theorem iota_asks : (iota l.length).Pairwise (Asks (ltf (cfO fr to l)) (ordR fr to l)) := by
 unfold iota
 rw [List.pairwise_map]
 refine List.Pairwise.imp_of_mem (R := fun a b => a < b) ?_ List.pairwise_lt_range
 intro a b ha hb hab
 have hx : inO l.length (a : Int) := ⟨by omega, by have := List.mem_range.1 ha; omega⟩
 have hy : inO l.length (b : Int) := ⟨by omega, by have := List.mem_range.1 hb; omega⟩
 have e := cf_anti ho hx hy
 refine ⟨?_, ?_⟩
 ·simp only [ltf, decide_eq_true_eq]
  exact ⟨fun h => ⟨⟨hy, hx⟩, .inl h⟩, fun h => by have := h.2; omega⟩
 ·by_cases h : cfO fr to l b a < 0
  ·exact .inr ⟨⟨hy, hx⟩, .inl h⟩
  ·refine .inl ⟨⟨hx, hy⟩, ?_⟩
   by_cases h0 : cfO fr to l a b = 0
   ·exact .inr ⟨h0, by omega⟩
   ·exact .inl (by omega)
theorem ordL_srt (hl : l.length ≤ 40) : (ordL fr to l).Perm (iota l.length) ∧ (ordL fr to l).Pairwise (ordR fr to l) :=
 stb_srt (ordR_trans ho) (ordR_asym ho) (by rw [iota_len]; exact hl) (iota_asks ho)
theorem ordL_in (hl : l.length ≤ 40) : ∀ x, x ∈ ordL fr to l → inO l.length x := fun x hx => iota_in x ((ordL_srt ho hl).1.mem_iff.1 hx)
end
attribute [local irreducible] ordL
def srtL (fr to : Int) (l : List (List Int)) : List (List Int) := (ordL fr to l).map fun i => l.getD i.toNat []
attribute [local go_sem] E_len List.replicate_succ List.replicate_zero List.flatten_cons List.flatten_nil List.cons_append List.nil_append List.set_cons_zero List.set_cons_succ List.length_cons List.length_nil List.length_set in
theorem sortedBy (l : List (List Int)) (fr to : Int) (ho : ∀ c, c ∈ l → okF fr to c) (hl : l.length ≤ 40) : Fz F.i_sortedBy [.sl 1 (E cC l), .agg (cFd fr to)] (.sl 1 (E cC (srtL fr to l))) := by
 have OB := orderBy l fr to ho hl
 have hol := ordL_len fr to l
 have hoi := ordL_in ho hl
 rw [show srtL fr to l = (ordL fr to l).map (fun i => l.getD i.toNat []) from rfl]
 generalize ordL fr to l = o at *
 refine fn0 Cd.i_sortedBy_k fun X => ?_
 repeat' first|simp -dsimp only [go_sem, cC, cFd]|apply Br.mk<;>intro h<;>try simp -dsimp only[h]|refine CallK.c (by first|exact OB) ?_|refine aC ?_|fail
 refine LoopK.at dM (X := { zz : Nat × (Unit) // zz.1 ≤ o.length ∧ True }) (fun zz => [(5, .loc (.t 5 0) 0 zz.1.1), (13, .v (.int .i64 zz.1.1))]) (fun zz => [(.t 5 0, .arr 1 (E cC ((o.take zz.1.1).map fun i => l.getD i.toNat [])) false)]) (fun zz => o.length - zz.1.1) ⟨(0, ()), by omega, trivial⟩ ?_ ?_
 ·simp [Vs.LeL, Vs.look, Vs.hlook, Vs.sput, Vs.sputs, Vs.hset, Vs.hputs, Vs.E]
 ·rintro ⟨⟨i, _⟩, hi, hg⟩
  dsimp only at hi hg
  simp -dsimp only [go_sem, cC, cFd]
  refine Br.mk (fun hc => ?_) fun hc => ?_
  ·have hlt : i < o.length := Dq
   have hw := wrap_succ hlt (by omega)
   have hx := hoi _ (List.getElem_mem hlt)
   have gx := cC_get hx
   have hm := mem_get hx
   have hc20 : (l.getD o[i].toNat []).length ≤ 20 := (ho _ hm).2.2.2
   have NC := newCard (l.getD o[i].toNat []) (by omega)
   have x0 := hx.1
   have x1 := hx.2
   have hap : E cC ((o.take i).map fun i => l.getD i.toNat []) ++ [[.sl 1 (E cI (l.getD o[i].toNat []))]] = E cC ((o.take (i + 1)).map fun i => l.getD i.toNat []) := by
    rw [take_succ hlt, List.map_append, E_append]; rfl
   have hal : (E cC ((o.take i).map fun i => l.getD i.toNat [])).length = i := by rw [E_len]; simp; omega
   repeat' first|simp -dsimp only [go_sem, cI_get hlt, hw, hap, hal, gx, cC, cFd]|apply Br.mk<;>intro h<;>try simp -dsimp only[h]|refine CallK.c (by first|exact NC) ?_|refine aC ?_|fail
   all_goals first | omega | (exact nx (i + 1, ()) trivial (h2 := by simp [Vs.LeL, Vs.look, Vs.hlook, Vs.sput, Vs.sputs, Vs.hset, Vs.hputs, hap]))
  ·have hge : i = o.length := by
    have : ¬ i < o.length := Dq
    omega
   subst hge
   simp -dsimp only [go_sem, cC, cFd]
   have htk : (E cC ((o.take o.length).map fun i => l.getD i.toNat [])).take o.length = E cC (o.map fun i => l.getD i.toNat []) := by
    rw [List.take_of_length_le (Nat.le_refl o.length)]; exact List.take_of_length_le (by rw [E_len]; simp)
   first | exact ⟨⟨_, _, rfl, rfl⟩, fun h => h rfl⟩ | (rw [htk]; exact ⟨⟨_, _, rfl, rfl⟩, fun h => h rfl⟩) | (simp [htk]; done)
end
section
variable [Vs.Tab 0 Vs.powP]
attribute [local irreducible] Vs.Fn chOK areCh chTo chAt l03 chB rk cd3 chI stp stpTo flt idxP zR clrL
end
section
variable [Vs.Tab 0 Vs.powP]
attribute [local irreducible] Vs.Fn chOK areCh chTo chAt l03 chB rk cd3 chI stp stpTo stb ordL
end
section
variable [Vs.Tab 0 Vs.powP]
attribute [local irreducible] Vs.Fn chOK areCh chTo chAt l03 chB rk cd3 chI stp stpTo stb ordL
end
section
variable [Vs.Tab 0 Vs.powP]
attribute [local irreducible] Vs.Fn chOK areCh chTo chAt l03 chB rk cd3 chI stp stpTo
end
section
variable [Vs.Tab 0 Vs.powP]
attribute [local irreducible] Vs.Fn chOK areCh chTo chAt l03 chB rk cd3 chI stp stpTo stb ordL
theorem deck_40 {l : List (List Int)} (h : deckB l = true) : l.length ≤ 40 := by
 simp only [deckB, Bool.and_eq_true, decide_eq_true_eq] at h
 exact h.2
end
end Go.Proofs.YtidbcoagjbbjdaaGreatDoor
