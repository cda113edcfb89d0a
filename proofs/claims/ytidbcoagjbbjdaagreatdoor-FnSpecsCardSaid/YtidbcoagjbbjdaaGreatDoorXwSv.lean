/- Cards of a text are selected: the program's way. -/
import Derived.Test.YtidbcoagjbbjdaaGreatDoorVsD
import Derived.Test.YtidbcoagjbbjdaaGreatDoorXwSr
import Derived.Test.YtidbcoagjbbjdaaGreatDoorXwQb
import Derived.Test.YtidbcoagjbbjdaaGreatDoorVtR
import Derived.Test.YtidbcoagjbbjdaaGreatDoorXwQd
import Derived.Test.YtidbcoagjbbjdaaGreatDoorXwSm
set_option linter.all false
set_option maxHeartbeats 8000000
namespace Go.Proofs.YtidbcoagjbbjdaaGreatDoor
open Go.Vs
section
variable [Vs.Tab 0 Vs.powP]
attribute [local irreducible] Vs.Fn chOK areCh chTo chAt l03 chB rk cd3 chI stp stpTo
theorem blankO (w : Nat) (hw : w ≤ 1000) : Vs.Fn Tryz.prog F.i_blank [] [.v (.int .i64 w)] (.agg [.loc (.b 0) 0 w]) [some (.arr 1 (List.replicate w [.v (.int .i64 0)]) false)] := by
 have hz : ((w : Int)).toNat = w := by omega
 refine Cd.i_blank_k.o.fn Tryz.mixed (hin := []) _ _ [.t 4 0] [.arr 1 (List.replicate w [.v (.int .i64 0)]) false] Cd.i_blank_k.n Cd.i_blank_k.r rfl (by simp) rfl (by simp) fun X => ?_
 unfold Cd.i_blank
 repeat' first|simp -dsimp only [go_sem, E_len, List.set_cons_zero, List.set_cons_succ, List.length_cons, List.length_nil, List.length_set, List.length_replicate, List.flatMap_cons, List.flatMap_nil, cellN, topN, nestN, List.getD_cons_zero, List.append_nil, List.nil_append, List.cons_append, hz]|apply Br.mk<;>intro h<;>try simp -dsimp only[h]|refine aC ?_|fail
 all_goals first | exact ⟨_, _, rfl, rfl⟩
def bcd (s : ByteArray) : List Int := s.data.toList.map fun b => cd3 (b.toNat : Int)
def punTo (s : ByteArray) (w i : Nat) : List Int := (bcd s).take i ++ List.replicate (w - i) 0
def pun (s : ByteArray) (w : Nat) : List Int := bcd s ++ List.replicate (w - s.size) 0
theorem bcd_len (s : ByteArray) : (bcd s).length = s.size := by simp [bcd]
theorem punTo_zero (s : ByteArray) (w : Nat) : E cI (punTo s w 0) = List.replicate w [.v (.int .i64 0)] := by simp [punTo, E, cI]
theorem punTo_full (s : ByteArray) (w : Nat) : punTo s w s.size = pun s w := by
 unfold punTo pun
 rw [List.take_of_length_le (by rw [bcd_len]; exact Nat.le_refl _)]
theorem punTo_len {s : ByteArray} {w i : Nat} (h : i ≤ s.size) (hw : s.size ≤ w) : (punTo s w i).length = w := by
 have := bcd_len s
 simp [punTo]; omega
theorem punTo_set {s : ByteArray} {w i : Nat} (h : i < s.size) (hw : s.size ≤ w) : (E cI (punTo s w i)).set i [.v (.int .i64 (cd3 ((s.data.toList.getD i 0).toNat : Int)))] = E cI (punTo s w (i + 1)) := by
 have hl := bcd_len s
 have hib : i < (bcd s).length := by omega
 have hA : ((bcd s).take i).length = i := by simp; omega
 have hb : (bcd s)[i] = cd3 ((s.data.toList.getD i 0).toNat : Int) := by
  have hi2 : i < s.data.toList.length := by simpa [bcd] using hib
  have e2 : s.data.toList.getD i 0 = s.data.toList[i] := by rw [List.getD_eq_getElem?_getD, List.getElem?_eq_getElem hi2]; rfl
  rw [e2]; simp [bcd]
 have e : (punTo s w i).set i (cd3 ((s.data.toList.getD i 0).toNat : Int)) = punTo s w (i + 1) := by
  unfold punTo
  rw [show w - i = (w - (i + 1)) + 1 by omega, List.replicate_succ, List.set_append, if_neg (by omega), hA, Nat.sub_self, List.set_cons_zero, take_succ hib, hb]
  simp
 rw [← e]
 simp [E, List.map_set, cI]
attribute [local irreducible] punTo
attribute [local go_sem] E_len List.set_cons_zero List.set_cons_succ List.length_cons List.length_nil List.length_set List.length_replicate List.flatMap_cons List.flatMap_nil cellN topN nestN List.getD_cons_zero List.append_nil List.nil_append List.cons_append in
theorem punchText (s : ByteArray) (w : Nat) (hw : w ≤ 1000) (hs : s.size ≤ w) : Fz F.i_punchText [.v (.string s), .v (.int .i64 w)] (.agg [.sl 1 (E cI (pun s w))]) := by
 have BL := blankO w hw
 refine fn0 Cd.i_punchText_k fun X => ?_
 simp -dsimp only [go_sem]
 refine CallK.own BL rfl ?_
 repeat' first|simp -dsimp only [go_sem]|apply Br.mk<;>intro h<;>try simp -dsimp only[h]|refine aC ?_|fail
 refine LoopK.at dM (X := { zz : Nat × (Unit) // zz.1 ≤ s.size ∧ True }) (fun zz => [(6, .v (.int .i64 zz.1.1))]) (fun zz => [(.t 8 0, .arr 1 (E cI (punTo s w zz.1.1)) false)]) (fun zz => s.size - zz.1.1) ⟨(0, ()), by omega, trivial⟩ ?_ ?_
 ·simp [Vs.LeL, Vs.look, Vs.hlook, Vs.sput, Vs.sputs, Vs.hset, Vs.hputs, punTo_zero]
 ·rintro ⟨⟨i, _⟩, hi, hg⟩
  dsimp only at hi hg
  simp -dsimp only [go_sem]
  refine Br.mk (fun hc => ?_) fun hc => ?_
  ·have hlt : i < s.size := Dq
   have hw := wrap_succ hlt (by omega)
   have hps := punTo_set (w := w) hlt hs
   have hpl : (E cI (punTo s w i)).length = w := by rw [E_len]; exact punTo_len (by omega) hs
   have CO := codeOf ((s.data.toList.getD i 0).toNat : Int)
   have hrow : ∃ y, (E cI (punTo s w i)).getD i [] = [y] := by
    have hil : i < (punTo s w i).length := by rw [punTo_len (by omega) hs]; omega
    exact ⟨.v (.int .i64 (punTo s w i)[i]), by rw [E_get hil]; rfl⟩
   obtain ⟨y, hy⟩ := hrow
   repeat' first|simp -dsimp only [go_sem, hw, hps, hpl, hy]|apply Br.mk<;>intro h<;>try simp -dsimp only[h]|refine CallK.c (by first|exact CO) ?_|refine aC ?_|fail
   all_goals first | omega | (exact nx (i + 1, ()) trivial (h2 := by simp [Vs.LeL, Vs.look, Vs.hlook, Vs.sput, Vs.sputs, Vs.hset, Vs.hputs, hps]))
  ·have hge : i = s.size := by
    have : ¬ i < s.size := Dq
    omega
   subst hge
   simp -dsimp only [go_sem]
   have hpf := punTo_full s w
   have hpl : (E cI (pun s w)).length = w := by rw [E_len, ← hpf]; exact punTo_len (Nat.le_refl _) hs
   have htk : (E cI (pun s w)).take w = E cI (pun s w) := List.take_of_length_le (by omega)
   first | (rw [hpf, htk]; exact ⟨⟨_, _, rfl, rfl⟩, fun h => h rfl⟩) | (simp [hpf, htk]; done)
end
section
variable [Vs.Tab 0 Vs.powP]
attribute [local irreducible] Vs.Fn pun chOK areCh chTo chAt l03 chB rk cd3 chI stp stpTo
theorem pun_len {s : ByteArray} {w : Nat} (h : s.size ≤ w) : (pun s w).length = w := by rw [← punTo_full]; exact punTo_len (Nat.le_refl _) h
def cmT (fr to : Int) (c : List Int) (s : ByteArray) : Int := cmpR (fH fr to c) (pun s (to.toNat - fr.toNat))
theorem compareText (a : List Int) (fr to : Int) (s : ByteArray) (ha : okF fr to a) (hs : s.size ≤ to.toNat - fr.toNat) : Fz F.i_compareText [.agg (cC a), .agg (cFd fr to), .v (.string s)] (.v (.int .i64 (cmT fr to a s))) := by
 have hf := fH_len ha
 have h3 := ha
 obtain ⟨h0, h1, h2, h20⟩ := h3
 have PT := punchText s (to.toNat - fr.toNat) (by omega) hs
 have hw : IntKind.i64.wrap (to - fr) = ((to.toNat - fr.toNat : Nat) : Int) := by rw [wrap_in (by omega) (by omega)]; omega
 have CH := compareHoles (fH fr to a) (pun s (to.toNat - fr.toNat)) (fH_le ha) (by rw [hf, pun_len hs])
 rw [show cmpR (fH fr to a) (pun s (to.toNat - fr.toNat)) = cmT fr to a s from rfl] at CH
 refine fn0 Cd.i_compareText_k fun X => ?_
 repeat' first|simp -dsimp only [go_sem, cC, cFd, fH_E, List.set_cons_zero, List.set_cons_succ, List.length_cons, List.length_nil, hw]|apply Br.mk<;>intro h<;>try simp -dsimp only[h]|refine RgK.mk rfl ?_|refine CallK.c (by first|exact PT|exact CH) ?_|refine And.intro (by first|rfl | omega | decide|exact okF_b ha|exact ⟨rfl, okF_b ha⟩|exact okF_b2 ha|exact ⟨rfl, okF_b2 ha⟩ | (refine ⟨?_, ?_⟩ <;> (first | rfl | omega | decide|exact okF_b ha|exact ⟨rfl, okF_b ha⟩|exact okF_b2 ha|exact ⟨rfl, okF_b2 ha⟩)) | (refine ⟨?_, ?_, ?_⟩ <;> (first | rfl | omega | decide|exact okF_b ha|exact ⟨rfl, okF_b ha⟩|exact okF_b2 ha|exact ⟨rfl, okF_b2 ha⟩)) | (refine ⟨?_, ?_, ?_, ?_⟩ <;> (first | rfl | omega | decide|exact okF_b ha|exact ⟨rfl, okF_b ha⟩|exact okF_b2 ha|exact ⟨rfl, okF_b2 ha⟩))) ?_|fail
 all_goals first | exact ⟨_, _, rfl, rfl⟩ | simp
end
section
variable [Vs.Tab 0 Vs.powP]
attribute [local irreducible] Vs.Fn pun cmT flt zR chOK areCh chTo chAt l03 chB rk cd3 chI stp stpTo
def offT (fr to : Int) (s : ByteArray) (c : List Int) : Bool := decide (cmT fr to c s < 0) || decide (cmT fr to c s > 0)
theorem sel1 (x : List Int) (fr to : Int) (s : ByteArray) (hx : okF fr to x) (hs : s.size ≤ to.toNat - fr.toNat) : Fz F.i_SelectBetween_1 [.agg (cC x), .ro (cFd fr to), .ro [.v (.string s)], .ro [.v (.string s)]] (.v (.bool (offT fr to s x))) := by
 have CT := compareText x fr to s hx hs
 unfold offT
 generalize cmT fr to x s = v at *
 refine fn0 Cd.i_SelectBetween_1_k fun X => ?_
 repeat' first|simp -dsimp only [go_sem, cC, cFd, List.replicate_succ, List.replicate_zero, List.flatten_cons, List.flatten_nil, List.cons_append, List.nil_append, List.set_cons_zero, List.set_cons_succ, List.length_cons, List.length_nil, List.length_set]|apply Br.mk<;>intro h<;>try simp -dsimp only[h]|refine CallK.c (by first|exact CT) ?_|refine aC ?_|fail
 all_goals first | exact ⟨_, _, rfl, rfl⟩ | (rw [h, Bool.false_or]; exact ⟨_, _, rfl, rfl⟩)
def selC (fr to : Int) (s : ByteArray) (l : List (List Int)) : Int := colT fr to [s, s] [l]
def selV (fr to : Int) (s : ByteArray) (l : List (List Int)) : AV := if selC fr to s l = 0 then .sl 1 (E cC (flt (offT fr to s) l)) else .v (.slice none 0 0)
theorem selC_ok {fr to : Int} {s : ByteArray} {l : List (List Int)} (h : selC fr to s l = 0) : deckB l = true ∧ fldB fr to (widB l) = true ∧ ((s.size : Int) == W (to - fr)) = true ∧ areCh s = true ∧ allCh fr to l = true := by
 unfold selC colT at h
 cases h1 : deckB l <;> cases h2 : fldB fr to (widB l) <;> cases h3 : ((s.size : Int) == W (to - fr)) <;> cases h4 : areCh s <;> cases h5 : allCh fr to l <;> simp [h1, h2, h3, h4, h5] at h ⊢
theorem selectBetween (l : List (List Int)) (fr to : Int) (s : ByteArray) (hk : smallC l) (hz : s.size ≤ 1048576) : Fz F.i_SelectBetween [.sl 1 (E cC l), .agg (cFd fr to), .v (.string s), .v (.string s)] (.tup [selV fr to s l, .v (.int .i64 (selC fr to s l))]) := by
 have CC := collateT fr to [l] ⟨by simp, fun d hd => by simp at hd; subst hd; exact hk⟩ [s, s] (by simp) (fun t ht => by simp at ht; subst ht; exact hz)
 rw [show colT fr to [s, s] [l] = selC fr to s l from rfl] at CC
 by_cases h0 : selC fr to s l = 0
 ·obtain ⟨hd, hf, hsz, hch, hall⟩ := selC_ok h0
  have ho := okF_of hd hf
  rw [show selV fr to s l = .sl 1 (E cC (flt (offT fr to s) l)) by simp [selV, h0], h0]
  rw [h0] at CC
  have hsn : ∀ x, x ∈ l → s.size ≤ to.toNat - fr.toNat := fun x hx => by
   have hz2 : ((s.size : Int)) = W (to - fr) := by simpa using hsz
   obtain ⟨f0, f1, f2, f3⟩ := ho x hx
   rw [show W (to - fr) = to - fr from wrap_in (by omega) (by omega)] at hz2
   omega
  have hd2 := delF (offT fr to s) F.i_SelectBetween_1 [.ro (cFd fr to), .ro [.v (.string s)], .ro [.v (.string s)]] rfl l hk.1 (fun x hx => sel1 x fr to s (ho x hx) (hsn x hx))
  refine fn0 Cd.i_SelectBetween_k fun X => ?_
  repeat' first|simp -dsimp only [go_sem, cC, cFd, List.replicate_succ, List.replicate_zero, List.flatten_cons, List.flatten_nil, List.cons_append, List.nil_append, List.set_cons_zero, List.set_cons_succ, List.length_cons, List.length_nil, List.length_set]|apply Br.mk<;>intro h<;>try simp -dsimp only[h]|refine CallK.c (by first|exact CC) ?_|refine aC ?_|fail
  refine CallK.own (newDeck l hk.2 hk.1) rfl ?_
  simp -dsimp only [go_sem, cC, cFd, List.replicate_succ, List.replicate_zero, List.flatten_cons, List.flatten_nil, List.cons_append, List.nil_append, List.set_cons_zero, List.set_cons_succ, List.length_cons, List.length_nil, List.length_set, List.flatMap_cons, List.flatMap_nil, cellN, topN, nestN, List.getD_cons_zero, List.append_nil, List.mem_singleton, List.mem_cons, List.not_mem_nil, or_false, false_or, Vs.Name.t.injEq]
  refine ⟨rfl, CallK.borL hd2 rfl ?_⟩
  simp -dsimp only [go_sem, cC, cFd, List.replicate_succ, List.replicate_zero, List.flatten_cons, List.flatten_nil, List.cons_append, List.nil_append, List.set_cons_zero, List.set_cons_succ, List.length_cons, List.length_nil, List.length_set, List.flatMap_cons, List.flatMap_nil, cellN, topN, nestN, List.getD_cons_zero, List.append_nil, List.mem_singleton, List.mem_cons, List.not_mem_nil, or_false, false_or, Vs.Name.t.injEq]
  have hr := row_take (flt (offT fr to s) l) (l.length - (flt (offT fr to s) l).length)
  have hlen : (flt (offT fr to s) l).length ≤ l.length := flt_len ..
  simp -dsimp only [go_sem, List.getElem?_cons_zero, List.drop_zero, E_len, List.length_append, hr]
  first | exact ⟨_, _, rfl, rfl⟩
 ·have e0 : (selC fr to s l != 0) = true := by simp [h0]
  rw [show selV fr to s l = .v (.slice none 0 0) by simp [selV, h0]]
  generalize selC fr to s l = c at *
  refine fn0 Cd.i_SelectBetween_k fun X => ?_
  repeat' first|simp -dsimp only [go_sem, cC, cFd, List.replicate_succ, List.replicate_zero, List.flatten_cons, List.flatten_nil, List.cons_append, List.nil_append, List.set_cons_zero, List.set_cons_succ, List.length_cons, List.length_nil, List.length_set, e0]|apply Br.mk<;>intro h<;>try simp -dsimp only[h]|refine CallK.c (by first|exact CC) ?_|refine aC ?_|fail
  all_goals first | exact ⟨_, _, rfl, rfl⟩
theorem impl_SelectEqual (l : List (List Int)) (fr to : Int) (s : ByteArray) (hk : smallC l) (hz : s.size ≤ 1048576) : Fz F.i_SelectEqual [.sl 1 (E cC l), .agg (cFd fr to), .v (.string s)] (.tup [selV fr to s l, .v (.int .i64 (selC fr to s l))]) := by
 have SB := selectBetween l fr to s hk hz
 have hv : selV fr to s l = .sl 1 (E cC (flt (offT fr to s) l)) ∨ selV fr to s l = .v (.slice none 0 0) := by unfold selV; split <;> simp
 generalize selC fr to s l = c at *
 rcases hv with hv | hv <;> rw [hv] at SB ⊢
 all_goals
  refine fn0 Cd.i_SelectEqual_k fun X => ?_
  repeat' first|simp -dsimp only [go_sem, cC, cFd, List.replicate_succ, List.replicate_zero, List.flatten_cons, List.flatten_nil, List.cons_append, List.nil_append, List.set_cons_zero, List.set_cons_succ, List.length_cons, List.length_nil, List.length_set]|apply Br.mk<;>intro h<;>try simp -dsimp only[h]|refine CallK.c (by first|exact SB) ?_|refine aC ?_|fail
  all_goals first | exact ⟨_, _, rfl, rfl⟩
end
end Go.Proofs.YtidbcoagjbbjdaaGreatDoor
