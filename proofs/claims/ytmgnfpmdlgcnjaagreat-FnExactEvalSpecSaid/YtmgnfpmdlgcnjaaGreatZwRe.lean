/- Totals that are marked, and read back. -/
import Derived.Test.YtmgnfpmdlgcnjaaGreatZuI
import Derived.Test.YtmgnfpmdlgcnjaaGreatVtR
import Derived.Test.YtmgnfpmdlgcnjaaGreatZuS
import Derived.Test.YtmgnfpmdlgcnjaaGreatZwSr
set_option linter.unusedSimpArgs false
set_option linter.unusedVariables false
set_option linter.unusedSectionVars false
set_option maxHeartbeats 8000000
namespace Go.Proofs.YtmgnfpmdlgcnjaaGreat
open Go.Vs
section
variable [Vs.Envs]
attribute [local irreducible] Vs.Fn chOK areCh chTo chAt l03
theorem hB1 {x : Blk} : ∀ j, j < [x].length → [Name.b 0][j]? = some (.b j) := by
 intro j hj
 have : j = 0 := by simpa using hj
 subst this; rfl
theorem wrap_u8 {n : Int} (h0 : 0 ≤ n) (h1 : n ≤ 255) : IntKind.u8.wrap n = n := by
 simp [IntKind.wrap, IntKind.signed, IntKind.bits]
 omega
def dgs (n : Nat) : ByteArray := if h : n = 0 then ⟨#[]⟩ else dgs (n / 10) ++ ⟨#[UInt8.ofNat (48 + n % 10)]⟩
termination_by n
decreasing_by omega
theorem dgs_zero : dgs 0 = ⟨#[]⟩ := by rw [dgs, dif_pos rfl]
theorem dgs_pos {n : Nat} (h : n ≠ 0) : dgs n = dgs (n / 10) ++ ⟨#[UInt8.ofNat (48 + n % 10)]⟩ := by rw [dgs, dif_neg h]
theorem dgs_size (n : Nat) : (dgs n).size ≤ n := by
 induction n using Nat.strongRecOn with
 | _ n ih =>
  by_cases h : n = 0
  ·subst h; rw [dgs_zero]; exact Nat.le_refl _
  ·rw [dgs_pos h, ByteArray.size_append]
   have := ih (n / 10) (by omega)
   have e : (ByteArray.mk #[UInt8.ofNat (48 + n % 10)]).size = 1 := rfl
   omega
def mtx (n : Nat) : ByteArray := ⟨#[109]⟩ ++ dgs n
theorem bempty (s : ByteArray) : s ++ (⟨#[]⟩ : ByteArray) = s := by
 apply ByteArray.ext; simp
theorem bemptyl (s : ByteArray) : (⟨#[]⟩ : ByteArray) ++ s = s := by
 apply ByteArray.ext; simp
theorem markText (n : Nat) (h0 : 0 < n) (hn : n ≤ 1000000000) : Fz F.l_markText [.v (.int .i64 n)] (.v (.string (mtx n))) := by
 have hd : decide ((n : Int) ≤ 0) = false := decide_eq_false (by omega)
 refine fn0 Cd.l_markText_k fun X => ?_
 simp -dsimp only [go_sem, hd]
 refine LoopK.at (drawn_ok Tryz.mixed) (X := { zz : Nat × ByteArray // zz.1 ≤ n ∧ dgs zz.1 ++ zz.2 = dgs n }) (fun zz => [(0, .v (.int .i64 zz.1.1)), (3, .v (.string zz.1.2))]) (fun _ => []) (fun zz => zz.1.1) ⟨(n, ⟨#[]⟩), Nat.le_refl _, bempty _⟩ ?_ ?_
 ·exact le0
 ·rintro ⟨⟨m, s⟩, hm, hg⟩
  dsimp only at hm hg
  simp -dsimp only [go_sem]
  have hsz : s.size ≤ n := by
   have h1 := congrArg ByteArray.size hg
   rw [ByteArray.size_append] at h1
   have := dgs_size n
   omega
  refine Br.mk (fun hc => ?_) fun hc => ?_
  ·have hpos : m ≠ 0 := by simp at hc; omega
   rw [dgs_pos hpos, ByteArray.append_assoc] at hg
   have q1 : ((m : Int)).tmod 10 = ((m % 10 : Nat) : Int) := by rw [Int.tmod_eq_emod_of_nonneg (by omega)]; omega
   have q2 : IntKind.i64.wrap (((m : Int)).tdiv 10) = ((m / 10 : Nat) : Int) := by rw [Int.tdiv_eq_ediv_of_nonneg (by omega), wrap_in (by omega) (by omega)]; omega
   have q4 : IntKind.i64.wrap (48 + ((m % 10 : Nat) : Int)) = ((48 + m % 10 : Nat) : Int) := by rw [wrap_in (by omega) (by omega)]; omega
   have q5 : IntKind.u8.wrap ((48 + m % 10 : Nat) : Int) = ((48 + m % 10 : Nat) : Int) := wrap_u8 (by omega) (by omega)
   have q6 : strB [((48 + m % 10 : Nat) : Int)] = ⟨#[UInt8.ofNat (48 + m % 10)]⟩ := by simp only [strB, List.map_cons, List.map_nil, Int.toNat_natCast]
   have q7 : (ByteArray.mk #[UInt8.ofNat (48 + m % 10)]).size + s.size ≤ 9223372036854775807 := by
    have e : (ByteArray.mk #[UInt8.ofNat (48 + m % 10)]).size = 1 := rfl
    omega
   repeat' first
    |simp -dsimp only [go_sem, q1, q2, q4, q5, q6, numsO, List.replicate_succ, List.replicate_zero, List.flatten_cons, List.flatten_nil]
    |refine Br.mk ?_ ?_<;>intro h<;>try simp -dsimp only[h]
    |refine RgK.mk rfl ?_
    |refine And.intro (by first|rfl | omega | decide|exact q7 | (refine ⟨?_, ?_⟩ <;> (first | rfl | omega | decide|exact q7)) | (refine ⟨?_, ?_, ?_⟩ <;> (first | rfl | omega | decide|exact q7)) | (refine ⟨?_, ?_, ?_, ?_⟩ <;> (first | rfl | omega | decide|exact q7))) ?_
    |fail
   all_goals (exact ⟨⟨(m / 10, ⟨#[UInt8.ofNat (48 + m % 10)]⟩ ++ s), by dsimp only; omega, hg⟩, by simp [Vs.LeL, Vs.look, Vs.hlook, Vs.sput, Vs.sputs, Vs.hset, Vs.hputs], by simp only; omega⟩)
  ·have hz : m = 0 := by simp at hc; omega
   subst hz
   rw [dgs_zero, bemptyl] at hg
   subst hg
   have q8 : (ByteArray.mk #[109]).size + (dgs n).size ≤ 9223372036854775807 := by
    have e : (ByteArray.mk #[109]).size = 1 := rfl
    omega
   simp -dsimp only [go_sem]
   exact ⟨⟨q8, ret_eq rfl⟩, fun h => h rfl⟩
end
section
variable [Vs.Envs]
attribute [local irreducible] Vs.Fn mtx chOK areCh chTo chAt l03 chB rk cd3 chI stp stpTo
def mT (k : Nat) (j : Nat) : ByteArray × Int := (mtx (k + 2 * j), (k + 2 * j + 1 : Nat))
set_option maxRecDepth 20000 in
theorem markTotalS (l : List (ByteArray × Int)) (k : Nat) (hl : l.length ≤ 1048576) (hk0 : 0 < k) (hk : k ≤ 900000000) : Vs.Fn Tryz.prog F.l_markTotalS [.arr 2 (E cTt l) false] [.loc (.b 0) 0 l.length, .v (.int .i64 k)] (.v (.int .i64 (k + 2 * l.length : Nat))) [some (.arr 2 (E cTt (mkR (mT k) l l.length)) false)] := by
 refine Cd.l_markTotalS_k.o.fn Tryz.mixed (hin := [.arr 2 (E cTt l) false]) 28 _ [.b 0] [.arr 2 (E cTt (mkR (mT k) l l.length)) false] Cd.l_markTotalS_k.n Cd.l_markTotalS_k.r rfl (by simp) rfl hB1 fun X => ?_
 unfold Cd.l_markTotalS
 simp -dsimp only [go_sem]
 refine LoopK.at (drawn_ok Tryz.mixed) (X := { i : Nat // i ≤ l.length }) (fun i => [(0, .loc (.b 0) 0 l.length), (1, .v (.int .i64 (k + 2 * i.1 : Nat))), (5, .v (.int .i64 i.1))]) (fun i => [(.b 0, .arr 2 (E cTt (mkR (mT k) l i.1)) false)]) (fun i => l.length - i.1) ⟨0, by omega⟩ ?_ ?_
 ·simp [Vs.LeL, Vs.look, Vs.hlook, Vs.sput, Vs.sputs, Vs.hset, Vs.hputs, mkR_zero]
 ·rintro ⟨i, hi⟩
  simp -dsimp only [go_sem]
  refine Br.mk (fun hc => ?_) fun hc => ?_
  ·have hlt : i < l.length := by simpa using hc
   have hw := wrap_succ hlt hl
   have w0 : IntKind.i64.wrap (((k + 2 * i : Nat) : Int) + 1) = ((k + 2 * i + 1 : Nat) : Int) := by rw [wrap_in (by omega) (by omega)]; omega
   have w1 : IntKind.i64.wrap (((k + 2 * i + 1 : Nat) : Int) + 1) = ((k + 2 * (i + 1) : Nat) : Int) := by rw [wrap_in (by omega) (by omega)]; omega
   have hlr : (mkR (mT k) l i).length = l.length := mkR_length _ l (by omega)
   have hgi : (E cTt (mkR (mT k) l i)).getD i [] = cTt l[i] := mkR_get (c := cTt) _ l hlt
   have hgs : ∀ r, ((E cTt (mkR (mT k) l i)).set i r).getD i [] = r := fun r => set_get (by rw [E_len, hlr]; exact hlt) r
   have hst : (E cTt (mkR (mT k) l i)).set i [.v (.string (mtx (k + 2 * i))), .v (.int .i64 (k + 2 * i + 1 : Nat))] = E cTt (mkR (mT k) l (i + 1)) := mkR_set (c := cTt) (mT k) l hlt
   repeat' first
    |simp -dsimp only [go_sem, hw, w0, w1, hgi, hgs, hst, hlr, cTt, E_len, List.set_set, List.length_set, List.set_cons_zero, List.set_cons_succ, List.length_cons, List.length_nil]
    |refine Br.mk ?_ ?_<;>intro h<;>try simp -dsimp only[h]
    |refine CallK.c (by first|exact markText (k + 2 * i) (by omega) (by omega)) ?_
    |refine and_c ?_
    |fail
   all_goals (exact ⟨⟨i + 1, by omega⟩, by simp [Vs.LeL, Vs.look, Vs.hlook, Vs.sput, Vs.sputs, Vs.hset, Vs.hputs], by simp only; omega⟩)
  ·have hge : i = l.length := by
    have : ¬ i < l.length := by simpa using hc
    omega
   subst hge
   simp -dsimp only [go_sem]
   exact ⟨⟨_, _, rfl, rfl⟩, fun h => h rfl⟩
set_option maxRecDepth 20000 in
theorem heldTotalS (l : List (ByteArray × Int)) (k : Nat) (hl : l.length ≤ 1048576) (hk0 : 0 < k) (hk : k ≤ 900000000) : Fz F.l_heldTotalS [.sl 2 (E cTt (mkR (mT k) l l.length)), .v (.int .i64 k)] (.v (.int .i64 (k + 2 * l.length : Nat))) := by
 have hlr : (mkR (mT k) l l.length).length = l.length := mkR_length _ l (Nat.le_refl _)
 refine fn0 Cd.l_heldTotalS_k fun X => ?_
 simp -dsimp only [go_sem]
 refine LoopK.at (drawn_ok Tryz.mixed) (X := { i : Nat // i ≤ l.length }) (fun i => [(1, .v (.int .i64 (k + 2 * i.1 : Nat))), (5, .v (.int .i64 i.1))]) (fun i => []) (fun i => l.length - i.1) ⟨0, by omega⟩ ?_ ?_
 ·exact le0
 ·rintro ⟨i, hi⟩
  simp -dsimp only [go_sem, E_len, hlr]
  refine Br.mk (fun hc => ?_) fun hc => ?_
  ·have hlt : i < l.length := by simpa using hc
   have hw := wrap_succ hlt hl
   have w0 : IntKind.i64.wrap (((k + 2 * i : Nat) : Int) + 1) = ((k + 2 * i + 1 : Nat) : Int) := by rw [wrap_in (by omega) (by omega)]; omega
   have w1 : IntKind.i64.wrap (((k + 2 * i + 1 : Nat) : Int) + 1) = ((k + 2 * (i + 1) : Nat) : Int) := by rw [wrap_in (by omega) (by omega)]; omega
   have n0 : (!((mtx (k + 2 * i)).toList == (mtx (k + 2 * i)).toList)) = false := by simp
   have n1 : (((k + 2 * i + 1 : Nat) : Int) != ((k + 2 * i + 1 : Nat) : Int)) = false := by simp
   have hgi : (E cTt (mkR (mT k) l l.length)).getD i [] = [.v (.string (mtx (k + 2 * i))), .v (.int .i64 (k + 2 * i + 1 : Nat))] := by
    rw [E_get (by rw [hlr]; exact hlt)]
    simp only [mkR_all, List.getElem_map, List.getElem_range]
    rfl
   repeat' first
    |simp -dsimp only [go_sem, hw, w0, w1, n0, n1, hgi, hlr, E_len]
    |refine Br.mk ?_ ?_<;>intro h<;>try simp -dsimp only[h]
    |refine CallK.c (by first|exact markText (k + 2 * i) (by omega) (by omega)) ?_
    |refine and_c ?_
    |fail
   all_goals (exact ⟨⟨i + 1, by omega⟩, by simp [Vs.LeL, Vs.look, Vs.hlook, Vs.sput, Vs.sputs, Vs.hset, Vs.hputs], by simp only; omega⟩)
  ·have hge : i = l.length := by
    have : ¬ i < l.length := by simpa using hc
    omega
   subst hge
   simp -dsimp only [go_sem]
   simp
theorem eqNilT  : Fz F.l_eqTotalS [.v (.slice none 0 0), .v (.slice none 0 0)] (.v (.bool true)) := by
 refine fn0 Cd.l_eqTotalS_k fun X => ?_
 simp -dsimp only [go_sem]
 refine LoopK.at (drawn_ok Tryz.mixed) (X := Unit) (fun _ => []) (fun _ => []) (fun _ => 0) () ?_ ?_
 ·exact le0
 ·rintro ⟨⟩
  simp -dsimp only [go_sem]
  refine Br.mk (fun h => absurd h (by decide)) fun _ => ?_
  simp -dsimp only [go_sem]
  exact ⟨ret_eq rfl, fun h => h rfl⟩
theorem markNilT (k : Int) : Fz F.l_markTotalS [.v (.slice none 0 0), .v (.int .i64 k)] (.v (.int .i64 k)) := by
 refine fn0 Cd.l_markTotalS_k fun X => ?_
 simp -dsimp only [go_sem]
 refine LoopK.at (drawn_ok Tryz.mixed) (X := Unit) (fun _ => []) (fun _ => []) (fun _ => 0) () ?_ ?_
 ·exact le0
 ·rintro ⟨⟩
  simp -dsimp only [go_sem]
  refine Br.mk (fun h => absurd h (by decide)) fun _ => ?_
  simp -dsimp only [go_sem]
  exact ⟨ret_eq rfl, fun h => h rfl⟩
theorem heldNilT (k : Int) : Fz F.l_heldTotalS [.v (.slice none 0 0), .v (.int .i64 k)] (.v (.int .i64 k)) := by
 refine fn0 Cd.l_heldTotalS_k fun X => ?_
 simp -dsimp only [go_sem]
 refine LoopK.at (drawn_ok Tryz.mixed) (X := Unit) (fun _ => []) (fun _ => []) (fun _ => 0) () ?_ ?_
 ·exact le0
 ·rintro ⟨⟩
  simp -dsimp only [go_sem]
  refine Br.mk (fun h => absurd h (by decide)) fun _ => ?_
  simp -dsimp only [go_sem]
  exact ⟨ret_eq rfl, fun h => h rfl⟩
theorem eqTtS (l : List (ByteArray × Int)) (hl : l.length ≤ 1048576) : Fz F.l_eqTotalS [.sl 2 (E cTt l), .sl 2 (E cTt l)] (.v (.bool true)) := eqTotalS l hl
end
end Go.Proofs.YtmgnfpmdlgcnjaaGreat
