/- Characters, fields, specifications and steps. -/
import Derived.Test.YtagejhkjpgephaaGreatDoorXuR
import Derived.Test.YtagejhkjpgephaaGreatDoorXuB
import Derived.Test.YtagejhkjpgephaaGreatDoorEtJ
set_option linter.unusedSimpArgs false
set_option linter.unusedVariables false
set_option maxHeartbeats 8000000
namespace Go.Proofs.YtagejhkjpgephaaGreatDoor
open Go.Vs
section
attribute [local irreducible] Vs.Fn
theorem validDeck (l : List (List Int)) (hs : ∀ x, x ∈ l → x.length ≤ 1048576) (hl : l.length ≤ 1048576) : Fz F.i_ValidDeck [.sl 1 (E cC l)] (.v (.bool (deckB l))) := by
 refine fn0 Cd.i_ValidDeck_k fun X => ?_
 simp -dsimp only [go_sem]
 refine LoopK.intro (drawn_ok Tryz.mixed) (fun i : { i : Nat // i ≤ l.length ∧ (l.take i).all (fun c => cardB c && decide (c.length = (l.getD 0 []).length)) = true } => ⟨[(0, .sl 1 (E cC l)), (5, .sl 1 (E cC l)), (6, .v (.int .i64 l.length)), (7, .v (.int .i64 i.1))], []⟩) (fun i => l.length - i.1) ⟨0, by simp⟩ ?_ ?_
 ·simp [Vs.LeL, Vs.look]
 ·rintro ⟨i, hi, hall⟩
  simp -dsimp only [go_sem]
  refine Br.mk (fun h1 => ?_) fun h1 => ?_
  ·have hlt : i < l.length := by simpa using h1
   have h0 : 0 < l.length := by omega
   have hw := wrap_succ hlt hl
   have g0 : l.getD 0 [] = l[0] := by simp [List.getD, h0]
   simp -dsimp only [go_sem, E_get hlt, E_get h0]
   refine ⟨⟨by omega, by omega⟩, by first | omega | decide | simp [cC], ?_⟩
   simp -dsimp only [go_sem, cC, E_get hlt]
   refine RgK.mk rfl ?_
   simp -dsimp only [go_sem, cC, E_get hlt]
   refine CallK.flat (validCard l[i] (hs _ (List.getElem_mem hlt))) rfl ?_
   simp -dsimp only [go_sem, cC, E_get hlt]
   refine Br.mk (fun h2 => ?_) fun h2 => ?_
   ·simp -dsimp only [go_sem, h2]
    have e : (cardB l[i] && decide (l[i].length = (l.getD 0 []).length)) = false := by simp at h2; simp [h2]
    have hf : deckB l = false := by rw [deckB, not_all (p := fun c => cardB c && decide (c.length = (l.getD 0 []).length)) hlt e]; rfl
    simp [hf]
   ·simp -dsimp only [go_sem, cC, h2, E_get hlt, E_get h0]
    refine CallK.flat (columns l[i]) rfl ?_
    simp -dsimp only [go_sem, cC, h2, E_get hlt, E_get h0]
    refine ⟨⟨by omega, by omega⟩, ?_⟩
    refine CallK.flat (columns l[0]) rfl ?_
    simp -dsimp only [go_sem, cC, h2, E_get hlt, E_get h0]
    refine Br.mk (fun h3 => ?_) fun h3 => ?_
    ·simp -dsimp only [go_sem]
     have e : (cardB l[i] && decide (l[i].length = (l.getD 0 []).length)) = false := by
      rw [g0]
      have : l[i].length ≠ l[0].length := by simp at h3; omega
      simp [this]
     have hf : deckB l = false := by rw [deckB, not_all (p := fun c => cardB c && decide (c.length = (l.getD 0 []).length)) hlt e]; rfl
     simp [hf]
    ·simp -dsimp only [go_sem, hw]
     have e : (cardB l[i] && decide (l[i].length = (l.getD 0 []).length)) = true := by
      rw [g0]
      have : l[i].length = l[0].length := by simp at h3; omega
      simp at h2
      simp [this, h2]
     exact ⟨⟨i + 1, by omega, take_succ_all (p := fun c => cardB c && decide (c.length = (l.getD 0 []).length)) hlt hall e⟩, by simp [Vs.LeL, Vs.look], by simp only; omega⟩
  ·have hge : i = l.length := by
    have : ¬ i < l.length := by simpa using h1
    omega
   subst hge
   simp -dsimp only [go_sem]
   have : l.all (fun c => cardB c && decide (c.length = (l.getD 0 []).length)) = true := by simpa using hall
   rw [deckB, this]
   simp only [Bool.true_and, Value.bool.injEq, AV.v.injEq]
   simp
   omega
theorem sizeC (l : List (List Int)) : Fz F.i_size_i_Card_ [.sl 1 (E cC l)] (.v (.int .i64 l.length)) := by
 refine fn0 Cd.i_size_i_Card__k fun X => ?_
 repeat' first
  |simp -dsimp only [go_sem]
  |refine Br.mk ?_ ?_<;>intro h<;>try simp -dsimp only[h]
  |refine and_c ?_
  |fail
 all_goals (simp_all)
theorem copyInts (l : List Int) (hl : l.length ≤ 1048576) : Fz F.i_copyInts [.sl 1 (E cI l)] (.sl 1 (E cI l)) := by
 refine fn0 Cd.i_copyInts_k fun X => ?_
 simp -dsimp only [go_sem]
 exact ⟨by omega, rfl, ⟨rfl, by omega, by omega⟩, _, _, rfl, rfl⟩
theorem newCard (c : List Int) (hc : c.length ≤ 1048576) : Fz F.i_newCard [.agg (cC c)] (.agg (cC c)) := by
 refine fn0 Cd.i_newCard_k fun X => ?_
 repeat' first
  |simp -dsimp only [go_sem, cC]
  |refine Br.mk ?_ ?_<;>intro h<;>try simp -dsimp only[h]
  |refine CallK.c (by first|exact copyInts c hc) ?_
  |refine and_c ?_
  |fail
 all_goals (exact ⟨_, _, rfl, rfl⟩)
theorem newDeck (l : List (List Int)) (hs : ∀ x, x ∈ l → x.length ≤ 1048576) (hl : l.length ≤ 1048576) : Vs.Fn Tryz.prog F.i_newDeck [] [.sl 1 (E cC l)] (.loc (.b 0) 0 l.length) [some (.arr 1 (E cC l) false)] := by
 refine Cd.i_newDeck_k.o.fn Tryz.mixed (hin := []) 20 _ [.t 3 0] [.arr 1 (E cC l) false] Cd.i_newDeck_k.n Cd.i_newDeck_k.r rfl (by simp) rfl (by simp) fun X => ?_
 unfold Cd.i_newDeck
 simp -dsimp only [go_sem]
 refine ⟨by omega, rfl, ?_⟩
 refine LoopK.intro (drawn_ok Tryz.mixed) (fun i : { i : Nat // i ≤ l.length } => ⟨[(3, .loc (.t 3 0) 0 i.1), (7, .sl 1 (E cC l)), (8, .v (.int .i64 l.length)), (9, .v (.int .i64 i.1))], [(.t 3 0, .arr 1 (E cC (l.take i.1)) false)]⟩) (fun i => l.length - i.1) ⟨0, by omega⟩ ?_ ?_
 ·simp [Vs.LeL, Vs.look, Vs.hlook, Vs.E]
 ·rintro ⟨i, hi⟩
  have hti : (l.take i).length = i := by simp; omega
  simp -dsimp only [go_sem]
  refine Br.mk (fun h1 => ?_) fun h1 => ?_
  ·have hlt : i < l.length := by simpa using h1
   have hw := wrap_succ hlt hl
   simp -dsimp only [go_sem, E_get hlt]
   refine ⟨⟨by omega, by omega⟩, by simp [cC], ?_⟩
   simp -dsimp only [go_sem, cC]
   have hap : E cC (l.take i) ++ [[.sl 1 (E cI l[i])]] = E cC (l.take (i + 1)) := by rw [take_succ hlt, E_append]; rfl
   refine CallK.pure (newCard l[i] (hs _ (List.getElem_mem hlt))) ?_
   simp -dsimp only [go_sem, cC, hti, E_len, hap, hw, List.replicate_succ, List.replicate_zero, List.flatten_cons, List.flatten_nil]
   exact ⟨by omega, ⟨rfl, by omega, by omega⟩, rfl, ⟨i + 1, by omega⟩, by simp [Vs.LeL, Vs.look, Vs.hlook], by simp only; omega⟩
  ·have hge : i = l.length := by
    have : ¬ i < l.length := by simpa using h1
    omega
   subst hge
   simp -dsimp only [go_sem]
   exact ⟨⟨[], [], rfl, by rw [List.take_length]⟩, by simp⟩
end
section
attribute [local irreducible] Vs.Fn
abbrev Tot := ByteArray × Int
def cT (x : Tot) : List AV := [.v (.string x.1), .v (.int .i64 x.2)]
def szTot (x : Tot) (n : Int) : Int := szT x.1 n
theorem szTotal (s : ByteArray) (a n : Int) : Fz F.l_szTotal [.agg [.v (.string s), .v (.int .i64 a)], .v (.int .i64 n)] (.v (.int .i64 (szT s n))) := by
 refine fn0 Cd.l_szTotal_k fun X => ?_
 repeat' first
  |simp -dsimp only [go_sem]
  |refine Br.mk ?_ ?_<;>intro h<;>try simp -dsimp only[h]
  |refine and_c ?_
  |fail
 all_goals (simp_all [szT] <;> omega)
theorem toTotal (s : ByteArray) (a : Int) : Fz F.l_toTotal [.agg [.v (.string s), .v (.int .i64 a)]] (.agg [.v (.string s), .v (.int .i64 a)]) := by
 refine fn0 Cd.l_toTotal_k fun X => ?_
 repeat' first
  |simp -dsimp only [go_sem]
  |refine Br.mk ?_ ?_<;>intro h<;>try simp -dsimp only[h]
  |refine and_c ?_
  |fail
 all_goals (exact ⟨_, _, rfl, rfl⟩)
theorem eqTotal (s : ByteArray) (a : Int) : Fz F.l_eqTotal [.agg [.v (.string s), .v (.int .i64 a)], .agg [.v (.string s), .v (.int .i64 a)]] (.v (.bool true)) := by
 refine fn0 Cd.l_eqTotal_k fun X => ?_
 repeat' first
  |simp -dsimp only [go_sem]
  |refine Br.mk ?_ ?_<;>intro h<;>try simp -dsimp only[h]
  |refine and_c ?_
  |fail
 all_goals (simp_all)
theorem szTot_le {x : Tot} {n : Int} (hs : x.1.size < 2 ^ 63) (h0 : 0 ≤ n) (hn : n ≤ 1048576) (h : 0 ≤ szTot x n) : szTot x n ≤ n := (szT_le hs h0 hn h).1
theorem szTotalS (l : List Tot) (n : Int) (hs : ∀ x, x ∈ l → x.1.size < 2 ^ 63) (hl : l.length < 2 ^ 63) (hn : 0 ≤ n ∧ n ≤ 1048576) : Fz F.l_szTotalS [.sl 2 (E cT l), .v (.int .i64 n)] (.v (.int .i64 (szL szTot l n))) :=
 szS_fn Tryz.mixed (g := F.l_szTotal) (k := 2) Cd.l_szTotalS_k.o Cd.l_szTotalS_k.n Cd.l_szTotalS_k.r rfl szTot (fun _ => rfl) (fun _ => rfl) (fun x hx n h0 hn => szTotal _ _ _) (fun x hx n h0 hn h => szTot_le (hs x hx) h0 hn h) n hl hn
theorem toTotalS (l : List Tot) (hl : l.length ≤ 1048576) : Fz F.l_toTotalS [.sl 2 (E cT l)] (.sl 2 (E cT l)) :=
 toS_fn Tryz.mixed (g := F.l_toTotal) (k := 2) (y := 24) (z := [.v (.string ⟨#[]⟩), .v (.int .i64 (0))]) Cd.l_toTotalS_k.o Cd.l_toTotalS_k.n Cd.l_toTotalS_k.r rfl (fun _ => rfl) (by decide) rfl rfl (fun _ => rfl) (fun x hx => toTotal _ _) hl (by decide)
theorem eqTotalS (l : List Tot) (hl : l.length ≤ 1048576) : Fz F.l_eqTotalS [.sl 2 (E cT l), .sl 2 (E cT l)] (.v (.bool true)) :=
 eqS_fn Tryz.mixed (g := F.l_eqTotal) (k := 2) Cd.l_eqTotalS_k.o Cd.l_eqTotalS_k.n Cd.l_eqTotalS_k.r rfl (fun _ => rfl) (fun _ => rfl) (fun x hx => eqTotal _ _) hl
theorem toField (a b : Int) : Fz F.l_toField [.agg [.v (.int .i64 a), .v (.int .i64 b)]] (.agg [.v (.int .i64 a), .v (.int .i64 b)]) := by
 refine fn0 Cd.l_toField_k fun X => ?_
 repeat' first
  |simp -dsimp only [go_sem]
  |refine Br.mk ?_ ?_<;>intro h<;>try simp -dsimp only[h]
  |refine and_c ?_
  |fail
 all_goals (exact ⟨_, _, rfl, rfl⟩)
theorem eqField (a b : Int) : Fz F.l_eqField [.agg [.v (.int .i64 a), .v (.int .i64 b)], .agg [.v (.int .i64 a), .v (.int .i64 b)]] (.v (.bool true)) := by
 refine fn0 Cd.l_eqField_k fun X => ?_
 repeat' first
  |simp -dsimp only [go_sem]
  |refine Br.mk ?_ ?_<;>intro h<;>try simp -dsimp only[h]
  |refine and_c ?_
  |fail
 all_goals (simp_all)
structure Stp where
 kind : Int
 a : Int
 b : Int
 to : Int
 f0 : Int
 f1 : Int
 s0 : Int
 s1 : Int
 text : ByteArray
def cS (x : Stp) : List AV := [.v (.int .i64 x.kind), .v (.int .i64 x.a), .v (.int .i64 x.b), .v (.int .i64 x.to), .v (.int .i64 x.f0), .v (.int .i64 x.f1), .v (.int .i64 x.s0), .v (.int .i64 x.s1), .v (.string x.text)]
def szStp (x : Stp) (n : Int) : Int := szT x.text n
theorem szStp_le {x : Stp} {n : Int} (hs : x.text.size < 2 ^ 63) (h0 : 0 ≤ n) (hn : n ≤ 1048576) (h : 0 ≤ szStp x n) : szStp x n ≤ n := (szT_le hs h0 hn h).1
theorem szStep (x : Stp) (n : Int) : Fz F.l_szStep [.agg (cS x), .v (.int .i64 n)] (.v (.int .i64 (szStp x n))) := by
 refine fn0 Cd.l_szStep_k fun X => ?_
 repeat' first
  |simp -dsimp only [go_sem, cS]
  |refine Br.mk ?_ ?_<;>intro h<;>try simp -dsimp only[h]
  |refine and_c ?_
  |fail
 all_goals (simp_all [szStp, szT] <;> omega)
theorem toStep (x : Stp) : Fz F.l_toStep [.agg (cS x)] (.agg (cS x)) := by
 refine fn0 Cd.l_toStep_k fun X => ?_
 repeat' first
  |simp -dsimp only [go_sem, cS]
  |refine Br.mk ?_ ?_<;>intro h<;>try simp -dsimp only[h]
  |refine CallK.c (by first|exact toField _ _) ?_
  |refine and_c ?_
  |fail
 all_goals (exact ⟨_, _, rfl, rfl⟩)
theorem eqStep (x : Stp) : Fz F.l_eqStep [.agg (cS x), .agg (cS x)] (.v (.bool true)) := by
 refine fn0 Cd.l_eqStep_k fun X => ?_
 repeat' first
  |simp -dsimp only [go_sem, cS]
  |refine Br.mk ?_ ?_<;>intro h<;>try simp -dsimp only[h]
  |refine CallK.c (by first|exact eqField _ _) ?_
  |refine and_c ?_
  |fail
 all_goals (simp_all)
theorem szStepS (l : List Stp) (n : Int) (hs : ∀ x, x ∈ l → x.text.size < 2 ^ 63) (hl : l.length < 2 ^ 63) (hn : 0 ≤ n ∧ n ≤ 1048576) : Fz F.l_szStepS [.sl 9 (E cS l), .v (.int .i64 n)] (.v (.int .i64 (szL szStp l n))) :=
 szS_fn Tryz.mixed (g := F.l_szStep) (k := 9) Cd.l_szStepS_k.o Cd.l_szStepS_k.n Cd.l_szStepS_k.r rfl szStp (fun _ => rfl) (fun _ => rfl) (fun x hx n h0 hn => szStep _ _) (fun x hx n h0 hn h => szStp_le (hs x hx) h0 hn h) n hl hn
theorem toStepS (l : List Stp) (hl : l.length ≤ 1048576) : Fz F.l_toStepS [.sl 9 (E cS l)] (.sl 9 (E cS l)) :=
 toS_fn Tryz.mixed (g := F.l_toStep) (k := 9) (y := 80) (z := [.v (.int .i64 (0)), .v (.int .i64 (0)), .v (.int .i64 (0)), .v (.int .i64 (0)), .v (.int .i64 (0)), .v (.int .i64 (0)), .v (.int .i64 (0)), .v (.int .i64 (0)), .v (.string ⟨#[]⟩)]) Cd.l_toStepS_k.o Cd.l_toStepS_k.n Cd.l_toStepS_k.r rfl (fun _ => rfl) (by decide) rfl rfl (fun _ => rfl) (fun x hx => toStep _) hl (by decide)
theorem eqStepS (l : List Stp) (hl : l.length ≤ 1048576) : Fz F.l_eqStepS [.sl 9 (E cS l), .sl 9 (E cS l)] (.v (.bool true)) :=
 eqS_fn Tryz.mixed (g := F.l_eqStep) (k := 9) Cd.l_eqStepS_k.o Cd.l_eqStepS_k.n Cd.l_eqStepS_k.r rfl (fun _ => rfl) (fun _ => rfl) (fun x hx => eqStep _) hl
end
section
attribute [local irreducible] Vs.Fn
theorem u64_nonneg (n : Int) : 0 ≤ IntKind.u64.wrap n := by
 simp only [IntKind.wrap, IntKind.bits, IntKind.signed, Bool.false_and, Bool.false_eq_true, if_false]
 exact Int.emod_nonneg _ (by decide)
def bitR2 (r : Int) : Int := if r = 12 then 1 else if r = 11 then 2 else if inB r 0 9 then W (4 * 2 ^ (min (IntKind.u64.wrap r).toNat 64)) else 0
def isDig (n : Int) : Bool := decide (n ≥ 48) && decide (n ≤ 57)
def btw (n a b : Int) : Bool := decide (n ≥ a) && decide (n ≤ b)
def orI (a b : Int) : Int := bitsOp .or .i64 a b
def l03 (n : Int) : Int :=
 if n = 32 then 0 else if n = 38 then 1 else if n = 45 then 2 else if n = 47 then orI 4 (bitR2 1) else if isDig n then bitR2 (W (W n - 48))
 else if btw n 65 73 then orI 1 (bitR2 (W (W (W n - 65) + 1))) else if btw n 74 82 then orI 2 (bitR2 (W (W (W n - 74) + 1))) else if btw n 83 90 then orI 4 (bitR2 (W (W (W n - 83) + 2))) else -1
def CH : ByteArray := ⟨#[32, 38, 65, 66, 67, 68, 69, 70, 71, 72, 73, 45, 74, 75, 76, 77, 78, 79, 80, 81, 82, 47, 83, 84, 85, 86, 87, 88, 89, 90, 48, 49, 50, 51, 52, 53, 54, 55, 56, 57]⟩
def chOK (n : Int) : Bool := decide (idxByte CH n ≥ 0)
set_option maxRecDepth 100000 in
theorem ch_l03 : ∀ n : Nat, n < 256 → chOK (n : Int) = decide (l03 (n : Int) ≥ 0) := by decide +kernel
def areCh (s : ByteArray) : Bool := s.data.toList.all fun b => chOK b.toNat
theorem l02BitR (r : Int) : Fz F.s_l02Bit [.v (.int .i64 r)] (.v (.int .i64 (bitR2 r))) := by
 refine fn0 Cd.s_l02Bit_k fun X => ?_
 repeat' first
  |simp -dsimp only [go_sem]
  |refine Br.mk ?_ ?_<;>intro h<;>try simp -dsimp only[h]
  |refine RgK.mk rfl ?_
  |refine CallK.c (by first|exact l00In _ _ _) ?_
  |refine And.intro (by first|rfl | omega | decide|exact u64_nonneg _ | (refine ⟨?_, ?_⟩ <;> (first | rfl | omega | decide|exact u64_nonneg _)) | (refine ⟨?_, ?_, ?_⟩ <;> (first | rfl | omega | decide|exact u64_nonneg _)) | (refine ⟨?_, ?_, ?_, ?_⟩ <;> (first | rfl | omega | decide|exact u64_nonneg _))) ?_
  |fail
 all_goals (simp_all [bitR2, IntKind.bits, u64_nonneg])
theorem l01Digit (n : Int) : Fz F.s_l01Digit [.v (.int .u8 n)] (.v (.bool (isDig n))) := by
 refine fn0 Cd.s_l01Digit_k fun X => ?_
 repeat' first
  |simp -dsimp only [go_sem]
  |refine Br.mk ?_ ?_<;>intro h<;>try simp -dsimp only[h]
  |refine and_c ?_
  |fail
 all_goals (first | (simp_all [isDig]; done) | (simp_all [isDig]; omega))
theorem l03Code (n : Int) : Fz F.s_l03Code [.v (.int .u8 n)] (.v (.int .i64 (l03 n))) := by
 refine fn0 Cd.s_l03Code_k fun X => ?_
 repeat' first
  |simp -dsimp only [go_sem]
  |refine Br.mk ?_ ?_<;>intro h<;>try simp -dsimp only[h]
  |refine CallK.c (by first|exact l02BitR _|exact l01Digit _) ?_
  |refine and_c ?_
  |fail
 all_goals (first | (simp_all [l03, btw, orI]; done) | (refine ret_eq ?_; grind [l03, btw, orI]))
theorem sliteIdx (s : ByteArray) (n : Int) : Fz F.internal_stringslite_IndexByte [.v (.string s), .v (.int .u8 n)] (.v (.int .i64 (idxByte s n))) := by
 refine fn0 Cd.internal_stringslite_IndexByte_k fun X => ?_
 repeat' first
  |simp -dsimp only [go_sem]
  |refine Br.mk ?_ ?_<;>intro h<;>try simp -dsimp only[h]
  |refine and_c ?_
  |fail
 all_goals (simp_all)
theorem strIdx (s : ByteArray) (n : Int) : Fz F.strings_IndexByte [.v (.string s), .v (.int .u8 n)] (.v (.int .i64 (idxByte s n))) := by
 refine fn0 Cd.strings_IndexByte_k fun X => ?_
 repeat' first
  |simp -dsimp only [go_sem]
  |refine Br.mk ?_ ?_<;>intro h<;>try simp -dsimp only[h]
  |refine CallK.c (by first|exact sliteIdx _ _) ?_
  |refine and_c ?_
  |fail
 all_goals (simp_all)
theorem isCharacter (n : Int) : Fz F.i_isCharacter [.v (.int .u8 n)] (.v (.bool (chOK n))) := by
 refine fn0 Cd.i_isCharacter_k fun X => ?_
 repeat' first
  |simp -dsimp only [go_sem]
  |refine Br.mk ?_ ?_<;>intro h<;>try simp -dsimp only[h]
  |refine CallK.c (by first|exact strIdx _ _) ?_
  |refine and_c ?_
  |fail
 all_goals (simp_all [chOK, CH])
def chTo (s : ByteArray) (i : Nat) : Bool := (s.data.toList.take i).all fun b => chOK b.toNat
def chAt (s : ByteArray) (i : Nat) : Bool := chOK (s.data.toList.getD i 0).toNat
theorem chTo_succ {s : ByteArray} {i : Nat} (h : i < s.size) : chTo s (i + 1) = (chTo s i && chAt s i) := by
 have hl : i < s.data.toList.length := h
 unfold chTo chAt
 rw [take_succ hl, List.all_append, List.getD_eq_getElem?_getD, List.getElem?_eq_getElem hl]
 simp
theorem chTo_all (s : ByteArray) : chTo s s.size = areCh s := by
 unfold chTo areCh
 rw [show s.size = s.data.toList.length from rfl, List.take_length]
theorem chAt_false {s : ByteArray} {i : Nat} (h : i < s.size) (h2 : chAt s i = false) : areCh s = false := by
 have hl : i < s.data.toList.length := h
 unfold chAt at h2
 rw [List.getD_eq_getElem?_getD, List.getElem?_eq_getElem hl] at h2
 exact not_all (p := fun b : UInt8 => chOK b.toNat) hl h2
theorem chAt_l03 (s : ByteArray) (i : Nat) : chAt s i = decide (l03 (s.data.toList.getD i 0).toNat ≥ 0) := ch_l03 _ (UInt8.toNat_lt _)
theorem chAt_eq (s : ByteArray) (i : Nat) : chOK (s.data.toList.getD i 0).toNat = chAt s i := rfl
attribute [local irreducible] chOK areCh chTo chAt l03
theorem areCharacters (s : ByteArray) (hs : s.size ≤ 1048576) : Fz F.i_areCharacters [.v (.string s)] (.v (.bool (areCh s))) := by
 refine fn0 Cd.i_areCharacters_k fun X => ?_
 simp -dsimp only [go_sem]
 refine LoopK.intro (drawn_ok Tryz.mixed) (fun i : { i : Nat // i ≤ s.size ∧ chTo s i = true } => ⟨[(0, .v (.string s)), (3, .v (.int .i64 i.1))], []⟩) (fun i => s.size - i.1) ⟨0, by simp [chTo]⟩ ?_ ?_
 ·simp [Vs.LeL, Vs.look]
 ·rintro ⟨i, hi, hall⟩
  simp -dsimp only [go_sem]
  refine Br.mk (fun h1 => ?_) fun h1 => ?_
  ·have hlt : i < s.size := by simpa using h1
   have hw := wrap_succ hlt hs
   simp -dsimp only [go_sem]
   refine ⟨⟨by omega, by omega⟩, CallK.flat (isCharacter _) rfl ?_⟩
   simp -dsimp only [chAt_eq]
   simp -dsimp only [go_sem]
   refine Br.mk (fun h2 => ?_) fun h2 => ?_
   ·simp -dsimp only [go_sem]
    simp [chAt_false hlt (by simpa using h2)]
   ·simp -dsimp only [go_sem, hw]
    exact ⟨⟨i + 1, by omega, by rw [chTo_succ hlt, hall]; simpa using h2⟩, by simp [Vs.LeL, Vs.look], by simp only; omega⟩
  ·have hge : i = s.size := by
    have : ¬ i < s.size := by simpa using h1
    omega
   subst hge
   simp -dsimp only [go_sem]
   simp [← chTo_all, hall]
def l09 (s : ByteArray) (a b : Int) : Int := if (s.size : Int) ≠ W (b - a) then 2 else if areCh s then 0 else 7
theorem l09Text (s : ByteArray) (a b : Int) (hs : s.size ≤ 1048576) : Fz F.s_l09Text [.v (.string s), .agg [.v (.int .i64 a), .v (.int .i64 b)]] (.v (.int .i64 (l09 s a b))) := by
 refine fn0 Cd.s_l09Text_k fun X => ?_
 simp -dsimp only [go_sem]
 refine Br.mk (fun h0 => ?_) fun h0 => ?_
 ·simp -dsimp only [go_sem]
  have : (s.size : Int) ≠ W (b - a) := by simpa using h0
  simp [l09, this]
 ·simp -dsimp only [go_sem]
  have hsz : (s.size : Int) = W (b - a) := by simpa using h0
  refine LoopK.intro (drawn_ok Tryz.mixed) (fun i : { i : Nat // i ≤ s.size ∧ chTo s i = true } => ⟨[(0, .v (.string s)), (5, .v (.int .i64 i.1))], []⟩) (fun i => s.size - i.1) ⟨0, by simp [chTo]⟩ ?_ ?_
  ·simp [Vs.LeL, Vs.look]
  ·rintro ⟨i, hi, hall⟩
   simp -dsimp only [go_sem]
   refine Br.mk (fun h1 => ?_) fun h1 => ?_
   ·have hlt : i < s.size := by simpa using h1
    have hw := wrap_succ hlt hs
    simp -dsimp only [go_sem]
    refine ⟨⟨by omega, by omega⟩, CallK.flat (l03Code _) rfl ?_⟩
    have hch := chAt_l03 s i
    simp -dsimp only [go_sem]
    refine Br.mk (fun h2 => ?_) fun h2 => ?_
    ·simp -dsimp only [go_sem]
     simp only [decide_eq_true_eq] at h2
     have h3 : chAt s i = false := by rw [hch, decide_eq_false_iff_not]; omega
     simp [l09, hsz, chAt_false hlt h3]
    ·simp -dsimp only [go_sem, hw]
     simp only [decide_eq_false_iff_not] at h2
     have h3 : chAt s i = true := by rw [hch, decide_eq_true_eq]; omega
     exact ⟨⟨i + 1, by omega, by rw [chTo_succ hlt, hall, h3]; rfl⟩, by simp [Vs.LeL, Vs.look], by simp only; omega⟩
   ·have hge : i = s.size := by
     have : ¬ i < s.size := by simpa using h1
     omega
    subst hge
    simp -dsimp only [go_sem]
    have : areCh s = true := by rw [← chTo_all, hall]
    simp [l09, hsz, this]
def fldB (a b w : Int) : Bool := decide (0 ≤ a) && (decide (a < b) && decide (b ≤ w))
def numB (a b w : Int) : Bool := fldB a b w && decide (W (b - a) ≤ 12)
theorem isField (a b w : Int) : Fz F.i_isField [.agg [.v (.int .i64 a), .v (.int .i64 b)], .v (.int .i64 w)] (.v (.bool (fldB a b w))) := by
 refine fn0 Cd.i_isField_k fun X => ?_
 repeat' first
  |simp -dsimp only [go_sem]
  |refine Br.mk ?_ ?_<;>intro h<;>try simp -dsimp only[h]
  |refine and_c ?_
  |fail
 all_goals (first | (simp_all [fldB]; done) | (simp_all [fldB]; omega) | (refine ret_eq ?_; grind [fldB]))
theorem l02Field (a b w : Int) : Fz F.s_l02Field [.agg [.v (.int .i64 a), .v (.int .i64 b)], .v (.int .i64 w)] (.v (.bool (fldB a b w))) := by
 refine fn0 Cd.s_l02Field_k fun X => ?_
 repeat' first
  |simp -dsimp only [go_sem]
  |refine Br.mk ?_ ?_<;>intro h<;>try simp -dsimp only[h]
  |refine and_c ?_
  |fail
 all_goals (first | (simp_all [fldB]; done) | (simp_all [fldB]; omega) | (refine ret_eq ?_; grind [fldB]))
theorem isNumberField (a b w : Int) : Fz F.i_isNumberField [.agg [.v (.int .i64 a), .v (.int .i64 b)], .v (.int .i64 w)] (.v (.bool (numB a b w))) := by
 refine fn0 Cd.i_isNumberField_k fun X => ?_
 repeat' first
  |simp -dsimp only [go_sem]
  |refine Br.mk ?_ ?_<;>intro h<;>try simp -dsimp only[h]
  |refine CallK.c (by first|exact isField _ _ _) ?_
  |refine and_c ?_
  |fail
 all_goals (first | (simp_all [numB]; done) | (refine ret_eq ?_; grind [numB]))
theorem l15Tray (n : Int) : Fz F.s_l15Tray [.v (.int .i64 n)] (.v (.bool (inB n 0 5))) := by
 refine fn0 Cd.s_l15Tray_k fun X => ?_
 repeat' first
  |simp -dsimp only [go_sem]
  |refine Br.mk ?_ ?_<;>intro h<;>try simp -dsimp only[h]
  |refine CallK.c (by first|exact l00In _ _ _|exact inside _ _ _) ?_
  |refine and_c ?_
  |fail
 all_goals (simp_all)
theorem isTray (n : Int) : Fz F.i_isTray [.v (.int .i64 n)] (.v (.bool (inB n 0 5))) := by
 refine fn0 Cd.i_isTray_k fun X => ?_
 repeat' first
  |simp -dsimp only [go_sem]
  |refine Br.mk ?_ ?_<;>intro h<;>try simp -dsimp only[h]
  |refine CallK.c (by first|exact l00In _ _ _|exact inside _ _ _) ?_
  |refine and_c ?_
  |fail
 all_goals (simp_all)
theorem l15Both (n : Int) : Fz F.s_l15Both [.v (.int .i64 n)] (.v (.bool (inB n 2 4))) := by
 refine fn0 Cd.s_l15Both_k fun X => ?_
 repeat' first
  |simp -dsimp only [go_sem]
  |refine Br.mk ?_ ?_<;>intro h<;>try simp -dsimp only[h]
  |refine CallK.c (by first|exact l00In _ _ _|exact inside _ _ _) ?_
  |refine and_c ?_
  |fail
 all_goals (simp_all)
theorem takesTwo (n : Int) : Fz F.i_takesTwo [.v (.int .i64 n)] (.v (.bool (inB n 2 4))) := by
 refine fn0 Cd.i_takesTwo_k fun X => ?_
 repeat' first
  |simp -dsimp only [go_sem]
  |refine Br.mk ?_ ?_<;>intro h<;>try simp -dsimp only[h]
  |refine CallK.c (by first|exact l00In _ _ _|exact inside _ _ _) ?_
  |refine and_c ?_
  |fail
 all_goals (simp_all)
structure Spc where
 w0 : Int
 w1 : Int
 text : ByteArray
 g0 : Int
 g1 : Int
 s0 : Int
 s1 : Int
def cP (x : Spc) : List AV := [.v (.int .i64 x.w0), .v (.int .i64 x.w1), .v (.string x.text), .v (.int .i64 x.g0), .v (.int .i64 x.g1), .v (.int .i64 x.s0), .v (.int .i64 x.s1)]
def noText (s : ByteArray) : Bool := s.toList == (⟨#[]⟩ : ByteArray).toList
theorem l09_eq (s : ByteArray) (a b : Int) : (l09 s a b == 0) = (areCh s && ((s.size : Int) == W (b - a))) := by
 unfold l09
 by_cases h : (s.size : Int) = W (b - a)
 ·cases h2 : areCh s <;> simp [h]
 ·cases h2 : areCh s <;> simp [h]
end
end Go.Proofs.YtagejhkjpgephaaGreatDoor
