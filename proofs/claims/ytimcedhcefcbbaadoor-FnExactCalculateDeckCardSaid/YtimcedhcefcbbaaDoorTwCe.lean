/- The law FnExactCalculateDeck: in parts. -/
import Derived.Test.YtimcedhcefcbbaaDoorVsD
import Derived.Test.YtimcedhcefcbbaaDoorTwCc
import Derived.Test.YtimcedhcefcbbaaDoorTwMb
import Derived.Test.YtimcedhcefcbbaaDoorTuO
import Derived.Test.YtimcedhcefcbbaaDoorVtO
set_option linter.all false
set_option maxHeartbeats 8000000
namespace Go.Proofs.YtimcedhcefcbbaaDoor
open Go.Vs
variable [Vs.Tab 0 Vs.powP]
attribute [local irreducible] Vs.Fn mkD totD
theorem calcDeck_all (k : Int) (p q t : Int × Int) (l : List (List Int)) (hk : smallC l) {S : Nat → Prop} {w : World} {vs : Array Value} (hS : ∀ b, S b → b < w.heap.size) (he : Env S w) (hvs : vs.size = 5) (hargs : ∀ j, j < 5 → RC S w (([.v (.int .i64 k), .sl 1 (E cC l), .agg (cPf p), .agg (cPf q), .agg (cPf t)] : List AV).getD j .junk) (vs.getD j undef)) :
  Calls Tryd.prog F.i_CalculateDeck vs w (Vs.DkResC w ((cdL k p q t l).map (E cI)) (.int .i64 (cdk k p q t l))) := by
 by_cases h0 : cdk k p q t l = 0
 ·obtain ⟨hd, hb⟩ : deckB l = true ∧ cdkB k p q t l = true := by
   cases h : deckB l
   ·exact absurd h0 (by simp [cdk, h])
   ·cases h2 : cdkB k p q t l
    ·exact absurd h0 (by simp [cdk, h, h2])
    ·exact ⟨rfl, rfl⟩
  obtain ⟨hk1, hk2, hok⟩ := cdk_ok hd hb
  have hC : cdk k p q t l = cdF k p q t.1.toNat (ccW t) l := by simp [cdk, hd, hb]
  have hF := hC.symm.trans h0
  have hk3 : numB t.1 t.2 (widB l) = true := by
   simp only [allP, List.all_cons, List.all_nil, Bool.and_true, Bool.and_eq_true] at hk2
   exact hk2.2.2
  obtain ⟨fr, wd, ht, ht1, ht2, hle, hw00, hw12⟩ := okP_fld hk3 (by
    by_cases h : l.length = 0
    · rw [widB, if_pos h]; omega
    · obtain ⟨a, r, rfl⟩ : ∃ a r, l = a :: r := by
        cases l with
        | nil => exact (h rfl).elim
        | cons a r => exact ⟨a, r, rfl⟩
      obtain ⟨a1, a2⟩ := deck_card hd a List.mem_cons_self
      have := card20 a1
      omega)
  have e : cdL k p q t l = l.map (cdH k p q fr wd) := by unfold cdL; rw [if_pos h0, ht1, ht2]
  rw [ht1, ht2] at hF
  have hall := cdF_0 hF
  subst ht
  rw [e, h0]
  exact calcDeck_dk k p q fr wd l hk.2 hk.1 hd hk1 hk2 (fun c hc => by
    obtain ⟨g1, g2, g3, g4⟩ := hok c hc
    refine ⟨g1, g2, ?_, g4⟩
    have := (deck_card hd c hc).2
    omega) hw00 hw12 hall hS he hvs hargs
 ·have e : cdL k p q t l = [] := by unfold cdL; rw [if_neg h0]
  rw [e]
  exact (impl_CD0 k p q t l hk.2 hk.1 h0).noDk hS he hvs hargs
theorem impl_CDW (k : Int) (p q t : Int × Int) (l : List (List Int)) (hk : smallC l) : Vs.Fn Tryd.prog F.i_CalculateDeck [] [.v (.int .i64 k), .sl 1 (E cC l), .agg (cPf p), .agg (cPf q), .agg (cPf t)] (.tup [.sl 1 (E cC (cdL k p q t l)), .v (.int .i64 (cdk k p q t l))]) [] := by
 have h := Vs.Fn.of_dk (Vs.CodeIsR.has Cd.i_CalculateDeck_k.o) (args := [.v (.int .i64 k), .sl 1 (E cC l), .agg (cPf p), .agg (cPf q), .agg (cPf t)]) (by intro y hy; simp only [List.mem_cons, List.not_mem_nil, or_false] at hy; rcases hy with rfl | rfl | rfl | rfl | rfl <;> rfl) (fun S w vs hS he hvs hargs => calcDeck_all k p q t l hk hS he hvs hargs)
 rw [deckE] at h
 exact h
theorem nil_rc {S : Nat → Prop} {w : World} {k : Nat} {v : Value} (h : RC S w (.v (.slice none 0 0)) v) : RC S w (.sl k []) v := by
 rw [inv_v (ρ := fun _ => none) (κ := fun _ => 0) (h := fun _ => none) (.clo h)]
 exact .sl k [] none 0 0 0 (fun _ => undef) (by simp) (by simp) (by simp) (by simp) (by simp) ⟨by simp, by decide⟩
theorem tup_nil {f : FuncId} {ys : List AV} {c : Value} (h : Vs.Fn Tryd.prog f [] ys (.tup [.v (.slice none 0 0), .v c]) []) : Vs.Fn Tryd.prog f [] ys (.tup [.sl 1 (E cC []), .v c]) [] :=
 Vs.Fn.resAs h rfl fun S w v hv => by
  cases hv with
  | tup _ vs hl hr =>
   refine .tup _ vs hl fun j hj => ?_
   match j, hj with
   | 0, _ => exact nil_rc (hr 0 (by simp))
   | 1, _ => exact hr 1 (by simp)
theorem spec_CDW (k : Int) (p q t : Int × Int) (l : List (List Int)) (hk : smallC l) : Vs.Fn Tryd.prog F.s_CalculateDeck [] [.v (.int .i64 k), .sl 1 (E cC l), .agg (cPf p), .agg (cPf q), .agg (cPf t)] (.tup [.sl 1 (E cC (cdL k p q t l)), .v (.int .i64 (cdk k p q t l))]) [] := by
 by_cases h0 : cdk k p q t l = 0
 ·have H := spec_CD1 k p q t l hk.2 hk.1 h0
  have e : cdL k p q t l = l.map (cdH k p q t.1.toNat (ccW t)) := by unfold cdL; rw [if_pos h0]
  rw [e, h0]
  exact H
 ·have e : cdL k p q t l = [] := by unfold cdL; rw [if_neg h0]
  rw [e]
  exact tup_nil (spec_CD0 k p q t l hk.2 hk.1 h0)
theorem cdL_small (k : Int) (p q t : Int × Int) (l : List (List Int)) (hk : smallC l) : smallC (cdL k p q t l) := by
 by_cases h0 : cdk k p q t l = 0
 ·obtain ⟨hd, hb⟩ : deckB l = true ∧ cdkB k p q t l = true := by
   cases h : deckB l
   ·exact absurd h0 (by simp [cdk, h])
   ·cases h2 : cdkB k p q t l
    ·exact absurd h0 (by simp [cdk, h, h2])
    ·exact ⟨rfl, rfl⟩
  obtain ⟨hk1, hk2, hok⟩ := cdk_ok hd hb
  have hC : cdk k p q t l = cdF k p q t.1.toNat (ccW t) l := by simp [cdk, hd, hb]
  have hF := hC.symm.trans h0
  have hk3 : numB t.1 t.2 (widB l) = true := by
   simp only [allP, List.all_cons, List.all_nil, Bool.and_true, Bool.and_eq_true] at hk2
   exact hk2.2.2
  obtain ⟨fr, wd, ht, ht1, ht2, hle, hw00, hw12⟩ := okP_fld hk3 (by
    by_cases h : l.length = 0
    · rw [widB, if_pos h]; omega
    · obtain ⟨a, r, rfl⟩ : ∃ a r, l = a :: r := by
        cases l with
        | nil => exact (h rfl).elim
        | cons a r => exact ⟨a, r, rfl⟩
      obtain ⟨a1, a2⟩ := deck_card hd a List.mem_cons_self
      have := card20 a1
      omega)
  have e : cdL k p q t l = l.map (cdH k p q fr wd) := by unfold cdL; rw [if_pos h0, ht1, ht2]
  rw [ht1, ht2] at hF
  have hall := cdF_0 hF
  subst ht
  rw [e]
  refine ⟨by simpa using hk.1, fun c hc => ?_⟩
  obtain ⟨d, hd1, rfl⟩ := List.mem_map.1 hc
  rw [cdH_len (by have := (deck_card hd d hd1).2; omega)]
  exact hk.2 d hd1
 ·have e : cdL k p q t l = [] := by unfold cdL; rw [if_neg h0]
  rw [e]
  exact ⟨by simp, fun c hc => (by cases hc)⟩
theorem szI_mono {l : List Int} {n : Int} (hl : l.length < 2 ^ 63) (h0 : 0 ≤ n) (hn : n ≤ 1048576) (h : 0 ≤ szI l n) : szI l n ≤ n := (szI_le hl h0 hn h).1
def bigC (l : List (List Int)) : Prop := l.length < 2 ^ 63 ∧ ∀ c, c ∈ l → c.length < 2 ^ 63
def szDk (l : List (List Int)) (n : Int) : Int := szL szI l n
theorem szDk_small {l : List (List Int)} (hb : bigC l) {n : Int} (h0 : 0 ≤ n) (hn : n ≤ 1048576) (h : 0 ≤ szDk l n) : smallC l := by
 refine ⟨?_, fun c hc => ?_⟩
 ·have := (szL_mono (fun x hx _ a b c => szI_mono (hb.2 x hx) a b c) hb.1 h0 hn h).2; omega
 ·obtain ⟨m, h1, h2, h3⟩ := szL_in (fun x hx _ a b c => szI_mono (hb.2 x hx) a b c) hb.1 h0 hn h c hc
  have := (szI_le (hb.2 c hc) h1 h2 h3).2; omega
abbrev ACard := { l : List I64 // l.length < 2 ^ 63 }
abbrev ACards := { l : List ACard // l.length < 2 ^ 63 }
def gCards (d : ACards) : List (List Int) := d.1.map fun c => c.1.map fun n => n.1
theorem gCards_big (d : ACards) : bigC (gCards d) := by
 refine ⟨by simpa [gCards] using d.2, fun c hc => ?_⟩
 obtain ⟨x, _, rfl⟩ := List.mem_map.1 hc
 simpa using x.2
theorem gCards_enc (d : ACards) : E cC (gCards d) = d.1.map eCard := by
 simp only [gCards, E_map]
 congr 1
 funext c
 simp only [cC, E_map]
 rfl
attribute [local irreducible] cdL cdk
theorem toFieldC (p : Int × Int) : Vs.Fn Tryd.prog F.l_toField [] [.agg (cPf p)] (.agg (cPf p)) [] := by
 refine fn0 Cd.l_toField_k fun X => ?_
 repeat' first|simp -dsimp only [go_sem, cPf, cFd]|apply Br.mk<;>intro h<;>try simp -dsimp only[h]|refine aC ?_|fail
 all_goals (exact ⟨_, _, rfl, rfl⟩)
theorem lw_lwCd_small (k : Int) (p q t : Int × Int) (l : List (List Int)) (hk : smallC l) : smallC (cdL k p q t l) := by
 exact cdL_small k p q t l hk
theorem lwCdA {dr : Nat → Array Oper → Option (List Nat)} (C : Ctx) (k : Int) (p q t : Int × Int) (l : List (List Int))  (gb : bigC l) :
  Vs.wpcN Tryd.prog C dr 5 Cd.lawCalculateDeck (fun σ' => LeL σ' ⟨[(0, .v (.int .i64 k)), (1, .sl 1 (E cC l)), (7, .ptr (.t 7 0) 0 0), (8, .ptr (.t 8 0) 0 0), (9, .ptr (.t 9 0) 0 0), (12, .sl 1 (E cC (cdL k p q t l))), (13, .v (.int .i64 (cdk k p q t l)))], [(.t 7 0, .var (cPf p) false), (.t 8 0, .var (cPf q) false), (.t 9 0, .var (cPf t) false)]⟩ ∧ smallC l) (fun e σ' => match e with | .ret => LeL σ' ⟨[(10, .v (.bool true))], []⟩ | .exit _ => False) ⟨ini 0 [.v (.int .i64 k), .sl 1 (E cC l), .agg (cPf p), .agg (cPf q), .agg (cPf t)], []⟩ := by
 unfold Cd.lawCalculateDeck
 simp -dsimp only [go_sem, cPf, cFd]
 refine CallK.flat (szCardS l 1048576 gb.2 gb.1 ⟨by omega, by omega⟩) rfl ?_
 simp -dsimp only [go_sem, cPf, cFd]
 refine Br.mk (fun h3 => by simp -dsimp only [go_sem, cPf, cFd]; simp [Vs.LeL, Vs.look, Vs.hlook]) (fun h3 => ?_)
 simp only [decide_eq_false_iff_not] at h3
 have hk := szDk_small gb (n := 1048576) (by omega) (by omega) (by unfold szDk; omega)
 repeat' first|simp -dsimp only [go_sem, cPf, cFd]|apply Br.mk<;>intro h<;>try simp -dsimp only[h]|refine CallK.c (by first|exact toCardS l hk.2 hk.1|exact toFieldC p|exact toFieldC q|exact toFieldC t|exact spec_CDW k p q t l hk) ?_|refine aC ?_|fail
 all_goals first | exact ⟨by simp [Vs.LeL, Vs.look, Vs.hlook], hk⟩
theorem lwCdC {dr : Nat → Array Oper → Option (List Nat)} (C : Ctx) (k : Int) (p q t : Int × Int) (l : List (List Int)) (hk : smallC l) (a1 a6 a8 a9 : Value) (k1 : ∀ S w, Vs.Env S w → RC S w (.sl 1 (E cC l)) a1) (k6 : ∀ S w, Vs.Env S w → RC S w (.sl 1 (E cC (cdL k p q t l))) a6) (k8 : ∀ S w, Vs.Env S w → RC S w (.sl 1 (E cC l)) a8) (k9 : ∀ S w, Vs.Env S w → RC S w (.sl 1 (E cC (cdL k p q t l))) a9) :
  Vs.wpcN Tryd.prog C dr 3 (Vs.dropS 7 Cd.lawCalculateDeck) (fun σ' => LeL σ' ⟨[(0, .v (.int .i64 k)), (1, .v a1), (7, .ptr (.t 7 0) 0 0), (8, .ptr (.t 8 0) 0 0), (9, .ptr (.t 9 0) 0 0), (12, .v a6), (13, .v (.int .i64 (cdk k p q t l))), (14, .v a8), (15, .v a9), (16, .v (.int .i64 (cdk k p q t l))), (17, .v (.int .i64 1))], [(.t 7 0, .var (cPf p) false), (.t 8 0, .var (cPf q) false), (.t 9 0, .var (cPf t) false)]⟩ ∧ True) (fun _ _ => False) ⟨[(0, .v (.int .i64 k)), (1, .v a1), (7, .ptr (.t 7 0) 0 0), (8, .ptr (.t 8 0) 0 0), (9, .ptr (.t 9 0) 0 0), (12, .v a6), (13, .v (.int .i64 (cdk k p q t l))), (14, .v a8), (15, .v a9), (16, .v (.int .i64 (cdk k p q t l)))], [(.t 7 0, .var (cPf p) false), (.t 8 0, .var (cPf q) false), (.t 9 0, .var (cPf t) false)]⟩ := by
 have hlw := lw_lwCd_small k p q t l hk
 have n0 : ((cdk k p q t l) != (cdk k p q t l)) = false := by simp
 have KG := (eqCardS (cdL k p q t l) hlw.2 hlw.1).known (ys' := [.v a9, .v a6]) rfl (fun j hj => by match j, hj with | 0, _ => exact .inr ⟨_, rfl, k9⟩ | 1, _ => exact .inr ⟨_, rfl, k6⟩)
 have KC := (toCardS l hk.2 hk.1).known (ys' := [.v a1]) rfl (fun j hj => by match j, hj with | 0, _ => exact .inr ⟨_, rfl, k1⟩)
 have KX := (eqCardS (l) hk.2 hk.1).known (ys' := [.v a8, .sl 1 (E cC l)]) rfl (fun j hj => by match j, hj with | 0, _ => exact .inr ⟨_, rfl, k8⟩ | 1, _ => exact .inl rfl)
 generalize hc0 : (cdk k p q t l) = c at *
 unfold Cd.lawCalculateDeck
 simp only [Vs.dropS]
 repeat' first|simp -dsimp only [go_sem, cPf, cFd, n0]|apply Br.mk<;>intro h<;>try simp -dsimp only[h]|refine CallK.c (by first|exact KG|exact KC|exact KX) ?_|refine aC ?_|fail
 all_goals first | (simp [Vs.LeL, Vs.look, Vs.hlook]; done)
theorem lwCdD {dr : Nat → Array Oper → Option (List Nat)} (C : Ctx) (k : Int) (p q t : Int × Int) (l : List (List Int)) (hk : smallC l) (a1 a6 a9 : Value) (m : Nat) (k6 : ∀ S w, Vs.Env S w → RC S w (.sl 1 (E cC (cdL k p q t l))) a6) (k9 : ∀ S w, Vs.Env S w → RC S w (.sl 1 (E cC (cdL k p q t l))) a9) :
  Vs.wpcN Tryd.prog C dr 2 (Vs.dropS 11 Cd.lawCalculateDeck) (fun σ' => LeL σ' ⟨[(0, .v (.int .i64 k)), (1, .v a1), (7, .ptr (.t 7 0) 0 0), (8, .ptr (.t 8 0) 0 0), (9, .ptr (.t 9 0) 0 0), (12, .v a6), (13, .v (.int .i64 (cdk k p q t l))), (15, .v a9), (18, .v (.int .i64 1))], [(.t 7 0, .var (cPf p) false), (.t 8 0, .var (cPf q) false), (.t 9 0, .var (cPf t) false)]⟩ ∧ True) (fun _ _ => False) ⟨[(0, .v (.int .i64 k)), (1, .v a1), (7, .ptr (.t 7 0) 0 0), (8, .ptr (.t 8 0) 0 0), (9, .ptr (.t 9 0) 0 0), (12, .v a6), (13, .v (.int .i64 (cdk k p q t l))), (15, .v a9), (16, .v (.int .i64 (cdk k p q t l))), (17, .v (.int .i64 (m : Nat)))], [(.t 7 0, .var (cPf p) false), (.t 8 0, .var (cPf q) false), (.t 9 0, .var (cPf t) false)]⟩ := by
 have hlw := lw_lwCd_small k p q t l hk
 have n0 : ((cdk k p q t l) != (cdk k p q t l)) = false := by simp
 have hm : decide ((m : Int) < 0) = false := decide_eq_false (by omega)
 have KG := (eqCardS (cdL k p q t l) hlw.2 hlw.1).known (ys' := [.v a9, .v a6]) rfl (fun j hj => by match j, hj with | 0, _ => exact .inr ⟨_, rfl, k9⟩ | 1, _ => exact .inr ⟨_, rfl, k6⟩)
 generalize hc0 : (cdk k p q t l) = c at *
 unfold Cd.lawCalculateDeck
 simp only [Vs.dropS]
 repeat' first|simp -dsimp only [go_sem, cPf, cFd, n0, hm]|apply Br.mk<;>intro h<;>try simp -dsimp only[h]|refine CallK.c (by first|exact KG) ?_|refine aC ?_|fail
 all_goals first | (simp [Vs.LeL, Vs.look, Vs.hlook]; done)
theorem lwCdE {dr : Nat → Array Oper → Option (List Nat)} (C : Ctx) (k : Int) (p q t : Int × Int) (l : List (List Int)) (hk : smallC l) (a1 a6 a9 : Value) (k1 : ∀ S w, Vs.Env S w → RC S w (.sl 1 (E cC l)) a1) (k6 : ∀ S w, Vs.Env S w → RC S w (.sl 1 (E cC (cdL k p q t l))) a6) (k9 : ∀ S w, Vs.Env S w → RC S w (.sl 1 (E cC (mkD 1 (cdL k p q t l)))) a9) :
  wpc Tryd.prog C dr (Vs.dropS 14 Cd.lawCalculateDeck) (fun _ => False) (fun e σ' => match e with | .ret => LeL σ' ⟨[(10, .v (.bool true))], []⟩ | .exit _ => False) ⟨[(0, .v (.int .i64 k)), (1, .v a1), (7, .ptr (.t 7 0) 0 0), (8, .ptr (.t 8 0) 0 0), (9, .ptr (.t 9 0) 0 0), (12, .v a6), (13, .v (.int .i64 (cdk k p q t l))), (15, .v a9), (18, .v (.int .i64 (1 + totD (cdL k p q t l) : Nat)))], [(.t 7 0, .var (cPf p) false), (.t 8 0, .var (cPf q) false), (.t 9 0, .var (cPf t) false)]⟩ := by
 have hlw := lw_lwCd_small k p q t l hk
 have n0 : ((cdk k p q t l) != (cdk k p q t l)) = false := by simp
 have hI := impl_CDW k p q t l hk
 have hH := heldCardS (cdL k p q t l) 1 hlw (by omega)
 have hn2 : decide (((1 + totD (cdL k p q t l) : Nat) : Int) < 0) = false := decide_eq_false (by omega)
 have hn3 : (((1 + totD (cdL k p q t l) : Nat) : Int) != ((1 + totD (cdL k p q t l) : Nat) : Int)) = false := by simp
 have KH := (hH).known (ys' := [.v a9, .v (.int .i64 ((1 : Nat) : Int))]) rfl (fun j hj => by match j, hj with | 0, _ => exact .inr ⟨_, rfl, k9⟩ | 1, _ => exact .inl rfl)
 have KC := (toCardS l hk.2 hk.1).known (ys' := [.v a1]) rfl (fun j hj => by match j, hj with | 0, _ => exact .inr ⟨_, rfl, k1⟩)
 have KG := (eqCardS (cdL k p q t l) hlw.2 hlw.1).known (ys' := [.sl 1 (E cC (cdL k p q t l)), .v a6]) rfl (fun j hj => by match j, hj with | 0, _ => exact .inl rfl | 1, _ => exact .inr ⟨_, rfl, k6⟩)
 generalize hc0 : (cdk k p q t l) = c at *
 unfold Cd.lawCalculateDeck
 simp only [Vs.dropS]
 repeat' first|simp -dsimp only [go_sem, cPf, cFd, n0, hn2, hn3]|apply Br.mk<;>intro h<;>try simp -dsimp only[h]|refine CallK.c (by first|exact KH|exact KC|exact KG|exact hI|exact toFieldC p|exact toFieldC q|exact toFieldC t) ?_|refine aC ?_|fail
 all_goals first | (simp [Vs.LeL, Vs.look, Vs.hlook]; done)
end Go.Proofs.YtimcedhcefcbbaaDoor
