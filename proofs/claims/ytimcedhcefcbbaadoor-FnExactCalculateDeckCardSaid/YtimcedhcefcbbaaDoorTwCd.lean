/- CalculateDeck, as the program does it, where it fails. -/
import Derived.Test.YtimcedhcefcbbaaDoorVsD
import Derived.Test.YtimcedhcefcbbaaDoorTwCb
import Derived.Test.YtimcedhcefcbbaaDoorTwZa
set_option linter.all false
set_option maxHeartbeats 8000000
namespace Go.Proofs.YtimcedhcefcbbaaDoor
open Go.Vs
variable [Vs.Tab 0 Vs.powP]
attribute [local irreducible] Vs.Fn
theorem calcCard1c (k : Int) (p q : Int × Int) (fr w : Nat) (c : List Int) (hk : inB k 1 4 = true) (hp : okP p.1 p.2 c) (hq : okP q.1 q.2 c) (hf : fr + w ≤ c.length) (hw0 : 0 < w) (hw12 : w ≤ 12) (hc20 : c.length ≤ 20) (h0 : cdC k p q fr w c = 0) : Vs.Fn Tryd.prog F.i_calculatedCard [] [.v (.int .i64 k), .agg (cC c), .agg (cPf p), .agg (cPf q), .agg [.v (.int .i64 (fr : Nat)), .v (.int .i64 (fr + w : Nat))]] (.tup [.agg (cC (cdH k p q fr w c)), .v (.int .i64 0)]) [] := by
 have hww : IntKind.i64.wrap (((fr + w : Nat) : Int) - (fr : Int)) = (w : Int) := by rw [wrap_in (by omega) (by omega)]; omega
 have hE : List.drop fr (List.take (fr + w) (E cI c)) = E cI ((c.take (fr + w)).drop fr) := by simp [E, List.map_take, List.map_drop]
 have hcl : ((c.take (fr + w)).drop fr).length ≤ 1048576 := by simp; omega
 obtain ⟨hr, hd, hcl9⟩ := cdC_zero h0
 unfold clash at hcl9
 have hrg := calR_rng hr
 have hr0 : -9223372036854775807 ≤ (calR k p q c).1 := by omega
 have hr1 : (calR k p q c).1 ≤ 9223372036854775807 := by omega
 have hnn : (calR k p q c).1.natAbs < 2 ^ 63 := by omega
 have hz0 : ((calR k p q c).2.2 != 0) = false := by simp [hr]
 have hgt := nDig_gt (n := (calR k p q c).1.natAbs) hw0
 have hd2 : (!decide ((calR k p q c).1.natAbs / 10 ^ w = 0)) = false := by simp [hd]
 rw [hd2] at hgt
 refine fn0 Cd.i_calculatedCard_k fun X => ?_
 simp -dsimp only [go_sem, cC, cPf, cFd]
 repeat' first|simp -dsimp only [go_sem, cC, cPf, cFd, cT3, hww, hE, Int.toNat_natCast, List.length_take, List.length_drop, E_len, hz0, hgt, hcl9]|apply Br.mk<;>intro h<;>try simp -dsimp only[h]|refine CallK.c (by first|exact calculated k hk p q c hp hq|exact absOf _ hr0 hr1|exact digitsOf _ hnn|exact conCl _ hcl) ?_|refine aC ?_|fail
 refine CallK.own (punchO c fr w _ (by omega) hf hw0 hrg.1 hrg.2) rfl ?_
 simp -dsimp only [go_sem, cC, cPf, cFd, cT3, hww, hE, Int.toNat_natCast, List.length_take, List.length_drop, E_len]
 have hxl : (pt w (calR k p q c).1).length = w := pt_len _ _
 exact ⟨[.t 53 0], [], by rw [List.take_of_length_le (by rw [E_len, inF_len hf hxl]; exact Nat.le_refl _)]; rfl, rfl⟩
attribute [local go_sem] Int.reduceBEq Int.reduceBNe cFd cT3 List.mem_singleton Name.t.injEq false_and Blk.row List.replicate_succ List.replicate_zero List.flatten_cons List.flatten_nil List.cons_append List.nil_append List.set_cons_zero List.set_cons_succ List.length_cons List.length_nil List.length_set E_len in
set_option maxRecDepth 20000 in
theorem impl_CD0 (k : Int) (p q t : Int × Int) (l : List (List Int)) (hs : ∀ x, x ∈ l → x.length ≤ 1048576) (hl : l.length ≤ 1048576) (h0 : cdk k p q t l ≠ 0) : Vs.Fn Tryd.prog F.i_CalculateDeck [] [.v (.int .i64 k), .sl 1 (E cC l), .agg (cPf p), .agg (cPf q), .agg (cPf t)] (.tup [.v (.slice none 0 0), .v (.int .i64 (cdk k p q t l))]) [] := by
 have hl3 : [p, q, t].length ≤ 1048576 := by simp
 have e2 : ((2 : Int) != 0) = true := rfl
 cases hd : deckB l
 ·have hC : cdk k p q t l = 1 := by simp [cdk, hd]
  rw [hC]
  refine fn0 Cd.i_CalculateDeck_k fun X => ?_
  repeat' first|simp -dsimp only [go_sem, cC, cPf, hd]|apply Br.mk<;>intro h<;>try simp -dsimp only[h]|refine CallK.c (by first|exact validDeck l hs hl|exact deckColumns l|exact calcCode k (widB l) [p, q, t] hl3) ?_|refine aC ?_|fail
  all_goals first | exact ⟨_, _, rfl, rfl⟩
 ·cases hb : cdkB k p q t l
  ·have hC : cdk k p q t l = 2 := by simp [cdk, hd, hb]
   rw [hC]
   have hkk : (inB k 1 4 && allP [p, q, t] (widB l)) = false := hb
   refine fn0 Cd.i_CalculateDeck_k fun X => ?_
   simp -dsimp only [go_sem, cC, cPf, hd]
   repeat' first|simp -dsimp only [go_sem, cC, cPf, hd, hkk, e2]|apply Br.mk<;>intro h<;>try simp -dsimp only[h]|refine CallK.c (by first|exact validDeck l hs hl|exact deckColumns l|exact calcCode k (widB l) [p, q, t] hl3) ?_|refine aC ?_|fail
   all_goals first | exact ⟨_, _, rfl, rfl⟩
  ·obtain ⟨hk1, hk2, hok⟩ := cdk_ok hd hb
   have hC : cdk k p q t l = cdF k p q t.1.toNat (ccW t) l := by simp [cdk, hd, hb]
   rw [hC] at h0 ⊢
   have hne : ∃ c, c ∈ l := by
    cases l with
    | nil => exact (h0 rfl).elim
    | cons a r => exact ⟨a, List.mem_cons_self⟩
   obtain ⟨c0, hc0⟩ := hne
   obtain ⟨fr, w, ht, ht1, ht2, _, hw0, hw12⟩ := okP_nat (hok c0 hc0).2.2.1
   rw [ht1, ht2] at h0 ⊢
   subst ht
   refine fn0 Cd.i_CalculateDeck_k fun X => ?_
   simp -dsimp only [go_sem, cC, cPf, hd]
   repeat' first|simp -dsimp only [go_sem, cC, cPf, hd, hk1, hk2, Bool.and_true]|apply Br.mk<;>intro h<;>try simp -dsimp only[h]|refine CallK.c (by first|exact validDeck l hs hl|exact deckColumns l|exact calcCode k (widB l) [p, q, ((fr : Int), ((fr + w : Nat) : Int))] hl3) ?_|refine aC ?_|fail
   refine LoopK.at dM (X := { zz : Nat × (Unit) // zz.1 ≤ l.length ∧ cdF k p q fr w (l.drop zz.1) = cdF k p q fr w l }) (fun zz => [(13, .loc (.t 13 0) 0 zz.1.1), (35, .v (.int .i64 zz.1.1))]) (fun zz => [(.t 13 0, .arr 1 (E cC ((l.take zz.1.1).map (cdH k p q fr w))) false)]) (fun zz => l.length - zz.1.1) ⟨(0, ()), by omega, by simp⟩ ?_ ?_
   ·simp [Vs.LeL, Vs.look, Vs.hlook, Vs.sput, Vs.sputs, Vs.hset, Vs.hputs, Vs.E]
   ·rintro ⟨⟨i, _⟩, hi, hg⟩
    dsimp only at hi hg
    simp -dsimp only [go_sem, cC, cPf]
    refine Br.mk (fun hc => ?_) fun hc => ?_
    ·have hlt : i < l.length := Dq
     have hw := wrap_succ hlt (by omega)
     have hm : (E cC l).getD i [] = [.sl 1 (E cI l[i])] := E_get hlt
     obtain ⟨hp, hq, hf3, hc20⟩ := hok l[i] (List.getElem_mem hlt)
     have hf : fr + w ≤ l[i].length := by have := hf3.2.2.1; omega
     have hap : E cC ((l.take i).map (cdH k p q fr w)) ++ [[.sl 1 (E cI (cdH k p q fr w l[i]))]] = E cC ((l.take (i + 1)).map (cdH k p q fr w)) := by rw [take_succ hlt, List.map_append, E_append]; rfl
     have hal : (E cC ((l.take i).map (cdH k p q fr w))).length = i := by rw [E_len]; simp; omega
     rw [List.drop_eq_getElem_cons hlt, cdF] at hg
     by_cases hz : cdC k p q fr w l[i] = 0
     ·rw [if_pos hz] at hg
      have hg2 : cdF k p q fr w (l.drop (i + 1)) = cdF k p q fr w l := hg
      have C1 := calcCard1c k p q fr w l[i] hk1 hp hq hf hw0 hw12 hc20 hz
      repeat' first|simp -dsimp only [go_sem, hm, hw, hap, hal, cC, cPf]|apply Br.mk<;>intro h<;>try simp -dsimp only[h]|refine CallK.c (by first|exact C1) ?_|refine aC ?_|fail
      all_goals first | omega | (exact nx (i + 1, ()) hg2 (h2 := by simp [Vs.LeL, Vs.look, Vs.hlook, Vs.sput, Vs.sputs, Vs.hset, Vs.hputs, hap]))
     ·rw [if_neg hz] at hg
      have C0 := calcCard0 k p q fr w l[i] hk1 hp hq hf hw0 hw12 hc20 hz
      have ez : (cdC k p q fr w l[i] != 0) = true := by simp [hz]
      repeat' first|simp -dsimp only [go_sem, hm, ez, hw, hap, hal, cC, cPf]|apply Br.mk<;>intro h<;>try simp -dsimp only[h]|refine CallK.c (by first|exact C0) ?_|refine aC ?_|fail
      all_goals first | (rw [← hg]; exact ⟨_, _, rfl, rfl⟩) | (simp [← hg]; done) | exact ⟨_, _, rfl, by rw [hg]⟩
    ·have hge : i = l.length := by
      have : ¬ i < l.length := Dq
      omega
     subst hge
     simp -dsimp only [go_sem, cC, cPf]
     rw [List.drop_length, cdF] at hg
     exact (h0 hg.symm).elim
theorem cdH_len {k : Int} {p q : Int × Int} {fr wd : Nat} {c : List Int} (hf : fr + wd ≤ c.length) : (cdH k p q fr wd c).length = c.length := inF_len hf (pt_len _ _)
end Go.Proofs.YtimcedhcefcbbaaDoor
