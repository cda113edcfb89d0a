/- CalculateDeck, as the reference does it. -/
import Derived.Test.YtimcedhcefcbbaaDoorVsD
import Derived.Test.YtimcedhcefcbbaaDoorTwCa
import Derived.Test.YtimcedhcefcbbaaDoorTwS
import Derived.Test.YtimcedhcefcbbaaDoorTwZa
set_option linter.all false
set_option maxHeartbeats 8000000
namespace Go.Proofs.YtimcedhcefcbbaaDoor
open Go.Vs
variable [Vs.Tab 0 Vs.powP]
attribute [local irreducible] Vs.Fn
attribute [local go_sem] Int.reduceBEq Int.reduceBNe cFd cT3 List.mem_singleton Name.t.injEq false_and Blk.row List.replicate_succ List.replicate_zero List.flatten_cons List.flatten_nil List.cons_append List.nil_append List.set_cons_zero List.set_cons_succ List.length_cons List.length_nil List.length_set E_len in
set_option maxRecDepth 20000 in
theorem spec_CD0 (k : Int) (p q t : Int × Int) (l : List (List Int)) (hs : ∀ x, x ∈ l → x.length ≤ 1048576) (hl : l.length ≤ 1048576) (h0 : cdk k p q t l ≠ 0) : Vs.Fn Tryd.prog F.s_CalculateDeck [] [.v (.int .i64 k), .sl 1 (E cC l), .agg (cPf p), .agg (cPf q), .agg (cPf t)] (.tup [.v (.slice none 0 0), .v (.int .i64 (cdk k p q t l))]) [] := by
 have hl3 : [p, q, t].length ≤ 1048576 := by simp
 cases hd : deckB l
 ·have hC : cdk k p q t l = 1 := by simp [cdk, hd]
  rw [hC]
  refine fn0 Cd.s_CalculateDeck_k fun X => ?_
  repeat' first|simp -dsimp only [go_sem, cC, cPf, hd]|apply Br.mk<;>intro h<;>try simp -dsimp only[h]|refine CallK.c (by first|exact l02Deck l hs hl|exact l14Kind k|exact l07Width l|exact l14Fields [p, q, t] (widB l) hl3) ?_|refine aC ?_|fail
  all_goals first | exact ⟨_, _, rfl, rfl⟩
 ·cases hb : cdkB k p q t l
  ·have hC : cdk k p q t l = 2 := by simp [cdk, hd, hb]
   rw [hC]
   cases hk1 : inB k 1 4
   ·refine fn0 Cd.s_CalculateDeck_k fun X => ?_
    simp -dsimp only [go_sem, cC, cPf, hd]
    repeat' first|simp -dsimp only [go_sem, cC, cPf, hd, hk1, Bool.false_and]|apply Br.mk<;>intro h<;>try simp -dsimp only[h]|refine CallK.c (by first|exact l02Deck l hs hl|exact l14Kind k|exact l07Width l|exact l14Fields [p, q, t] (widB l) hl3) ?_|refine aC ?_|fail
    all_goals first | exact ⟨_, _, rfl, rfl⟩
   ·have hk2 : allP [p, q, t] (widB l) = false := by simpa [cdkB, hk1] using hb
    refine fn0 Cd.s_CalculateDeck_k fun X => ?_
    simp -dsimp only [go_sem, cC, cPf, hd]
    repeat' first|simp -dsimp only [go_sem, cC, cPf, hd, hk1, hk2, Bool.and_false]|apply Br.mk<;>intro h<;>try simp -dsimp only[h]|refine CallK.c (by first|exact l02Deck l hs hl|exact l14Kind k|exact l07Width l|exact l14Fields [p, q, t] (widB l) hl3) ?_|refine aC ?_|fail
    all_goals first | exact ⟨_, _, rfl, rfl⟩
  ·obtain ⟨hk1, hk2, hok⟩ := cdk_ok hd hb
   have hC : cdk k p q t l = cdF k p q t.1.toNat (ccW t) l := by simp [cdk, hd, hb]
   rw [hC] at h0 ⊢
   have hne : ∃ c, c ∈ l := by
    cases l with
    | nil => exact (h0 rfl).elim
    | cons a r => exact ⟨a, List.mem_cons_self⟩
   obtain ⟨c0, hc0⟩ := hne
   obtain ⟨fr, w, ht, ht1, ht2, _, hw0, hw12⟩ := okP_nat (hok c0 hc0).2.2.1
   rw [ht1, ht2] at h0 ⊢
   subst ht
   refine fn0 Cd.s_CalculateDeck_k fun X => ?_
   simp -dsimp only [go_sem, cC, cPf, hd]
   repeat' first|simp -dsimp only [go_sem, cC, cPf, hd, hk1, hk2, Bool.and_true]|apply Br.mk<;>intro h<;>try simp -dsimp only[h]|refine CallK.c (by first|exact l02Deck l hs hl|exact l14Kind k|exact l07Width l|exact l14Fields [p, q, ((fr : Int), ((fr + w : Nat) : Int))] (widB l) hl3) ?_|refine aC ?_|fail
   refine LoopK.at dM (X := { zz : Nat × (Unit) // zz.1 ≤ l.length ∧ cdF k p q fr w (l.drop zz.1) = cdF k p q fr w l }) (fun zz => [(12, .loc (.t 12 0) 0 zz.1.1), (13, .v (.int .i64 zz.1.1))]) (fun zz => [(.t 12 0, .arr 1 (E cC ((l.take zz.1.1).map (cdH k p q fr w))) false)]) (fun zz => l.length - zz.1.1) ⟨(0, ()), by omega, by simp⟩ ?_ ?_
   ·simp [Vs.LeL, Vs.look, Vs.hlook, Vs.sput, Vs.sputs, Vs.hset, Vs.hputs, Vs.E]
   ·rintro ⟨⟨i, _⟩, hi, hg⟩
    dsimp only at hi hg
    simp -dsimp only [go_sem, cC, cPf]
    refine Br.mk (fun hc => ?_) fun hc => ?_
    ·have hlt : i < l.length := Dq
     have hw := wrap_succ hlt (by omega)
     have hm : (E cC l).getD i [] = [.sl 1 (E cI l[i])] := E_get hlt
     obtain ⟨hp, hq, hf3, hc20⟩ := hok l[i] (List.getElem_mem hlt)
     have hf : fr + w ≤ l[i].length := by have := hf3.2.2.1; omega
     have hap : E cC ((l.take i).map (cdH k p q fr w)) ++ [[.sl 1 (E cI (cdH k p q fr w l[i]))]] = E cC ((l.take (i + 1)).map (cdH k p q fr w)) := by rw [take_succ hlt, List.map_append, E_append]; rfl
     have hal : (E cC ((l.take i).map (cdH k p q fr w))).length = i := by rw [E_len]; simp; omega
     rw [List.drop_eq_getElem_cons hlt, cdF] at hg
     by_cases hz : cdC k p q fr w l[i] = 0
     ·rw [if_pos hz] at hg
      have hg2 : cdF k p q fr w (l.drop (i + 1)) = cdF k p q fr w l := hg
      have h0 := hz
      have C1 := l14Card1 k p q fr w l[i] hp hq hf hw0 hw12 hc20 h0
      repeat' first|simp -dsimp only [go_sem, hm, hw, hap, hal, cC, cPf]|apply Br.mk<;>intro h<;>try simp -dsimp only[h]|refine CallK.c (by first|exact C1) ?_|refine aC ?_|fail
      all_goals first | omega | (exact nx (i + 1, ()) hg2 (h2 := by simp [Vs.LeL, Vs.look, Vs.hlook, Vs.sput, Vs.sputs, Vs.hset, Vs.hputs, hap]))
     ·rw [if_neg hz] at hg
      have C0 := l14Card0 k p q fr w l[i] hp hq hf hw0 hw12 hc20 hz
      have ez : (cdC k p q fr w l[i] != 0) = true := by simp [hz]
      repeat' first|simp -dsimp only [go_sem, hm, ez, hw, hap, hal, cC, cPf]|apply Br.mk<;>intro h<;>try simp -dsimp only[h]|refine CallK.c (by first|exact C0) ?_|refine aC ?_|fail
      all_goals first | (rw [← hg]; exact ⟨_, _, rfl, rfl⟩) | (simp [← hg]; done) | exact ⟨_, _, rfl, by rw [hg]⟩
    ·have hge : i = l.length := by
      have : ¬ i < l.length := Dq
      omega
     subst hge
     simp -dsimp only [go_sem, cC, cPf]
     rw [List.drop_length, cdF] at hg
     exact (h0 hg.symm).elim
attribute [local go_sem] Int.reduceBEq Int.reduceBNe cFd cT3 List.mem_singleton Name.t.injEq false_and Blk.row List.replicate_succ List.replicate_zero List.flatten_cons List.flatten_nil List.cons_append List.nil_append List.set_cons_zero List.set_cons_succ List.length_cons List.length_nil List.length_set E_len in
set_option maxRecDepth 20000 in
theorem spec_CD1 (k : Int) (p q t : Int × Int) (l : List (List Int)) (hs : ∀ x, x ∈ l → x.length ≤ 1048576) (hl : l.length ≤ 1048576) (h0 : cdk k p q t l = 0) : Vs.Fn Tryd.prog F.s_CalculateDeck [] [.v (.int .i64 k), .sl 1 (E cC l), .agg (cPf p), .agg (cPf q), .agg (cPf t)] (.tup [.sl 1 (E cC (l.map (cdH k p q t.1.toNat (ccW t)))), .v (.int .i64 0)]) [] := by
 have hl3 : [p, q, t].length ≤ 1048576 := by simp
 have hd : deckB l = true := by
  cases h : deckB l
  ·exact absurd h0 (by simp [cdk, h])
  ·rfl
 have hb : cdkB k p q t l = true := by
  cases h : cdkB k p q t l
  ·exact absurd h0 (by simp [cdk, hd, h])
  ·rfl
 obtain ⟨hk1, hk2, hok⟩ := cdk_ok hd hb
 have hC : cdk k p q t l = cdF k p q t.1.toNat (ccW t) l := by simp [cdk, hd, hb]
 rw [hC] at h0
 have hk3 : numB t.1 t.2 (widB l) = true := by
  simp only [allP, List.all_cons, List.all_nil, Bool.and_true, Bool.and_eq_true] at hk2
  exact hk2.2.2
 obtain ⟨fr, w, ht, ht1, ht2, _, hw0, hw12⟩ := okP_fld hk3 (by
   by_cases h : l.length = 0
   · rw [widB, if_pos h]; omega
   · obtain ⟨a, r, rfl⟩ : ∃ a r, l = a :: r := by
       cases l with
       | nil => exact (h rfl).elim
       | cons a r => exact ⟨a, r, rfl⟩
     obtain ⟨a1, a2⟩ := deck_card hd a List.mem_cons_self
     have := card20 a1
     omega)
 rw [ht1, ht2] at h0 ⊢
 have hall := cdF_0 h0
 subst ht
 refine fn0 Cd.s_CalculateDeck_k fun X => ?_
 simp -dsimp only [go_sem, cC, cPf, hd]
 repeat' first|simp -dsimp only [go_sem, cC, cPf, hd, hk1, hk2, Bool.and_true]|apply Br.mk<;>intro h<;>try simp -dsimp only[h]|refine CallK.c (by first|exact l02Deck l hs hl|exact l14Kind k|exact l07Width l|exact l14Fields [p, q, ((fr : Int), ((fr + w : Nat) : Int))] (widB l) hl3) ?_|refine aC ?_|fail
 refine LoopK.at dM (X := { zz : Nat × (Unit) // zz.1 ≤ l.length ∧ True }) (fun zz => [(12, .loc (.t 12 0) 0 zz.1.1), (13, .v (.int .i64 zz.1.1))]) (fun zz => [(.t 12 0, .arr 1 (E cC ((l.take zz.1.1).map (cdH k p q fr w))) false)]) (fun zz => l.length - zz.1.1) ⟨(0, ()), by omega, trivial⟩ ?_ ?_
 ·simp [Vs.LeL, Vs.look, Vs.hlook, Vs.sput, Vs.sputs, Vs.hset, Vs.hputs, Vs.E]
 ·rintro ⟨⟨i, _⟩, hi, hg⟩
  dsimp only at hi hg
  simp -dsimp only [go_sem, cC, cPf]
  refine Br.mk (fun hc => ?_) fun hc => ?_
  ·have hlt : i < l.length := Dq
   have hw := wrap_succ hlt (by omega)
   have hm : (E cC l).getD i [] = [.sl 1 (E cI l[i])] := E_get hlt
   obtain ⟨hp, hq, hf3, hc20⟩ := hok l[i] (List.getElem_mem hlt)
   have hf : fr + w ≤ l[i].length := by have := hf3.2.2.1; omega
   have hap : E cC ((l.take i).map (cdH k p q fr w)) ++ [[.sl 1 (E cI (cdH k p q fr w l[i]))]] = E cC ((l.take (i + 1)).map (cdH k p q fr w)) := by rw [take_succ hlt, List.map_append, E_append]; rfl
   have hal : (E cC ((l.take i).map (cdH k p q fr w))).length = i := by rw [E_len]; simp; omega
   have h0 := hall _ (List.getElem_mem hlt)
   have C1 := l14Card1 k p q fr w l[i] hp hq hf hw0 hw12 hc20 h0
   repeat' first|simp -dsimp only [go_sem, hm, hw, hap, hal, cC, cPf]|apply Br.mk<;>intro h<;>try simp -dsimp only[h]|refine CallK.c (by first|exact C1) ?_|refine aC ?_|fail
   all_goals first | omega | (exact nx (i + 1, ()) trivial (h2 := by simp [Vs.LeL, Vs.look, Vs.hlook, Vs.sput, Vs.sputs, Vs.hset, Vs.hputs, hap]))
  ·have hge : i = l.length := by
    have : ¬ i < l.length := Dq
    omega
   subst hge
   simp -dsimp only [go_sem, cC, cPf]
   have htk : (E cC ((l.take l.length).map (cdH k p q fr w))).take l.length = E cC (l.map (cdH k p q fr w)) := by
    rw [List.take_of_length_le (Nat.le_refl l.length)]; exact List.take_of_length_le (by rw [E_len]; simp)
   first | exact ⟨⟨_, _, rfl, rfl⟩, fun h => h rfl⟩ | (rw [htk]; exact ⟨⟨_, _, rfl, rfl⟩, fun h => h rfl⟩) | (simp [htk]; done)
end Go.Proofs.YtimcedhcefcbbaaDoor
