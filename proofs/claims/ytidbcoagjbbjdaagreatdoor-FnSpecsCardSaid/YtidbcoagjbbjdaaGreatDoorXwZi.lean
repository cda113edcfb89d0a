/- The texts of specifications, as the program gives them and as the reference does. -/
import Derived.Test.YtidbcoagjbbjdaaGreatDoorVsD
import Derived.Test.YtidbcoagjbbjdaaGreatDoorXwPn
import Derived.Test.YtidbcoagjbbjdaaGreatDoorXwSr
import Derived.Test.YtidbcoagjbbjdaaGreatDoorXwSm
import Derived.Test.YtidbcoagjbbjdaaGreatDoorXwSo
import Derived.Test.YtidbcoagjbbjdaaGreatDoorXwQd
import Derived.Test.YtidbcoagjbbjdaaGreatDoorXwXh
import Derived.Test.YtidbcoagjbbjdaaGreatDoorXuB
import Derived.Test.YtidbcoagjbbjdaaGreatDoorXwQb
import Derived.Test.YtidbcoagjbbjdaaGreatDoorXuH
set_option linter.all false
set_option maxHeartbeats 8000000
namespace Go.Proofs.YtidbcoagjbbjdaaGreatDoor
open Go.Vs
section
variable [Vs.Tab 0 Vs.powP]
attribute [local irreducible] Vs.Fn ordL chB rk chI
def fewN (fr to : Int) (c : List Int) : Prop := (numC fr to c).2 = true ∧ -99 ≤ (numC fr to c).1 ∧ (numC fr to c).1 ≤ 99
theorem two_num : ∀ k : Nat, k < 100 → (numF (ptN 2 (k : Int)).dropLast ((ptN 2 (k : Int)).getLastD 0)).2 = true ∧ -99 ≤ (numF (ptN 2 (k : Int)).dropLast ((ptN 2 (k : Int)).getLastD 0)).1 ∧ (numF (ptN 2 (k : Int)).dropLast ((ptN 2 (k : Int)).getLastD 0)).1 ≤ 99 := by decide +kernel
theorem two_neg : ∀ k : Nat, k < 31 → (numF (ptN 2 (-(k : Int))).dropLast ((ptN 2 (-(k : Int))).getLastD 0)).2 = true ∧ -99 ≤ (numF (ptN 2 (-(k : Int))).dropLast ((ptN 2 (-(k : Int))).getLastD 0)).1 ∧ (numF (ptN 2 (-(k : Int))).dropLast ((ptN 2 (-(k : Int))).getLastD 0)).1 ≤ 99 := by decide +kernel
theorem two_chr : ∀ k : Nat, k < 100 → hasCh (ptN 2 (k : Int)) = true := by decide +kernel
theorem one_chr : hasCh [l03 65] = true ∧ hasCh [l03 66] = true ∧ hasCh [l03 49] = true := by decide +kernel
theorem crd_is {c : List Int} (h : crd c) : ∃ a p0 p1 q0 q1 : Int, c = [a, p0, p1, q0, q1] ∧ hasCh [a] = true ∧ hasCh [p0] = true ∧ hasCh [p1] = true ∧ fewN 1 3 c ∧ fewN 3 5 c := by
 obtain ⟨a, n, m, ha, hn, hm, rfl⟩ := h
 have hc := two_chr n.toNat (by omega)
 have h1 := two_num n.toNat (by omega)
 rw [Int.toNat_of_nonneg hn.1] at hc h1
 have h2 : (numF (ptN 2 m).dropLast ((ptN 2 m).getLastD 0)).2 = true ∧ -99 ≤ (numF (ptN 2 m).dropLast ((ptN 2 m).getLastD 0)).1 ∧ (numF (ptN 2 m).dropLast ((ptN 2 m).getLastD 0)).1 ≤ 99 := by
  by_cases h0 : 0 ≤ m
  ·have := two_num m.toNat (by omega)
   rwa [Int.toNat_of_nonneg h0] at this
  ·have := two_neg (-m).toNat (by omega)
   rwa [Int.toNat_of_nonneg (by omega), Int.neg_neg] at this
 obtain ⟨p0, p1, hp⟩ := two_of (pt_len 2 n)
 obtain ⟨q0, q1, hq⟩ := two_of (pt_len 2 m)
 rw [hp] at h1 hc ⊢
 rw [hq] at h2 ⊢
 have hca : hasCh [a] = true := by
  obtain ⟨c1, c2, c3⟩ := one_chr
  rcases ha with rfl | rfl | rfl
  ·exact c1
  ·exact c2
  ·exact c3
 simp only [hasCh, List.all_cons, List.all_nil, Bool.and_true, Bool.and_eq_true] at hc
 refine ⟨a, p0, p1, q0, q1, rfl, hca, by simp [hasCh] at hc ⊢; exact hc.1, by simp [hasCh] at hc ⊢; exact hc.2, h1, h2⟩
def sI (fr to : Int) (l : List (List Int)) : Int := (l.map fun c => (numC fr to c).1).sum
theorem sI_le {fr to : Int} : ∀ {l : List (List Int)}, (∀ c, c ∈ l → fewN fr to c) → -(99 * (l.length : Int)) ≤ sI fr to l ∧ sI fr to l ≤ 99 * (l.length : Int)
 | [], _ => by simp [sI]
 | c :: r, h => by
  have ih := sI_le (fr := fr) (to := to) (l := r) fun d hd => h d (List.mem_cons_of_mem _ hd)
  have hc := h c (List.mem_cons_self ..)
  have e : sI fr to (c :: r) = (numC fr to c).1 + sI fr to r := by simp [sI]
  rw [e, List.length_cons]
  have := hc.2
  omega
theorem sumW_acc {fr to : Int} : ∀ (l : List (List Int)) (a : Int) (m : Nat), (∀ c, c ∈ l → fewN fr to c) → -(99 * (m : Int)) ≤ a ∧ a ≤ 99 * (m : Int) → m + l.length ≤ 1000 → l.foldl (fun a c => IntKind.i64.wrap (a + (numC fr to c).1)) a = a + sI fr to l
 | [], a, _, _, _, _ => by simp [sI]
 | c :: r, a, m, h, ha, hl => by
  have hc := (h c (List.mem_cons_self ..)).2
  have hw : IntKind.i64.wrap (a + (numC fr to c).1) = a + (numC fr to c).1 := by
   simp only [List.length_cons] at hl
   exact wrap_in (by omega) (by omega)
  have ih := sumW_acc r (a + (numC fr to c).1) (m + 1) (fun d hd => h d (List.mem_cons_of_mem _ hd)) ⟨by omega, by omega⟩ (by simp only [List.length_cons] at hl; omega)
  have e : sI fr to (c :: r) = (numC fr to c).1 + sI fr to r := by simp [sI]
  rw [List.foldl_cons, hw, ih, e]
  omega
theorem sumW_eq {fr to : Int} {l : List (List Int)} (h : ∀ c, c ∈ l → fewN fr to c) (hl : l.length ≤ 1000) : sumW fr to l = sI fr to l := by
 unfold sumW
 rw [sumW_acc l 0 0 h (by simp) (by omega)]
 omega
theorem sI_app (fr to : Int) (a b : List (List Int)) : sI fr to (a ++ b) = sI fr to a + sI fr to b := by simp [sI]
theorem sI_flat (fr to : Int) : ∀ G : List (List (List Int)), sI fr to G.flatten = (G.map (sI fr to)).sum
 | [] => by simp [sI]
 | g :: r => by rw [List.flatten_cons, sI_app, sI_flat fr to r]; simp
theorem sum_permI {a b : List Int} (h : a.Perm b) : a.sum = b.sum := by
 induction h with
 | nil => rfl
 | cons x _ ih => simp [ih]
 | swap x y l => simp only [List.sum_cons]; omega
 | trans _ _ h1 h2 => rw [h1, h2]
theorem sI_perm {fr to : Int} {a b : List (List Int)} (h : a.Perm b) : sI fr to a = sI fr to b := by
 unfold sI
 exact sum_permI (h.map _)
theorem iota_map (l : List (List Int)) : (iota l.length).map (fun i => l.getD i.toNat []) = l := by
 refine List.ext_getElem (by simp [iota]) fun i h1 h2 => ?_
 simp [iota, List.getD, h2]
theorem srtL_perm {fr to : Int} {l : List (List Int)} (ho : ∀ c, c ∈ l → okF fr to c) (hl : l.length ≤ 40) : (srtL fr to l).Perm l := by
 have h := ((ordL_srt ho hl).1).map (fun i : Int => l.getD i.toNat [])
 rw [iota_map] at h
 exact h
theorem srtL_srt {fr to : Int} {l : List (List Int)} (ho : ∀ c, c ∈ l → okF fr to c) (hl : l.length ≤ 40) : (srtL fr to l).Pairwise fun a b => cmF fr to a b ≤ 0 := by
 unfold srtL
 rw [List.pairwise_map]
 refine (ordL_srt ho hl).2.imp fun {x y} h => ?_
 have := h.2
 unfold cfO at this
 omega
theorem cut_flat (l : List (List Int)) (s : List Int) (h0 : s.length ≠ 0 → s.getD 0 0 = 0) (hup : s.Pairwise (· < ·)) (hin : ∀ x, x ∈ s → 0 ≤ x ∧ x < (l.length : Int)) :
  ∀ k, k ≤ s.length → ((List.range k).map (grpAt l s)).flatten = l.take (if k = 0 then 0 else if k < s.length then (s.getD k 0).toNat else l.length)
 | 0, _ => by simp
 | k + 1, hk => by
  have ih := cut_flat l s h0 hup hin k (by omega)
  rw [List.range_succ, List.map_append, List.flatten_append, ih]
  have hks : k < s.length := by omega
  have ek : s.getD k 0 = s[k] := by simp [List.getD, hks]
  have hkk := hin _ (List.getElem_mem hks)
  have e1 : (if k = 0 then 0 else if k < s.length then (s.getD k 0).toNat else l.length) = (s.getD k 0).toNat := by
   by_cases hz : k = 0
   ·subst hz; rw [if_pos rfl, h0 (by omega)]; rfl
   ·rw [if_neg hz, if_pos hks]
  rw [e1]
  simp only [List.map_cons, List.map_nil, List.flatten_cons, List.flatten_nil, List.append_nil, Nat.succ_ne_zero, if_false]
  unfold grpAt
  have hle : (s.getD k 0).toNat ≤ (if k + 1 < s.length then (s.getD (k + 1) 0).toNat else l.length) := by
   split
   ·rename_i h1
    have hlt2 : s[k] < s[k + 1] := List.pairwise_iff_getElem.1 hup k (k + 1) hks h1 (by omega)
    rw [ek, show s.getD (k + 1) 0 = s[k + 1] by simp [List.getD, h1]]
    omega
   ·omega
  generalize (if k + 1 < s.length then (s.getD (k + 1) 0).toNat else l.length) = b at *
  generalize (s.getD k 0).toNat = a at *
  have : l.take b = l.take a ++ (l.take b).drop a := by
   conv => lhs; rw [← List.take_append_drop a (l.take b)]
   rw [List.take_take, Nat.min_eq_left hle]
  exact this.symm
theorem grpTo_head (fr to : Int) (l : List (List Int)) : ∀ n, 0 < n → ∃ r, grpTo fr to l n = 0 :: r
 | 0, h => absurd h (by omega)
 | 1, _ => ⟨[], by rw [grpTo_succ, grpTo_zero]; simp⟩
 | n + 2, _ => by
  obtain ⟨r, hr⟩ := grpTo_head fr to l (n + 1) (by omega)
  rw [grpTo_succ, hr]
  exact ⟨_, rfl⟩
theorem grpL_flat (fr to : Int) (l : List (List Int)) : (grpL fr to l).flatten = l := by
 unfold grpL
 have hup := grpTo_up (fr := fr) (to := to) (l := l) l.length
 have hin := grpTo_in (fr := fr) (to := to) (l := l) l.length
 by_cases hl : l.length = 0
 ·have : l = [] := List.eq_nil_of_length_eq_zero hl
  subst this
  simp [grpTo]
 ·obtain ⟨r, hr⟩ := grpTo_head fr to l l.length (by omega)
  generalize grpTo fr to l l.length = s at *
  have h := cut_flat l s (fun _ => by rw [hr]; rfl) hup hin s.length (Nat.le_refl _)
  rw [h, if_neg (by rw [hr]; simp), if_neg (by omega), List.take_length]
theorem grpTo_new {fr to : Int} {l : List (List Int)} : ∀ n x, x ∈ grpTo fr to l n → x = 0 ∨ cmF fr to (l.getD (x - 1).toNat []) (l.getD x.toNat []) ≠ 0
 | 0, x, h => by rw [grpTo_zero] at h; cases h
 | n + 1, x, h => by
  rw [grpTo_succ] at h
  rcases List.mem_append.1 h with h | h
  ·exact grpTo_new n x h
  ·split at h
   ·rename_i hc
    obtain rfl := List.mem_singleton.1 h
    rcases hc with rfl | hc
    ·left; rfl
    ·by_cases hn : n = 0
     ·left; subst hn; rfl
     ·right
      rw [show ((n : Int) - 1).toNat = n - 1 by omega, Int.toNat_natCast]
      exact hc
   ·cases h
end
section
variable [Vs.Tab 0 Vs.powP]
attribute [local irreducible] Vs.Fn grpTo chOK areCh chTo chAt l03 chB rk cd3 chI stp stpTo
end
section
variable [Vs.Tab 0 Vs.powP]
attribute [local irreducible] Vs.Fn ordL chB rk chI
def ky (fr to : Int) (c : List Int) : Int := rk ((fH fr to c).getD 0 0)
theorem fH_one {fr to : Int} {c : List Int} (ho : okF fr to c) (h1 : to = fr + 1) : ∃ x, fH fr to c = [x] := by
 have hl := fH_len ho
 have h0 := ho.1
 have : (fH fr to c).length = 1 := by omega
 match hc : fH fr to c, this with
 | [x], _ => exact ⟨x, rfl⟩
theorem cm_ky {fr to : Int} {a b : List Int} (ha : okF fr to a) (hb : okF fr to b) (h1 : to = fr + 1) (h : cmF fr to a b ≤ 0) : ky fr to a ≤ ky fr to b ∧ (cmF fr to a b ≠ 0 → ky fr to a < ky fr to b) := by
 obtain ⟨x, hx⟩ := fH_one ha h1
 obtain ⟨y, hy⟩ := fH_one hb h1
 unfold cmF at h ⊢
 unfold ky
 rw [hx, hy] at h ⊢
 simp only [cmpR, List.getD_cons_zero] at h ⊢
 split at h
 ·rename_i hlt
  exact ⟨by omega, fun _ => hlt⟩
 ·split at h
  ·omega
  ·rename_i h2 h3
   rw [if_neg h2, if_neg h3]
   exact ⟨by omega, fun h => absurd rfl h⟩
theorem txt_ky {x y : Int} (hx : 0 ≤ rk x) (hy : 0 ≤ rk y) (h : txt [x] = txt [y]) : rk x = rk y := by
 have ix := rk_in x
 have iy := rk_in y
 have h2 : UInt8.ofNat (chI x).toNat = UInt8.ofNat (chI y).toNat := by
  have h := congrArg (fun b : ByteArray => b.data.toList) h
  simpa [txt, strB] using h
 rw [← chI_eq, ← chI_eq, Int.toNat_natCast, Int.toNat_natCast] at h2
 have h3 := congrArg UInt8.toNat h2
 rw [UInt8.toNat_ofNat', UInt8.toNat_ofNat', Nat.mod_eq_of_lt (chB_lt _ (by omega)), Nat.mod_eq_of_lt (chB_lt _ (by omega))] at h3
 have := chB_inj (rk x).toNat (by omega) (rk y).toNat (by omega) h3
 omega
theorem grpAt_head (l : List (List Int)) (s : List Int) (i : Nat) (h : 0 < (grpAt l s i).length) : (grpAt l s i).getD 0 [] = l.getD (s.getD i 0).toNat [] := by
 unfold grpAt at h ⊢
 generalize (if i + 1 < s.length then (s.getD (i + 1) 0).toNat else l.length) = b at *
 generalize (s.getD i 0).toNat = a at *
 simp only [List.getD, List.getElem?_drop, List.getElem?_take, Nat.add_zero]
 rw [List.length_drop, List.length_take] at h
 rw [if_pos (by omega)]
theorem get_map {α β : Type} {f : α → β} {L : List α} {T : List β} (h : T = L.map f) {k : Nat} (hk : k < T.length) (hk2 : k < L.length) : T[k] = f L[k] := by
 subst h; simp
theorem tot_names {fr to sf st : Int} {l : List (List Int)} (ho : ∀ c, c ∈ l → okF fr to c) (h1 : to = fr + 1) (hs : l.Pairwise fun a b => cmF fr to a b ≤ 0) (hall : allCh fr to l = true) :
  ∀ i j (hi : i < (totL fr to sf st l).length) (hj : j < (totL fr to sf st l).length), i < j → (totL fr to sf st l)[i].1 ≠ (totL fr to sf st l)[j].1 := by
 intro i j hi hj hij
 have hlen : (totL fr to sf st l).length = (grpTo fr to l l.length).length := by unfold totL grpL; simp
 have hgm : ∀ g, g ∈ grpL fr to l → 0 < g.length ∧ g.length ≤ l.length ∧ ∀ c, c ∈ g → c ∈ l := fun g hg => grpL_mem hg
 have hnew := grpTo_new (fr := fr) (to := to) (l := l) l.length
 have hup := grpTo_up (fr := fr) (to := to) (l := l) l.length
 have hin := grpTo_in (fr := fr) (to := to) (l := l) l.length
 have hget : ∀ k (hk : k < (totL fr to sf st l).length), (totL fr to sf st l)[k].1 = txt (fH fr to (l.getD ((grpTo fr to l l.length).getD k 0).toNat [])) := by
  intro k hk
  have hk2 : k < (grpL fr to l).length := by unfold totL at hk; simpa using hk
  have e1 : (totL fr to sf st l)[k].1 = txt (fH fr to ((grpL fr to l)[k].getD 0 [])) := by
   rw [get_map (show totL fr to sf st l = _ from rfl) hk hk2]
  have hm := hgm _ (List.getElem_mem hk2)
  have e2 : (grpL fr to l)[k] = grpAt l (grpTo fr to l l.length) k := by
   rw [get_map (show grpL fr to l = _ from rfl) hk2 (by rw [List.length_range]; rw [hlen] at hk; exact hk), List.getElem_range]
  rw [e1, e2]
  rw [e2] at hm
  rw [grpAt_head l _ k hm.1]
 rw [hlen] at hi hj
 rw [hget i (by rw [hlen]; exact hi), hget j (by rw [hlen]; exact hj)]
 generalize grpTo fr to l l.length = s at *
 have ei : s.getD i 0 = s[i] := by simp [List.getD, hi]
 have ej : s.getD j 0 = s[j] := by simp [List.getD, hj]
 rw [ei, ej]
 have bi := hin _ (List.getElem_mem hi)
 have bj := hin _ (List.getElem_mem hj)
 have hlt : s[i] < s[j] := List.pairwise_iff_getElem.1 hup i j hi hj hij
 have hnj := (hnew _ (List.getElem_mem hj)).resolve_left (by omega)
 generalize s[i] = p at *
 generalize s[j] = q at *
 have at' : ∀ x : Int, 0 ≤ x → x < (l.length : Int) → ∃ h : x.toNat < l.length, l.getD x.toNat [] = l[x.toNat] := fun x h0 hl => ⟨by omega, by simp [List.getD, show x.toNat < l.length by omega]⟩
 obtain ⟨a1, e1⟩ := at' p bi.1 bi.2
 obtain ⟨a2, e2⟩ := at' q bj.1 bj.2
 obtain ⟨a3, e3⟩ := at' (q - 1) (by omega) (by omega)
 have s32 : cmF fr to l[(q - 1).toNat] l[q.toNat] ≤ 0 := List.pairwise_iff_getElem.1 hs _ _ a3 a2 (by omega)
 rw [e2, e3] at hnj
 have k32 := (cm_ky (ho _ (List.getElem_mem a3)) (ho _ (List.getElem_mem a2)) h1 s32).2 hnj
 have k13 : ky fr to l[p.toNat] ≤ ky fr to l[(q - 1).toNat] := by
  by_cases hpq : p.toNat = (q - 1).toNat
  ·simp only [hpq]; exact Int.le_refl _
  ·exact (cm_ky (ho _ (List.getElem_mem a1)) (ho _ (List.getElem_mem a3)) h1 (List.pairwise_iff_getElem.1 hs _ _ a1 a3 (by omega))).1
 rw [e1, e2]
 intro he
 obtain ⟨x, hx⟩ := fH_one (ho _ (List.getElem_mem a1)) h1
 obtain ⟨y, hy⟩ := fH_one (ho _ (List.getElem_mem a2)) h1
 have hcx := List.all_eq_true.1 hall _ (List.getElem_mem a1)
 have hcy := List.all_eq_true.1 hall _ (List.getElem_mem a2)
 rw [hx] at hcx
 rw [hy] at hcy
 rw [hx, hy] at he
 simp only [hasCh, List.all_cons, List.all_nil, Bool.and_true, decide_eq_true_eq] at hcx hcy
 have hk := txt_ky hcx hcy he
 unfold ky at k32 k13
 rw [hx] at k13
 rw [hy] at k32
 simp only [List.getD_cons_zero] at k13 k32
 omega
def stW (t : List (ByteArray × Int)) : Int := t.foldl (fun a x => IntKind.i64.wrap (a + x.2)) 0
theorem stW_succ {t : List (ByteArray × Int)} {i : Nat} (h : i < t.length) : stW (t.take (i + 1)) = IntKind.i64.wrap (stW (t.take i) + t[i].2) := by
 unfold stW
 rw [take_succ h, List.foldl_append]; rfl
theorem stW_acc : ∀ (t : List (ByteArray × Int)) (a : Int) (m : Nat), (∀ x, x ∈ t → -100000 ≤ x.2 ∧ x.2 ≤ 100000) → -(100000 * (m : Int)) ≤ a ∧ a ≤ 100000 * (m : Int) → m + t.length ≤ 1000 → t.foldl (fun a x => IntKind.i64.wrap (a + x.2)) a = a + (t.map fun x => x.2).sum
 | [], a, _, _, _, _ => by simp
 | c :: r, a, m, h, ha, hl => by
  have hc := h c (List.mem_cons_self ..)
  have hw : IntKind.i64.wrap (a + c.2) = a + c.2 := by
   simp only [List.length_cons] at hl
   exact wrap_in (by omega) (by omega)
  have ih := stW_acc r (a + c.2) (m + 1) (fun d hd => h d (List.mem_cons_of_mem _ hd)) ⟨by omega, by omega⟩ (by simp only [List.length_cons] at hl; omega)
  rw [List.foldl_cons, hw, ih]
  simp only [List.map_cons, List.sum_cons]
  omega
theorem stW_tot {fr to sf st : Int} {l : List (List Int)} (h : ∀ c, c ∈ l → fewN sf st c) (hl : l.length ≤ 100) : stW (totL fr to sf st l) = sI sf st l := by
 have hgm : ∀ g, g ∈ grpL fr to l → 0 < g.length ∧ g.length ≤ l.length ∧ ∀ c, c ∈ g → c ∈ l := fun g hg => grpL_mem hg
 have hGl := grpL_len fr to l
 have hsum : ∀ g, g ∈ grpL fr to l → sumW sf st g = sI sf st g := fun g hg => sumW_eq (fun c hc => h c ((hgm g hg).2.2 c hc)) (by have := (hgm g hg).2.1; omega)
 have e : (totL fr to sf st l).map (fun x => x.2) = (grpL fr to l).map (sI sf st) := by
  unfold totL
  rw [List.map_map]
  exact List.map_congr_left fun g hg => hsum g hg
 have hb : ∀ x, x ∈ totL fr to sf st l → -100000 ≤ x.2 ∧ x.2 ≤ 100000 := fun x hx => by
  unfold totL at hx
  obtain ⟨g, hg, rfl⟩ := List.mem_map.1 hx
  dsimp only
  rw [hsum g hg]
  have := sI_le (fr := sf) (to := st) (l := g) fun c hc => h c ((hgm g hg).2.2 c hc)
  have := (hgm g hg).2.1
  omega
 have hTl : (totL fr to sf st l).length ≤ 100 := by unfold totL; rw [List.length_map]; omega
 unfold stW
 rw [stW_acc _ 0 0 hb (by simp) (by omega), e, ← sI_flat, grpL_flat]
 omega
end
section
variable [Vs.Tab 0 Vs.powP]
attribute [local irreducible] Vs.Fn
def dcl (n : Int) : ByteArray := ⟨(Lib.itoa n).toArray⟩
theorem nDig_le {n : Nat} (hn : n < 10 ^ 19) : Lib.nDigits n ≤ 19 := by
 have h : ∀ (k m : Nat), m < 10 ^ (k + 1) → Lib.nDigits m ≤ k + 1 := by
  intro k
  induction k with
  | zero => intro m hm; rw [Lib.nDigits_small (by simpa using hm)]; omega
  | succ k ih =>
   intro m hm
   by_cases h : m < 10
   ·rw [Lib.nDigits_small h]; omega
   ·rw [Lib.nDigits_big h]
    have := ih (m / 10) (by rw [Nat.pow_succ] at hm; omega)
    omega
 exact h 18 n hn
theorem dcl_size {n : Int} (h0 : -9223372036854775808 ≤ n) (h1 : n ≤ 9223372036854775807) : (dcl n).size ≤ 20 := by
 have e : (dcl n).size = (Lib.itoa n).length := by simp [dcl, ByteArray.size]
 rw [e]
 unfold Lib.itoa
 split
 ·rw [List.length_cons, Lib.decDigits_length]
  have := nDig_le (n := n.natAbs) (by omega)
  omega
 ·rw [Lib.decDigits_length]
  have := nDig_le (n := n.toNat) (by omega)
  omega
theorem formatIntA (n : Int) (h0 : -9223372036854775808 ≤ n) (h1 : n ≤ 9223372036854775807) : Fz F.strconv_FormatInt [.v (.int .i64 n), .v (.int .i64 10)] (.v (.string (dcl n))) := by
 refine fn0 Cd.strconv_FormatInt_k fun X => ?_
 repeat' first|simp -dsimp only [go_sem]|apply Br.mk<;>intro h<;>try simp -dsimp only[h]|refine CallK.c (by first|exact formatInt n h0 h1) ?_|refine aC ?_|fail
 all_goals (simp_all [dcl])
theorem decimalA (n : Int) (h0 : -9223372036854775808 ≤ n) (h1 : n ≤ 9223372036854775807) : Fz F.i_Decimal [.v (.int .i64 n)] (.v (.string (dcl n))) := by
 refine fn0 Cd.i_Decimal_k fun X => ?_
 repeat' first|simp -dsimp only [go_sem]|apply Br.mk<;>intro h<;>try simp -dsimp only[h]|refine CallK.c (by first|exact formatIntA n h0 h1) ?_|refine aC ?_|fail
 all_goals (simp_all)
end
section
variable [Vs.Tab 0 Vs.powP]
attribute [local irreducible] Vs.Fn chOK areCh chTo chAt l03
theorem bsz (a : Array UInt8) : (ByteArray.mk a).size = a.size := rfl
def spnX (a b : Int) : ByteArray := dcl a ++ ⟨#[45]⟩ ++ dcl b
def inR (n : Int) : Prop := -9223372036854775808 ≤ n ∧ n ≤ 9223372036854775807
theorem spnX_size {a b : Int} (ha : inR a) (hb : inR b) : (spnX a b).size ≤ 41 := by
 have da := dcl_size ha.1 ha.2
 have db := dcl_size hb.1 hb.2
 unfold spnX
 simp only [ByteArray.size_append, bsz, List.size_toArray, List.length_cons, List.length_nil]
 omega
theorem span (a b : Int) (ha : inR a) (hb : inR b) : Fz F.i_span [.agg [.v (.int .i64 a), .v (.int .i64 b)]] (.v (.string (spnX a b))) := by
 have da := dcl_size ha.1 ha.2
 have db := dcl_size hb.1 hb.2
 refine fn0 Cd.i_span_k fun X => ?_
 repeat' first|simp -dsimp only [go_sem]|apply Br.mk<;>intro h<;>try simp -dsimp only[h]|refine RgK.mk rfl ?_|refine CallK.c (by first|exact decimalA a ha.1 ha.2|exact decimalA b hb.1 hb.2) ?_|refine And.intro (by first|rfl | omega | decide|exact (by simp only [ByteArray.size_append, bsz, List.size_toArray, List.length_cons, List.length_nil]; omega) | (refine ⟨?_, ?_⟩ <;> (first | rfl | omega | decide|exact (by simp only [ByteArray.size_append, bsz, List.size_toArray, List.length_cons, List.length_nil]; omega))) | (refine ⟨?_, ?_, ?_⟩ <;> (first | rfl | omega | decide|exact (by simp only [ByteArray.size_append, bsz, List.size_toArray, List.length_cons, List.length_nil]; omega))) | (refine ⟨?_, ?_, ?_, ?_⟩ <;> (first | rfl | omega | decide|exact (by simp only [ByteArray.size_append, bsz, List.size_toArray, List.length_cons, List.length_nil]; omega)))) ?_|fail
 all_goals (exact ret_eq rfl)
def spX0 (x : Spc) : ByteArray := ⟨#[115, 117, 109, 32]⟩ ++ spnX x.s0 x.s1 ++ ⟨#[32, 98, 121, 32]⟩ ++ spnX x.g0 x.g1
def spX1 (x : Spc) : ByteArray := ⟨#[115, 117, 109, 32]⟩ ++ spnX x.s0 x.s1 ++ ⟨#[32, 98, 121, 32]⟩ ++ spnX x.g0 x.g1 ++ (⟨#[32, 119, 104, 101, 114, 101, 32]⟩ ++ spnX x.w0 x.w1 ++ ⟨#[32, 61]⟩ ++ x.text)
def spX (x : Spc) : ByteArray := if noText x.text then spX0 x else spX1 x
def spT (x : Spc) : ByteArray := if spcB x 20 then spX x else ⟨#[]⟩
theorem fldB_inR {a b w : Int} (h : fldB a b w = true) (hw : 0 ≤ w ∧ w ≤ 1000) : inR a ∧ inR b := by
 simp only [fldB, Bool.and_eq_true, decide_eq_true_eq] at h
 unfold inR; omega
theorem spcB_rng {x : Spc} (h : spcB x 20 = true) : (inR x.s0 ∧ inR x.s1) ∧ (inR x.g0 ∧ inR x.g1) ∧ inR x.w0 ∧ inR x.w1 := by
 simp only [spcB, numB, Bool.and_eq_true] at h
 obtain ⟨h1, ⟨h2, _⟩, h3⟩ := h
 refine ⟨fldB_inR h2 (by omega), fldB_inR h1 (by omega), ?_⟩
 split at h3
 ·simp only [Bool.and_eq_true, beq_iff_eq] at h3
  unfold inR; omega
 ·simp only [Bool.and_eq_true] at h3
  exact fldB_inR h3.1 (by omega)
theorem impl_SpecText (x : Spc) (hs : x.text.size ≤ 1048576) : Fz F.i_SpecText [.agg (cP x)] (.v (.string (spT x))) := by
 have i20 : inB 20 1 20 = true := by decide
 cases hk : spcB x 20
 ·have hT : spT x = ⟨#[]⟩ := by simp [spT, hk]
  rw [hT]
  refine fn0 Cd.i_SpecText_k fun X => ?_
  simp -dsimp only [go_sem, cP, hk]
  repeat' first|simp -dsimp only [go_sem, cP, hk, i20, Bool.and_false, Bool.and_true]|apply Br.mk<;>intro h<;>try simp -dsimp only[h]|refine CallK.c (by first|exact impl_ValidSpec x _ hs) ?_|refine aC ?_|fail
  all_goals exact ret_eq rfl
 ·have hT : spT x = spX x := by simp [spT, hk]
  rw [hT]
  obtain ⟨⟨a1, a2⟩, ⟨a3, a4⟩, a5, a6⟩ := spcB_rng hk
  have d1 := spnX_size a1 a2
  have d2 := spnX_size a3 a4
  have d3 := spnX_size a5 a6
  cases hn : noText x.text
  ·have hX : spX x = spX1 x := by simp [spX, hn]
   rw [hX]
   unfold noText at hn
   refine fn0 Cd.i_SpecText_k fun X => ?_
   repeat' first|simp -dsimp only [go_sem, cP, hn, hk, i20, Bool.and_false, Bool.and_true]|apply Br.mk<;>intro h<;>try simp -dsimp only[h]|refine RgK.mk rfl ?_|refine CallK.c (by first|exact impl_ValidSpec x _ hs|exact span x.s0 x.s1 a1 a2|exact span x.g0 x.g1 a3 a4|exact span x.w0 x.w1 a5 a6) ?_|refine And.intro (by first|rfl | omega | decide|exact (by simp only [ByteArray.size_append, bsz, List.size_toArray, List.length_cons, List.length_nil]; omega) | (refine ⟨?_, ?_⟩ <;> (first | rfl | omega | decide|exact (by simp only [ByteArray.size_append, bsz, List.size_toArray, List.length_cons, List.length_nil]; omega))) | (refine ⟨?_, ?_, ?_⟩ <;> (first | rfl | omega | decide|exact (by simp only [ByteArray.size_append, bsz, List.size_toArray, List.length_cons, List.length_nil]; omega))) | (refine ⟨?_, ?_, ?_, ?_⟩ <;> (first | rfl | omega | decide|exact (by simp only [ByteArray.size_append, bsz, List.size_toArray, List.length_cons, List.length_nil]; omega)))) ?_|fail
   all_goals exact ret_eq rfl
  ·have hX : spX x = spX0 x := by simp [spX, hn]
   rw [hX]
   unfold noText at hn
   refine fn0 Cd.i_SpecText_k fun X => ?_
   repeat' first|simp -dsimp only [go_sem, cP, hn, hk, i20, Bool.and_false, Bool.and_true]|apply Br.mk<;>intro h<;>try simp -dsimp only[h]|refine RgK.mk rfl ?_|refine CallK.c (by first|exact impl_ValidSpec x _ hs|exact span x.s0 x.s1 a1 a2|exact span x.g0 x.g1 a3 a4|exact span x.w0 x.w1 a5 a6) ?_|refine And.intro (by first|rfl | omega | decide|exact (by simp only [ByteArray.size_append, bsz, List.size_toArray, List.length_cons, List.length_nil]; omega) | (refine ⟨?_, ?_⟩ <;> (first | rfl | omega | decide|exact (by simp only [ByteArray.size_append, bsz, List.size_toArray, List.length_cons, List.length_nil]; omega))) | (refine ⟨?_, ?_, ?_⟩ <;> (first | rfl | omega | decide|exact (by simp only [ByteArray.size_append, bsz, List.size_toArray, List.length_cons, List.length_nil]; omega))) | (refine ⟨?_, ?_, ?_, ?_⟩ <;> (first | rfl | omega | decide|exact (by simp only [ByteArray.size_append, bsz, List.size_toArray, List.length_cons, List.length_nil]; omega)))) ?_|fail
   all_goals exact ret_eq rfl
end
end Go.Proofs.YtidbcoagjbbjdaaGreatDoor
