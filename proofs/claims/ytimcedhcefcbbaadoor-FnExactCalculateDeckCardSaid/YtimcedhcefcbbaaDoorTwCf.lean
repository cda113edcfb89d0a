/- The law FnExactCalculateDeck, joined. -/
import Derived.Test.YtimcedhcefcbbaaDoorVsD
import Derived.Test.YtimcedhcefcbbaaDoorTwCe
import Derived.Test.YtimcedhcefcbbaaDoorVuI
set_option linter.all false
set_option maxHeartbeats 8000000
namespace Go.Proofs.YtimcedhcefcbbaaDoor
open Go.Vs
variable [Vs.Tab 0 Vs.powP]
attribute [local irreducible] Vs.Fn mkD totD cdL cdk
attribute [local go_sem] cFd in
theorem law_lwCd (k : Int) (p q t : Int × Int) (l : List (List Int))  (gb : bigC l) : Vs.Fn Tryd.prog F.lawCalculateDeck [] [.v (.int .i64 k), .sl 1 (E cC l), .agg (cPf p), .agg (cPf q), .agg (cPf t)] (.v (.bool true)) [] := by
 refine Vs.Fn.of_calls (Vs.CodeIsR.has Cd.lawCalculateDeck_k.o) (by intro y hy; simp only [List.mem_cons, List.not_mem_nil, or_false] at hy; rcases hy with rfl | rfl | rfl | rfl | rfl <;> rfl) rfl fun S w vs hS he hvs hargs => ?_
 obtain ⟨h1, _, _⟩ := Cd.lawCalculateDeck_k.o
 have h2 : Tryd.f3.body.bind (cCode Tryd.prog Tryd.f3.ntmps (Vs.drI Tryd.prog 14 8 [(3, 2), (5, 4), (7, 6)] [[8, 9, 10, 11, 12, 13], [8, 9, 10, 12, 11, 13], [8, 9, 11, 10, 12, 13]])) = some Cd.lawCalculateDeck.bare := by kernel_rfl
 obtain ⟨body, hb, hc⟩ := Option.bind_eq_some_iff.1 h2
 have hz : (Tryd.f3.body.map (zB Tryd.f3.ntmps (Vs.drI Tryd.prog 14 8 [(3, 2), (5, 4), (7, 6)] [[8, 9, 10, 11, 12, 13], [8, 9, 10, 12, 11, 13], [8, 9, 11, 10, 12, 13]]))) = some true := by kernel_rfl
 rw [hb] at hz
 refine Vs.Pt.calls (dr := Vs.drI Tryd.prog 14 8 [(3, 2), (5, 4), (7, 6)] [[8, 9, 10, 11, 12, 13], [8, 9, 10, 12, 11, 13], [8, 9, 11, 10, 12, 13]]) (ac := Cd.lawCalculateDeck) h1 hb hc (by simpa using hz) (args := [.v (.int .i64 k), .sl 1 (E cC l), .agg (cPf p), .agg (cPf q), .agg (cPf t)]) (by rw [Cd.lawCalculateDeck_k.n]; exact Nat.le_of_ble_eq_true rfl) hS he hvs hargs fun C1 a hnt hw0 hS0 hp => ?_
 have hM := hp.nomut
 subst hw0
 have MK := fun (l : List (List Int)) (hk : smallC l) (S : Nat → Prop) (w : World) (v : Value) (m : Vs.Mem) hS he hno hd => markCardS_dk (S := S) (w := w) (v := v) (l := l) (m := m) 1 (by omega) hk hS he hno hd
 refine hp.go (Vs.drI_ok Tryd.mixed _ _ _ _) hnt 5 _ (τ := ⟨[(0, .v (.int .i64 k)), (1, .sl 1 (E cC l)), (7, .ptr (.t 7 0) 0 0), (8, .ptr (.t 8 0) 0 0), (9, .ptr (.t 9 0) 0 0), (12, .sl 1 (E cC (cdL k p q t l))), (13, .v (.int .i64 (cdk k p q t l)))], [(.t 7 0, .var (cPf p) false), (.t 8 0, .var (cPf q) false), (.t 9 0, .var (cPf t) false)]⟩) (E := (fun e σ' => match e with | .ret => LeL σ' ⟨[(10, .v (.bool true))], []⟩ | .exit _ => False)) (fun p hp => by
     simp only [List.mem_cons, List.not_mem_nil, or_false] at hp
     rcases hp with rfl | rfl | rfl
     · exact ⟨rfl, rfl⟩
     · exact ⟨rfl, rfl⟩
     · exact ⟨rfl, rfl⟩) (fun C hC => lwCdA C k p q t l  gb) (fun i σ h => h) (fun C a w hl hg => ⟨.inl rfl, Vs.law_end hl hM Cd.lawCalculateDeck_k.r hg⟩) fun aA wA SA pA hpA hX => ?_
 have hk := hX
 have hszA := hpA.size
 have heA := hpA.env
 have hdA := hpA.dom
 have hTA : SA 0 ∧ Vs.powP wA.heap[0]? := Vs.Tab.has SA wA heA
 have tabP : ∀ {S' : Nat → Prop} {w' : World}, Vs.Past SA wA S' w' → S' 0 ∧ Vs.powP w'.heap[0]? := fun {S' w'} p => ⟨p.sub 0 hTA.1, by rw [p.old 0 hTA.1]; exact hTA.2⟩
 have EM := fun (w' : World) (h : ∀ b, SA b → w'.heap[b]? = wA.heap[b]?) => heA.mono (fun _ h => h) h
 have hlw := lw_lwCd_small k p q t l hk
 have r1 : RC SA wA (.sl 1 (E cC l)) (aA.tmps.getD 1 undef) := hpA.val (t := 1) rfl
 have r6 : RC SA wA (.sl 1 (E cC (cdL k p q t l))) (aA.tmps.getD 12 undef) := hpA.val (t := 12) rfl
 have hpS : ∃ a1 a6, a1 = aA.tmps.getD 1 undef ∧ a6 = aA.tmps.getD 12 undef ∧ Pt (Vs.keepE SA wA) C1 (⟨[(0, .v (.int .i64 k)), (1, .v a1), (7, .ptr (.t 7 0) 0 0), (8, .ptr (.t 8 0) 0 0), (9, .ptr (.t 9 0) 0 0), (12, .v a6), (13, .v (.int .i64 (cdk k p q t l)))], [(.t 7 0, .var (cPf p) false), (.t 8 0, .var (cPf q) false), (.t 9 0, .var (cPf t) false)]⟩ : St) aA wA SA :=
  ⟨_, _, rfl, rfl, hpA.set [(0, .v (.int .i64 k)), (1, .v (aA.tmps.getD 1 undef)), (7, .ptr (.t 7 0) 0 0), (8, .ptr (.t 8 0) 0 0), (9, .ptr (.t 9 0) 0 0), (12, .v (aA.tmps.getD 12 undef)), (13, .v (.int .i64 (cdk k p q t l)))] (fun p hp => by
    simp only [List.mem_cons, List.not_mem_nil, or_false] at hp
    rcases hp with rfl | rfl | rfl | rfl | rfl | rfl | rfl
    · exact .inl ⟨rfl, rfl⟩
    · exact .inr (.v _)
    · exact .inl ⟨rfl, rfl⟩
    · exact .inl ⟨rfl, rfl⟩
    · exact .inl ⟨rfl, rfl⟩
    · exact .inr (.v _)
    · exact .inl ⟨rfl, rfl⟩)⟩
 obtain ⟨a1, a6, e1, e6, hpS⟩ := hpS
 rw [← e1] at r1
 rw [← e6] at r6
 clear e1 e6 hpA
 letI IS : Vs.Tab 0 Vs.powP := @Vs.Tab.mk 0 Vs.powP (Vs.keepE SA wA) (keepTab hdA (tabP (Vs.Past.refl _ _)))
 show Vs.At Tryd.prog Tryd.f3.ntmps (Vs.drI Tryd.prog 14 8 [(3, 2), (5, 4), (7, 6)] [[8, 9, 10, 11, 12, 13], [8, 9, 10, 12, 11, 13], [8, 9, 11, 10, 12, 13]]) (.seq _ (Vs.dropS 6 Cd.lawCalculateDeck)) _ aA wA
 refine At.seq (At.rg (hpS.rg hnt (pre := [⟨some 40, .mv (.tmp 1), none⟩]) (post := ⟨some 41, .call (.func F.l_toCardS) ([40].map .tmp) [], none⟩ :: [⟨some 14, .mv (.tmp 41), none⟩]) (τ := ⟨[(40, .v a1), (0, .v (.int .i64 k)), (1, .v a1), (7, .ptr (.t 7 0) 0 0), (8, .ptr (.t 8 0) 0 0), (9, .ptr (.t 9 0) 0 0), (12, .v a6), (13, .v (.int .i64 (cdk k p q t l)))], [(.t 7 0, .var (cPf p) false), (.t 8 0, .var (cPf q) false), (.t 9 0, .var (cPf t) false)]⟩) (fun p hp => by
     simp only [List.mem_cons, List.not_mem_nil, or_false] at hp
     rcases hp with rfl | rfl | rfl
     · exact ⟨rfl, rfl⟩
     · exact ⟨rfl, rfl⟩
     · exact ⟨rfl, rfl⟩) ?_ fun a2 w2 S2 p2 hp2 => hp2.rgcall hnt (ts := [40]) (ys := [.v a1]) (Vs.CodeIsR.has Cd.l_toCardS_k.o) rfl (fun i hi => by match i, hi with | 0, _ => rfl) (fun i hi => by match i, hi with | 0, _ => rfl) fun us hus hr => ?_))
 ·simp -dsimp only [go_sem, cPf]
  simp [Vs.LeL, Vs.look, Vs.hlook]
 obtain rfl := Vs.us1 hus (Vs.rc_v (hr 0 Nat.zero_lt_one))
 have pA2 : Vs.Past SA wA S2 w2 := p2
 refine (toCardS_dk l hk hp2.dom hp2.env (pA2.rcS r1)).mono ?_
 rintro e w3 ⟨v1, rfl, hg1, m1, hd1, hn1⟩
 refine ⟨v1, rfl, ?_⟩
 have hp3 := (hp2.grow hg1 (D := m1.D) (fun b hb => ⟨hn1 b hb, hd1.lt b hb⟩) [(0, .v (.int .i64 k)), (1, .v a1), (7, .ptr (.t 7 0) 0 0), (8, .ptr (.t 8 0) 0 0), (9, .ptr (.t 9 0) 0 0), (12, .v a6), (13, .v (.int .i64 (cdk k p q t l)))] (fun p hp => by
     simp only [List.mem_cons, List.not_mem_nil, or_false] at hp
     rcases hp with rfl | rfl | rfl | rfl | rfl | rfl | rfl <;> exact ⟨rfl, .inl rfl⟩)).put (d := 41) (by rw [hnt, Cd.lawCalculateDeck_k.n]; omega) v1
 letI I3 : Vs.Tab 0 Vs.powP := @Vs.Tab.mk 0 Vs.powP (Vs.keepE (fun b => S2 b ∨ m1.D b) w3) (keepTab (fun b hb => hb.elim (fun h => Nat.lt_of_lt_of_le (hp2.dom b h) hg1.size) (hd1.lt b)) (tabP (pA2.trans (Vs.Past.grow hg1 hp2.dom))))
 refine hp3.rg (pre := [⟨some 14, .mv (.tmp 41), none⟩]) (post := []) hnt (τ := ⟨[(0, .v (.int .i64 k)), (1, .v a1), (7, .ptr (.t 7 0) 0 0), (8, .ptr (.t 8 0) 0 0), (9, .ptr (.t 9 0) 0 0), (12, .v a6), (13, .v (.int .i64 (cdk k p q t l))), (14, .v v1)], [(.t 7 0, .var (cPf p) false), (.t 8 0, .var (cPf q) false), (.t 9 0, .var (cPf t) false)]⟩) (fun p hp => by
     simp only [List.mem_cons, List.not_mem_nil, or_false] at hp
     rcases hp with rfl | rfl | rfl
     · exact ⟨rfl, rfl⟩
     · exact ⟨rfl, rfl⟩
     · exact ⟨rfl, rfl⟩) ?_ fun a4 w4 S4 p4 hp4 => RgL.nil ?_
 ·simp -dsimp only [go_sem, cPf]
  simp [Vs.LeL, Vs.look, Vs.hlook]
 have pA4 : Vs.Past SA wA S4 w4 := (pA2.trans (Vs.Past.grow hg1 hp2.dom)).trans p4
 have m14 : ∀ b, m1.D b → S4 b := fun b hb => p4.sub b (.inr hb)
 have hd14 : Vs.Dk w4 (l.map (E cI)) v1 m1 := hd1.past (fun b hb => .inr hb) p4
 have m1A : ∀ b, m1.D b → ¬ SA b := fun b hb hs => by have := hn1 b hb; have := hdA b hs; have := pA2.size; omega
 show Vs.At Tryd.prog Tryd.f3.ntmps (Vs.drI Tryd.prog 14 8 [(3, 2), (5, 4), (7, 6)] [[8, 9, 10, 11, 12, 13], [8, 9, 10, 12, 11, 13], [8, 9, 11, 10, 12, 13]]) (.seq _ (Vs.dropS 7 Cd.lawCalculateDeck)) _ a4 w4
 have hbase : ∀ pp, pp ∈ ([(0, .v (.int .i64 k)), (1, .v a1), (7, .ptr (.t 7 0) 0 0), (8, .ptr (.t 8 0) 0 0), (9, .ptr (.t 9 0) 0 0), (12, .v a6), (13, .v (.int .i64 (cdk k p q t l))), (14, .v v1)] : List (Nat × AV)) → ∀ i, i < 8 → pp.1 ≠ ([43, 44, 45, 46, 47, 48, 49, 50] : List Nat).getD i 0 := fun pp hp i hi => by
  have h2 : pp.1 ∈ ([0, 1, 7, 8, 9, 12, 13, 14] : List Nat) := by
   simp only [List.mem_cons, List.not_mem_nil, or_false] at hp ⊢
   rcases hp with rfl | rfl | rfl | rfl | rfl | rfl | rfl | rfl <;> simp
  have h3 : ∀ b, b ∈ ([0, 1, 7, 8, 9, 12, 13, 14] : List Nat) → ∀ i, i < 8 → b ≠ ([43, 44, 45, 46, 47, 48, 49, 50] : List Nat).getD i 0 := by decide
  exact h3 _ h2 i hi
 have hdst : ∀ i, i < 8 → ∀ j, j < 8 → j ≠ i → ([43, 44, 45, 46, 47, 48, 49, 50] : List Nat).getD j 0 ≠ ([43, 44, 45, 46, 47, 48, 49, 50] : List Nat).getD i 0 := by decide
 refine At.seq (At.rgI Tryd.mixed (n0 := 14) (n1 := 8) (deps := [(3, 2), (5, 4), (7, 6)]) (OT := [[8, 9, 10, 11, 12, 13], [8, 9, 10, 12, 11, 13], [8, 9, 11, 10, 12, 13]]) rfl (by decide) (fun Dn a' w' => ∃ (s : List (Nat × AV)) (S' : Nat → Prop), Vs.Past S4 w4 S' w' ∧ Vs.Pt (Vs.keepE (fun b => S2 b ∨ m1.D b) w3) C1 (⟨s, [(.t 7 0, .var (cPf p) false), (.t 8 0, .var (cPf q) false), (.t 9 0, .var (cPf t) false)]⟩ : St) a' w' S' ∧ (∀ pp, pp ∈ ([(0, .v (.int .i64 k)), (1, .v a1), (7, .ptr (.t 7 0) 0 0), (8, .ptr (.t 8 0) 0 0), (9, .ptr (.t 9 0) 0 0), (12, .v a6), (13, .v (.int .i64 (cdk k p q t l))), (14, .v v1)] : List (Nat × AV)) → Vs.look s pp.1 = pp.2) ∧ ∀ j x, ([.v (.int .i64 k), .v v1, .agg (cPf p), .agg (cPf p), .agg (cPf q), .agg (cPf q), .agg (cPf t), .agg (cPf t)] : List AV)[j]? = some x → Dn j → Vs.look s (([43, 44, 45, 46, 47, 48, 49, 50] : List Nat).getD j 0) = x) (fun i Dn a' w' rest hi hdep hI hk => ?_) (fun Dn D' a' w' h hI => ?_) ?_ (by decide) fun a5 w5 hI L hL => ?_)
 ·obtain ⟨s, S', pS, hq, hb, hD⟩ := hI
  have fin : ∀ (x : AV), ([.v (.int .i64 k), .v v1, .agg (cPf p), .agg (cPf p), .agg (cPf q), .agg (cPf q), .agg (cPf t), .agg (cPf t)] : List AV)[i]? = some x → ∀ (s2 : List (Nat × AV)) (a2 : Act) (w2 : World) (S2' : Nat → Prop), Vs.look s2 (([43, 44, 45, 46, 47, 48, 49, 50] : List Nat).getD i 0) = x → (∀ t, t ≠ ([43, 44, 45, 46, 47, 48, 49, 50] : List Nat).getD i 0 → Vs.look s2 t = Vs.look s t) → Vs.Past S' w' S2' w2 → Vs.Pt (Vs.keepE (fun b => S2 b ∨ m1.D b) w3) C1 (⟨s2, [(.t 7 0, .var (cPf p) false), (.t 8 0, .var (cPf q) false), (.t 9 0, .var (cPf t) false)]⟩ : St) a2 w2 S2' → RgL Tryd.prog _ rest _ a2 w2 := fun x hx s2 a2 w2 S2' k1 k2 p2 hq2 => hk a2 w2 ⟨s2, S2', pS.trans p2, hq2, fun pp hp => (k2 _ (hbase pp hp i hi)).trans (hb pp hp), fun j y hy hj => by
    have hjl : j < 8 := by
      rcases Nat.lt_or_ge j 8 with h | h
      · exact h
      · rw [List.getElem?_eq_none (by simpa using h)] at hy; cases hy
    by_cases e : j = i
    · subst e; rw [hx] at hy; rw [k1]; exact Option.some.inj hy
    · exact (k2 _ (hdst i hi j hjl e)).trans (hD j y hy (hj.resolve_right e))⟩
  have hz : i = 0 ∨ i = 1 ∨ i = 2 ∨ i = 3 ∨ i = 4 ∨ i = 5 ∨ i = 6 ∨ i = 7 := by omega
  rcases hz with rfl | rfl | rfl | rfl | rfl | rfl | rfl | rfl
  ·show RgL Tryd.prog _ ([⟨some 43, .mv (.tmp 0), none⟩] ++ rest) _ _ _
   have hb' := hb
   simp only [List.mem_cons, List.not_mem_nil, or_false, forall_eq_or_imp, forall_eq] at hb'
   obtain ⟨e0, e1, e7, e8, e9, e12, e13, e14⟩ := hb'
   refine hq.rgK hnt (K := fun σ' => Vs.look σ'.s 43 = .v (.int .i64 k) ∧ (∀ t, t ≠ 43 → Vs.look σ'.s t = Vs.look s t) ∧ σ'.h = [(.t 7 0, .var (cPf p) false), (.t 8 0, .var (cPf q) false), (.t 9 0, .var (cPf t) false)]) (fun σ' h => by rw [h.2.2]; exact (fun p hp => by
   simp only [List.mem_cons, List.not_mem_nil, or_false] at hp
   rcases hp with rfl | rfl | rfl
   · exact ⟨rfl, rfl⟩
   · exact ⟨rfl, rfl⟩
   · exact ⟨rfl, rfl⟩)) ?_ fun σ' a2 w2 S2' hK p2 hq2 => ?_
   ·simp -dsimp only [go_sem, cPf, e0, e1, e7, e8, e9, e12, e13, e14]
    skip
    all_goals first | exact ⟨Vs.look_hd, fun t ht => Vs.look_tl ht, rfl⟩ | (intro t ht; simp [ht]; done)
   ·obtain ⟨s2, h2⟩ := σ'
    obtain ⟨k1, k2, rfl⟩ := hK
    exact fin _ rfl s2 a2 w2 S2' k1 k2 p2 hq2
  ·show RgL Tryd.prog _ ([⟨some 44, .mv (.tmp 14), none⟩] ++ rest) _ _ _
   have hb' := hb
   simp only [List.mem_cons, List.not_mem_nil, or_false, forall_eq_or_imp, forall_eq] at hb'
   obtain ⟨e0, e1, e7, e8, e9, e12, e13, e14⟩ := hb'
   refine hq.rgK hnt (K := fun σ' => Vs.look σ'.s 44 = .v v1 ∧ (∀ t, t ≠ 44 → Vs.look σ'.s t = Vs.look s t) ∧ σ'.h = [(.t 7 0, .var (cPf p) false), (.t 8 0, .var (cPf q) false), (.t 9 0, .var (cPf t) false)]) (fun σ' h => by rw [h.2.2]; exact (fun p hp => by
   simp only [List.mem_cons, List.not_mem_nil, or_false] at hp
   rcases hp with rfl | rfl | rfl
   · exact ⟨rfl, rfl⟩
   · exact ⟨rfl, rfl⟩
   · exact ⟨rfl, rfl⟩)) ?_ fun σ' a2 w2 S2' hK p2 hq2 => ?_
   ·simp -dsimp only [go_sem, cPf, e0, e1, e7, e8, e9, e12, e13, e14]
    skip
    all_goals first | exact ⟨Vs.look_hd, fun t ht => Vs.look_tl ht, rfl⟩ | (intro t ht; simp [ht]; done)
   ·obtain ⟨s2, h2⟩ := σ'
    obtain ⟨k1, k2, rfl⟩ := hK
    exact fin _ rfl s2 a2 w2 S2' k1 k2 p2 hq2
  ·show RgL Tryd.prog _ ([⟨some 45, .load true 2 (.tmp 7), none⟩] ++ rest) _ _ _
   have hb' := hb
   simp only [List.mem_cons, List.not_mem_nil, or_false, forall_eq_or_imp, forall_eq] at hb'
   obtain ⟨e0, e1, e7, e8, e9, e12, e13, e14⟩ := hb'
   refine hq.rgK hnt (K := fun σ' => Vs.look σ'.s 45 = .agg (cPf p) ∧ (∀ t, t ≠ 45 → Vs.look σ'.s t = Vs.look s t) ∧ σ'.h = [(.t 7 0, .var (cPf p) false), (.t 8 0, .var (cPf q) false), (.t 9 0, .var (cPf t) false)]) (fun σ' h => by rw [h.2.2]; exact (fun p hp => by
   simp only [List.mem_cons, List.not_mem_nil, or_false] at hp
   rcases hp with rfl | rfl | rfl
   · exact ⟨rfl, rfl⟩
   · exact ⟨rfl, rfl⟩
   · exact ⟨rfl, rfl⟩)) ?_ fun σ' a2 w2 S2' hK p2 hq2 => ?_
   ·simp -dsimp only [go_sem, cPf, e0, e1, e7, e8, e9, e12, e13, e14]
    skip
    all_goals first | exact ⟨Vs.look_hd, fun t ht => Vs.look_tl ht, rfl⟩ | (intro t ht; simp [ht]; done)
   ·obtain ⟨s2, h2⟩ := σ'
    obtain ⟨k1, k2, rfl⟩ := hK
    exact fin _ rfl s2 a2 w2 S2' k1 k2 p2 hq2
  ·show RgL Tryd.prog _ ([⟨some 46, .call (.func F.l_toField) [(.tmp 45)] [], none⟩] ++ rest) _ _ _
   have d2 : Vs.look s 45 = .agg (cPf p) := hD 2 _ rfl (hdep 2 (by decide))
   have hb' := hb
   simp only [List.mem_cons, List.not_mem_nil, or_false, forall_eq_or_imp, forall_eq] at hb'
   obtain ⟨e0, e1, e7, e8, e9, e12, e13, e14⟩ := hb'
   refine hq.rgK hnt (K := fun σ' => Vs.look σ'.s 46 = .agg (cPf p) ∧ (∀ t, t ≠ 46 → Vs.look σ'.s t = Vs.look s t) ∧ σ'.h = [(.t 7 0, .var (cPf p) false), (.t 8 0, .var (cPf q) false), (.t 9 0, .var (cPf t) false)]) (fun σ' h => by rw [h.2.2]; exact (fun p hp => by
   simp only [List.mem_cons, List.not_mem_nil, or_false] at hp
   rcases hp with rfl | rfl | rfl
   · exact ⟨rfl, rfl⟩
   · exact ⟨rfl, rfl⟩
   · exact ⟨rfl, rfl⟩)) ?_ fun σ' a2 w2 S2' hK p2 hq2 => ?_
   ·simp -dsimp only [go_sem, cPf, e0, e1, e7, e8, e9, e12, e13, e14, d2]
    repeat' first|simp -dsimp only [go_sem, cPf]|apply Br.mk<;>intro h<;>try simp -dsimp only[h]|refine CallK.c (by first|exact toFieldC p|exact toFieldC q|exact toFieldC t) ?_|refine aC ?_|fail
    all_goals first | exact ⟨Vs.look_hd, fun t ht => Vs.look_tl ht, rfl⟩ | (intro t ht; simp [ht]; done)
   ·obtain ⟨s2, h2⟩ := σ'
    obtain ⟨k1, k2, rfl⟩ := hK
    exact fin _ rfl s2 a2 w2 S2' k1 k2 p2 hq2
  ·show RgL Tryd.prog _ ([⟨some 47, .load true 2 (.tmp 8), none⟩] ++ rest) _ _ _
   have hb' := hb
   simp only [List.mem_cons, List.not_mem_nil, or_false, forall_eq_or_imp, forall_eq] at hb'
   obtain ⟨e0, e1, e7, e8, e9, e12, e13, e14⟩ := hb'
   refine hq.rgK hnt (K := fun σ' => Vs.look σ'.s 47 = .agg (cPf q) ∧ (∀ t, t ≠ 47 → Vs.look σ'.s t = Vs.look s t) ∧ σ'.h = [(.t 7 0, .var (cPf p) false), (.t 8 0, .var (cPf q) false), (.t 9 0, .var (cPf t) false)]) (fun σ' h => by rw [h.2.2]; exact (fun p hp => by
   simp only [List.mem_cons, List.not_mem_nil, or_false] at hp
   rcases hp with rfl | rfl | rfl
   · exact ⟨rfl, rfl⟩
   · exact ⟨rfl, rfl⟩
   · exact ⟨rfl, rfl⟩)) ?_ fun σ' a2 w2 S2' hK p2 hq2 => ?_
   ·simp -dsimp only [go_sem, cPf, e0, e1, e7, e8, e9, e12, e13, e14]
    skip
    all_goals first | exact ⟨Vs.look_hd, fun t ht => Vs.look_tl ht, rfl⟩ | (intro t ht; simp [ht]; done)
   ·obtain ⟨s2, h2⟩ := σ'
    obtain ⟨k1, k2, rfl⟩ := hK
    exact fin _ rfl s2 a2 w2 S2' k1 k2 p2 hq2
  ·show RgL Tryd.prog _ ([⟨some 48, .call (.func F.l_toField) [(.tmp 47)] [], none⟩] ++ rest) _ _ _
   have d4 : Vs.look s 47 = .agg (cPf q) := hD 4 _ rfl (hdep 4 (by decide))
   have hb' := hb
   simp only [List.mem_cons, List.not_mem_nil, or_false, forall_eq_or_imp, forall_eq] at hb'
   obtain ⟨e0, e1, e7, e8, e9, e12, e13, e14⟩ := hb'
   refine hq.rgK hnt (K := fun σ' => Vs.look σ'.s 48 = .agg (cPf q) ∧ (∀ t, t ≠ 48 → Vs.look σ'.s t = Vs.look s t) ∧ σ'.h = [(.t 7 0, .var (cPf p) false), (.t 8 0, .var (cPf q) false), (.t 9 0, .var (cPf t) false)]) (fun σ' h => by rw [h.2.2]; exact (fun p hp => by
   simp only [List.mem_cons, List.not_mem_nil, or_false] at hp
   rcases hp with rfl | rfl | rfl
   · exact ⟨rfl, rfl⟩
   · exact ⟨rfl, rfl⟩
   · exact ⟨rfl, rfl⟩)) ?_ fun σ' a2 w2 S2' hK p2 hq2 => ?_
   ·simp -dsimp only [go_sem, cPf, e0, e1, e7, e8, e9, e12, e13, e14, d4]
    repeat' first|simp -dsimp only [go_sem, cPf]|apply Br.mk<;>intro h<;>try simp -dsimp only[h]|refine CallK.c (by first|exact toFieldC p|exact toFieldC q|exact toFieldC t) ?_|refine aC ?_|fail
    all_goals first | exact ⟨Vs.look_hd, fun t ht => Vs.look_tl ht, rfl⟩ | (intro t ht; simp [ht]; done)
   ·obtain ⟨s2, h2⟩ := σ'
    obtain ⟨k1, k2, rfl⟩ := hK
    exact fin _ rfl s2 a2 w2 S2' k1 k2 p2 hq2
  ·show RgL Tryd.prog _ ([⟨some 49, .load true 2 (.tmp 9), none⟩] ++ rest) _ _ _
   have hb' := hb
   simp only [List.mem_cons, List.not_mem_nil, or_false, forall_eq_or_imp, forall_eq] at hb'
   obtain ⟨e0, e1, e7, e8, e9, e12, e13, e14⟩ := hb'
   refine hq.rgK hnt (K := fun σ' => Vs.look σ'.s 49 = .agg (cPf t) ∧ (∀ t, t ≠ 49 → Vs.look σ'.s t = Vs.look s t) ∧ σ'.h = [(.t 7 0, .var (cPf p) false), (.t 8 0, .var (cPf q) false), (.t 9 0, .var (cPf t) false)]) (fun σ' h => by rw [h.2.2]; exact (fun p hp => by
   simp only [List.mem_cons, List.not_mem_nil, or_false] at hp
   rcases hp with rfl | rfl | rfl
   · exact ⟨rfl, rfl⟩
   · exact ⟨rfl, rfl⟩
   · exact ⟨rfl, rfl⟩)) ?_ fun σ' a2 w2 S2' hK p2 hq2 => ?_
   ·simp -dsimp only [go_sem, cPf, e0, e1, e7, e8, e9, e12, e13, e14]
    skip
    all_goals first | exact ⟨Vs.look_hd, fun t ht => Vs.look_tl ht, rfl⟩ | (intro t ht; simp [ht]; done)
   ·obtain ⟨s2, h2⟩ := σ'
    obtain ⟨k1, k2, rfl⟩ := hK
    exact fin _ rfl s2 a2 w2 S2' k1 k2 p2 hq2
  ·show RgL Tryd.prog _ ([⟨some 50, .call (.func F.l_toField) [(.tmp 49)] [], none⟩] ++ rest) _ _ _
   have d6 : Vs.look s 49 = .agg (cPf t) := hD 6 _ rfl (hdep 6 (by decide))
   have hb' := hb
   simp only [List.mem_cons, List.not_mem_nil, or_false, forall_eq_or_imp, forall_eq] at hb'
   obtain ⟨e0, e1, e7, e8, e9, e12, e13, e14⟩ := hb'
   refine hq.rgK hnt (K := fun σ' => Vs.look σ'.s 50 = .agg (cPf t) ∧ (∀ t, t ≠ 50 → Vs.look σ'.s t = Vs.look s t) ∧ σ'.h = [(.t 7 0, .var (cPf p) false), (.t 8 0, .var (cPf q) false), (.t 9 0, .var (cPf t) false)]) (fun σ' h => by rw [h.2.2]; exact (fun p hp => by
   simp only [List.mem_cons, List.not_mem_nil, or_false] at hp
   rcases hp with rfl | rfl | rfl
   · exact ⟨rfl, rfl⟩
   · exact ⟨rfl, rfl⟩
   · exact ⟨rfl, rfl⟩)) ?_ fun σ' a2 w2 S2' hK p2 hq2 => ?_
   ·simp -dsimp only [go_sem, cPf, e0, e1, e7, e8, e9, e12, e13, e14, d6]
    repeat' first|simp -dsimp only [go_sem, cPf]|apply Br.mk<;>intro h<;>try simp -dsimp only[h]|refine CallK.c (by first|exact toFieldC p|exact toFieldC q|exact toFieldC t) ?_|refine aC ?_|fail
    all_goals first | exact ⟨Vs.look_hd, fun t ht => Vs.look_tl ht, rfl⟩ | (intro t ht; simp [ht]; done)
   ·obtain ⟨s2, h2⟩ := σ'
    obtain ⟨k1, k2, rfl⟩ := hK
    exact fin _ rfl s2 a2 w2 S2' k1 k2 p2 hq2
 ·obtain ⟨s, S', pS, hq, hb, hD⟩ := hI
  exact ⟨s, S', pS, hq, hb, fun j x hx hj => hD j x hx (h j hj)⟩
 ·exact ⟨_, S4, Vs.Past.drew, hp4.drew, fun p hp => by
    simp only [List.mem_cons, List.not_mem_nil, or_false] at hp
    rcases hp with rfl | rfl | rfl | rfl | rfl | rfl | rfl | rfl <;> rfl, fun j x hx hj => hj.elim⟩
 obtain ⟨s5, S5, p5, hq5, hb5, hD5⟩ := hI
 have hb' := hb5
 simp only [List.mem_cons, List.not_mem_nil, or_false, forall_eq_or_imp, forall_eq] at hb'
 obtain ⟨e0, e1, e7, e8, e9, e12, e13, e14⟩ := hb'
 have hp5 := hq5.le (τ := ⟨[(43, .v (.int .i64 k)), (44, .v v1), (46, .agg (cPf p)), (48, .agg (cPf q)), (50, .agg (cPf t)), (0, .v (.int .i64 k)), (1, .v a1), (7, .ptr (.t 7 0) 0 0), (8, .ptr (.t 8 0) 0 0), (9, .ptr (.t 9 0) 0 0), (12, .v a6), (13, .v (.int .i64 (cdk k p q t l))), (14, .v v1)], [(.t 7 0, .var (cPf p) false), (.t 8 0, .var (cPf q) false), (.t 9 0, .var (cPf t) false)]⟩) ⟨fun p hp => by
     simp only [List.mem_cons, List.not_mem_nil, or_false] at hp
     rcases hp with rfl | rfl | rfl | rfl | rfl | rfl | rfl | rfl | rfl | rfl | rfl | rfl | rfl
     · exact .inl (hD5 0 _ rfl (by decide))
     · exact .inl (hD5 1 _ rfl (by decide))
     · exact .inl (hD5 3 _ rfl (by decide))
     · exact .inl (hD5 5 _ rfl (by decide))
     · exact .inl (hD5 7 _ rfl (by decide))
     · exact .inl e0
     · exact .inl e1
     · exact .inl e7
     · exact .inl e8
     · exact .inl e9
     · exact .inl e12
     · exact .inl e13
     · exact .inl e14, by simp [Vs.hlook]⟩ (fun p hp => by
     simp only [List.mem_cons, List.not_mem_nil, or_false] at hp
     rcases hp with rfl | rfl | rfl
     · exact ⟨rfl, rfl⟩
     · exact ⟨rfl, rfl⟩
     · exact ⟨rfl, rfl⟩)
 obtain ⟨post, eL, hpost⟩ : ∃ post, (L.map fun i => ([⟨some 43, .mv (.tmp 0), none⟩, ⟨some 44, .mv (.tmp 14), none⟩, ⟨some 45, .load true 2 (.tmp 7), none⟩, ⟨some 46, .call (.func F.l_toField) [(.tmp 45)] [], none⟩, ⟨some 47, .load true 2 (.tmp 8), none⟩, ⟨some 48, .call (.func F.l_toField) [(.tmp 47)] [], none⟩, ⟨some 49, .load true 2 (.tmp 9), none⟩, ⟨some 50, .call (.func F.l_toField) [(.tmp 49)] [], none⟩, ⟨some 51, .call (.func F.i_CalculateDeck) [(.tmp 43), (.tmp 44), (.tmp 46), (.tmp 48), (.tmp 50)] [], none⟩, ⟨some 42, .mv (.tmp 51), none⟩, ⟨some 52, .extract (.tmp 42) 0, none⟩, ⟨some 53, .extract (.tmp 42) 1, none⟩, ⟨some 15, .mv (.tmp 52), none⟩, ⟨some 16, .mv (.tmp 53), none⟩] : List AOper).getD i default) = ⟨some 51, .call (.func F.i_CalculateDeck) ([43, 44, 46, 48, 50].map .tmp) [], none⟩ :: post ∧ (post = [⟨some 42, .mv (.tmp 51), none⟩, ⟨some 52, .extract (.tmp 42) 0, none⟩, ⟨some 53, .extract (.tmp 42) 1, none⟩, ⟨some 15, .mv (.tmp 52), none⟩, ⟨some 16, .mv (.tmp 53), none⟩] ∨ post = [⟨some 42, .mv (.tmp 51), none⟩, ⟨some 52, .extract (.tmp 42) 0, none⟩, ⟨some 15, .mv (.tmp 52), none⟩, ⟨some 53, .extract (.tmp 42) 1, none⟩, ⟨some 16, .mv (.tmp 53), none⟩] ∨ post = [⟨some 42, .mv (.tmp 51), none⟩, ⟨some 53, .extract (.tmp 42) 1, none⟩, ⟨some 52, .extract (.tmp 42) 0, none⟩, ⟨some 15, .mv (.tmp 52), none⟩, ⟨some 16, .mv (.tmp 53), none⟩]) := by
  simp only [List.mem_cons, List.not_mem_nil, or_false] at hL
  rcases hL with rfl | rfl | rfl
  ·exact ⟨_, rfl, .inl rfl⟩
  ·exact ⟨_, rfl, .inr (.inl rfl)⟩
  ·exact ⟨_, rfl, .inr (.inr rfl)⟩
 refine (congrArg (fun z => RgL Tryd.prog _ z _ a5 w5) eL).mpr ?_
 refine hp5.rgcall hnt (ts := [43, 44, 46, 48, 50]) (ys := [.v (.int .i64 k), .v v1, .agg (cPf p), .agg (cPf q), .agg (cPf t)]) (Vs.CodeIsR.has Cd.i_CalculateDeck_k.o) rfl (fun i hi => by match i, hi with | 0, _ => rfl | 1, _ => rfl | 2, _ => rfl | 3, _ => rfl | 4, _ => rfl) (fun i hi => by match i, hi with | 0, _ => rfl | 1, _ => rfl | 2, _ => rfl | 3, _ => rfl | 4, _ => rfl) fun us hus hr2 => ?_
 have hus1 : us.getD 1 undef = v1 := Vs.rc_v (hr2 1 (by show 1 < 5; omega))
 have hd15 : Vs.Dk w5 (l.map (E cI)) v1 m1 := hd14.past m14 p5
 have hrd1 : RC S5 w5 (.sl 1 (E cC l)) (us.getD 1 undef) := by
  rw [hus1, ← deckE]
  exact hd15.rd.mono (fun b hb => p5.sub b (m14 b hb)) fun _ _ => rfl
 refine (calcDeck_all k p q t l hk hp5.dom hp5.env hus (fun j hj => by match j, hj with
   | 0, _ => exact hr2 0 (by show 0 < 5; omega)
   | 1, _ => exact hrd1
   | 2, _ => exact hr2 2 (by show 2 < 5; omega)
   | 3, _ => exact hr2 3 (by show 3 < 5; omega)
   | 4, _ => exact hr2 4 (by show 4 < 5; omega))).mono ?_
 rintro e w6 ⟨v2, rfl, hg2, m2, hd2, hn2⟩
 refine ⟨_, rfl, ?_⟩
 have hp6 := (hp5.grow hg2 (D := m2.D) (fun b hb => ⟨hn2 b hb, hd2.lt b hb⟩) [(0, .v (.int .i64 k)), (1, .v a1), (7, .ptr (.t 7 0) 0 0), (8, .ptr (.t 8 0) 0 0), (9, .ptr (.t 9 0) 0 0), (12, .v a6), (13, .v (.int .i64 (cdk k p q t l))), (14, .v v1)] (fun p hp => by
     simp only [List.mem_cons, List.not_mem_nil, or_false] at hp
     rcases hp with rfl | rfl | rfl | rfl | rfl | rfl | rfl | rfl <;> exact ⟨rfl, .inl rfl⟩)).putR (d := 51) (by rw [hnt, Cd.lawCalculateDeck_k.n]; omega) (r := .tup [.v v2, .v (.int .i64 (cdk k p q t l))]) (Vs.tup2_rc _ _)
 letI I6 : Vs.Tab 0 Vs.powP := @Vs.Tab.mk 0 Vs.powP (Vs.keepE (fun b => S5 b ∨ m2.D b) w6) (keepTab (fun b hb => hb.elim (fun h => Nat.lt_of_lt_of_le (hp5.dom b h) hg2.size) (hd2.lt b)) (tabP ((pA4.trans p5).trans (Vs.Past.grow hg2 hp5.dom))))
 rw [← List.append_nil post]
 refine hp6.rg (pre := post) (post := []) hnt (τ := ⟨[(0, .v (.int .i64 k)), (1, .v a1), (7, .ptr (.t 7 0) 0 0), (8, .ptr (.t 8 0) 0 0), (9, .ptr (.t 9 0) 0 0), (12, .v a6), (13, .v (.int .i64 (cdk k p q t l))), (14, .v v1), (15, .v v2), (16, .v (.int .i64 (cdk k p q t l)))], [(.t 7 0, .var (cPf p) false), (.t 8 0, .var (cPf q) false), (.t 9 0, .var (cPf t) false)]⟩) (fun p hp => by
     simp only [List.mem_cons, List.not_mem_nil, or_false] at hp
     rcases hp with rfl | rfl | rfl
     · exact ⟨rfl, rfl⟩
     · exact ⟨rfl, rfl⟩
     · exact ⟨rfl, rfl⟩) ?_ fun a7 w7 S7 p7 hp7 => RgL.nil ?_
 ·rcases hpost with rfl | rfl | rfl
  all_goals (
    simp -dsimp only [go_sem, cPf]
    simp [Vs.LeL, Vs.look, Vs.hlook])
 have pA5 : Vs.Past SA wA S5 w5 := pA4.trans p5
 have pA6 : Vs.Past SA wA (fun b => S5 b ∨ m2.D b) w6 := pA5.trans (Vs.Past.grow hg2 hp5.dom)
 have pA7 : Vs.Past SA wA S7 w7 := pA6.trans p7
 have m15 : ∀ b, m1.D b → S5 b := fun b hb => p5.sub b (m14 b hb)
 have hd16 : Vs.Dk w6 (l.map (E cI)) v1 m1 := hd15.past (S' := fun b => S5 b ∨ m2.D b) m15 (Vs.Past.grow hg2 hp5.dom)
 have m2A : ∀ b, m2.D b → ¬ SA b := fun b hb hs => by have := hn2 b hb; have := hdA b hs; have := pA5.size; omega
 have m12 : ∀ b, m2.D b → ¬ m1.D b := fun b hb hs => by have := hn2 b hb; have := hp5.dom b (m15 b hs); omega
 have hdom6 : ∀ b, (S5 b ∨ m2.D b) → b < w6.heap.size := fun b hb => hb.elim (fun h => Nat.lt_of_lt_of_le (hp5.dom b h) hg2.size) (hd2.lt b)
 show Vs.At Tryd.prog Tryd.f3.ntmps (Vs.drI Tryd.prog 14 8 [(3, 2), (5, 4), (7, 6)] [[8, 9, 10, 11, 12, 13], [8, 9, 10, 12, 11, 13], [8, 9, 11, 10, 12, 13]]) (Vs.dropS 7 Cd.lawCalculateDeck) _ a7 w7
 refine hp7.go (Vs.drI_ok Tryd.mixed _ _ _ _) hnt 3 _ (τ := ⟨[(0, .v (.int .i64 k)), (1, .v a1), (7, .ptr (.t 7 0) 0 0), (8, .ptr (.t 8 0) 0 0), (9, .ptr (.t 9 0) 0 0), (12, .v a6), (13, .v (.int .i64 (cdk k p q t l))), (14, .v v1), (15, .v v2), (16, .v (.int .i64 (cdk k p q t l))), (17, .v (.int .i64 1))], [(.t 7 0, .var (cPf p) false), (.t 8 0, .var (cPf q) false), (.t 9 0, .var (cPf t) false)]⟩) (X := True) (E := fun _ _ => False) (fun p hp => by
     simp only [List.mem_cons, List.not_mem_nil, or_false] at hp
     rcases hp with rfl | rfl | rfl
     · exact ⟨rfl, rfl⟩
     · exact ⟨rfl, rfl⟩
     · exact ⟨rfl, rfl⟩) (fun C hC => (lwCdC C k p q t l hk a1 a6 v1 v2 (fun S' w' he' => Vs.keepE_known hdom6 he' (pA6.rcS r1)) (fun S' w' he' => Vs.keepE_known hdom6 he' (pA6.rcS r6)) (fun S' w' he' => Vs.keepE_known hdom6 he' (by rw [← deckE]; exact hd16.rd.mono (fun b hb => .inl (m15 b hb)) fun _ _ => rfl)) (fun S' w' he' => Vs.keepE_known hdom6 he' (by rw [← deckE]; exact hd2.rd.mono (fun b hb => .inr hb) fun _ _ => rfl)))) (fun i σ h => h) (fun C a w hl hg => hg.no.elim) fun a8 w8 S8 p8 hp8 _ => ?_
 have pA8 : Vs.Past SA wA S8 w8 := pA7.trans p8
 have m18 : ∀ b, m1.D b → S8 b := fun b hb => p8.sub b (p7.sub b (.inl (m15 b hb)))
 have m28 : ∀ b, m2.D b → S8 b := fun b hb => p8.sub b (p7.sub b (.inr hb))
 have hd18 : Vs.Dk w8 (l.map (E cI)) v1 m1 := (hd16.past (S := fun b => S5 b ∨ m2.D b) (fun b hb => .inl (m15 b hb)) p7).past (fun b hb => p7.sub b (.inl (m15 b hb))) p8
 have hd28 : Vs.Dk w8 ((cdL k p q t l).map (E cI)) v2 m2 := (hd2.past (S := fun b => S5 b ∨ m2.D b) (fun b hb => .inr hb) p7).past (fun b hb => p7.sub b (.inr hb)) p8
 have hS1 : ∀ b, C1.S0 b → SA b := fun b hb => by rw [hS0] at hb; exact pA.sub b hb
 show Vs.At Tryd.prog Tryd.f3.ntmps (Vs.drI Tryd.prog 14 8 [(3, 2), (5, 4), (7, 6)] [[8, 9, 10, 11, 12, 13], [8, 9, 10, 12, 11, 13], [8, 9, 11, 10, 12, 13]]) (.seq _ (Vs.dropS 11 Cd.lawCalculateDeck)) _ a8 w8
 refine At.seq (At.rg (hp8.rg hnt (pre := [⟨some 68, .mv (.tmp 14), none⟩, ⟨some 69, .mv (.tmp 17), none⟩]) (post := ⟨some 70, .call (.func F.l_markCardS) ([68, 69].map .tmp) [0], none⟩ :: [⟨some 17, .mv (.tmp 70), none⟩]) (τ := ⟨[(68, .v v1), (69, .v (.int .i64 1)), (0, .v (.int .i64 k)), (1, .v a1), (7, .ptr (.t 7 0) 0 0), (8, .ptr (.t 8 0) 0 0), (9, .ptr (.t 9 0) 0 0), (12, .v a6), (13, .v (.int .i64 (cdk k p q t l))), (14, .v v1), (15, .v v2), (16, .v (.int .i64 (cdk k p q t l))), (17, .v (.int .i64 1))], [(.t 7 0, .var (cPf p) false), (.t 8 0, .var (cPf q) false), (.t 9 0, .var (cPf t) false)]⟩) (fun p hp => by
     simp only [List.mem_cons, List.not_mem_nil, or_false] at hp
     rcases hp with rfl | rfl | rfl
     · exact ⟨rfl, rfl⟩
     · exact ⟨rfl, rfl⟩
     · exact ⟨rfl, rfl⟩) ?_ fun a9 w9 S9 p9 hp9 => hp9.rgcall hnt (ts := [68, 69]) (ys := [.v v1, .v (.int .i64 1)]) (Vs.CodeIsR.has Cd.l_markCardS_k.o) rfl (fun i hi => by match i, hi with | 0, _ => rfl | 1, _ => rfl) (fun i hi => by match i, hi with | 0, _ => rfl | 1, _ => rfl) fun us hus hr => ?_))
 ·simp -dsimp only [go_sem, cPf]
  simp [Vs.LeL, Vs.look, Vs.hlook]
 obtain rfl := Vs.us2 hus (Vs.rc_v (hr 0 (by show 0 < 2; omega))) (Vs.rc_v (hr 1 (by show 1 < 2; omega)))
 have pA9 : Vs.Past SA wA S9 w9 := pA8.trans p9
 have hd19 : Vs.Dk w9 (l.map (E cI)) v1 m1 := hd18.past m18 p9
 have hd29 : Vs.Dk w9 ((cdL k p q t l).map (E cI)) v2 m2 := hd28.past m28 p9
 have hdA9 : ∀ b, SA b → b < w9.heap.size := fun b hb => Nat.lt_of_lt_of_le (hdA b hb) pA9.size
 refine (MK l hk SA w9 v1 m1 hdA9 (EM _ pA9.old) m1A hd19).mono ?_
 rintro e w10 ⟨rfl, q1, q2, q3, _⟩
 refine ⟨_, rfl, ?_⟩
 have hge1 : ∀ b, m1.D b → C1.w0.heap.size ≤ b ∧ S9 b := fun b hb => ⟨by have := hn1 b hb; have := pA2.size; omega, p9.sub b (m18 b hb)⟩
 have hK9 : ∀ b, (SA b ∨ m2.D b) → S9 b := fun b hb => hb.elim (pA9.sub b) fun h => p9.sub b (m28 b h)
 have hp10 := (hp9.marked q1 q2 q3 hge1 (K := fun b => SA b ∨ m2.D b) hK9 (fun b hb => .inl (hS1 b hb)) [(0, .v (.int .i64 k)), (1, .v a1), (7, .ptr (.t 7 0) 0 0), (8, .ptr (.t 8 0) 0 0), (9, .ptr (.t 9 0) 0 0), (12, .v a6), (13, .v (.int .i64 (cdk k p q t l))), (15, .v v2), (16, .v (.int .i64 (cdk k p q t l)))] (fun p hp => by
     simp only [List.mem_cons, List.not_mem_nil, or_false] at hp
     rcases hp with rfl | rfl | rfl | rfl | rfl | rfl | rfl | rfl | rfl <;> exact ⟨rfl, rfl⟩)).put (d := 70) (by rw [hnt, Cd.lawCalculateDeck_k.n]; omega) (.int .i64 (1 + totD l : Nat))
 have pA10 : Vs.Past SA wA (fun b => SA b ∨ m2.D b) w10 := pA9.mark hp9.dom q1 q2 m1A fun _ h => .inl h
 have hd210 : Vs.Dk w10 ((cdL k p q t l).map (E cI)) v2 m2 := hd29.same q1 fun b hb => q2 b (hd29.lt b hb) (m12 b hb)
 have hdom10 : ∀ b, (SA b ∨ m2.D b) → b < w10.heap.size := fun b hb => Nat.lt_of_lt_of_le (hp9.dom b (hK9 b hb)) q1
 letI I10 : Vs.Tab 0 Vs.powP := @Vs.Tab.mk 0 Vs.powP (Vs.keepE (fun b => SA b ∨ m2.D b) w10) (keepTab hdom10 (tabP pA10))
 refine hp10.rg (pre := [⟨some 17, .mv (.tmp 70), none⟩]) (post := []) hnt (τ := ⟨[(0, .v (.int .i64 k)), (1, .v a1), (7, .ptr (.t 7 0) 0 0), (8, .ptr (.t 8 0) 0 0), (9, .ptr (.t 9 0) 0 0), (12, .v a6), (13, .v (.int .i64 (cdk k p q t l))), (15, .v v2), (16, .v (.int .i64 (cdk k p q t l))), (17, .v (.int .i64 (1 + totD l : Nat)))], [(.t 7 0, .var (cPf p) false), (.t 8 0, .var (cPf q) false), (.t 9 0, .var (cPf t) false)]⟩) (fun p hp => by
     simp only [List.mem_cons, List.not_mem_nil, or_false] at hp
     rcases hp with rfl | rfl | rfl
     · exact ⟨rfl, rfl⟩
     · exact ⟨rfl, rfl⟩
     · exact ⟨rfl, rfl⟩) ?_ fun a11 w11 S11 p11 hp11 => RgL.nil ?_
 ·simp -dsimp only [go_sem, cPf]
  simp [Vs.LeL, Vs.look, Vs.hlook]
 show Vs.At Tryd.prog Tryd.f3.ntmps (Vs.drI Tryd.prog 14 8 [(3, 2), (5, 4), (7, 6)] [[8, 9, 10, 11, 12, 13], [8, 9, 10, 12, 11, 13], [8, 9, 11, 10, 12, 13]]) (Vs.dropS 11 Cd.lawCalculateDeck) _ a11 w11
 refine hp11.go (Vs.drI_ok Tryd.mixed _ _ _ _) hnt 2 _ (τ := ⟨[(0, .v (.int .i64 k)), (1, .v a1), (7, .ptr (.t 7 0) 0 0), (8, .ptr (.t 8 0) 0 0), (9, .ptr (.t 9 0) 0 0), (12, .v a6), (13, .v (.int .i64 (cdk k p q t l))), (15, .v v2), (18, .v (.int .i64 1))], [(.t 7 0, .var (cPf p) false), (.t 8 0, .var (cPf q) false), (.t 9 0, .var (cPf t) false)]⟩) (X := True) (E := fun _ _ => False) (fun p hp => by
     simp only [List.mem_cons, List.not_mem_nil, or_false] at hp
     rcases hp with rfl | rfl | rfl
     · exact ⟨rfl, rfl⟩
     · exact ⟨rfl, rfl⟩
     · exact ⟨rfl, rfl⟩) (fun C hC => (lwCdD C k p q t l hk a1 a6 v2 (1 + totD l) (fun S' w' he' => Vs.keepE_known hdom10 he' (pA10.rcS r6)) (fun S' w' he' => Vs.keepE_known hdom10 he' (by rw [← deckE]; exact hd210.rd.mono (fun b hb => .inr hb) fun _ _ => rfl)))) (fun i σ h => h) (fun C a w hl hg => hg.no.elim) fun a12 w12 S12 p12 hp12 _ => ?_
 have p1012 := p11.trans p12
 show Vs.At Tryd.prog Tryd.f3.ntmps (Vs.drI Tryd.prog 14 8 [(3, 2), (5, 4), (7, 6)] [[8, 9, 10, 11, 12, 13], [8, 9, 10, 12, 11, 13], [8, 9, 11, 10, 12, 13]]) (.seq _ (Vs.dropS 14 Cd.lawCalculateDeck)) _ a12 w12
 refine At.seq (At.rg (hp12.rg hnt (pre := [⟨some 84, .mv (.tmp 15), none⟩, ⟨some 85, .mv (.tmp 18), none⟩]) (post := ⟨some 86, .call (.func F.l_markCardS) ([84, 85].map .tmp) [0], none⟩ :: [⟨some 18, .mv (.tmp 86), none⟩]) (τ := ⟨[(84, .v v2), (85, .v (.int .i64 1)), (0, .v (.int .i64 k)), (1, .v a1), (7, .ptr (.t 7 0) 0 0), (8, .ptr (.t 8 0) 0 0), (9, .ptr (.t 9 0) 0 0), (12, .v a6), (13, .v (.int .i64 (cdk k p q t l))), (15, .v v2), (18, .v (.int .i64 1))], [(.t 7 0, .var (cPf p) false), (.t 8 0, .var (cPf q) false), (.t 9 0, .var (cPf t) false)]⟩) (fun p hp => by
     simp only [List.mem_cons, List.not_mem_nil, or_false] at hp
     rcases hp with rfl | rfl | rfl
     · exact ⟨rfl, rfl⟩
     · exact ⟨rfl, rfl⟩
     · exact ⟨rfl, rfl⟩) ?_ fun a13 w13 S13 p13 hp13 => hp13.rgcall hnt (ts := [84, 85]) (ys := [.v v2, .v (.int .i64 1)]) (Vs.CodeIsR.has Cd.l_markCardS_k.o) rfl (fun i hi => by match i, hi with | 0, _ => rfl | 1, _ => rfl) (fun i hi => by match i, hi with | 0, _ => rfl | 1, _ => rfl) fun us hus hr => ?_))
 ·simp -dsimp only [go_sem, cPf]
  simp [Vs.LeL, Vs.look, Vs.hlook]
 obtain rfl := Vs.us2 hus (Vs.rc_v (hr 0 (by show 0 < 2; omega))) (Vs.rc_v (hr 1 (by show 1 < 2; omega)))
 have p1013 := p1012.trans p13
 have pA13 : Vs.Past SA wA S13 w13 := pA10.trans p1013
 have hd213 : Vs.Dk w13 ((cdL k p q t l).map (E cI)) v2 m2 := hd210.past (S := fun b => SA b ∨ m2.D b) (fun b hb => .inr hb) p1013
 refine (MK (cdL k p q t l) hlw SA w13 v2 m2 (fun b hb => Nat.lt_of_lt_of_le (hdA b hb) pA13.size) (EM _ pA13.old) m2A hd213).mono ?_
 rintro e w14 ⟨rfl, q4, q5, q6, hd214⟩
 refine ⟨_, rfl, ?_⟩
 have hge2 : ∀ b, m2.D b → C1.w0.heap.size ≤ b ∧ S13 b := fun b hb => ⟨by have := hn2 b hb; have := pA5.size; omega, p1013.sub b (.inr hb)⟩
 have hK13 : ∀ b, (SA b ∨ m2.D b) → S13 b := fun b hb => p1013.sub b hb
 have hp14 := (hp13.marked q4 q5 q6 hge2 (K := fun b => SA b ∨ m2.D b) hK13 (fun b hb => .inl (hS1 b hb)) [(0, .v (.int .i64 k)), (1, .v a1), (7, .ptr (.t 7 0) 0 0), (8, .ptr (.t 8 0) 0 0), (9, .ptr (.t 9 0) 0 0), (12, .v a6), (13, .v (.int .i64 (cdk k p q t l))), (15, .v v2)] (fun p hp => by
     simp only [List.mem_cons, List.not_mem_nil, or_false] at hp
     rcases hp with rfl | rfl | rfl | rfl | rfl | rfl | rfl | rfl <;> exact ⟨rfl, rfl⟩)).put (d := 86) (by rw [hnt, Cd.lawCalculateDeck_k.n]; omega) (.int .i64 (1 + totD (cdL k p q t l) : Nat))
 have pA14 : Vs.Past SA wA (fun b => SA b ∨ m2.D b) w14 := pA13.mark hp13.dom q4 q5 m2A fun _ h => .inl h
 have hdom14 : ∀ b, (SA b ∨ m2.D b) → b < w14.heap.size := fun b hb => Nat.lt_of_lt_of_le (hp13.dom b (hK13 b hb)) q4
 letI I14 : Vs.Tab 0 Vs.powP := @Vs.Tab.mk 0 Vs.powP (Vs.keepE (fun b => SA b ∨ m2.D b) w14) (keepTab hdom14 (tabP pA14))
 refine hp14.rg (pre := [⟨some 18, .mv (.tmp 86), none⟩]) (post := []) hnt (τ := ⟨[(0, .v (.int .i64 k)), (1, .v a1), (7, .ptr (.t 7 0) 0 0), (8, .ptr (.t 8 0) 0 0), (9, .ptr (.t 9 0) 0 0), (12, .v a6), (13, .v (.int .i64 (cdk k p q t l))), (15, .v v2), (18, .v (.int .i64 (1 + totD (cdL k p q t l) : Nat)))], [(.t 7 0, .var (cPf p) false), (.t 8 0, .var (cPf q) false), (.t 9 0, .var (cPf t) false)]⟩) (fun p hp => by
     simp only [List.mem_cons, List.not_mem_nil, or_false] at hp
     rcases hp with rfl | rfl | rfl
     · exact ⟨rfl, rfl⟩
     · exact ⟨rfl, rfl⟩
     · exact ⟨rfl, rfl⟩) ?_ fun a15 w15 S15 p15 hp15 => RgL.nil ?_
 ·simp -dsimp only [go_sem, cPf]
  simp [Vs.LeL, Vs.look, Vs.hlook]
 show Vs.At Tryd.prog Tryd.f3.ntmps (Vs.drI Tryd.prog 14 8 [(3, 2), (5, 4), (7, 6)] [[8, 9, 10, 11, 12, 13], [8, 9, 10, 12, 11, 13], [8, 9, 11, 10, 12, 13]]) (Vs.dropS 14 Cd.lawCalculateDeck) _ a15 w15
 exact hp15.fin (Vs.drI_ok Tryd.mixed _ _ _ _) hnt (fun C hC => lwCdE C k p q t l hk a1 a6 v2 (fun S' w' he' => Vs.keepE_known hdom14 he' (pA14.rcS r1)) (fun S' w' he' => Vs.keepE_known hdom14 he' (pA14.rcS r6)) (fun S' w' he' => Vs.keepE_known hdom14 he' (by rw [← deckE]; exact hd214.rd.mono (fun b hb => .inr hb) fun _ _ => rfl))) (fun i σ h => h) (fun C a w hl hg => ⟨.inl rfl, Vs.law_end hl hM Cd.lawCalculateDeck_k.r hg⟩)
end Go.Proofs.YtimcedhcefcbbaaDoor
