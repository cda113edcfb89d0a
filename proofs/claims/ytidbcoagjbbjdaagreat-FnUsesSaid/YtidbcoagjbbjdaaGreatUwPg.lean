/- The law FnUses. -/
import Derived.Test.YtidbcoagjbbjdaaGreatUwVu
import Derived.Test.YtidbcoagjbbjdaaGreatUwXe
import Derived.Test.YtidbcoagjbbjdaaGreatUwPf
set_option linter.unusedSimpArgs false
set_option linter.unusedVariables false
set_option linter.unusedSectionVars false
set_option maxHeartbeats 8000000
namespace Go.Proofs.YtidbcoagjbbjdaaGreat
open Go.Vs
section
variable [Vs.Envs]
attribute [local irreducible] Vs.Fn keyC mgC selC mtC srtL fogL mat allN totB totL flt chOK areCh chTo chAt l03 chB rk cd3 chI stp stpTo
theorem stpB_up {x : Stp} {v w : Int} (h : v ≤ w) (hx : stpB x v = true) : stpB x w = true := by
 unfold stpB at hx ⊢
 simp only [Bool.and_eq_true] at hx ⊢
 obtain ⟨h1, h2, h3, h4, h5, h6, h7⟩ := hx
 refine ⟨h1, h2, h3, h4, fld_up h h5, h6, ?_⟩
 by_cases e : (x.kind == 7) = true
 ·rw [if_pos e] at h7 ⊢
  simp only [Bool.and_eq_true] at h7 ⊢
  exact ⟨h7.1, num_up h h7.2.1, h7.2.2⟩
 ·rw [if_neg e] at h7 ⊢
  exact h7
def agr (u m : List Bool) (o1 o2 : Off) : Prop := ∀ k, k < 6 → (m.getD k false = true ∨ u.getD k false = true) → o1.trays.getD k [] = o2.trays.getD k []
theorem setB_up {u : List Bool} {c k : Nat} (h : u.getD k false = true) : (u.set c true).getD k false = true := by
 simp only [List.getD, List.getElem?_set] at h ⊢
 split
 ·rename_i e
  subst e
  split
  ·rfl
  ·rename_i hlt
   rw [List.getElem?_eq_none (by omega)] at h
   exact h
 ·exact h
theorem setB_at {u : List Bool} {c : Nat} (h : c < u.length) : (u.set c true).getD c false = true := by
 simp [List.getD, h]
theorem f1_up {u m : List Bool} {c k : Nat} (h : u.getD k false = true) : (f1 u m c).getD k false = true := by
 unfold f1
 split
 ·exact h
 ·exact setB_up h
theorem f1_read {u m : List Bool} {c : Nat} (h : c < u.length) : m.getD c false = true ∨ (f1 u m c).getD c false = true := by
 unfold f1
 split
 ·rename_i e; exact .inl e
 ·exact .inr (setB_at h)
theorem fuN_up {um : List Bool × List Bool} {x : Stp} {k : Nat} (h : um.1.getD k false = true) : (fuN um x).1.getD k false = true := by
 unfold fuN
 dsimp only
 split
 ·exact f1_up (f1_up h)
 ·exact f1_up h
theorem fuS_up {l : List Stp} {k i : Nat} : ∀ n, i + n ≤ l.length → (fuS l i).1.getD k false = true → (fuS l (i + n)).1.getD k false = true
 | 0, _, h => h
 | n + 1, hn, h => by
  have := fuS_up n (by omega) h
  rw [show i + (n + 1) = i + n + 1 by omega, fuS_succ (by omega)]
  exact fuN_up this
theorem fuS_end {l : List Stp} {k i : Nat} (hi : i ≤ l.length) (h : (fuS l i).1.getD k false = true) : (fuS l l.length).1.getD k false = true := by
 have := fuS_up (l := l) (k := k) (i := i) (l.length - i) (by omega) h
 rwa [show i + (l.length - i) = l.length by omega] at this
theorem use_a {l : List Stp} {i : Nat} (h : i < l.length) (ha : l[i].a.toNat < 6) : (fuS l i).2.getD l[i].a.toNat false = true ∨ (fuS l l.length).1.getD l[i].a.toNat false = true := by
 have hl := fuS_len l i (by omega)
 rcases f1_read (u := (fuS l i).1) (m := (fuS l i).2) (c := l[i].a.toNat) (by omega) with h1 | h1
 ·exact .inl h1
 ·refine .inr (fuS_end (i := i + 1) (by omega) ?_)
  rw [fuS_succ h]
  unfold fuN
  dsimp only
  split
  ·exact f1_up h1
  ·exact h1
theorem use_b {l : List Stp} {i : Nat} (h : i < l.length) (hb : l[i].b.toNat < 6) (hk : inB l[i].kind 2 4 = true) : (fuS l i).2.getD l[i].b.toNat false = true ∨ (fuS l l.length).1.getD l[i].b.toNat false = true := by
 have hl := fuS_len l i (by omega)
 rcases f1_read (u := f1 (fuS l i).1 (fuS l i).2 l[i].a.toNat) (m := (fuS l i).2) (c := l[i].b.toNat) (by rw [f1_len]; omega) with h1 | h1
 ·exact .inl h1
 ·refine .inr (fuS_end (i := i + 1) (by omega) ?_)
  rw [fuS_succ h]
  unfold fuN
  dsimp only
  rw [if_pos hk]
  exact h1
theorem okO_up {o : Off} (h : okO 5 o) {x : Stp} (hx : stpB x 5 = true) : stpB x (wO o.trays) = true := by
 rcases wO_or o.trays h.2.2.1 with h1 | ⟨h1, _⟩ <;> rw [h1]
 ·exact hx
 ·exact stpB_up (by omega) hx
theorem use_sim (fl : List Stp) (hv : ∀ x, x ∈ fl → stpB x 5 = true) : ∀ (n i : Nat) (o1 o2 : Off), n + i = fl.length → okO 5 o1 → okO 5 o2 → o1.totals = o2.totals → agr (fuS fl fl.length).1 (fuS fl i).2 o1 o2 →
  (run o1 (fl.drop i)).2 = (run o2 (fl.drop i)).2 ∧ (run o1 (fl.drop i)).1.totals = (run o2 (fl.drop i)).1.totals
 | 0, i, o1, o2, hn, _, _, ht, _ => by
  have : fl.drop i = [] := List.drop_eq_nil_of_le (by omega)
  rw [this]
  exact ⟨rfl, ht⟩
 | n + 1, i, o1, o2, hn, h1, h2, ht, hag => by
  have hlt : i < fl.length := by omega
  have hx := hv _ (List.getElem_mem hlt)
  have v1 := okO_up h1 hx
  have v2 := okO_up h2 hx
  have s1 := stp_ok h1 v1
  have l1 := h1.2.1
  have l2 := h2.2.1
  have ha6 : fl[i].a.toNat < 6 := by have := s1.a; omega
  have hb6 : fl[i].b.toNat < 6 := by have := s1.b; omega
  have hto6 : fl[i].to.toNat < 6 := by have := s1.to; omega
  have ea : tr o1.trays fl[i].a = tr o2.trays fl[i].a := hag _ ha6 (use_a hlt ha6)
  have eb : inB fl[i].kind 2 4 = true → tr o1.trays fl[i].b = tr o2.trays fl[i].b := fun hk => hag _ hb6 (use_b hlt hb6 hk)
  have hk7 := s1.k
  have ed : fl[i].kind ≠ 7 → dkC fl[i] (tr o1.trays fl[i].a) (tr o1.trays fl[i].b) = dkC fl[i] (tr o2.trays fl[i].a) (tr o2.trays fl[i].b) ∧ dkL fl[i] (tr o1.trays fl[i].a) (tr o1.trays fl[i].b) = dkL fl[i] (tr o2.trays fl[i].a) (tr o2.trays fl[i].b) := fun h7 => by
   rw [ea]
   by_cases hk : inB fl[i].kind 2 4 = true
   ·rw [eb hk]; exact ⟨rfl, rfl⟩
   ·have hk3 : fl[i].kind = 1 ∨ fl[i].kind = 5 ∨ fl[i].kind = 6 := by
     simp only [inB, Bool.and_eq_true, decide_eq_true_eq] at hk
     omega
    unfold dkC dkL
    rcases hk3 with e | e | e <;> simp only [e] <;> exact ⟨rfl, rfl⟩
  have ec : stC fl[i] o1 = stC fl[i] o2 := by
   unfold stC
   by_cases h7 : fl[i].kind = 7
   ·rw [if_pos h7, if_pos h7, ht, ea]
   ·rw [if_neg h7, if_neg h7]; exact (ed h7).1
  have e1 : dsC fl[i] o1 = stC fl[i] o1 := if_pos v1
  have e2 : dsC fl[i] o2 = stC fl[i] o2 := if_pos v2
  rw [List.drop_eq_getElem_cons hlt, run, run]
  by_cases hc : dsC fl[i] o1 = 0
  ·have hc2 : dsC fl[i] o2 = 0 := by rw [e2, ← ec, ← e1]; exact hc
   rw [if_pos hc, if_pos hc2]
   have ih := use_sim fl hv n (i + 1) (stO fl[i] o1) (stO fl[i] o2) (by omega) (ds_ok h1 hc) (ds_ok h2 hc2) (by
     unfold stO
     by_cases h7 : fl[i].kind = 7
     · rw [if_pos h7, if_pos h7, ht, ea]
     · rw [if_neg h7, if_neg h7]; exact ht) (fun k hk6 hk => by
     rw [fuS_succ hlt] at hk
     unfold fuN at hk
     dsimp only at hk
     unfold stO
     by_cases h7 : fl[i].kind = 7
     · rw [if_pos h7] at hk
       rw [if_pos h7, if_pos h7]
       exact hag k hk6 hk
     · rw [if_neg h7] at hk
       rw [if_neg h7, if_neg h7]
       dsimp only
       rw [(ed h7).2]
       by_cases hkt : fl[i].to.toNat = k
       · subst hkt
         simp [List.getD, l1, l2, hto6]
       · have g : ∀ (T : List (List (List Int))) d, (T.set fl[i].to.toNat d).getD k [] = T.getD k [] := fun T d => by
           simp only [List.getD, List.getElem?_set, hkt, if_false]
         rw [g, g]
         refine hag k hk6 (hk.imp_left fun hm => ?_)
         simp only [List.getD, List.getElem?_set, hkt, if_false] at hm
         exact hm)
   exact ⟨by rw [ih.1], ih.2⟩
  ·have hc2 : ¬ dsC fl[i] o2 = 0 := by rw [e2, ← ec, ← e1]; exact hc
   rw [if_neg hc, if_neg hc2]
   exact ⟨rfl, ht⟩
def mskT (u : List Bool) (T : List (List (List Int))) (n : Nat) : List (List (List Int)) := (List.range 6).map fun k => if k < n ∧ u.getD k false = false then [] else T.getD k []
theorem okD_nil (w : Nat) : okD w [] := ⟨rfl, fun c h => by cases h⟩
theorem msk_ok {o : Off} (h : okO 5 o) (u : List Bool) (n : Nat) : okO 5 ⟨mskT u o.trays n, o.totals⟩ := by
 refine ⟨h.1, by simp [mskT], fun d hd => ?_, h.2.2.2.1, h.2.2.2.2⟩
 obtain ⟨k, hk, rfl⟩ := List.mem_map.1 hd
 have hk6 : k < 6 := by simpa using hk
 try dsimp only
 split
 ·exact okD_nil 5
 ·have hlt : k < o.trays.length := by rw [h.2.1]; exact hk6
  rw [show o.trays.getD k [] = o.trays[k] by simp [List.getD, hlt]]
  exact h.2.2.1 _ (List.getElem_mem hlt)
theorem use_law (fl : List Stp) (hv : ∀ x, x ∈ fl → stpB x 5 = true) (o : Off) (ho : okO 5 o) :
  (run o fl).2 = (run ⟨mskT (fuS fl fl.length).1 o.trays 6, o.totals⟩ fl).2 ∧ (run o fl).1.totals = (run ⟨mskT (fuS fl fl.length).1 o.trays 6, o.totals⟩ fl).1.totals := by
 have := use_sim fl hv fl.length 0 o ⟨mskT (fuS fl fl.length).1 o.trays 6, o.totals⟩ (by omega) ho (msk_ok ho _ 6) rfl (fun k hk h => by
   have hm : (fuS fl 0).2.getD k false = false := by
     have : k = 0 ∨ k = 1 ∨ k = 2 ∨ k = 3 ∨ k = 4 ∨ k = 5 := by omega
     rcases this with rfl | rfl | rfl | rfl | rfl | rfl <;> rfl
   rw [hm] at h
   have hu : (fuS fl fl.length).1.getD k false = true := by simpa using h
   show _ = (mskT _ o.trays 6).getD k []
   simp [mskT, List.getD, hk] at hu ⊢
   simp [hu])
 simpa using this
end
section
variable [Vs.Envs]
attribute [local irreducible] Vs.Fn wO dsC run sel mskT fuS
open Go.Vs.Q in
def CdV.FnUses : ACode := s [mf 4] [0,1]<|.seq (s [m 23 0,m 24 1,c 25 F.l_a2Long [23,24]] [0,1,25]<|.cond 25 (s [mt 4] [4]<|.ret) .skip)<|s [m 26 0,c 27 F.s_A2Cards [26],m 5 27] [1,5]<|s [m 28 1,c 29 F.s_A2Flow [28],m 6 29] [5,6]<|s [m 31 6,c 32 F.i_FlowUses [31],m 30 32,ex 33 30 0,ex 34 30 1,m 7 33,m 8 34]
 [5,6,7,8]<|s [m 36 5,c 37 F.i_NewOffice [36],m 35 37,ex 38 35 0,ex 39 35 1,o 9 (.alloc [.v (.slice none 0 0),.v (.slice none 0 0)]),⟨none,.store 2 9 38,none⟩,m 10 39] [5,6,7,8,9,10]<|.seq (s [m 40 8,ne 41 40 0,m 42 41,mg 43 10 42 false,⟨some 44,.bin .neq 43 (k 0),some (42,false)⟩,pt 45 42 44,m 46
 45,⟨some 47,.load true 2 9,some (46,false)⟩,⟨some 48,.call (.func F.s_ValidOffice) [47] [],some (46,false)⟩,⟨some 49,.un .not 48,some (46,false)⟩,pt 50 46 49] [5,6,7,9,50]<|.cond 50 (s [mf 4] [4]<|.ret) .skip)<|s [m 52 5,c 53 F.s_NewOffice [52],m 51 53,ex 54 51 0,ex 55 51 1,o 11 (.alloc [.v
 (.slice none 0 0),.v (.slice none 0 0)]),⟨none,.store 2 11 54,none⟩,m 12 55] [6,7,9,11]<|.seq (s [mi 13 0] [6,7,9,11,13]<|.block 0 (.loop (.seq (s [m 56 13,o 57 (.bin .lss 56 (k 6))] [6,7,9,11,13,57]<|.cond 57 .skip (.exit 0))<|.seq (.block 1 (s [mf 14] [6,7,9,11,13,14]<|.seq (s [mi 15 0]
 [6,7,9,11,13,14,15]<|.block 2 (.loop (.seq (s [m 60 15,m 61 7,ln 62 61,ls 63 60 62] [6,7,9,11,13,14,15,63]<|.cond 63 .skip (.exit 2))<|.seq (.block 3 (.region [m 66 14,m 67 66,mg 68 7 67 false,mg 69 15 67 false,⟨some 70,.idxSl 1 68 69,some (67,false)⟩,lg 71 1 70 67 false,mg 72 13 67 false,⟨some
 73,.bin .eql 71 72,some (67,false)⟩,pt 74 67 73,m 14 74] [6,7,9,11,13,14,15] []))<|.region [m 64 15,ad 65 64 1,m 15 65] [6,7,9,11,13,14,15] [])))<|s [m 75 14,nt 76 75] [6,7,9,11,13,76]<|.cond 76 (.region [fa 77 0 11,lf 78 1 77,m 79 13,o 80 (.bsliceC 1 0 [.v (.slice none 0 0)] []),ix 81 1 78
 79,⟨none,.store 1 81 80,none⟩] [6,7,9,11,13] []) .skip))<|.region [m 58 13,ad 59 58 1,m 13 59] [6,7,9,11,13] [])))<|s [lt 83 2 9,m 84 6,c 85 F.i_RunFlow [83,84],m 82 85,ex 86 82 0,ex 87 82 1,ex 88 82 2,o 16 (.alloc [.v (.slice none 0 0),.v (.slice none 0 0)]),⟨none,.store 2 16 86,none⟩,m 17 87,m
 18 88] [6,11,16,17,18]<|s [lt 90 2 11,m 91 6,c 92 F.i_RunFlow [90,91],m 89 92,ex 93 89 0,ex 94 89 1,ex 95 89 2,o 19 (.alloc [.v (.slice none 0 0),.v (.slice none 0 0)]),⟨none,.store 2 19 93,none⟩,m 20 94,m 21 95] [16,17,18,19,20,21]<|.seq (s [m 96 18,ne 97 96 0,m 98 97,mg 99 21 98 false,⟨some
 100,.bin .neq 99 (k 0),some (98,false)⟩,pt 101 98 100,m 102 101,mg 103 17 102 false,mg 104 20 102 false,⟨some 105,.bin .neq 103 104,some (102,false)⟩,pt 106 102 105,m 107 106,fg 108 1 16 107 false,lg 109 1 108 107 false,⟨some 110,.len 109,some (107,false)⟩,fg 111 1 19 107 false,lg 112 1 111 107
 false,⟨some 113,.len 112,some (107,false)⟩,⟨some 114,.bin .neq 110 113,some (107,false)⟩,pt 115 107 114] [16,19,115]<|.cond 115 (s [mf 4] [4]<|.ret) .skip)<|.seq (s [mi 22 0] [16,19,22]<|.block 4 (.loop (.seq (s [m 116 22,fa 117 1 16,lf 118 1 117,ln 119 118,ls 120 116 119] [16,19,22,120]<|.cond 120
 .skip (.exit 4))<|.seq (.block 5 (r [fa 123 1 16,lf 124 1 123,m 125 22,ix 126 1 124 125,lf 127 1 126,fa 128 1 19,lf 129 1 128,m 130 22,ix 131 1 129 130,lf 132 1 131,c 133 F.s_SameTotals [127,132],nt 134 133] [16,19,22,134] [123,125,124,126,127,128,129,130,131,132,133,134]<|.cond 134 (s [mf 4]
 [4]<|.ret) .skip))<|.region [m 121 22,ad 122 121 1,m 22 122] [16,19,22] [])))<|s [mt 4] [4]<|.ret
theorem CdV.FnUses_k : CK 3 Tryz.f3 CdV.FnUses 135 [.tmp 4] := ck Tryz.func3
attribute [go_sem] CdV.FnUses
theorem sel_any0 : ∀ (a b c d e f : Bool) (k : Fin 6), ((sel [a, b, c, d, e, f] 6).any fun x => x == (k.1 : Int)) = [a, b, c, d, e, f].getD k.1 false := by decide +kernel
theorem sel_any {u : List Bool} (hu : u.length = 6) {k : Nat} (hk : k < 6) : ((sel u 6).any fun x => x == (k : Int)) = u.getD k false := by
 obtain ⟨a, b, c, d, e, f, rfl⟩ := six_of hu
 exact sel_any0 a b c d e f ⟨k, hk⟩
theorem msk_len (u : List Bool) (T : List (List (List Int))) (n : Nat) : (mskT u T n).length = 6 := by simp [mskT]
theorem msk_zero {u : List Bool} {T : List (List (List Int))} (h : T.length = 6) : mskT u T 0 = T := by
 unfold mskT
 refine List.ext_getElem (by simp [h]) fun i h1 h2 => ?_
 simp [List.getD, h2]
theorem msk_keep {u : List Bool} {T : List (List (List Int))} {k : Nat} (h : u.getD k false = true) : mskT u T (k + 1) = mskT u T k := by
 unfold mskT
 refine List.map_congr_left fun i _ => ?_
 by_cases hik : i = k
 ·subst hik
  rw [if_neg (fun hh => by rw [h] at hh; exact absurd hh.2 (by decide)), if_neg (fun hh => by rw [h] at hh; exact absurd hh.2 (by decide))]
 ·have : i < k + 1 ↔ i < k := by omega
  simp only [this]
theorem msk_set {u : List Bool} {T : List (List (List Int))} {k : Nat} (h : u.getD k false = false) (hk : k < 6) : (mskT u T k).set k [] = mskT u T (k + 1) := by
 unfold mskT
 refine List.ext_getElem (by simp) fun i h1 h2 => ?_
 rw [List.getElem_set]
 simp only [List.getElem_map, List.getElem_range]
 by_cases hik : k = i
 ·subst hik
  rw [if_pos rfl, if_pos ⟨by omega, h⟩]
 ·rw [if_neg hik]
  have : i < k + 1 ↔ i < k := by omega
  simp only [this]
theorem cD_set (T : List (List (List Int))) (k : Nat) : (E cD T).set k [.sl 1 []] = E cD (T.set k []) := by simp [E, List.map_set, cD]
theorem vo_N (l : List (List Int)) (ho : okO 5 (O0 l)) : Fz F.s_ValidOffice [.agg [.sl 1 (rowsN l), .sl 1 []]] (.v (.bool true)) := by
 have h := spec_ValidOffice (O0 l) (okO_small ho)
 rw [offB_ok ho] at h
 refine fn_args (args' := [.agg (cO (O0 l))]) rfl (fun S w j v hj ρ κ hh hv => ?_) h
 match j, hj with
 | 0, _ => exact off_nil hv
theorem rf_N (l : List (List Int)) (ho : okO 5 (O0 l)) (fl : List Stp) (hz : ∀ x, x ∈ fl → x.text.size ≤ 1048576) (hl : fl.length ≤ 20) : Fz F.i_RunFlow [.agg [.sl 1 (rowsN l), .sl 1 []], .sl 9 (E cS fl)] (.tup [.agg (cO (run (O0 l) fl).1), .v (.int .i64 ((run (O0 l) fl).2 : Nat)), .v (.int .i64 0)]) := by
 refine fn_args (args' := [.agg (cO (O0 l)), .sl 9 (E cS fl)]) rfl (fun S w j v hj ρ κ hh hv => ?_) (runFlowT (O0 l) 5 ho fl hz hl)
 match j, hj with
 | 0, _ => exact off_nil hv
 | 1, _ => exact hv
theorem rf_M (T : List (List (List Int))) (ho : okO 5 ⟨T, []⟩) (fl : List Stp) (hz : ∀ x, x ∈ fl → x.text.size ≤ 1048576) (hl : fl.length ≤ 20) : Fz F.i_RunFlow [.agg [.sl 1 (E cD T), .v (.slice none 0 0)], .sl 9 (E cS fl)] (.tup [.agg (cO (run ⟨T, []⟩ fl).1), .v (.int .i64 ((run ⟨T, []⟩ fl).2 : Nat)), .v (.int .i64 0)]) := by
 refine fn_args (args' := [.agg (cO ⟨T, []⟩), .sl 9 (E cS fl)]) rfl (fun S w j v hj ρ κ hh hv => ?_) (runFlowT ⟨T, []⟩ 5 ho fl hz hl)
 match j, hj with
 | 0, _ => exact agg_nil hv
 | 1, _ => exact hv
attribute [local go_sem] Int.reduceBEq Int.reduceBNe cC cO cS cFd E_len List.replicate_succ List.replicate_zero List.flatten_cons List.flatten_nil List.cons_append List.nil_append List.set_cons_zero List.set_cons_succ List.length_cons List.length_nil List.length_set List.mem_singleton List.mem_cons List.not_mem_nil or_false false_or Vs.Name.t.injEq List.getD_cons_zero List.getD_cons_succ Vs.Name.b.injEq rowsN in
set_option maxRecDepth 20000 in
theorem law_FnUses (l m : List Int) (hl : ∀ x, x ∈ l → 0 ≤ x ∧ x ≤ 255) (hm : ∀ x, x ∈ m → 0 ≤ x ∧ x ≤ 255) : Fz F.l_FnUses [.sl 1 (E cU l), .sl 1 (E cU m)] (.v (.bool true)) := by
 have LG := a2Long l m
 rcases Bool.eq_false_or_eq_true (decide ((l.length : Int) > 3000) || decide ((m.length : Int) > 3000)) with hg | hg
 ·rw [hg] at LG
  refine fn0 CdV.FnUses_k fun X => ?_
  repeat' first
   |simp -dsimp only [go_sem]
   |refine Br.mk ?_ ?_<;>intro h<;>try simp -dsimp only[h]
   |refine CallK.c (by first|exact LG) ?_
   |refine and_c ?_
   |fail
  all_goals first | exact ⟨_, _, rfl, rfl⟩ | simp_all
 ·rw [hg] at LG
  simp only [Bool.or_eq_false_iff, decide_eq_false_iff_not] at hg
  have hbl : byt l := ⟨by omega, hl⟩
  have hbm : byt m := ⟨by omega, hm⟩
  obtain ⟨o1, hcr, hol, AC⟩ := a2Cards l hbl
  obtain ⟨fs, hfs, hfl, AF⟩ := a2Flow m hbm
  have hok := okD_O0 (w := 5) (by omega) (crd_deck hcr (by omega))
  have hsm : smallC o1 := okD_small (w := 5) (by omega) (crd_deck hcr (by omega))
  have hdk : deckB o1 = true := (crd_deck hcr (by omega)).1
  have hz : ∀ x, x ∈ fs → x.text.size ≤ 1048576 := fun x hx => by have := (hfs x hx).2; omega
  have hv5 : ∀ x, x ∈ fs → stpB x 5 = true := fun x hx => (hfs x hx).1
  have FU := impl_FlowUses1 fs hz (by omega) (by
    rw [Bool.and_eq_true]
    exact ⟨List.all_eq_true.2 fun x hx => stpB_up (by omega) (hv5 x hx), by simp; omega⟩)
  have IO := impl_NewOffice o1 hsm hdk
  have VO := vo_N o1 hok
  have SO := newOfficeO o1 hsm hdk
  have R1 := rf_N o1 hok fs hz (by omega)
  have hmo := msk_ok hok (fuS fs fs.length).1 6
  have R2 := rf_M (mskT (fuS fs fs.length).1 (T0 o1) 6) hmo fs hz (by omega)
  obtain ⟨hu1, hu2⟩ := use_law fs hv5 (O0 o1) hok
  have hrun := run_ok fs (O0 o1) hok
  rw [show (⟨mskT (fuS fs fs.length).1 (O0 o1).trays 6, (O0 o1).totals⟩ : Off) = ⟨mskT (fuS fs fs.length).1 (T0 o1) 6, []⟩ from rfl] at hu1 hu2
  have hu6 := (fuS_len fs fs.length (Nat.le_refl _)).1
  generalize (fuS fs fs.length).1 = u at *
  rw [← hu1] at R2
  unfold cO at R1 R2
  rw [← hu2] at R2
  generalize (run ⟨mskT u (T0 o1) 6, []⟩ fs).1.trays = T2 at *
  clear hu1 hu2
  generalize run (O0 o1) fs = R at *
  have hT := (okO_small hrun.1).2
  have hsl : (sel u 6).length ≤ 6 := sel_len u 6
  have hz0 := msk_zero (u := u) (T := T0 o1) rfl
  have hTl : (T0 o1).length = 6 := rfl
  refine fn0 CdV.FnUses_k fun X => ?_
  repeat' first
   |simp -dsimp only [go_sem]
   |refine Br.mk ?_ ?_<;>intro h<;>try simp -dsimp only[h]
   |refine CallK.own (by first|exact FU|exact SO) rfl ?_
   |refine CallK.c (by first|exact LG|exact AC|exact AF|exact IO|exact VO) ?_
   |refine and_c ?_
   |fail
  refine LoopK.at (drawn_ok Tryz.mixed) (X := { k : Nat // k ≤ 6 }) (fun k => [(13, .v (.int .i64 (k.1 : Nat)))]) (fun k => [(.t 53 0, .arr 1 (E cD (mskT u (T0 o1) k.1)) false)]) (fun k => 6 - k.1) ⟨0, by omega⟩ ?_ ?_
  ·simp [Vs.LeL, Vs.look, Vs.hlook, Vs.sput, Vs.sputs, Vs.hset, Vs.hputs, hz0]
  ·rintro ⟨k, hk⟩
   try dsimp only at hk
   try simp -dsimp only [go_sem]
   refine Br.mk (fun hc => ?_) fun hc => ?_
   ·have hk6 : k < 6 := Dq
    have hwk : IntKind.i64.wrap ((k : Int) + 1) = ((k + 1 : Nat) : Int) := by rw [wrap_in (by omega) (by omega)]; omega
    have hmkl := msk_len u (T0 o1) k
    have hgk : ∃ d, (E cD (mskT u (T0 o1) k)).getD k [] = [.sl 1 (E cC d)] := ⟨_, by rw [E_get (by omega)]; rfl⟩
    obtain ⟨d0, hgk⟩ := hgk
    try simp -dsimp only [go_sem]
    refine LoopK.at (drawn_ok Tryz.mixed) (X := { zz : Nat × (Unit) // zz.1 ≤ (sel u 6).length ∧ True }) (fun zz => [(14, .v (.bool (((sel u 6).take zz.1.1).any fun x => x == (k : Int)))), (15, .v (.int .i64 zz.1.1))]) (fun zz => []) (fun zz => (sel u 6).length - zz.1.1) ⟨(0, ()), by omega, trivial⟩ ?_ ?_
    ·exact le0
    ·rintro ⟨⟨i, _⟩, hi, hg⟩
     dsimp only at hi hg
     simp -dsimp only [go_sem]
     refine Br.mk (fun hc => ?_) fun hc => ?_
     ·have hlt : i < (sel u 6).length := Dq
      have hw := wrap_succ hlt (by omega)
      have hgi : (E cI (sel u 6)).getD i [] = [.v (.int .i64 (sel u 6)[i])] := cI_get hlt
      have hts : ((sel u 6).take (i + 1)).any (fun x => x == (k : Int)) = ((((sel u 6).take i).any fun x => x == (k : Int)) || ((sel u 6)[i] == (k : Int))) := by rw [take_succ hlt, List.any_append]; simp
      rcases Bool.eq_false_or_eq_true (((sel u 6).take i).any fun x => x == (k : Int)) with hb | hb
      ·rw [hb] at hts
       rw [hb]
       simp only [Bool.true_or] at hts
       repeat' first
        |simp -dsimp only [go_sem, hw, hgi]
        |refine Br.mk ?_ ?_<;>intro h<;>try simp -dsimp only[h]
        |refine and_c ?_
        |fail
       all_goals first | omega | (refine ⟨⟨(i + 1, ()), by omega, trivial⟩, ?_, by simp only; omega⟩; simp [Vs.LeL, Vs.look, Vs.hlook, Vs.sput, Vs.sputs, Vs.hset, Vs.hputs, hts]; done)
      ·rw [hb] at hts
       rw [hb]
       simp only [Bool.false_or] at hts
       repeat' first
        |simp -dsimp only [go_sem, hw, hgi]
        |refine Br.mk ?_ ?_<;>intro h<;>try simp -dsimp only[h]
        |refine and_c ?_
        |fail
       all_goals first | omega | (refine ⟨⟨(i + 1, ()), by omega, trivial⟩, ?_, by simp only; omega⟩; simp [Vs.LeL, Vs.look, Vs.hlook, Vs.sput, Vs.sputs, Vs.hset, Vs.hputs, hts]; done)
     ·have hge : i = (sel u 6).length := by
       have : ¬ i < (sel u 6).length := Dq
       omega
      subst hge
      simp -dsimp only [go_sem]
      rw [List.take_length, sel_any hu6 hk6]
      rcases Bool.eq_false_or_eq_true (u.getD k false) with hb | hb
      ·have hmk := msk_keep (T := T0 o1) hb
       rw [hb]
       repeat' first
        |simp -dsimp only [go_sem, hwk, hgk, hmkl]
        |refine Br.mk ?_ ?_<;>intro h<;>try simp -dsimp only[h]
        |refine and_c ?_
        |fail
       all_goals first | omega | (refine ⟨⟨⟨k + 1, by omega⟩, ?_, by simp only; omega⟩, fun h => absurd rfl h⟩; simp [Vs.LeL, Vs.look, Vs.hlook, Vs.sput, Vs.sputs, Vs.hset, Vs.hputs, hmk]; done)
      ·have hmk := msk_set (T := T0 o1) hb hk6
       have hst := cD_set (mskT u (T0 o1) k) k
       rw [hmk] at hst
       rw [hb]
       simp -dsimp only [go_sem, hwk, hgk, hmkl]
       refine ⟨⟨⟨by omega, by omega⟩, [], rfl, rfl, ⟨by omega, by omega⟩, ⟨k + 1, by omega⟩, ?_, by simp only; omega⟩, fun h => absurd rfl h⟩
       simp [Vs.LeL, Vs.look, Vs.hlook, Vs.sput, Vs.sputs, Vs.hset, Vs.hputs, hst]
   ·have hge : k = 6 := by
     have : ¬ k < 6 := Dq
     omega
    subst hge
    have hm6 : (E cD (mskT u (T0 o1) 6)).take 6 = E cD (mskT u (T0 o1) 6) := List.take_of_length_le (by rw [E_len, msk_len]; omega)
    repeat' first
     |simp -dsimp only [go_sem, hm6]
     |refine Br.mk ?_ ?_<;>intro h<;>try simp -dsimp only[h]
     |refine CallK.c (by first|exact R1|exact R2) ?_
     |refine And.intro ?_ (fun h => absurd rfl h)
     |refine and_c ?_
     |fail
    refine LoopK.at (drawn_ok Tryz.mixed) (X := { zz : Nat × (Unit) // zz.1 ≤ R.1.totals.length ∧ True }) (fun zz => [(22, .v (.int .i64 zz.1.1))]) (fun zz => []) (fun zz => R.1.totals.length - zz.1.1) ⟨(0, ()), by omega, trivial⟩ ?_ ?_
    ·exact le0
    ·rintro ⟨⟨i, _⟩, hi, hg⟩
     dsimp only at hi hg
     simp -dsimp only [go_sem]
     refine Br.mk (fun hc => ?_) fun hc => ?_
     ·have hlt : i < R.1.totals.length := Dq
      have hw := wrap_succ hlt hT.1
      have gt : (E cTs R.1.totals).getD i [] = [.sl 2 (E cT R.1.totals[i])] := E_get hlt
      have hti := hT.2 _ (List.getElem_mem hlt)
      have ST := spec_SameTotals R.1.totals[i] R.1.totals[i] hti.1
      rw [eqLB_self (fun x _ => by simp [qT])] at ST
      repeat' first
       |simp -dsimp only [go_sem, hw, gt]
       |refine Br.mk ?_ ?_<;>intro h<;>try simp -dsimp only[h]
       |refine CallK.c (by first|exact ST) ?_
       |refine and_c ?_
       |fail
      all_goals first | omega | (exact nx (i + 1, ()) trivial)
     ·have hge : i = R.1.totals.length := by
       have : ¬ i < R.1.totals.length := Dq
       omega
      subst hge
      simp -dsimp only [go_sem]
      all_goals first | exact ⟨⟨_, _, rfl, rfl⟩, fun h => absurd rfl h⟩ | exact ⟨_, _, rfl, rfl⟩ | (refine ⟨?_, fun h => absurd rfl h⟩; exact ⟨_, _, rfl, rfl⟩) | (simp; done)
end
end Go.Proofs.YtidbcoagjbbjdaaGreat
