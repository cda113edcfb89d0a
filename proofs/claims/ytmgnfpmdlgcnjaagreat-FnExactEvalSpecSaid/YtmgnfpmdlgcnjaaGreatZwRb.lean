/- The marks of a deck. -/
import Derived.Test.YtmgnfpmdlgcnjaaGreatZwQe
import Derived.Test.YtmgnfpmdlgcnjaaGreatVtR
import Derived.Test.YtmgnfpmdlgcnjaaGreatVtZ
set_option linter.unusedSimpArgs false
set_option linter.unusedVariables false
set_option linter.unusedSectionVars false
set_option maxHeartbeats 8000000
namespace Go.Proofs.YtmgnfpmdlgcnjaaGreat
open Go.Vs
section
variable [Vs.Envs]
attribute [local irreducible] Vs.Fn
theorem toCardO (x : List Int) (hx : x.length ≤ 1048576) : Vs.Fn Tryz.prog F.l_toCard [] [.agg (cC x)] (.agg [.loc (.b 0) 0 x.length]) [some (.arr 1 (E cI x) false)] := by
 have TI : Vs.Fn Tryz.prog F.l_toInt64S [] [.sl 1 (E cI x)] (.loc (.b 0) 0 x.length) [some (.arr 1 (E cI x) false)] := toI_own Tryz.mixed Cd.l_toInt64S_k.o Cd.l_toInt64S_k.n Cd.l_toInt64S_k.r rfl hx
 refine Cd.l_toCard_k.o.fn Tryz.mixed (hin := []) _ _ [.t 6 0] [.arr 1 (E cI x) false] Cd.l_toCard_k.n Cd.l_toCard_k.r rfl (by simp) rfl (by simp) fun X => ?_
 unfold Cd.l_toCard
 repeat' first
  |simp -dsimp only [go_sem, cC, Int.reduceBEq, Int.reduceBNe, cC, E_len, List.replicate_succ, List.replicate_zero, List.flatten_cons, List.flatten_nil, List.cons_append, List.nil_append, List.set_cons_zero, List.set_cons_succ, List.length_cons, List.length_nil, List.length_set, List.mem_singleton, List.mem_cons, List.not_mem_nil, or_false, false_or, Vs.Name.t.injEq, List.getD_cons_zero, List.getD_cons_succ, Vs.Name.b.injEq, List.getElem?_cons_zero, List.getElem?_cons_succ]
  |refine Br.mk ?_ ?_<;>intro h<;>try simp -dsimp only[h]
  |refine CallK.own (by first|exact TI) rfl ?_
  |refine and_c ?_
  |fail
 all_goals first | omega | exact ⟨_, _, rfl, rfl⟩
attribute [local go_sem] Int.reduceBEq Int.reduceBNe E_len List.replicate_succ List.replicate_zero List.flatten_cons List.flatten_nil List.cons_append List.nil_append List.set_cons_zero List.set_cons_succ List.length_cons List.length_nil List.length_set List.mem_singleton List.mem_cons List.not_mem_nil or_false false_or Vs.Name.t.injEq List.getD_cons_zero List.getD_cons_succ Vs.Name.b.injEq List.getElem?_cons_zero List.getElem?_cons_succ in
theorem toCardS_new (l : List (List Int)) (hk : smallC l) {S : Nat → Prop} {w : World} {v0 : Value} (hS : ∀ b, S b → b < w.heap.size) (he : Env S w) (h0 : RC S w (.sl 1 (E cC l)) v0) :
  Calls Tryz.prog F.l_toCardS #[v0] w fun e w' => ∃ v D ss xs cs x0, e = .returned v ∧ w.heap.size ≤ w'.heap.size ∧ (∀ b, b < w.heap.size → w'.heap[b]? = w.heap[b]?) ∧ (w'.os = w.os ∧ w'.output = w.output) ∧ RC D w' (.sl 1 (E cC l)) v ∧ (∀ b, D b → w.heap.size ≤ b ∧ b < w'.heap.size) ∧ RC (fun b => x0 = some b) w' (.sl 1 (ss.map fun s => [AV.v s])) v ∧ (∀ b, x0 = some b → D b) ∧ (∀ i b, i < ss.length → xs i = some b → D b) ∧ Vs.OwnL (fun b => b < w.heap.size ∨ x0 = some b) w' 1 (l.map (E cI)) ss xs cs := by
 obtain ⟨h1, h2, _⟩ := Cd.l_toCardS_k.o
 obtain ⟨body, hb, hc⟩ := Option.bind_eq_some_iff.1 h2
 have hz : (Tryz.f12.body.map (zB Tryz.f12.ntmps (drawnG Tryz.prog))) = some true := by kernel_rfl
 rw [hb] at hz
 have hdr := drawn_ok Tryz.mixed
 refine calls_at (dr := drawnG Tryz.prog) (ac := Cd.l_toCardS) h1 hb hc (by simpa using hz) (args := [.sl 1 (E cC l)]) (by rw [Cd.l_toCardS_k.n]; exact Nat.le_of_ble_eq_true rfl) hS he rfl (fun j hj => ?_) (fun _ => False) fun a hok => ?_
 ·match j, hj with
  | 0, _ => exact h0
 generalize hC0 : (⟨Tryz.f12.ntmps, w, S, fun _ => False, fun _ => none, fun _ => 0, fun _ => none⟩ : Ctx) = C0 at hok
 have hnt : C0.nt = Tryz.f12.ntmps := by rw [← hC0]
 have hw0 : C0.w0 = w := by rw [← hC0]
 have hlL : (E cC l).length = l.length := E_len _
 unfold Cd.l_toCardS
 refine At.step ⟨[(0, .sl 1 (E cC l))], []⟩ hdr hok hnt ?_ fun a w1 S1 ρ1 κ1 hok => ?_
 ·simp -dsimp only [go_sem, hlL, cC]
  try simp [Vs.LeL, Vs.look, Vs.hlook]
 refine At.step ⟨[(0, .sl 1 (E cC l)), (3, .loc (.t 7 0) 0 l.length)], [(.t 7 0, .arr 1 (List.replicate l.length [.v (.slice none 0 0)]) false)]⟩ hdr hok hnt ?_ fun a w2 S2 ρ2 κ2 hok => ?_
 ·simp -dsimp only [go_sem, hlL, cC]
  have hly : (l.length : Int) * ((24 : Nat) : Int) ≤ 2 ^ 47 := by have := hk.1; omega
  exact ⟨⟨by omega, hly, by have := hk.1; omega⟩, by simp [Vs.LeL, Vs.look, Vs.hlook]⟩
 refine At.seq (At.step ⟨[(0, .sl 1 (E cC l)), (3, .loc (.t 7 0) 0 l.length), (4, .v (.int .i64 ((0 : Nat) : Int)))], [(.t 7 0, .arr 1 (List.replicate l.length [.v (.slice none 0 0)]) false)]⟩ hdr hok hnt ?_ fun a w3 S3 ρ3 κ3 hok => ?_)
 ·simp -dsimp only [go_sem, hlL, cC]
  try simp [Vs.LeL, Vs.look, Vs.hlook]
 refine At.block ?_
 let T : Nat → List Value → St := fun i ss => ⟨[(0, .sl 1 (E cC l)), (3, .loc (.t 7 0) 0 l.length), (4, .v (.int .i64 (i : Int)))], [(.t 7 0, .arr 1 (ss.map (fun s => [AV.v s]) ++ List.replicate (l.length - i) [.v (.slice none 0 0)]) false)]⟩
 let I : Nat → Act → World → Prop := fun n a w => ∃ (i : Nat) (ss : List Value) (D : Nat → Prop) (C : Ctx) (S : Nat → Prop) (ρ : Vs.Name → Option Nat) (κ : Vs.Name → Nat), n = l.length - i ∧ i ≤ l.length ∧ ss.length = i ∧ C.nt = C0.nt ∧ Later C0 C ∧ OK C (T i ss).f a w S ρ κ ∧ (∀ b, D b → C0.w0.heap.size ≤ b) ∧ Hid C D (.tup ((l.take i).map fun r => .sl 1 (E cI r))) (.tuple ss.toArray) ∧ ∃ xs cs, Vs.OwnL C.S0 C.w0 1 ((l.take i).map (E cI)) ss xs cs ∧ ∀ j b, j < ss.length → xs j = some b → D b
 refine At.loop I (fun n a w hI => ?_) (n := l.length) ?_
 rotate_left
 ·refine ⟨0, [], fun _ => False, C0.anew w3 S3 _ ρ3, S3, ρ3, κ3, by omega, by omega, rfl, rfl, hok.later, ?_, fun b hb => hb.elim, ⟨.tup _ _ rfl (by simp), fun b hb => hb.elim, fun b hb => hb.elim⟩, fun _ => none, fun _ => 0, ⟨rfl, by simp, by simp⟩, by simp⟩
  have e : T 0 [] = ⟨[(0, .sl 1 (E cC l)), (3, .loc (.t 7 0) 0 l.length), (4, .v (.int .i64 ((0 : Nat) : Int)))], [(.t 7 0, .arr 1 (List.replicate l.length [.v (.slice none 0 0)]) false)]⟩ := by simp [T]
  rw [e]
  exact hok.anew
 obtain ⟨i, ss, D, C, S, ρ, κ, hn, hi, hss, hcn, hla, hok, hD, hh, xs, cs, how, hxD⟩ := hI
 have hcnt : C.nt = Tryz.f12.ntmps := hcn.trans hnt
 refine At.seq (At.fw hdr hok hcnt (N := fun σ' => LeL σ' (T i ss) ∧ i < l.length) (E := fun e σ' => match e with | .exit j => j = 0 ∧ LeL σ' (T i ss) ∧ i = l.length | .ret => False) ?_ (fun a w hg => ?_) (fun j a w hg => ?_) (fun a w hg => hg.no.elim))
 ·simp only [T]
  simp -dsimp only [go_sem, hlL, cC]
  refine Br.mk (fun hc => ?_) fun hc => ?_
  ·have hlt : i < l.length := by have := of_decide_eq_true hc; omega
   try simp -dsimp only [go_sem, hlL, cC]
   exact ⟨by simp [Vs.LeL, Vs.look, Vs.hlook], hlt⟩
  ·have hge : i = l.length := by have := of_decide_eq_false hc; omega
   try simp -dsimp only [go_sem, hlL, cC]
   exact ⟨by simp [Vs.LeL, Vs.look, Vs.hlook], hge⟩
 rotate_left
 ·-- the loop's end
  obtain ⟨σ', S', ρ', κ', ⟨rfl, hle, rfl⟩, hok'⟩ := hg
  have hok := hok'.le hle
  simp only [Exit.then, Exit.inBlock, if_true]
  refine At.step ⟨[(2, .loc (.t 7 0) 0 ss.length)], [(.t 7 0, .arr 1 (ss.map fun s => [AV.v s]) false)]⟩ hdr hok hcnt ?_ fun a w4 S4 ρ4 κ4 hok4 => ?_
  ·simp only [T]
   try simp -dsimp only [go_sem, hlL, cC]
   simp [Vs.LeL, Vs.look, Vs.hlook, hss]
  refine At.ret ⟨.inl rfl, hok4.defers, ?_⟩
  obtain ⟨x, v, hx, hxv, hrun⟩ := Vs.res_run hok4 (fn := Tryz.f12) (K := fun x => x = .loc (.t 7 0) 0 ss.length) (by
    show Vs.resL Tryz.prog _ _ [_]
    simp [Vs.resL, Vs.resV, Vs.look, Vs.oneOr])
  subst hx
  have hb4 := hok4.back hla
  have hgr := hok4.graft (n := .t 7 0) (ss := ss) (by rfl) hh hxv
  have hmap : (((l.take l.length).map fun r => AV.sl 1 (E cI r)).map fun x => [x]) = E cC l := by simp [E, cC, List.map_map]
  rw [hmap] at hgr
  refine ⟨v, hrun, v, _, ss, xs, cs, ρ4 (.t 7 0), rfl, ?_, fun b hb => ?_, ?_, hgr, fun b hb => ?_, ?_, fun b hb => .inr hb, fun j b hj hb => .inl (hxD j b hj hb), ?_⟩
  ·have := hb4.size; rw [hw0] at this; exact this
  ·have := hb4.old b (by rw [hw0]; exact hb) (by rw [← hC0]; exact fun h => h); rw [hw0] at this; exact this
  ·have := hb4.out; rw [hw0] at this; exact this
  ·rcases hb with hb | hb
   ·exact ⟨hw0 ▸ hD b hb, (hh.same hok4).2.1 b hb⟩
   ·refine ⟨?_, hok4.hok.lt (n := .t 7 0) (by rfl) hb⟩
    rcases hb4.mine (.t 7 0) b (by rfl) hb with h | h
    ·exact hw0 ▸ h
    ·rw [← hC0] at h; exact h.elim
  ·exact hok4.expose (n := .t 7 0) (by rfl) (fun r hr => by
     obtain ⟨y, _, rfl⟩ := List.mem_map.1 hr
     rfl) (by simpa using hxv)
  ·rw [List.take_length] at how
   refine how.mono (fun j b hj hb hs => ?_) fun j b hj hb => (hh.same hok4).1 b (hxD j b hj hb)
   have hDb := hxD j b hj hb
   rcases hs with hs | hs
   ·have := hD b hDb; rw [hw0] at this; omega
   ·exact (hh.same hok4).2.2.2 b hDb (.t 7 0) (by rfl) hs
 obtain ⟨σ', S', ρ', κ', ⟨hle, hlt⟩, hok'⟩ := hg
 have hok := hok'.le hle
 have hw := wrap_succ hlt hk.1
 have hgt : (E cC l).getD i [] = [.sl 1 (E cI l[i])] := E_get hlt
 have TC := toCardO l[i] (hk.2 _ (List.getElem_mem hlt))
 show At Tryz.prog _ _ (.seq _ _) _ a w
 refine At.seq (At.block (At.halt (pre := [⟨some 14, .mv (.tmp 3), none⟩, ⟨some 15, .mv (.tmp 4), none⟩, ⟨some 16, .mv (.tmp 0), none⟩, ⟨some 17, .mv (.tmp 4), none⟩, ⟨some 18, .idxSl 1 (.tmp 16) (.tmp 17), none⟩, ⟨some 19, .load true 1 (.tmp 18), none⟩, ⟨some 20, .call (.func F.l_toCard) [(.tmp 19)] [], none⟩]) (post := [⟨some 21, .idxSl 1 (.tmp 14) (.tmp 15), none⟩, ⟨none, .store 1 (.tmp 21) (.tmp 20), none⟩]) hok hcnt ?_))
 simp only [T]
 simp -dsimp only [go_sem, hlL, hgt, cC, cC]
 refine ⟨⟨by omega, by omega⟩, ?_⟩
 refine CallK.own TC rfl ?_
 simp -dsimp only [go_sem, hlL, hgt, cC, cC]
 intro a w S2 ρ2 κ2 hok2
 have hrl : (E cI l[i]).length = l[i].length := E_len _
 let σA : St := ⟨[(20, .agg [.loc (.t 20 0) 0 (E cI l[i]).length]), (15, .v (.int .i64 (i : Int))), (14, .loc (.t 7 0) 0 l.length), (0, .sl 1 (E cC l)), (3, .loc (.t 7 0) 0 l.length), (4, .v (.int .i64 (i : Int)))], [(.t 20 0, .arr 1 (E cI l[i]) false), (.t 7 0, .arr 1 (ss.map (fun s => [AV.v s]) ++ List.replicate (l.length - i) [.v (.slice none 0 0)]) false)]⟩
 have hokA : OK C σA.f a w S2 ρ2 κ2 := hok2.le (by simp [σA, Vs.LeL, Vs.look, Vs.hlook, hrl])
 obtain ⟨s, C', hl', hok3, hh3, ⟨sb, sn, sc, rfl⟩, hCw, hCS, hown⟩ := hokA.bury (n := .t 20 0) (k := 1) (rows := E cI l[i]) (t := 20) rfl (fun r hr => by
   obtain ⟨y, _, rfl⟩ := List.mem_map.1 hr
   rfl) rfl hh
 have hbA := hokA.back hla
 have how2 := (how.mono (S' := S2) (w' := w) (fun j b hj hb => (hh.same hokA).2.2.1 b (hxD j b hj hb)) fun j b hj hb => (hh.same hokA).1 b (hxD j b hj hb)).snoc hown (fun j b hj hb => (hh.same hokA).2.2.2 b (hxD j b hj hb) (.t 20 0) (by rfl))
 have e3 : (l.take i).map (E cI) ++ [E cI l[i]] = (l.take (i + 1)).map (E cI) := by
  rw [List.take_succ_eq_append_getElem hlt, List.map_append]; rfl
 rw [e3, ← hCw, ← hCS] at how2
 have hD3 : ∀ b, (D b ∨ ρ2 (.t 20 0) = some b) → C0.w0.heap.size ≤ b := fun b hb => by
  rcases hb with hb | hb
  ·exact hD b hb
  ·rcases hbA.mine (.t 20 0) b (by rfl) hb with h | h
   ·exact h
   ·rw [← hC0] at h; exact h.elim
 let σB : St := ⟨[(20, .agg [.v (.slice sb sn sc)]), (15, .v (.int .i64 (i : Int))), (14, .loc (.t 7 0) 0 l.length), (0, .sl 1 (E cC l)), (3, .loc (.t 7 0) 0 l.length), (4, .v (.int .i64 (i : Int)))], [(.t 7 0, .arr 1 (ss.map (fun s => [AV.v s]) ++ List.replicate (l.length - i) [.v (.slice none 0 0)]) false)]⟩
 have hokB : OK C' σB.f a w S2 ρ2 κ2 := hok3.le (by simp [σA, σB, Vs.killL, Vs.LeL, Vs.look, Vs.hlook, Vs.scr, Vs.scrB, Vs.AV.has, Vs.hasL, Vs.Blk.has])
 have hset : ((ss.map fun s => [AV.v s]) ++ List.replicate (l.length - i) [AV.v (.slice none 0 0)]).set i [.v (.slice sb sn sc)] = ((ss ++ [Value.slice sb sn sc]).map fun s => [AV.v s]) ++ List.replicate (l.length - (i + 1)) [AV.v (.slice none 0 0)] := by
  have e : l.length - i = (l.length - (i + 1)) + 1 := by omega
  rw [e, List.replicate_succ, List.set_append_right _ _ (by simp [hss])]
  simp [hss]
 have hlen : ((ss.map fun s => [AV.v s]) ++ List.replicate (l.length - i) [AV.v (.slice none 0 0)]).length = l.length := by simp [hss]; omega
 have hgi : ((ss.map fun s => [AV.v s]) ++ List.replicate (l.length - i) [AV.v (.slice none 0 0)]).getD i [] = [AV.v (.slice none 0 0)] := by
  have : 0 < l.length - i := by omega
  simp [List.getElem?_append_right, hss, this]
 refine ⟨C', σB, S2, ρ2, κ2, fun σ' => LeL σ' ⟨[(0, .sl 1 (E cC l)), (3, .loc (.t 7 0) 0 l.length), (4, .v (.int .i64 (i : Int)))], [(.t 7 0, .arr 1 ((ss ++ [Value.slice sb sn sc]).map (fun s => [AV.v s]) ++ List.replicate (l.length - (i + 1)) [.v (.slice none 0 0)]) false)]⟩, hl'.nt.trans hcnt, hokB, ?_, fun a w hg => ?_⟩
 ·simp only [σB]
  simp -dsimp only [go_sem, hlL, cC]
  refine ⟨⟨by omega, by omega⟩, by rw [hgi]; exact Nat.le_refl _, ?_⟩
  rw [hgi]
  simp only [List.set_cons_zero]
  rw [hset]
  simp [Vs.LeL, Vs.look, Vs.hlook]
 obtain ⟨S5, ρ5, κ5, hok5⟩ := hg.le
 show At Tryz.prog _ _ (.region _ _ _) _ a w
 refine At.fw hdr hok5 (hl'.nt.trans hcnt) (N := fun σ' => LeL σ' (T (i + 1) (ss ++ [Value.slice sb sn sc]))) (E := fun _ _ => False) ?_ (fun a w hg => ?_) (fun j a w hg => hg.no.elim) (fun a w hg => hg.no.elim)
 ·simp -dsimp only [go_sem, hlL, cC]
  simp [T, Vs.LeL, Vs.look, Vs.hlook, hw]
 obtain ⟨S6, ρ6, κ6, hok6⟩ := hg.le
 refine ⟨l.length - (i + 1), by omega, i + 1, ss ++ [Value.slice sb sn sc], _, C', S6, ρ6, κ6, rfl, by omega, by simp [hss], hl'.nt.trans hcn, hla.trans hl', hok6, hD3, ?_, _, _, how2, ?_⟩
 ·rw [List.take_succ_eq_append_getElem hlt, List.map_append]
  exact hh3
 ·intro j b hj hb
  simp only [List.length_append, List.length_singleton] at hj
  split at hb
  ·exact .inr hb
  ·exact .inl (hxD j b (by omega) hb)
end
section
variable [Vs.Envs]
attribute [local irreducible] Vs.Fn
def mI (k : Nat) (j : Nat) : Int := (k + j : Nat)
theorem markInt64S (l : List Int) (k : Nat) (hl : l.length ≤ 1048576) (hk : k ≤ 2 ^ 61) : Vs.Fn Tryz.prog F.l_markInt64S [.arr 1 (E cI l) false] [.loc (.b 0) 0 l.length, .v (.int .i64 k)] (.v (.int .i64 (k + l.length : Nat))) [some (.arr 1 (E cI (mkR (mI k) l l.length)) false)] := by
 refine Cd.l_markInt64S_k.o.fn Tryz.mixed (hin := [.arr 1 (E cI l) false]) _ _ [.b 0] [.arr 1 (E cI (mkR (mI k) l l.length)) false] Cd.l_markInt64S_k.n Cd.l_markInt64S_k.r rfl (by simp) rfl (by simp) fun X => ?_
 unfold Cd.l_markInt64S
 simp -dsimp only [go_sem]
 refine LoopK.at (drawn_ok Tryz.mixed) (X := { i : Nat // i ≤ l.length }) (fun i => [(0, .loc (.b 0) 0 l.length), (1, .v (.int .i64 (k + i.1 : Nat))), (5, .v (.int .i64 i.1))]) (fun i => [(.b 0, .arr 1 (E cI (mkR (mI k) l i.1)) false)]) (fun i => l.length - i.1) ⟨0, by omega⟩ ?_ ?_
 ·simp [Vs.LeL, Vs.look, Vs.hlook, Vs.sput, Vs.sputs, Vs.hset, Vs.hputs, mkR_zero]
 ·rintro ⟨i, hi⟩
  simp -dsimp only [go_sem]
  refine Br.mk (fun hc => ?_) fun hc => ?_
  ·have hlt : i < l.length := by simpa using hc
   have hw := wrap_succ hlt hl
   have hw2 : IntKind.i64.wrap (((k + i : Nat) : Int) + 1) = ((k + (i + 1) : Nat) : Int) := by rw [wrap_in (by omega) (by omega)]; omega
   have hgi : (E cI (mkR (mI k) l i)).getD i [] = [.v (.int .i64 l[i])] := mkR_get (c := cI) _ l hlt
   have hst : (E cI (mkR (mI k) l i)).set i [.v (.int .i64 (k + i : Nat))] = E cI (mkR (mI k) l (i + 1)) := mkR_set (c := cI) (mI k) l hlt
   have hlr : (mkR (mI k) l i).length = l.length := mkR_length _ l (by omega)
   repeat' first
    |simp -dsimp only [go_sem, hw, hw2, hgi, hst, hlr, E_len]
    |refine Br.mk ?_ ?_<;>intro h<;>try simp -dsimp only[h]
    |refine and_c ?_
    |fail
   all_goals (exact ⟨⟨i + 1, by omega⟩, by simp [Vs.LeL, Vs.look, Vs.hlook, Vs.sput, Vs.sputs, Vs.hset, Vs.hputs], by simp only; omega⟩)
  ·have hge : i = l.length := by
    have : ¬ i < l.length := by simpa using hc
    omega
   subst hge
   simp -dsimp only [go_sem]
   exact ⟨⟨_, _, rfl, rfl⟩, fun h => h rfl⟩
attribute [local go_sem] Int.reduceBEq Int.reduceBNe cC E_len List.replicate_succ List.replicate_zero List.flatten_cons List.flatten_nil List.cons_append List.nil_append List.set_cons_zero List.set_cons_succ List.length_cons List.length_nil List.length_set List.mem_singleton List.mem_cons List.not_mem_nil or_false false_or Vs.Name.t.injEq List.getD_cons_zero List.getD_cons_succ Vs.Name.b.injEq List.getElem?_cons_zero List.getElem?_cons_succ in
theorem markCardS_own (k0 : Nat) (hk0 : k0 ≤ 2 ^ 60) {S : Nat → Prop} {w : World} {v : Value} {l : List (List Int)} {ss : List Value} {xs : Nat → Option Nat} {cs : Nat → Nat} (hk : smallC l) (hS : ∀ b, S b → b < w.heap.size) (he : Env S w) (h0 : RC S w (.sl 1 (ss.map fun s => [AV.v s])) v)
  (ho : Vs.OwnL S w 1 (l.map (E cI)) ss xs cs) (hx : ∀ i b, i < ss.length → xs i = some b → b < w.heap.size) :
  Calls Tryz.prog F.l_markCardS #[v, .int .i64 k0] w fun e w' => ∃ n : Nat, e = .returned (.int .i64 n) ∧ w.heap.size ≤ w'.heap.size ∧ (∀ b, b < w.heap.size → (∀ i, i < ss.length → xs i ≠ some b) → w'.heap[b]? = w.heap[b]?) ∧ (w'.os = w.os ∧ w'.output = w.output) := by
 obtain ⟨h1, h2, _⟩ := Cd.l_markCardS_k.o
 obtain ⟨body, hb, hc⟩ := Option.bind_eq_some_iff.1 h2
 have hz : (Tryz.f16.body.map (zB Tryz.f16.ntmps (drawnG Tryz.prog))) = some true := by kernel_rfl
 rw [hb] at hz
 have hdr := drawn_ok Tryz.mixed
 have hlen : l.length = ss.length := by simpa using ho.len
 refine calls_at (dr := drawnG Tryz.prog) (ac := Cd.l_markCardS) h1 hb hc (by simpa using hz) (args := [.sl 1 (ss.map fun s => [AV.v s]), .v (.int .i64 (k0 : Int))]) (by rw [Cd.l_markCardS_k.n]; exact Nat.le_of_ble_eq_true rfl) hS he rfl (fun j hj => ?_) (fun b => ∃ i, i < ss.length ∧ xs i = some b) fun a hok => ?_
 ·match j, hj with
  | 0, _ => exact h0
  | 1, _ => exact .v _
 generalize hC0 : (⟨Tryz.f16.ntmps, w, S, fun b => ∃ i, i < ss.length ∧ xs i = some b, fun _ => none, fun _ => 0, fun _ => none⟩ : Ctx) = C0 at hok
 have hnt : C0.nt = Tryz.f16.ntmps := by rw [← hC0]
 have hw0 : C0.w0 = w := by rw [← hC0]
 let D : Nat → Prop := fun b => ∃ i, i < ss.length ∧ xs i = some b
 have hM : ∀ b, D b → C0.Mut b := fun b h => by rw [← hC0]; exact h
 have hl1 := hok.later
 have hh1 := hok.hid (D := D) (fun b ⟨i, hi, hb⟩ => hx i b hi hb) (fun b ⟨i, hi, hb⟩ => (ho.row i hi).no hb) (fun b _ n hn => by simp [St.f, Vs.hlook] at hn)
 have hok1 := hok.anew
 generalize hC1 : C0.anew w S _ _ = C1 at hl1 hh1 hok1
 have how1 : Vs.OwnL C1.S0 C1.w0 1 (l.map (E cI)) ss xs cs := by rw [← hC1]; exact ho
 have hcnt1 : C1.nt = Tryz.f16.ntmps := hl1.nt.trans hnt
 unfold Cd.l_markCardS
 refine At.step ⟨[(0, .sl 1 (ss.map fun s => [AV.v s])), (1, .v (.int .i64 (k0 : Int)))], []⟩ hdr hok1 hcnt1 ?_ fun a w1 S1 ρ1 κ1 hok => ?_
 ·simp -dsimp only [go_sem]
  try simp [Vs.LeL, Vs.look, Vs.hlook]
 refine At.seq (At.step ⟨[(0, .sl 1 (ss.map fun s => [AV.v s])), (1, .v (.int .i64 (k0 : Int))), (5, .v (.int .i64 ((0 : Nat) : Int)))], []⟩ hdr hok hcnt1 ?_ fun a w3 S3 ρ3 κ3 hok => ?_)
 ·simp -dsimp only [go_sem]
  try simp [Vs.LeL, Vs.look, Vs.hlook]
 refine At.block ?_
 let T : Nat → Nat → St := fun i kk => ⟨[(0, .sl 1 (ss.map fun s => [AV.v s])), (1, .v (.int .i64 (kk : Int))), (5, .v (.int .i64 (i : Int)))], []⟩
 let I : Nat → Act → World → Prop := fun n a w => ∃ (i kk : Nat) (m : List (List Int)) (C : Ctx) (S : Nat → Prop) (ρ : Vs.Name → Option Nat) (κ : Vs.Name → Nat), n = ss.length - i ∧ i ≤ ss.length ∧ kk ≤ k0 + i * 1048576 ∧ C.nt = Tryz.f16.ntmps ∧ Later C0 C ∧ OK C (T i kk).f a w S ρ κ ∧ Hid C D (.v undef) undef ∧ smallC m ∧ Vs.OwnL C.S0 C.w0 1 (m.map (E cI)) ss xs cs
 have hsl : ss.length ≤ 1048576 := by rw [← hlen]; exact hk.1
 refine At.loop I (fun n a w hI => ?_) (n := ss.length) ⟨0, k0, l, C1, S3, ρ3, κ3, by omega, by omega, by omega, hcnt1, hl1, hok, hh1, hk, how1⟩
 obtain ⟨i, kk, m, C, S, ρ, κ, hn, hi, hkk, hcnt, hla, hok, hh, hm, how⟩ := hI
 have hsm : (ss.map fun s => [AV.v s]).length = ss.length := List.length_map _
 refine At.seq (At.fw hdr hok hcnt (N := fun σ' => LeL σ' (T i kk) ∧ i < ss.length) (E := fun e σ' => match e with | .exit j => j = 0 ∧ LeL σ' (T i kk) ∧ i = ss.length | .ret => False) ?_ (fun a w hg => ?_) (fun j a w hg => ?_) (fun a w hg => hg.no.elim))
 ·simp only [T]
  simp -dsimp only [go_sem, hsm]
  refine Br.mk (fun hc => ?_) fun hc => ?_
  ·have hlt : i < ss.length := by have := of_decide_eq_true hc; omega
   try simp -dsimp only [go_sem, hsm]
   exact ⟨by simp [Vs.LeL, Vs.look, Vs.hlook], hlt⟩
  ·have hge : i = ss.length := by have := of_decide_eq_false hc; omega
   try simp -dsimp only [go_sem, hsm]
   exact ⟨by simp [Vs.LeL, Vs.look, Vs.hlook], hge⟩
 rotate_left
 ·obtain ⟨σ', S', ρ', κ', ⟨rfl, hle, rfl⟩, hok'⟩ := hg
  have hok := hok'.le hle
  simp only [Exit.then, Exit.inBlock, if_true]
  refine At.step ⟨[(4, .v (.int .i64 (kk : Int)))], []⟩ hdr hok hcnt ?_ fun a w4 S4 ρ4 κ4 hok4 => ?_
  ·simp only [T]
   try simp -dsimp only [go_sem, hsm]
   simp [Vs.LeL, Vs.look, Vs.hlook]
  refine At.ret ⟨.inl rfl, hok4.defers, ?_⟩
  obtain ⟨x, v, hx', hxv, hrun⟩ := Vs.res_run hok4 (fn := Tryz.f16) (K := fun x => x = .v (.int .i64 (kk : Int))) (by
    show Vs.resL Tryz.prog _ _ [_]
    simp [Vs.resL, Vs.resV, Vs.look, Vs.oneOr])
  subst hx'
  have hb4 := hok4.back hla
  refine ⟨v, hrun, kk, by rw [inv_v hxv], ?_, fun b hb hno => ?_, ?_⟩
  ·have := hb4.size; rw [hw0] at this; exact this
  ·have := hb4.old b (by rw [hw0]; exact hb) (by rw [← hC0]; rintro ⟨i, hi, hb⟩; exact hno i hi hb); rw [hw0] at this; exact this
  ·have := hb4.out; rw [hw0] at this; exact this
 obtain ⟨σ', S', ρ', κ', ⟨hle, hlt⟩, hok'⟩ := hg
 have hok := hok'.le hle
 have hml0 : m.length = ss.length := by simpa using how.len
 have hlm : i < m.length := by omega
 have hgt : (ss.map fun s => [AV.v s]).getD i [] = [.v ss[i]] := by simp [hlt]
 obtain ⟨sb, sn, sc, hsv⟩ : ∃ b n c, ss[i] = .slice b n c := by
  have := (how.row i hlt).loc 1 _ false rfl
  obtain ⟨_, b, c, e, _⟩ := this
  exact ⟨_, _, _, by simpa [hlt] using e⟩
 show At Tryz.prog _ _ (.seq _ _) _ a w
 refine At.seq (At.block (At.region (pre := [⟨some 12, .mv (.tmp 0), none⟩, ⟨some 13, .mv (.tmp 5), none⟩, ⟨some 14, .idxSl 1 (.tmp 12) (.tmp 13), none⟩, ⟨some 15, .fieldAddr 0 (.tmp 14), none⟩, ⟨some 16, .load false 1 (.tmp 15), none⟩, ⟨some 17, .mv (.tmp 1), none⟩]) (o := ⟨some 18, .call (.func F.l_markInt64S) [(.tmp 16), (.tmp 17)] [0], none⟩) (post := [⟨some 1, .mv (.tmp 18), none⟩]) hok hcnt rfl ?_))
 let τ : St := ⟨[(16, .v ss[i]), (17, .v (.int .i64 (kk : Int))), (0, .sl 1 (ss.map fun s => [AV.v s])), (1, .v (.int .i64 (kk : Int))), (5, .v (.int .i64 (i : Int)))], []⟩
 refine Vs.vc_mono (K := fun σ' => LeL σ' τ) (fun σ1 hle1 => ?_) _ _ ?_
 rotate_left
 ·simp only [T]
  simp -dsimp only [go_sem, hsm, hgt]
  exact ⟨⟨by omega, by omega⟩, by simp [τ, Vs.LeL, Vs.look, Vs.hlook]⟩
 intro a w S2 ρ2 κ2 op ops hokx hcop
 have hok2 := hokx.le hle1
 have hml : m.length = ss.length := by simpa using how.len
 have hmi : m[i].length ≤ 1048576 := hm.2 _ (List.getElem_mem _)
 have hM64 := markInt64S m[i] kk hmi (by omega)
 have how2 : Vs.OwnL S2 w 1 (m.map (E cI)) ss xs cs := how.mono (fun j b hj hb => (hh.same hok2).2.2.1 b ⟨j, hj, hb⟩) (fun j b hj hb => (hh.same hok2).1 b ⟨j, hj, hb⟩)
 have hr := how2.row i hlt
 have e1 : (m.map (E cI)).getD i [] = E cI m[i] := by simp [hml, hlt]
 have e2 : ss.getD i undef = ss[i] := by simp [hlt]
 rw [e1, e2] at hr
 have hE : (E cI m[i]).length = m[i].length := E_len _
 have h16 : a.tmps.getD 16 undef = ss[i] := inv_v (hok2.slots 16)
 have h17 : a.tmps.getD 17 undef = .int .i64 (kk : Int) := inv_v (hok2.slots 17)
 have hargs : ([Operand.tmp 16, .tmp 17].map a.eval).toArray = #[ss[i], .int .i64 (kk : Int)] := by
  show #[a.tmps.getD 16 undef, a.tmps.getD 17 undef] = _
  rw [h16, h17]
 refine op_call (by rw [hcnt]; exact hcop) rfl hok2 hM64.has ?_
 rw [hargs]
 refine (calls_own (by rw [hE]; exact hM64) (fun r hr => by
   obtain ⟨y, _, rfl⟩ := List.mem_map.1 hr
   rfl) hr hok2.hok.dom hok2.hok.env).mono ?_
 rintro e w' ⟨rfl, q1, q2, q3, q4, q5⟩
 have hD2 := hh.same hok2
 have hw1 : ∀ b, b < w.heap.size → ¬ D b → w'.heap[b]? = w.heap[b]? := fun b hb hd => q2 b hb fun hx => hd ⟨i, hlt, hx⟩
 have hok3 := OK.wrote hh hok2 q1 hw1 q3
 have hla3 := OK.wroteM hla (fun b hb => .inr (hM b hb)) hok2 q1 hw1 q3
 have hh3 : Hid (C.anew w' S2 τ.f.h ρ2) D (.v undef) undef := ⟨.v _, fun b hb => Nat.lt_of_lt_of_le (hD2.2.1 b hb) q1, fun b hb => ⟨hD2.2.2.1 b hb, fun ⟨n, g1, g2⟩ => hD2.2.2.2 b hb n g1 g2⟩⟩
 have how3 : Vs.OwnL S2 w' 1 ((m.set i (mkR (mI kk) m[i] m[i].length)).map (E cI)) ss xs cs := by
  rw [List.map_set]
  exact how2.write hlt (by rw [e2]; exact q4) (fun j b hj hb hx => q2 b (hD2.2.1 b ⟨j, hj, hb⟩) hx) (fun j b hj hb => hD2.2.2.1 b ⟨j, hj, hb⟩)
 have hm3 : smallC (m.set i (mkR (mI kk) m[i] m[i].length)) := by
  refine ⟨by rw [List.length_set]; exact hm.1, fun c hc => ?_⟩
  rcases List.mem_or_eq_of_mem_set hc with h | h
  ·exact hm.2 c h
  ·rw [h, mkR_length _ _ (Nat.le_refl _)]; exact hmi
 let σ4 : St := ⟨(18, .v (.int .i64 ((kk + m[i].length : Nat) : Int))) :: τ.s, τ.h⟩
 have hok4 : OK (C.anew w' S2 τ.f.h ρ2) σ4.f (a.put (some 18) (.int .i64 ((kk + m[i].length : Nat) : Int))) w' S2 ρ2 κ2 := hok3.put (x := .v (.int .i64 ((kk + m[i].length : Nat) : Int))) (v := .int .i64 ((kk + m[i].length : Nat) : Int)) (d := some 18) (.clo (.v _)) (fun d hd => by
   obtain rfl := Option.some.inj hd
   show 18 < C.nt
   rw [hcnt, Cd.l_markCardS_k.n]; omega)
 refine ⟨_, rfl, C.anew w' S2 τ.f.h ρ2, σ4, S2, ρ2, κ2, fun σ' => LeL σ' (T i (kk + m[i].length)), hcnt, hok4, ?_, fun a w hg => ?_⟩
 ·simp only [σ4, τ, T]
  simp -dsimp only [go_sem, hsm, hgt]
  simp [Vs.LeL, Vs.look, Vs.hlook]
 obtain ⟨S5, ρ5, κ5, hok5⟩ := hg.le
 have hw2 := wrap_succ hlt hsl
 show At Tryz.prog _ _ (.region _ _ _) _ a w
 refine At.fw hdr hok5 hcnt (N := fun σ' => LeL σ' (T (i + 1) (kk + m[i].length))) (E := fun _ _ => False) ?_ (fun a w hg => ?_) (fun j a w hg => hg.no.elim) (fun a w hg => hg.no.elim)
 ·simp only [T]
  simp -dsimp only [go_sem, hsm, hgt]
  simp [Vs.LeL, Vs.look, Vs.hlook, hw2]
 obtain ⟨S6, ρ6, κ6, hok6⟩ := hg.le
 exact ⟨ss.length - (i + 1), by omega, i + 1, kk + m[i].length, _, C.anew w' S2 τ.f.h ρ2, S6, ρ6, κ6, rfl, by omega, by omega, hcnt, hla3, hok6, hh3, hm3, how3⟩
end
end Go.Proofs.YtmgnfpmdlgcnjaaGreat
