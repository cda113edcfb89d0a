/- The law FnExactControlsAlong returns true for every input, and its arguments read behind the call as they read before. Conditions: the table of the powers of ten, which the library's text lays and the card ties. -/
import Derived.Test.YtmiiohemehacjaaGreatDoorVsI
import Derived.Test.YtmiiohemehacjaaGreatDoorXwGd
import Derived.Test.YtmiiohemehacjaaGreatDoorXuO
import Derived.Test.YtmiiohemehacjaaGreatDoorVtR
import Derived.Test.YtmiiohemehacjaaGreatDoorCards
import Derived.Test.YtmiiohemehacjaaGreatDoorTie
import Derived.SevenTiedAt
set_option linter.all false
set_option maxHeartbeats 8000000
namespace Go.Proofs.YtmiiohemehacjaaGreatDoor
open Go.Vs Go.ChangeShapes Go.WideShapes Go.ChangeAt Go.RowKit
local instance tabI : Vs.Tab 1 Vs.powP := { l := [(1, Vs.powP)], has := λS w h => h _ (List.mem_singleton.2 rfl) }
attribute [local irreducible] Vs.Fn chOK areCh chTo chAt l03 chB rk cd3 chI stp stpTo
def gStpX (p:I64×I64×I64×I64×(I64×I64)×(I64×I64)×S63):Stp:=⟨p.1.1,p.2.1.1,p.2.2.1.1,p.2.2.2.1.1,p.2.2.2.2.1.1.1,p.2.2.2.2.1.2.1,p.2.2.2.2.2.1.1.1,p.2.2.2.2.2.1.2.1,p.2.2.2.2.2.2.1⟩
set_option maxRecDepth 100000 in
theorem env_of_laid {W:World} (h0:laidMetH Tryz.prog Rows.fnExactControlsAlongRow.laid W):Env (λb=>b<W.heap.size) W:=by
 have h:laidMet Tryz.prog Rows.fnExactControlsAlongRow.laid W:=by
  rw[←MakeChecks.laidMetH_plain _ _ _ (by kernel_rfl)];exact h0
 have ht:=laidMet.tail (laidMet.tail h);have hi:=Lib.tabIs_of_head (k:=.u64) (zs:=Lib.pow10Tab) (g:=1) (t:=270) (e:=135) (n:=20) (by kernel_rfl) (by kernel_rfl) Tryz.underlying270 Tryz.underlying135 (by kernel_rfl) (by kernel_rfl) ht;intro p hp;obtain rfl:p=(1,Vs.powP):=List.mem_singleton.1 (show p∈[(1,Vs.powP)] from hp);unfold Lib.TabIs World.var? at hi;have hi2:=(congrArg (λo=>Option.bind o _) (by kernel_rfl:Tryz.prog.globalNamed _=some 1)).symm.trans hi;simp only[Option.bind_some] at hi2;split at hi2
 .rename_i cs T fr hcs;obtain rfl:=Option.some.inj hi2;refine⟨?_,T,fr,hcs⟩;rcases Nat.lt_or_ge 1 W.heap.size with hlt|hge
  .exact hlt
  .rw[Array.getElem?_eq_none hge] at hcs;cases hcs
 .cases hi2
set_option maxRecDepth 100000 in
theorem controlsalong_door (os:Os) (args:Array Value):laidMetH Tryz.prog Rows.fnExactControlsAlongRow.laid ((World.doorLaid Tryz.prog 24 os).forCall (λ_ _=>0) ⟨#[],args,[]⟩).memory:=
 laidMetH_of_parts3 (fuel:=8) (laidMet_of_run' 8 (by kernel_rfl) (by kernel_rfl)) (by kernel_rfl) (by kernel_rfl)
set_option maxRecDepth 100000 in
theorem controlsalong_lifted (os:Os) (I:os.Started) (H:Type) (enc:TypeId×Value->H) :
  ReturnsInHanded {} Tryz.checked os F.lawControlsAlong .any (λw args=>(Rows.fnExactControlsAlongSpec.pre enc Tryz.prog Tryz.f3 Rows.fnExactControlsAlongRow.domain false w args∧laidMetH Tryz.prog Rows.fnExactControlsAlongRow.laid w)∧sizedMet enc Tryz.prog Tryz.f3 (OpenSpec.ofChange Rows.fnExactControlsAlongSpec) false w args)
   (Rows.fnExactControlsAlongSpec.post enc Tryz.prog Tryz.f3 false true false false):=
 law_returns_and (C:=Tryz.checked) (X:=λw _=>laidMetH Tryz.prog Rows.fnExactControlsAlongRow.laid w) (λ_ _ _ L h=>h.of_heap L) (λW args h=>env_of_laid h) Tryz.own I (by kernel_rfl) Tryz.func3
  (ChangeSpec.witness_shaped (enc:=enc) (C:=Tryz.checked) (os:=os) (X:=λw _=>laidMetH Tryz.prog Rows.fnExactControlsAlongRow.laid w) false (World.doorLaid Tryz.prog 24 os) #[.agg #[.slice none 0 0,.slice none 0 0],.slice none 0 0,.agg #[.int .i64 0,.int .i64 0]] 8 rfl (World.shaped_of_RefB (by kernel_rfl) (by kernel_rfl)) (by kernel_rfl) (by kernel_rfl) (by kernel_rfl) (controlsalong_door os _))
  Tryz.laidOut (by kernel_rfl) rfl Tryz.underlying4 rfl (λJ h=>by match J,h with | [_,_,_],_=>exact⟨rfl,rfl,rfl⟩)
  (Args.cons (Arg.struct Tryz.underlying25 oOffice) (Args.cons (Arg.slice Tryz.underlying26 oSteps) (Args.cons (Arg.struct Tryz.underlying28 oField) Args.nil))) (λa=>by
    have h:=law_ControlsAlong a.2.2.1.1.1 a.2.2.1.2.1 (gOff a.1) (a.2.1.1.map gStpX) (gOff_big a.1) (λx O=>by obtain⟨p,_,rfl⟩:=List.mem_map.1 O;exact p.2.2.2.2.2.2.2) (by simpa using a.2.1.2);rw[gOff_enc,E_map] at h;exact h)
theorem controlsalong_row:Rows.FnExactControlsAlongSaid:=
 OpenClaim.holds_of_wide 3 Tryz.f3 rfl rfl rfl rfl rfl rfl rfl ⟨rfl,rfl,rfl,rfl,rfl⟩ rfl rfl rfl rfl rfl (by kernel_rfl) Tryz.func3 (by kernel_rfl)
  (of_decide_eq_true (by kernel_rfl)) (by unfold Func.isWrapper;first|(rw[if_pos (by decide +kernel)];kernel_rfl)|(rw[if_neg (by decide +kernel)];exact⟨rfl,rfl⟩))
  (λos F H enc _=>controlsalong_lifted os F H enc)
theorem controlsalong_holds:Rows.FnExactControlsAlongCardSaid:=
 Claim7.holds_tied_plain_at .later [] [.data,.data,.data] true _ false controlsalong_row (λ_ h=>by cases h) (by kernel_rfl) (λ_ h=>by cases h) fnExactControlsAlong_row_tie rfl ⟨rfl,rfl⟩ (by kernel_rfl) rfl
  (λf fn hf hfn=>by
    obtain rfl:f=3:=Option.some.inj ((by kernel_rfl:Tryz.prog.funcNamed Rows.fnExactControlsAlongRow.func=some 3).symm.trans hf) |>.symm;obtain rfl:fn=Tryz.f3:=(Option.some.inj (Tryz.func3.symm.trans hfn)).symm
    exact ⟨by kernel_rfl,λj t ht=>by
      rw[show Tryz.f3.params=#[25,26,28] from rfl] at ht;have hm:t∈[25,26,28]:=by simpa using Array.mem_of_getElem? ht
      have hall:([25,26,28].all λu=>!Tryz.prog.wantsStandIn u)=true:=by kernel_rfl
      exact(show Tryz.prog.wantsStandIn t=false by simpa using List.all_eq_true.1 hall t hm)⟩)
  (by kernel_rfl)
#print axioms controlsalong_holds
end Go.Proofs.YtmiiohemehacjaaGreatDoor
