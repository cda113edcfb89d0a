/- The law FnCalculated returns true for every input, and its argument reads behind the call as it read before. Conditions: the table of the powers of ten, which the library's text lays and the card ties. -/
import Derived.Test.YtfoddghhlagenaaGreatDoorVsD
import Derived.Test.YtfoddghhlagenaaGreatDoorTwTk
import Derived.Test.YtfoddghhlagenaaGreatDoorTuO
import Derived.Test.YtfoddghhlagenaaGreatDoorVtR
import Derived.Test.YtfoddghhlagenaaGreatDoorCards
import Derived.Test.YtfoddghhlagenaaGreatDoorTie
import Derived.SevenTiedAt
set_option linter.all false
set_option maxHeartbeats 8000000
namespace Go.Proofs.YtfoddghhlagenaaGreatDoor
open Go.Vs Go.ChangeShapes Go.WideShapes Go.ChangeAt Go.RowKit
local instance tabI : Vs.Tab 0 Vs.powP := { l := [(0, Vs.powP)], has := λS w h => h _ (List.mem_singleton.2 rfl) }
attribute [local irreducible] Vs.Fn
set_option maxRecDepth 100000 in
theorem env_of_laid {W:World} (h0:laidMetH Tryz.prog Rows.fnCalculatedRow.laid W):Env (λb=>b<W.heap.size) W:=by
 have h:laidMet Tryz.prog Rows.fnCalculatedRow.laid W:=by
  rw[←MakeChecks.laidMetH_plain _ _ _ (by kernel_rfl)]
  exact h0
 have ht:=laidMet.tail (laidMet.tail h)
 have hi:=Lib.tabIs_of_head (k:=.u64) (zs:=Lib.pow10Tab) (g:=0) (t:=131) (e:=85) (n:=20) (by kernel_rfl) (by kernel_rfl) Tryz.underlying131 Tryz.underlying85 (by kernel_rfl) (by kernel_rfl) ht
 intro p hp
 obtain rfl:p=(0,Vs.powP):=List.mem_singleton.1 (show p∈[(0,Vs.powP)] from hp)
 unfold Lib.TabIs World.var? at hi
 have hi2:=(congrArg (λo=>Option.bind o _) (by kernel_rfl:Tryz.prog.globalNamed _=some 0)).symm.trans hi
 simp only[Option.bind_some] at hi2
 split at hi2
 .rename_i cs T fr hcs
  obtain rfl:=Option.some.inj hi2
  refine⟨?_,T,fr,hcs⟩
  rcases Nat.lt_or_ge 0 W.heap.size with hlt|hge
  .exact hlt
  .rw[Array.getElem?_eq_none hge] at hcs;cases hcs
 .cases hi2
abbrev U8:={n:Int // (Lit.int .u8 n).wf=true}
theorem U8_in (n:U8):0<=n.1∧n.1<=255:=by
 have h:=n.2
 simp only[Lit.wf,Bool.and_eq_true,decide_eq_true_eq] at h
 have e1:IntKind.u8.min=0:=by decide
 have e2:IntKind.u8.max=255:=by decide
 omega
theorem oU8:Opens Tryz.prog 5 1 (λn:U8=>[.v (.int .u8 n.1)]):=Opens.int Tryz.underlying5 (by kernel_rfl)
theorem oBytes:Opens Tryz.prog 22 1 (λl:{l:List U8 // l.length<2 ^ 63}=>[.sl 1 (l.1.map (λn:U8=>[.v (.int .u8 n.1)]))]):=Opens.slice Tryz.underlying22 (by kernel_rfl) (by decide) oU8
set_option maxRecDepth 100000 in
theorem calculated_door (os:Os) (args:Array Value):laidMetH Tryz.prog Rows.fnCalculatedRow.laid ((World.doorLaid Tryz.prog 24 os).forCall (λ_ _=>0) ⟨#[],args,[]⟩).memory:=
 laidMetH_of_parts3 (fuel:=8) (laidMet_of_run' 8 (by kernel_rfl) (by kernel_rfl)) (by kernel_rfl) (by kernel_rfl)
set_option maxRecDepth 100000 in
theorem calculated_lifted (os:Os) (started:os.Started) (H:Type) (enc:TypeId×Value->H) :
  ReturnsInHanded {} Tryz.checked os F.l_FnCalculated .any (λw args=>(Rows.fnCalculatedSpec.pre enc Tryz.prog Tryz.f3 Rows.fnCalculatedRow.domain false w args∧laidMetH Tryz.prog Rows.fnCalculatedRow.laid w)∧sizedMet enc Tryz.prog Tryz.f3 (OpenSpec.ofChange Rows.fnCalculatedSpec) false w args)
   (Rows.fnCalculatedSpec.post enc Tryz.prog Tryz.f3 false true false false):=
 law_returns_and (C:=Tryz.checked) (X:=λw _=>laidMetH Tryz.prog Rows.fnCalculatedRow.laid w) (λ_ _ _ hh h=>h.of_heap hh) (λW args h=>env_of_laid h) Tryz.own started (by kernel_rfl) Tryz.func3
  (ChangeSpec.witness_shaped (enc:=enc) (C:=Tryz.checked) (os:=os) (X:=λw _=>laidMetH Tryz.prog Rows.fnCalculatedRow.laid w) false (World.doorLaid Tryz.prog 24 os) #[.slice none 0 0] 8 rfl (World.shaped_of_RefB (by kernel_rfl) (by kernel_rfl)) (by kernel_rfl) (by kernel_rfl) (by kernel_rfl) (calculated_door os _))
  Tryz.laidOut (by kernel_rfl) rfl Tryz.underlying4 rfl (λds h=>by match ds,h with | [_],_=>exact⟨rfl,rfl,rfl⟩)
  (Args.cons (Arg.slice Tryz.underlying22 oBytes) Args.nil) (λa=>by
    have h:=law_FnCalculated (a.1.1.map λn=>n.1) (λx hx=>by obtain⟨n,_,rfl⟩:=List.mem_map.1 hx;exact U8_in n) (by simpa using a.1.2)
    rw[E_map] at h
    exact h)
theorem calculated_row:Rows.FnCalculatedSaid:=
 OpenClaim.holds_of_wide 3 Tryz.f3 rfl rfl rfl rfl rfl rfl rfl ⟨rfl,rfl,rfl,rfl,rfl⟩ rfl rfl rfl rfl rfl (by kernel_rfl) Tryz.func3 (by kernel_rfl)
  (of_decide_eq_true (by kernel_rfl)) (by unfold Func.isWrapper;first|(rw[if_pos (by decide +kernel)];kernel_rfl)|(rw[if_neg (by decide +kernel)];exact⟨rfl,rfl⟩))
  (λos started H enc _=>calculated_lifted os started H enc)
theorem calculated_holds:Rows.FnCalculatedCardSaid:=
 Claim7.holds_tied_plain_at .later [] [.data,.data,.data] true _ false calculated_row (λ_ h=>by cases h) (by kernel_rfl) (λ_ h=>by cases h) fnCalculated_row_tie rfl ⟨rfl,rfl⟩ (by kernel_rfl) rfl
  (λf fn hf hfn=>by
    obtain rfl:f=3:=Option.some.inj ((by kernel_rfl:Tryz.prog.funcNamed Rows.fnCalculatedRow.func=some 3).symm.trans hf) |>.symm
    obtain rfl:fn=Tryz.f3:=(Option.some.inj (Tryz.func3.symm.trans hfn)).symm
    exact ⟨by kernel_rfl,λj t ht=>by
      rw[show Tryz.f3.params=#[22] from rfl] at ht
      have hm:t∈[22]:=by simpa using Array.mem_of_getElem? ht
      have hall:([22].all λu=>!Tryz.prog.wantsStandIn u)=true:=by kernel_rfl
      exact(show Tryz.prog.wantsStandIn t=false by simpa using List.all_eq_true.1 hall t hm)⟩)
  (by kernel_rfl)
#print axioms calculated_holds
end Go.Proofs.YtfoddghhlagenaaGreatDoor
