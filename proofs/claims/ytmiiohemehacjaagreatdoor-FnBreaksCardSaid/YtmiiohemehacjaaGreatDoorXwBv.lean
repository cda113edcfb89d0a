/- The law FnBreaks returns true for every input, and its argument reads behind the call as it read before. Conditions: the table of the powers of ten, which the library's text lays and the card ties. -/
import Derived.Test.YtmiiohemehacjaaGreatDoorVsI
import Derived.Test.YtmiiohemehacjaaGreatDoorXwBu
import Derived.Test.YtmiiohemehacjaaGreatDoorXuO
import Derived.Test.YtmiiohemehacjaaGreatDoorVtR
import Derived.Test.YtmiiohemehacjaaGreatDoorCards
import Derived.Test.YtmiiohemehacjaaGreatDoorTie
import Derived.SevenTiedAt
set_option linter.all false
set_option maxHeartbeats 8000000
namespace Go.Proofs.YtmiiohemehacjaaGreatDoor
open Go.Vs Go.ChangeShapes Go.WideShapes Go.ChangeAt Go.RowKit
local instance tabI : Vs.Tab 1 Vs.powP := { l := [(1, Vs.powP)], has := λS w h => h _ (Ar.2 rfl) }
attribute [local irreducible] Vs.Fn chOK areCh chTo chAt l03 chB rk cd3 chI stp stpTo
set_option maxRecDepth 100000 in
theorem env_of_laid {W:World} (h0:laidMetH Tryz.prog Rows.fnBreaksRow.laid W):Env (λb=>b<W.heap.size) W:=by
 have h:laidMet Tryz.prog Rows.fnBreaksRow.laid W:=by
  rw[←MakeChecks.laidMetH_plain _ _ _ (by kernel_rfl)];exact h0
 have ht:=laidMet.tail (laidMet.tail h);have hi:=Lib.tabIs_of_head (k:=.u64) (zs:=Lib.pow10Tab) (g:=1) (t:=270) (e:=135) (n:=20) (by kernel_rfl) (by kernel_rfl) Tryz.underlying270 Tryz.underlying135 (by kernel_rfl) (by kernel_rfl) ht;intro p hp;obtain rfl:p=(1,Vs.powP):=Ar.1 (show p∈[(1,Vs.powP)] from hp);unfold Lib.TabIs World.var? at hi;have hi2:=(Bd (λo=>Option.bind o _) (by kernel_rfl:Tryz.prog.globalNamed _=some 1)).symm.trans hi;simp only[Co] at hi2;split at hi2
 .rename_i cs T fr hcs;obtain rfl:=Av hi2;refine⟨?_,T,fr,hcs⟩;rcases Cw 1 W.heap.size with hlt|hge
  .exact hlt
  .rw[Array.getElem?_eq_none hge] at hcs;cases hcs
 .cases hi2
abbrev U8:={n:Int // (Lit.int .u8 n).wf=true}
theorem U8_in (n:U8):0<=n.1∧n.1<=255:=by
 have h:=n.2;simp only[Lit.wf,Au,Bb] at h;have u:IntKind.u8.min=0:=by decide
 have F:IntKind.u8.max=255:=by decide
 omega
theorem oU8:Opens Tryz.prog 5 1 (λn:U8=>[.v (.int .u8 n.1)]):=Opens.int Tryz.underlying5 (by kernel_rfl)
theorem oBytes:Opens Tryz.prog 50 1 (λl:{l:List U8 // l.length<2 ^ 63}=>[.sl 1 (l.1.map (λn:U8=>[.v (.int .u8 n.1)]))]):=Opens.slice Tryz.underlying50 (by kernel_rfl) (by decide) oU8
set_option maxRecDepth 100000 in
theorem breaks_door (os:Os) (args:Array Value):laidMetH Tryz.prog Rows.fnBreaksRow.laid ((World.doorLaid Tryz.prog 24 os).forCall (λ_ _=>0) ⟨#[],args,[]⟩).memory:=
 laidMetH_of_parts3 (fuel:=8) (laidMet_of_run' 8 (by kernel_rfl) (by kernel_rfl)) (by kernel_rfl) (by kernel_rfl)
set_option maxRecDepth 100000 in
theorem breaks_lifted (os:Os) (u:os.Started) (H:Type) (enc:TypeId×Value->H) :
  ReturnsInHanded {} Tryz.checked os F.l_FnBreaks .any (λw args=>(Rows.fnBreaksSpec.pre enc Tryz.prog Tryz.f4 Rows.fnBreaksRow.domain false w args∧laidMetH Tryz.prog Rows.fnBreaksRow.laid w)∧sizedMet enc Tryz.prog Tryz.f4 (OpenSpec.ofChange Rows.fnBreaksSpec) false w args)
   (Rows.fnBreaksSpec.post enc Tryz.prog Tryz.f4 false true false false):=
 law_returns_and (C:=Tryz.checked) (X:=λw _=>laidMetH Tryz.prog Rows.fnBreaksRow.laid w) (λ_ _ _ hh h=>h.of_heap hh) (λW args h=>env_of_laid h) Tryz.own u (by kernel_rfl) Tryz.func4
  (ChangeSpec.witness_shaped (enc:=enc) (C:=Tryz.checked) (os:=os) (X:=λw _=>laidMetH Tryz.prog Rows.fnBreaksRow.laid w) false (World.doorLaid Tryz.prog 24 os) #[.slice none 0 0] 8 rfl (World.shaped_of_RefB (by kernel_rfl) (by kernel_rfl)) (by kernel_rfl) (by kernel_rfl) (by kernel_rfl) (breaks_door os _))
  Tryz.laidOut (by kernel_rfl) rfl Tryz.underlying4 rfl (λG h=>by match G,h with | [_],_=>exact⟨rfl,rfl,rfl⟩)
  (Args.cons (Arg.slice Tryz.underlying50 oBytes) Args.nil) (λa=>by
    have h:=law_FnBreaks (a.1.1.map λn=>n.1) (λx I=>by obtain⟨n,_,rfl⟩:=BG.1 I;exact U8_in n) (by simpa using a.1.2);rw[E_map] at h;exact h)
theorem breaks_row:Rows.FnBreaksSaid:=
 OpenClaim.holds_of_wide 4 Tryz.f4 rfl rfl rfl rfl rfl rfl rfl ⟨rfl,rfl,rfl,rfl,rfl⟩ rfl rfl rfl rfl rfl (by kernel_rfl) Tryz.func4 (by kernel_rfl)
  (Cu (by kernel_rfl)) (by unfold Func.isWrapper;first|(rw[AY (by decide +kernel)];kernel_rfl)|(rw[AJ (by decide +kernel)];exact⟨rfl,rfl⟩))
  (λos u H enc _=>breaks_lifted os u H enc)
theorem breaks_holds:Rows.FnBreaksCardSaid:=
 Claim7.holds_tied_plain_at .later [] [.data,.data,.data] true _ false breaks_row (λ_ h=>by cases h) (by kernel_rfl) (λ_ h=>by cases h) fnBreaks_row_tie rfl ⟨rfl,rfl⟩ (by kernel_rfl) rfl
  (λf fn J H=>by
    obtain rfl:f=4:=Av ((by kernel_rfl:Tryz.prog.funcNamed Rows.fnBreaksRow.func=some 4).symm.trans J) |>.symm;obtain rfl:fn=Tryz.f4:=(Av (Tryz.func4.symm.trans H)).symm
    exact ⟨by kernel_rfl,λj t I=>by
      rw[show Tryz.f4.params=#[50] from rfl] at I;have L:t∈[50]:=by simpa using Array.mem_of_getElem? I
      have G:([50].all λu=>!Tryz.prog.wantsStandIn u)=true:=by kernel_rfl
      exact(show Tryz.prog.wantsStandIn t=false by simpa using Aw.1 G t L)⟩)
  (by kernel_rfl)
#print axioms breaks_holds
end Go.Proofs.YtmiiohemehacjaaGreatDoor
