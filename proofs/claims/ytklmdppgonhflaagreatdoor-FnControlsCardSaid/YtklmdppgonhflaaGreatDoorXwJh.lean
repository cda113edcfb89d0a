/- The law FnControls returns true for every input, and its argument reads behind the call as it read before. Conditions: the table of the powers of ten and two variables of strconv, which the library's text lays and the card ties; the library's own variable of a number holds some number, by the world's shape. -/
import Derived.Test.YtklmdppgonhflaaGreatDoorVsI
import Derived.Test.YtklmdppgonhflaaGreatDoorXwJg
import Derived.Test.YtklmdppgonhflaaGreatDoorXuO
import Derived.Test.YtklmdppgonhflaaGreatDoorVtR
import Derived.Test.YtklmdppgonhflaaGreatDoorVuL
import Derived.Test.YtklmdppgonhflaaGreatDoorCards
import Derived.Test.YtklmdppgonhflaaGreatDoorTie
import Derived.SevenTiedAt
import Derived.Shelf.Vars
import Derived.Stop.LaidErr
import Derived.Lay
set_option linter.all false
set_option maxHeartbeats 8000000
namespace Go.Proofs.YtklmdppgonhflaaGreatDoor
open Go.Vs Go.ChangeShapes Go.WideShapes Go.ChangeAt Go.RowKit
@[reducible] def RDI : Vs.Envs := ⟨[(0, Vs.powP), (1, pI), (2, pE), (3, pE)]⟩
local instance rdInst : Rd := { toTab := { toEnvs := RDI, has := λS w h => h (0, Vs.powP) (List.Mem.head _) }, mx := λS w h => h (1, pI) (.tail _ (.head _)), syn := λS w h => h (2, pE) (.tail _ (.tail _ (.head _))), rng := λS w h => h (3, pE) (.tail _ (.tail _ (.tail _ (.head _)))) }
attribute [local irreducible] Vs.Fn
theorem rowE (u:TypeId) (h:Tryz.prog.typeName? 3 u=some "*errors.errorString"):u=231:=
 have F:"*" ++ "errors.errorString" = "*errors.errorString":=by decide
 typeName_ptr_named (nm:="errors.errorString") (by rw[F];kernel_rfl) (by kernel_rfl) (by decide) u (by rw[F];exact h)
theorem pE_of {W:World}{n:String}{g:Nat}{tp:TypeId}{a:Addr} (G:Tryz.prog.globalNamed n=some g) (h:W.var? Tryz.prog n=some #[.iface tp (.pointer (some a))]):g<W.heap.size∧pE W.heap[g]?:=by
 unfold World.var? at h;rw[G] at h;simp only[CQ] at h;split at h
 .rename_i cs T fr F;obtain rfl:=Ay h;refine⟨?_,_,T,fr,tp,_,F,rfl⟩;rcases Db g W.heap.size with hlt|hge
  .exact hlt
  .rw[Array.getElem?_eq_none hge] at F;cases F
 .cases h
set_option maxRecDepth 100000 in
theorem env_of_laid {W:World} (V:laidMetH Tryz.prog Rows.fnControlsRow.laid W) (O:W.ShapedOpen Tryz.prog):@Vs.Env RDI (λb=>b<W.heap.size) W:=by
 have h:laidMet Tryz.prog Rows.fnControlsRow.laid W:=by
  rw[←MakeChecks.laidMetH_plain _ _ _ (by kernel_rfl)];exact V
 have U:=laidMet.tail (laidMet.tail h);have H:=laidMet.tail (laidMet.tail U);have M:=laidMet.tail H;have hi:=Lib.tabIs_of_head (k:=.u64) (zs:=Lib.pow10Tab) (g:=0) (t:=198) (e:=92) (n:=20) (by kernel_rfl) (by kernel_rfl) Tryz.underlying198 Tryz.underlying92 (by kernel_rfl) (by kernel_rfl) U;obtain⟨a1,s1,q1,_⟩:=laid_sentinel (g:=3) (ti:=120) (tp:=231) (te:=233) (ts:=9) H (by kernel_rfl) (by kernel_rfl) Tryz.underlying120 rowE Tryz.underlying231 Tryz.underlying233 (by kernel_rfl) (by kernel_rfl) Tryz.underlying9 (by kernel_rfl) (by kernel_rfl);obtain⟨a2,s2,q2,_⟩:=laid_sentinel (g:=2) (ti:=120) (tp:=231) (te:=233) (ts:=9) M (by kernel_rfl) (by kernel_rfl) Tryz.underlying120 rowE Tryz.underlying231 Tryz.underlying233 (by kernel_rfl) (by kernel_rfl) Tryz.underlying9 (by kernel_rfl) (by kernel_rfl);have Y:=pE_of (g:=3) (by kernel_rfl) q1;have Z:=pE_of (g:=2) (by kernel_rfl) q2;obtain⟨m,I⟩:=Go.Proofs.cell_of_shapedOpen_int (g:=1) (t:=3) (k:=.i64) O (BK (by kernel_rfl)) (zero:=#[.int .i64 0]) (by kernel_rfl) rfl (by kernel_rfl) (by kernel_rfl) Tryz.underlying3;intro p J;have J:p∈[((0:Nat),Vs.powP),(1,pI),(2,pE),(3,pE)]:=J;simp only[Am,Ak,AR] at J;rcases J with rfl|rfl|rfl|rfl
 .unfold Lib.TabIs World.var? at hi;have G:=(Cm (λo=>Option.bind o _) (by kernel_rfl:Tryz.prog.globalNamed _=some 0)).symm.trans hi;simp only[CQ] at G;split at G
  .rename_i cs T fr F;obtain rfl:=Ay G;refine⟨?_,T,fr,F⟩;rcases Db 0 W.heap.size with hlt|hge
   .exact hlt
   .rw[Array.getElem?_eq_none hge] at F;cases F
  .cases G
 .unfold World.cell? at I;split at I
  .rename_i cs T fr F;refine⟨?_,cs,T,fr,m,F,by simpa using I⟩;rcases Db 1 W.heap.size with hlt|hge
   .exact hlt
   .rw[Array.getElem?_eq_none hge] at F;cases F
  .cases I
 .exact Z
 .exact Y
abbrev U8:={n:Int // (Lit.int .u8 n).wf=true}
theorem U8_in (n:U8):0<=n.1∧n.1<=255:=by
 have h:=n.2;simp only[Lit.wf,Aw,Bb] at h;have F:IntKind.u8.min=0:=by decide
 have G:IntKind.u8.max=255:=by decide
 omega
theorem oU8:Opens Tryz.prog 5 1 (λn:U8=>[.v (.int .u8 n.1)]):=Opens.int Tryz.underlying5 (by kernel_rfl)
theorem oBytes:Opens Tryz.prog 22 1 (λl:{l:List U8 // l.length<2 ^ 63}=>[.sl 1 (l.1.map (λn:U8=>[.v (.int .u8 n.1)]))]):=Opens.slice Tryz.underlying22 (by kernel_rfl) (by decide) oU8
set_option maxRecDepth 100000 in
theorem controls_door (os:Os) (args:Array Value):laidMetH Tryz.prog Rows.fnControlsRow.laid ((World.laidAll Tryz.prog os Rows.fnControlsRow.laid).forCall (λ_ _=>0) ⟨#[],args,[]⟩).memory:=by
 rw[MakeChecks.laidMetH_plain _ _ _ (by kernel_rfl)];exact laidMet_laidAll _ (by kernel_rfl) (by kernel_rfl)
set_option maxRecDepth 100000 in
theorem controls_lifted (os:Os) (G:os.Started) (H:Type) (enc:TypeId×Value->H) :
  ReturnsInHanded {} Tryz.checked os F.l_FnControls .any (λw args=>(Rows.fnControlsSpec.pre enc Tryz.prog Tryz.f3 Rows.fnControlsRow.domain false w args∧laidMetH Tryz.prog Rows.fnControlsRow.laid w)∧sizedMet enc Tryz.prog Tryz.f3 (OpenSpec.ofChange Rows.fnControlsSpec) false w args)
   (Rows.fnControlsSpec.post enc Tryz.prog Tryz.f3 false true false false):=
 law_returns_sh (C:=Tryz.checked) (X:=λw _=>laidMetH Tryz.prog Rows.fnControlsRow.laid w) (λ_ _ _ hh h=>h.of_heap hh) (λW args h I=>env_of_laid h I) Tryz.own G (by kernel_rfl) Tryz.func3
  (ChangeSpec.witness_shaped (enc:=enc) (C:=Tryz.checked) (os:=os) (X:=λw _=>laidMetH Tryz.prog Rows.fnControlsRow.laid w) false (World.laidAll Tryz.prog os Rows.fnControlsRow.laid) #[.slice none 0 0] 8 (World.laidAll_os _ _ _) (World.shaped_of_ZipB (by kernel_rfl) (by kernel_rfl)) (by kernel_rfl) (by kernel_rfl) (by kernel_rfl) (controls_door os _))
  Tryz.laidOut (by kernel_rfl) rfl Tryz.underlying4 rfl (λJ h=>by match J,h with | [_],_=>exact⟨rfl,rfl,rfl⟩)
  (Args.cons (Arg.slice Tryz.underlying22 oBytes) Args.nil) (λa=>by
    have h:=law_FnControls (a.1.1.map λn=>n.1) (λx M=>by obtain⟨n,_,rfl⟩:=Bq.1 M;exact U8_in n) (by simpa using a.1.2);rw[E_map] at h;exact h)
theorem controls_row:Rows.FnControlsSaid:=
 OpenClaim.holds_of_wide 3 Tryz.f3 rfl rfl rfl rfl rfl rfl rfl ⟨rfl,rfl,rfl,rfl,rfl⟩ rfl rfl rfl rfl rfl (by kernel_rfl) Tryz.func3 (by kernel_rfl)
  (BK (by kernel_rfl)) (by unfold Func.isWrapper;first|(rw[AP (by decide +kernel)];kernel_rfl)|(rw[AC (by decide +kernel)];exact⟨rfl,rfl⟩))
  (λos F H enc _=>controls_lifted os F H enc)
theorem controls_holds:Rows.FnControlsCardSaid:=
 Claim7.holds_tied_plain_at .later [] [.data,.data,.data,.data,.sentinel,.sentinel,.pinned] true _ true controls_row (λ_ h=>by cases h) (by kernel_rfl) (λ_ h=>by cases h) fnControls_row_tie rfl ⟨rfl,rfl⟩ (by kernel_rfl) rfl
  (λf fn I G=>by
    obtain rfl:f=3:=Ay ((by kernel_rfl:Tryz.prog.funcNamed Rows.fnControlsRow.func=some 3).symm.trans I) |>.symm;obtain rfl:fn=Tryz.f3:=(Ay (Tryz.func3.symm.trans G)).symm
    exact ⟨by kernel_rfl,λj t H=>by
      rw[show Tryz.f3.params=#[22] from rfl] at H;have J:t∈[22]:=by simpa using Array.mem_of_getElem? H
      have F:([22].all λu=>!Tryz.prog.wantsStandIn u)=true:=by kernel_rfl
      exact(show Tryz.prog.wantsStandIn t=false by simpa using Az.1 F t J)⟩)
  (by kernel_rfl)
#print axioms controls_holds
end Go.Proofs.YtklmdppgonhflaaGreatDoor
