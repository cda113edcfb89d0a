/- The rules by which a walk is run; the forms of a call. -/
import Derived.Test.YtfoddghhlagenaaGreatDoorVsZ
import Derived.Attr
set_option linter.all false
set_option maxHeartbeats 8000000
namespace Go.Vs
variable [Envs]
variable {P:Program}
theorem aB.pure {f:FuncId}{ys:List AV}{L:List Name}{d:Option Nat}{σ:St}{B:List Name}{K:St->Prop}{t:Tag K}{r:AV} (hfn:Fn P f [] ys r [])
  (hK:K ⟨put d (rn (phi B (d.getD 0) 0) r) σ.s,sH σ.h B (d.getD 0) [] true L⟩):aB P f [] ys L d σ B K t:=
 ⟨r,[],true,hfn,λh=>(by cases h),rfl,hK⟩
theorem aB.flat {f:FuncId}{ys:List AV}{L:List Name}{d:Option Nat}{σ:St}{B:List Name}{K:St->Prop}{t:Tag K}{r:AV} (hfn:Fn P f [] ys r []) (hL:flat r=true)
  (hK:K ⟨put d (rn (phi B (d.getD 0) 0) r) σ.s,sH σ.h B (d.getD 0) [] false L⟩):aB P f [] ys L d σ B K t:=
 ⟨r,[],false,hfn,λ_=>.inr ⟨hL,by simp⟩,rfl,hK⟩
theorem iG.fn0 {f:FuncId}{fn:Func}{ac:aD} (h:iG P f fn ac) (hm:P.follows .mixedOrders=true) {args:List AV}{r:AV}{nt:Nat}{rs:List ResultVar} (hnt:fn.ntmps=nt) (hrs:fn.results.toList=rs)
  (hna:Nat.ble args.length nt=true)
  (hw:∀C:Ctx,wpc P C (bV P) ac (tK P rs [] r []) (λe σ=>match e with|.ret=>tK P rs [] r [] σ|.exit _=>False) ⟨ini 0 args,[]⟩) :
  Fn P f [] args r []:=
 h.fn hm (hin:=[]) nt rs [] [] hnt hrs rfl (Nat.le_of_ble_eq_true hna) rfl (by simp) hw
theorem fT {x r:AV} (h:x=r):∃L1 L2,some (x,([]:List Name))=some (r,L1)∧some (([]:List Blk),([]:List Name))=some ([],L2):=⟨[],[],by rw[h],rfl⟩
theorem aG {n:Int} (h1:-9223372036854775808<=n) (h2:n<=9223372036854775807):IntKind.i64.wrap n=n:=by
 simp only[IntKind.wrap,IntKind.bits,IntKind.signed]
 have e1:(2:Int) ^ 64=18446744073709551616:=by decide
 have e2:(2:Int) ^ (64-1)=9223372036854775808:=by decide
 simp only[e1,e2,Bool.true_and,decide_eq_true_eq]
 split<;>omega
attribute [go_sem ↓] wpc vc aV rd al
attribute [go_sem] mG look put pE evO AV.ofValue AV.mk tK tL aBl tT ini rX aA9 rG vE conv oD aA yB yF bO
 rn rnL sH mJ yZ nodupB gB gL Blk.fz AV.has phi rnB frz aBc gM mH Value.oneCell' Blk.row Blk.setRow lay layAll hset Blk.has iL fM nH rowsOf
 BrW aFx aEP aAm aB8 oJ nmF bG Name.isT iC aK dA scr rR vY kG eqC eqV mI eF bX bW AV.ofValue Blk.okc Blk.k
 List.map List.flatMap_nil List.append_nil List.nil_append List.cons_append List.length_nil List.length_cons List.length_map List.all_cons List.all_nil List.drop List.take List.headD List.set List.getD_cons_zero List.getD_cons_succ
 Option.getD_some Option.getD_none Option.bind_some Option.map_some Option.map_none Bool.and_self Bool.not_false Bool.not_true bne_self_eq_false Bool.false_eq_true Bool.and_true Bool.true_and Bool.and_false Bool.false_and Bool.or_false Bool.false_or Bool.or_true Bool.true_or
 true_and and_true and_false false_and forall_const false_implies Nat.zero_add Nat.add_zero Nat.le_refl Nat.lt_irrefl Int.toNat_natCast Name.t.injEq decide_false decide_true List.range_zero
def FZ (z:Bool) (L:List Name) (r:AV):Prop:=z=false->L=[]∨flat r=true
theorem FZ.n {r:AV}:FZ false [] r:=λ_=>.inl rfl
theorem FZ.f {L:List Name}{r:AV} (h:flat r=true):FZ false L r:=λ_=>.inr h
theorem FZ.t {L:List Name}{r:AV}:FZ true L r:=λh=>(by cases h)
theorem aB.c {f:FuncId}{ys:List AV}{L:List Name}{d:Option Nat}{σ:St}{B:List Name}{K:St->Prop}{t:Tag K}{r:AV}{z:Bool} (hfn:Fn P f [] ys r [])
 (hK:K ⟨put d (rn (phi B (d.getD 0) 0) r) σ.s,sH σ.h B (d.getD 0) [] z L⟩) (hL:FZ z L r:=by first|exact FZ.n|exact FZ.f rfl|exact FZ.t):aB P f [] ys L d σ B K t:=
 ⟨r,[],z,hfn,λh=>(hL h).imp id λh=>⟨h,by simp⟩,rfl,hK⟩
class AndC (G:Prop) (a b:outParam Prop):Prop where
 out:a->b->G
instance {a b:Prop}:AndC (a∧b) a b:=⟨And.intro⟩
instance {b:Bool}{A X:Prop}{t:Tag (b,A,X)}:AndC (RgK b A X t) (b=true) A:=⟨RgK.mk⟩
theorem aC9 {a b:Prop} (h:b) (ha:a:=by and_intros<;>first|rfl|omega|decide):a∧b:=⟨ha,h⟩
theorem aC {G a b:Prop} [AndC G a b] (h:b) (ha:a:=by and_intros<;>first|rfl|omega|decide):G:=AndC.out ha h
namespace Q
instance (n:Nat):OfNat Operand n:=⟨.tmp (OfNat.ofNat n)⟩
theorem tl (n:Nat):(OfNat.ofNat n:Operand)=.tmp (OfNat.ofNat n):=rfl
abbrev m (d s:Nat):aH:=⟨some d,.mv (.tmp s),none⟩
abbrev mi (d:Nat) (n:Int):aH:=⟨some d,.mv (.const (.int .i64 n)),none⟩
abbrev lf (d k a:Nat):aH:=⟨some d,.load false k (.tmp a),none⟩
abbrev lt (d k a:Nat):aH:=⟨some d,.load true k (.tmp a),none⟩
abbrev fa (d k a:Nat):aH:=⟨some d,.fieldAddr k (.tmp a),none⟩
abbrev ix (d k a b:Nat):aH:=⟨some d,.idxSl k (.tmp a) (.tmp b),none⟩
abbrev mf (d:Nat):aH:=⟨some d,.mv (.const (.bool false)),none⟩
abbrev mt (d:Nat):aH:=⟨some d,.mv (.const (.bool true)),none⟩
abbrev mn (d:Nat):aH:=⟨some d,.mv (.const (.slice none 0 0)),none⟩
abbrev ln (d a:Nat):aH:=⟨some d,.len (.tmp a),none⟩
abbrev ex (d a k:Nat):aH:=⟨some d,.extract (.tmp a) k,none⟩
abbrev ad (d a:Nat) (n:Int):aH:=⟨some d,.bin .add (.tmp a) (.const (.int .i64 n)),none⟩
abbrev bx (d a:Nat):aH:=⟨some d,.box (.tmp a),none⟩
abbrev ls (d a b:Nat):aH:=⟨some d,.bin .lss (.tmp a) (.tmp b),none⟩
abbrev nt (d a:Nat):aH:=⟨some d,.un .not (.tmp a),none⟩
abbrev nc (d a:Nat):aH:=⟨some d,.nilc (.tmp a),none⟩
abbrev mg (d s g:Nat) (b:Bool):aH:=⟨some d,.mv (.tmp s),some (g,b)⟩
abbrev pf (d a b:Nat):aH:=⟨some d,.pick (.tmp a) (.tmp b) (.const (.bool false)),none⟩
abbrev pt (d a b:Nat):aH:=⟨some d,.pick (.tmp a) (.const (.bool true)) (.tmp b),none⟩
abbrev en (d a:Nat) (n:Int):aH:=⟨some d,.bin .eql (.tmp a) (.const (.int .i64 n)),none⟩
abbrev ne (d a:Nat) (n:Int):aH:=⟨some d,.bin .neq (.tmp a) (.const (.int .i64 n)),none⟩
abbrev fg (d k a g:Nat) (b:Bool):aH:=⟨some d,.fieldAddr k (.tmp a),some (g,b)⟩
abbrev lg (d k a g:Nat) (b:Bool):aH:=⟨some d,.load false k (.tmp a),some (g,b)⟩
abbrev k (n:Int):Operand:=.const (.int .i64 n)
abbrev c (d:Nat) (f:FuncId) (a:List Operand):aH:=⟨some d,.call (.func f) a [],none⟩
abbrev o (d:Nat) (p:AOp):aH:=⟨some d,p,none⟩
abbrev r (a:List aH) (b d:List Nat) (e:aD):aD:=.seq (.region a b d) e
abbrev s (a:List aH) (b:List Nat) (e:aD):aD:=.seq (.region a b []) e
attribute [go_sem] tl k c o r s m mi lf lt fa ix mf mt mn ln ex ad bx ls nt nc mg pf pt en ne fg lg
end Q
end Go.Vs
