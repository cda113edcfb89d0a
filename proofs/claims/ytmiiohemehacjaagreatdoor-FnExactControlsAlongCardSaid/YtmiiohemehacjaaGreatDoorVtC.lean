/- The rules by which a walk is run; the forms of a call. -/
import Derived.Test.YtmiiohemehacjaaGreatDoorVsZ
import Derived.Attr
set_option linter.all false
set_option maxHeartbeats 8000000
namespace Go.Vs
variable [Envs]
variable {P:Program}
theorem aD.pure {f:FuncId}{ys:List AV}{L:List Name}{d:Option Nat}{σ:St}{B:List Name}{K:St->Prop}{t:Tag K}{r:AV} (F:Fn P f [] ys r [])
  (H:K ⟨put d (rn (phi B (d.getD 0) 0) r) σ.s,zD σ.h B (d.getD 0) [] true L⟩):aD P f [] ys L d σ B K t:=
 ⟨r,[],true,F,λh=>(by cases h),rfl,H⟩
theorem aD.flat {f:FuncId}{ys:List AV}{L:List Name}{d:Option Nat}{σ:St}{B:List Name}{K:St->Prop}{t:Tag K}{r:AV} (F:Fn P f [] ys r []) (I:flat r=true)
  (H:K ⟨put d (rn (phi B (d.getD 0) 0) r) σ.s,zD σ.h B (d.getD 0) [] false L⟩):aD P f [] ys L d σ B K t:=
 ⟨r,[],false,F,λ_=>.inr ⟨I,by simp⟩,rfl,H⟩
theorem bW.fn0 {f:FuncId}{fn:Func}{ac:aF} (h:bW P f fn ac) (L:P.follows .mixedOrders=true) {args:List AV}{r:AV}{nt:Nat}{F:List ResultVar} (I:fn.ntmps=nt) (J:fn.results.toList=F)
  (H:Nat.ble args.length nt=true)
  (O:∀C:Ctx,wpc P C (bG P) ac (aBN P F [] r []) (λe σ=>match e with|.ret=>aBN P F [] r [] σ|.exit _=>False) ⟨ini 0 args,[]⟩) :
  Fn P f [] args r []:=
 h.fn L (hin:=[]) nt F [] [] I J rfl (Nat.le_of_ble_eq_true H) rfl (by simp) O
theorem aU {x r:AV} (h:x=r):∃F H,some (x,([]:List Name))=some (r,F)∧some (([]:List Blk),([]:List Name))=some ([],H):=⟨[],[],by rw[h],rfl⟩
theorem aO {n:Int} (I:-9223372036854775808<=n) (h2:n<=9223372036854775807):IntKind.i64.wrap n=n:=by
 simp only[IntKind.wrap,IntKind.bits,IntKind.signed];have F:(2:Int) ^ 64=18446744073709551616:=by decide
 have H:(2:Int) ^ (64-1)=9223372036854775808:=by decide
 simp only[F,H,Bool.true_and,decide_eq_true_eq];split<;>omega
attribute [go_sem ↓] wpc vc bC rd al
attribute [go_sem] rR look put aAG evO AV.ofValue AV.mk aBN uE aDu uZ ini aBe aGm y7 aBs conv wU aB aDd aGl eG
 rn rnL zD rV aDN nodupB kL eX Blk.fz AV.has phi rnB frz aGq kG nN Value.oneCell' Blk.row Blk.setRow lay layAll hset Blk.has oD fO qA rowsOf
 BrW aMz aLl aEW aHW wD nmF bX Name.isT kE aP eU scr aA3 aBL oQ eqC eqV rU uD nC mO AV.ofValue Blk.okc Blk.k
 List.map List.flatMap_nil List.append_nil List.nil_append List.cons_append List.length_nil List.length_cons List.length_map List.all_cons List.all_nil List.drop List.take List.headD List.set List.getD_cons_zero List.getD_cons_succ
 Option.getD_some Option.getD_none Option.bind_some Option.map_some Option.map_none Bool.and_self Bool.not_false Bool.not_true bne_self_eq_false Bool.false_eq_true Bool.and_true Bool.true_and Bool.and_false Bool.false_and Bool.or_false Bool.false_or Bool.or_true Bool.true_or
 true_and and_true and_false false_and forall_const false_implies Nat.zero_add Nat.add_zero Nat.le_refl Nat.lt_irrefl Int.toNat_natCast Name.t.injEq decide_false decide_true List.range_zero
def FZ (z:Bool) (L:List Name) (r:AV):Prop:=z=false->L=[]∨flat r=true
theorem FZ.n {r:AV}:FZ false [] r:=λ_=>.inl rfl
theorem FZ.f {L:List Name}{r:AV} (h:flat r=true):FZ false L r:=λ_=>.inr h
theorem FZ.t {L:List Name}{r:AV}:FZ true L r:=λh=>(by cases h)
theorem aD.c {f:FuncId}{ys:List AV}{L:List Name}{d:Option Nat}{σ:St}{B:List Name}{K:St->Prop}{t:Tag K}{r:AV}{z:Bool} (F:Fn P f [] ys r [])
 (H:K ⟨put d (rn (phi B (d.getD 0) 0) r) σ.s,zD σ.h B (d.getD 0) [] z L⟩) (I:FZ z L r:=by first|exact FZ.n|exact FZ.f rfl|exact FZ.t):aD P f [] ys L d σ B K t:=
 ⟨r,[],z,F,λh=>(I h).imp id λh=>⟨h,by simp⟩,rfl,H⟩
theorem aC {a b:Prop} (h:b) (F:a:=by and_intros<;>first|rfl|omega|decide):a∧b:=⟨F,h⟩
namespace Q
instance (n:Nat):OfNat Operand n:=⟨.tmp (OfNat.ofNat n)⟩
theorem tl (n:Nat):(OfNat.ofNat n:Operand)=.tmp (OfNat.ofNat n):=rfl
abbrev m (d s:Nat):aJ:=⟨some d,.mv (.tmp s),none⟩
abbrev mi (d:Nat) (n:Int):aJ:=⟨some d,.mv (.const (.int .i64 n)),none⟩
abbrev lf (d k a:Nat):aJ:=⟨some d,.load false k (.tmp a),none⟩
abbrev lt (d k a:Nat):aJ:=⟨some d,.load true k (.tmp a),none⟩
abbrev fa (d k a:Nat):aJ:=⟨some d,.fieldAddr k (.tmp a),none⟩
abbrev ix (d k a b:Nat):aJ:=⟨some d,.idxSl k (.tmp a) (.tmp b),none⟩
abbrev mf (d:Nat):aJ:=⟨some d,.mv (.const (.bool false)),none⟩
abbrev mt (d:Nat):aJ:=⟨some d,.mv (.const (.bool true)),none⟩
abbrev mn (d:Nat):aJ:=⟨some d,.mv (.const (.slice none 0 0)),none⟩
abbrev ln (d a:Nat):aJ:=⟨some d,.len (.tmp a),none⟩
abbrev ex (d a k:Nat):aJ:=⟨some d,.extract (.tmp a) k,none⟩
abbrev ad (d a:Nat) (n:Int):aJ:=⟨some d,.bin .add (.tmp a) (.const (.int .i64 n)),none⟩
abbrev bx (d a:Nat):aJ:=⟨some d,.box (.tmp a),none⟩
abbrev ls (d a b:Nat):aJ:=⟨some d,.bin .lss (.tmp a) (.tmp b),none⟩
abbrev nt (d a:Nat):aJ:=⟨some d,.un .not (.tmp a),none⟩
abbrev nc (d a:Nat):aJ:=⟨some d,.nilc (.tmp a),none⟩
abbrev mg (d s g:Nat) (b:Bool):aJ:=⟨some d,.mv (.tmp s),some (g,b)⟩
abbrev pf (d a b:Nat):aJ:=⟨some d,.pick (.tmp a) (.tmp b) (.const (.bool false)),none⟩
abbrev pt (d a b:Nat):aJ:=⟨some d,.pick (.tmp a) (.const (.bool true)) (.tmp b),none⟩
abbrev en (d a:Nat) (n:Int):aJ:=⟨some d,.bin .eql (.tmp a) (.const (.int .i64 n)),none⟩
abbrev ne (d a:Nat) (n:Int):aJ:=⟨some d,.bin .neq (.tmp a) (.const (.int .i64 n)),none⟩
abbrev fg (d k a g:Nat) (b:Bool):aJ:=⟨some d,.fieldAddr k (.tmp a),some (g,b)⟩
abbrev lg (d k a g:Nat) (b:Bool):aJ:=⟨some d,.load false k (.tmp a),some (g,b)⟩
abbrev k (n:Int):Operand:=.const (.int .i64 n)
abbrev c (d:Nat) (f:FuncId) (a:List Operand):aJ:=⟨some d,.call (.func f) a [],none⟩
abbrev o (d:Nat) (p:AOp):aJ:=⟨some d,p,none⟩
abbrev r (a:List aJ) (b d:List Nat) (e:aF):aF:=.seq (.region a b d) e
abbrev s (a:List aJ) (b:List Nat) (e:aF):aF:=.seq (.region a b []) e
attribute [go_sem] tl k c o r s m mi lf lt fa ix mf mt mn ln ex ad bx ls nt nc mg pf pt en ne fg lg
end Q
end Go.Vs
