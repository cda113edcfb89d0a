/- The rules by which a walk is run; the forms of a call. -/
import Derived.Test.YtkgeiaideklmoaaGreatVsZ
import Derived.Attr
set_option linter.all false
set_option maxHeartbeats 8000000
namespace Go.Vs
variable [Envs]
variable {P:Program}
theorem aB.pure {f:FuncId}{ys:List AV}{L:List Name}{d:Option Nat}{σ:St}{B:List Name}{K:St->Prop}{t:Tag K}{r:AV} (F:Fn P f [] ys r [])
  (H:K ⟨put d (rn (phi B (d.getD 0) 0) r) σ.s,zU σ.h B (d.getD 0) [] true L⟩):aB P f [] ys L d σ B K t:=
 ⟨r,[],true,F,λh=>(by cases h),rfl,H⟩
theorem aB.flat {f:FuncId}{ys:List AV}{L:List Name}{d:Option Nat}{σ:St}{B:List Name}{K:St->Prop}{t:Tag K}{r:AV} (F:Fn P f [] ys r []) (I:flat r=true)
  (H:K ⟨put d (rn (phi B (d.getD 0) 0) r) σ.s,zU σ.h B (d.getD 0) [] false L⟩):aB P f [] ys L d σ B K t:=
 ⟨r,[],false,F,λ_=>.inr ⟨I,by simp⟩,rfl,H⟩
theorem cZ.fn0 {f:FuncId}{fn:Func}{ac:aD} (h:cZ P f fn ac) (J:P.follows .mixedOrders=true) {args:List AV}{r:AV}{nt:Nat}{rs:List ResultVar} (H:fn.ntmps=nt) (I:fn.results.toList=rs)
  (F:Nat.ble args.length nt=true)
  (L:∀C:Ctx,wpc P C (aW P) ac (aB3 P rs [] r []) (λe σ=>match e with|.ret=>aB3 P rs [] r [] σ|.exit _=>False) ⟨ini 0 args,[]⟩) :
  Fn P f [] args r []:=
 h.fn J (hin:=[]) nt rs [] [] H I rfl (Bc F) rfl (by simp) L
theorem bN {x r:AV} (h:x=r):∃F H,some (x,([]:List Name))=some (r,F)∧some (([]:List Blk),([]:List Name))=some ([],H):=⟨[],[],by rw[h],rfl⟩
theorem aR {n:Int} (I:-9223372036854775808<=n) (h2:n<=9223372036854775807):IntKind.i64.wrap n=n:=by
 simp only[IntKind.wrap,IntKind.bits,IntKind.signed];have F:(2:Int) ^ 64=18446744073709551616:=by decide
 have H:(2:Int) ^ (64-1)=9223372036854775808:=by decide
 simp only[F,H,CX,Bb];split<;>omega
attribute [go_sem ↓] wpc vc bP rd al
attribute [go_sem] sM look put aAU evO AV.ofValue AV.mk aB3 dQ qX dU ini aBt aGu zS aBF conv wX aA aDn aGt fD
 rn rnL zU sP aDZ nodupB lH fK Blk.fz AV.has phi rnB frz aGx kW oQ Value.oneCell' Blk.row Blk.setRow lay layAll hset Blk.has nZ dA pI rowsOf
 BrW aM1 aLL aAp aIb nN nmF bT Name.isT kT aQ bW scr rF aBY qD eqC eqV sO sF l8 lU AV.ofValue Blk.okc Blk.k
 List.map BG Be Ai Ae Ah Ab Bg BK DL List.drop List.take List.headD List.set Aw A9
 Ce Option.getD_none CQ AU Option.map_none Bool.and_self Cr BZ bne_self_eq_false AR Bool.and_true CX Bool.and_false Bool.false_and Bool.or_false Di Bool.or_true Bool.true_or
 Ci and_true and_false false_and forall_const false_implies BU Ct Ar Dh BP Name.t.injEq decide_false decide_true List.range_zero
def FZ (z:Bool) (L:List Name) (r:AV):Prop:=z=false->L=[]∨flat r=true
theorem FZ.n {r:AV}:FZ false [] r:=λ_=>.inl rfl
theorem FZ.f {L:List Name}{r:AV} (h:flat r=true):FZ false L r:=λ_=>.inr h
theorem FZ.t {L:List Name}{r:AV}:FZ true L r:=λh=>(by cases h)
theorem aB.c {f:FuncId}{ys:List AV}{L:List Name}{d:Option Nat}{σ:St}{B:List Name}{K:St->Prop}{t:Tag K}{r:AV}{z:Bool} (F:Fn P f [] ys r [])
 (H:K ⟨put d (rn (phi B (d.getD 0) 0) r) σ.s,zU σ.h B (d.getD 0) [] z L⟩) (I:FZ z L r:=by first|exact FZ.n|exact FZ.f rfl|exact FZ.t):aB P f [] ys L d σ B K t:=
 ⟨r,[],z,F,λh=>(I h).imp id λh=>⟨h,by simp⟩,rfl,H⟩
theorem aC {a b:Prop} (h:b) (F:a:=by and_intros<;>first|rfl|omega|decide):a∧b:=⟨F,h⟩
namespace Q
instance (n:Nat):OfNat Operand n:=⟨.tmp (OfNat.ofNat n)⟩
theorem tl (n:Nat):(OfNat.ofNat n:Operand)=.tmp (OfNat.ofNat n):=rfl
abbrev m (d s:Nat):aI:=⟨some d,.mv (.tmp s),none⟩
abbrev mi (d:Nat) (n:Int):aI:=⟨some d,.mv (.const (.int .i64 n)),none⟩
abbrev lf (d k a:Nat):aI:=⟨some d,.load false k (.tmp a),none⟩
abbrev lt (d k a:Nat):aI:=⟨some d,.load true k (.tmp a),none⟩
abbrev fa (d k a:Nat):aI:=⟨some d,.fieldAddr k (.tmp a),none⟩
abbrev ix (d k a b:Nat):aI:=⟨some d,.idxSl k (.tmp a) (.tmp b),none⟩
abbrev mf (d:Nat):aI:=⟨some d,.mv (.const (.bool false)),none⟩
abbrev mt (d:Nat):aI:=⟨some d,.mv (.const (.bool true)),none⟩
abbrev mn (d:Nat):aI:=⟨some d,.mv (.const (.slice none 0 0)),none⟩
abbrev ln (d a:Nat):aI:=⟨some d,.len (.tmp a),none⟩
abbrev ex (d a k:Nat):aI:=⟨some d,.extract (.tmp a) k,none⟩
abbrev ad (d a:Nat) (n:Int):aI:=⟨some d,.bin .add (.tmp a) (.const (.int .i64 n)),none⟩
abbrev bx (d a:Nat):aI:=⟨some d,.box (.tmp a),none⟩
abbrev ls (d a b:Nat):aI:=⟨some d,.bin .lss (.tmp a) (.tmp b),none⟩
abbrev nt (d a:Nat):aI:=⟨some d,.un .not (.tmp a),none⟩
abbrev nc (d a:Nat):aI:=⟨some d,.nilc (.tmp a),none⟩
abbrev mg (d s g:Nat) (b:Bool):aI:=⟨some d,.mv (.tmp s),some (g,b)⟩
abbrev pf (d a b:Nat):aI:=⟨some d,.pick (.tmp a) (.tmp b) (.const (.bool false)),none⟩
abbrev pt (d a b:Nat):aI:=⟨some d,.pick (.tmp a) (.const (.bool true)) (.tmp b),none⟩
abbrev en (d a:Nat) (n:Int):aI:=⟨some d,.bin .eql (.tmp a) (.const (.int .i64 n)),none⟩
abbrev ne (d a:Nat) (n:Int):aI:=⟨some d,.bin .neq (.tmp a) (.const (.int .i64 n)),none⟩
abbrev fg (d k a g:Nat) (b:Bool):aI:=⟨some d,.fieldAddr k (.tmp a),some (g,b)⟩
abbrev lg (d k a g:Nat) (b:Bool):aI:=⟨some d,.load false k (.tmp a),some (g,b)⟩
abbrev k (n:Int):Operand:=.const (.int .i64 n)
abbrev c (d:Nat) (f:FuncId) (a:List Operand):aI:=⟨some d,.call (.func f) a [],none⟩
abbrev o (d:Nat) (p:AOp):aI:=⟨some d,p,none⟩
abbrev r (a:List aI) (b d:List Nat) (e:aD):aD:=.seq (.region a b d) e
abbrev s (a:List aI) (b:List Nat) (e:aD):aD:=.seq (.region a b []) e
attribute [go_sem] tl k c o r s m mi lf lt fa ix mf mt mn ln ex ad bx ls nt nc mg pf pt en ne fg lg
end Q
end Go.Vs
