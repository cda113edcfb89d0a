/- The rules by which a walk is run; the forms of a call. -/
import Derived.Test.YtklmdppgonhflaaGreatDoorVsZ
import Derived.Attr
set_option linter.all false
set_option maxHeartbeats 8000000
namespace Go.Vs
variable [Envs]
variable {P:Program}
theorem aA.pure {f:FuncId}{ys:List AV}{L:List Name}{d:Option Nat}{σ:St}{B:List Name}{K:St->Prop}{t:Tag K}{r:AV} (F:Fn P f [] ys r [])
  (G:K ⟨put d (rn (phi B (d.getD 0) 0) r) σ.s,yA σ.h B (d.getD 0) [] true L⟩):aA P f [] ys L d σ B K t:=
 ⟨r,[],true,F,λh=>(by cases h),rfl,G⟩
theorem aA.flat {f:FuncId}{ys:List AV}{L:List Name}{d:Option Nat}{σ:St}{B:List Name}{K:St->Prop}{t:Tag K}{r:AV} (F:Fn P f [] ys r []) (H:flat r=true)
  (G:K ⟨put d (rn (phi B (d.getD 0) 0) r) σ.s,yA σ.h B (d.getD 0) [] false L⟩):aA P f [] ys L d σ B K t:=
 ⟨r,[],false,F,λ_=>.inr ⟨H,by simp⟩,rfl,G⟩
theorem l7.fn0 {f:FuncId}{fn:Func}{ac:aD} (h:l7 P f fn ac) (I:P.follows .mixedOrders=true) {args:List AV}{r:AV}{nt:Nat}{rs:List ResultVar} (G:fn.ntmps=nt) (H:fn.results.toList=rs)
  (F:Nat.ble args.length nt=true)
  (J:∀C:Ctx,wpc P C (dF P) ac (sZ P rs [] r []) (λe σ=>match e with|.ret=>sZ P rs [] r [] σ|.exit _=>False) ⟨ini 0 args,[]⟩) :
  Fn P f [] args r []:=
 h.fn I (hin:=[]) nt rs [] [] G H rfl (Bd F) rfl (by simp) J
theorem aR {x r:AV} (h:x=r):∃L1 L2,some (x,([]:List Name))=some (r,L1)∧some (([]:List Blk),([]:List Name))=some ([],L2):=⟨[],[],by rw[h],rfl⟩
theorem aI {n:Int} (H:-9223372036854775808<=n) (h2:n<=9223372036854775807):IntKind.i64.wrap n=n:=by
 simp only[IntKind.wrap,IntKind.bits,IntKind.signed];have F:(2:Int) ^ 64=18446744073709551616:=by decide
 have G:(2:Int) ^ (64-1)=9223372036854775808:=by decide
 simp only[F,G,CW,Bb];split<;>omega
attribute [go_sem ↓] wpc vc bP rd al
attribute [go_sem] tF look put xS evO AV.ofValue AV.mk sZ aAC aHh yP ini xZ aGV aAs aB6 conv rP aB aDZ aGU dG
 rn rnL yA tK aEu nodupB lK jV Blk.fz AV.has phi rnB frz aGY lV tH Value.oneCell' Blk.row Blk.setRow lay layAll hset Blk.has mD nQ uV rowsOf
 BrW aNB aMj aFD aIu uS nmF dA Name.isT jB aS iR scr aBI aCv qQ eqC eqV tJ bF aU aT AV.ofValue Blk.okc Blk.k
 List.map BG Be Aj Ae Ai Ac Bh BJ DL List.drop List.take List.headD List.set Ar AY
 Cc Option.getD_none CQ AU Option.map_none Bool.and_self Cs BV bne_self_eq_false AO Bool.and_true CW Bool.and_false Bool.false_and Bool.or_false Di Bool.or_true Bool.true_or
 Ck and_true and_false false_and forall_const false_implies Ca Cu Au Dh BR Name.t.injEq decide_false decide_true List.range_zero
def FZ (z:Bool) (L:List Name) (r:AV):Prop:=z=false->L=[]∨flat r=true
theorem FZ.n {r:AV}:FZ false [] r:=λ_=>.inl rfl
theorem FZ.f {L:List Name}{r:AV} (h:flat r=true):FZ false L r:=λ_=>.inr h
theorem FZ.t {L:List Name}{r:AV}:FZ true L r:=λh=>(by cases h)
theorem aA.c {f:FuncId}{ys:List AV}{L:List Name}{d:Option Nat}{σ:St}{B:List Name}{K:St->Prop}{t:Tag K}{r:AV}{z:Bool} (F:Fn P f [] ys r [])
 (H:K ⟨put d (rn (phi B (d.getD 0) 0) r) σ.s,yA σ.h B (d.getD 0) [] z L⟩) (I:FZ z L r:=by first|exact FZ.n|exact FZ.f rfl|exact FZ.t):aA P f [] ys L d σ B K t:=
 ⟨r,[],z,F,λh=>(I h).imp id λh=>⟨h,by simp⟩,rfl,H⟩
class AndC (G:Prop) (a b:outParam Prop):Prop where
 out:a->b->G
instance {a b:Prop}:AndC (a∧b) a b:=⟨And.intro⟩
instance {b:Bool}{A X:Prop}{t:Tag (b,A,X)}:AndC (RgK b A X t) (b=true) A:=⟨RgK.mk⟩
theorem aC9 {a b:Prop} (h:b) (F:a:=by and_intros<;>first|rfl|omega|decide):a∧b:=⟨F,h⟩
theorem aC {G a b:Prop} [AndC G a b] (h:b) (F:a:=by and_intros<;>first|rfl|omega|decide):G:=AndC.out F h
namespace Q
instance (n:Nat):OfNat Operand n:=⟨.tmp (OfNat.ofNat n)⟩
theorem tl (n:Nat):(OfNat.ofNat n:Operand)=.tmp (OfNat.ofNat n):=rfl
abbrev m (d s:Nat):aM:=⟨some d,.mv (.tmp s),none⟩
abbrev mi (d:Nat) (n:Int):aM:=⟨some d,.mv (.const (.int .i64 n)),none⟩
abbrev lf (d k a:Nat):aM:=⟨some d,.load false k (.tmp a),none⟩
abbrev lt (d k a:Nat):aM:=⟨some d,.load true k (.tmp a),none⟩
abbrev fa (d k a:Nat):aM:=⟨some d,.fieldAddr k (.tmp a),none⟩
abbrev ix (d k a b:Nat):aM:=⟨some d,.idxSl k (.tmp a) (.tmp b),none⟩
abbrev mf (d:Nat):aM:=⟨some d,.mv (.const (.bool false)),none⟩
abbrev mt (d:Nat):aM:=⟨some d,.mv (.const (.bool true)),none⟩
abbrev mn (d:Nat):aM:=⟨some d,.mv (.const (.slice none 0 0)),none⟩
abbrev ln (d a:Nat):aM:=⟨some d,.len (.tmp a),none⟩
abbrev ex (d a k:Nat):aM:=⟨some d,.extract (.tmp a) k,none⟩
abbrev ad (d a:Nat) (n:Int):aM:=⟨some d,.bin .add (.tmp a) (.const (.int .i64 n)),none⟩
abbrev bx (d a:Nat):aM:=⟨some d,.box (.tmp a),none⟩
abbrev ls (d a b:Nat):aM:=⟨some d,.bin .lss (.tmp a) (.tmp b),none⟩
abbrev nt (d a:Nat):aM:=⟨some d,.un .not (.tmp a),none⟩
abbrev nc (d a:Nat):aM:=⟨some d,.nilc (.tmp a),none⟩
abbrev mg (d s g:Nat) (b:Bool):aM:=⟨some d,.mv (.tmp s),some (g,b)⟩
abbrev pf (d a b:Nat):aM:=⟨some d,.pick (.tmp a) (.tmp b) (.const (.bool false)),none⟩
abbrev pt (d a b:Nat):aM:=⟨some d,.pick (.tmp a) (.const (.bool true)) (.tmp b),none⟩
abbrev en (d a:Nat) (n:Int):aM:=⟨some d,.bin .eql (.tmp a) (.const (.int .i64 n)),none⟩
abbrev ne (d a:Nat) (n:Int):aM:=⟨some d,.bin .neq (.tmp a) (.const (.int .i64 n)),none⟩
abbrev fg (d k a g:Nat) (b:Bool):aM:=⟨some d,.fieldAddr k (.tmp a),some (g,b)⟩
abbrev lg (d k a g:Nat) (b:Bool):aM:=⟨some d,.load false k (.tmp a),some (g,b)⟩
abbrev k (n:Int):Operand:=.const (.int .i64 n)
abbrev c (d:Nat) (f:FuncId) (a:List Operand):aM:=⟨some d,.call (.func f) a [],none⟩
abbrev o (d:Nat) (p:AOp):aM:=⟨some d,p,none⟩
abbrev r (a:List aM) (b d:List Nat) (e:aD):aD:=.seq (.region a b d) e
abbrev s (a:List aM) (b:List Nat) (e:aD):aD:=.seq (.region a b []) e
attribute [go_sem] tl k c o r s m mi lf lt fa ix mf mt mn ln ex ad bx ls nt nc mg pf pt en ne fg lg
end Q
end Go.Vs
