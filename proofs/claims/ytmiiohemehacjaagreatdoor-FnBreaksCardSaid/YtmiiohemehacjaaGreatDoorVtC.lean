/- The rules by which a walk is run; the forms of a call. -/
import Derived.Test.YtmiiohemehacjaaGreatDoorVsZ
import Derived.Attr
set_option linter.all false
set_option maxHeartbeats 8000000
namespace Go.Vs
variable [Envs]
variable {P:Program}
theorem aA.pure {f:FuncId}{ys:List AV}{L:List Name}{d:Option Nat}{σ:St}{B:List Name}{K:St->Prop}{t:Tag K}{r:AV} (u:Fn P f [] ys r [])
  (F:K ⟨put d (rn (phi B (d.getD 0) 0) r) σ.s,xB σ.h B (d.getD 0) [] true L⟩):aA P f [] ys L d σ B K t:=
 ⟨r,[],true,u,λh=>(by cases h),rfl,F⟩
theorem aA.flat {f:FuncId}{ys:List AV}{L:List Name}{d:Option Nat}{σ:St}{B:List Name}{K:St->Prop}{t:Tag K}{r:AV} (u:Fn P f [] ys r []) (G:flat r=true)
  (F:K ⟨put d (rn (phi B (d.getD 0) 0) r) σ.s,xB σ.h B (d.getD 0) [] false L⟩):aA P f [] ys L d σ B K t:=
 ⟨r,[],false,u,λ_=>.inr ⟨G,by simp⟩,rfl,F⟩
theorem l8.fn0 {f:FuncId}{fn:Func}{ac:aF} (h:l8 P f fn ac) (H:P.follows .mixedOrders=true) {args:List AV}{r:AV}{nt:Nat}{rs:List ResultVar} (F:fn.ntmps=nt) (G:fn.results.toList=rs)
  (u:Nat.ble args.length nt=true)
  (I:∀C:Ctx,wpc P C (fK P) ac (aAQ P rs [] r []) (λe σ=>match e with|.ret=>aAQ P rs [] r [] σ|.exit _=>False) ⟨ini 0 args,[]⟩) :
  Fn P f [] args r []:=
 h.fn H (hin:=[]) nt rs [] [] F G rfl (Cq u) rfl (by simp) I
theorem aU {x r:AV} (h:x=r):∃L1 L2,some (x,([]:List Name))=some (r,L1)∧some (([]:List Blk),([]:List Name))=some ([],L2):=⟨[],[],by rw[h],rfl⟩
theorem aM {n:Int} (G:-9223372036854775808<=n) (h2:n<=9223372036854775807):IntKind.i64.wrap n=n:=by
 simp only[IntKind.wrap,IntKind.bits,IntKind.signed];have u:(2:Int) ^ 64=18446744073709551616:=by decide
 have F:(2:Int) ^ (64-1)=9223372036854775808:=by decide
 simp only[u,F,CX,Bb];split<;>omega
attribute [go_sem ↓] wpc vc bN rd al
attribute [go_sem] rP look put wT evO AV.ofValue AV.mk aAQ aCN aIo aCX ini xW aGe zU aBI conv vO aB aDA aGd dF
 rn rnL xB rU aD1 nodupB kJ fU Blk.fz AV.has phi rnB frz aGh kR rQ Value.oneCell' Blk.row Blk.setRow lay layAll hset Blk.has lJ mV tZ rowsOf
 BrW aL9 aK2 aE4 aHB oU nmF dE Name.isT iR aT iK scr aBl aB9 pJ eqC eqV rT bG aX aW AV.ofValue Blk.okc Blk.k
 List.map AP AA Af Ad Ab Aa BC BO Dw List.drop List.take List.headD List.set Ak AB
 BS Option.getD_none Co Ba Option.map_none Bool.and_self Cb BP bne_self_eq_false A8 Bool.and_true CX Bool.and_false Dy Bool.or_false De Bool.or_true Bool.true_or
 Ci and_true and_false false_and forall_const false_implies BF Cg AL Dr Bw Name.t.injEq decide_false decide_true List.range_zero
def FZ (z:Bool) (L:List Name) (r:AV):Prop:=z=false->L=[]∨flat r=true
theorem FZ.n {r:AV}:FZ false [] r:=λ_=>.inl rfl
theorem FZ.f {L:List Name}{r:AV} (h:flat r=true):FZ false L r:=λ_=>.inr h
theorem FZ.t {L:List Name}{r:AV}:FZ true L r:=λh=>(by cases h)
theorem aA.c {f:FuncId}{ys:List AV}{L:List Name}{d:Option Nat}{σ:St}{B:List Name}{K:St->Prop}{t:Tag K}{r:AV}{z:Bool} (u:Fn P f [] ys r [])
 (F:K ⟨put d (rn (phi B (d.getD 0) 0) r) σ.s,xB σ.h B (d.getD 0) [] z L⟩) (H:FZ z L r:=by first|exact FZ.n|exact FZ.f rfl|exact FZ.t):aA P f [] ys L d σ B K t:=
 ⟨r,[],z,u,λh=>(H h).imp id λh=>⟨h,by simp⟩,rfl,F⟩
class AndC (G:Prop) (a b:outParam Prop):Prop where
 out:a->b->G
instance {a b:Prop}:AndC (a∧b) a b:=⟨And.intro⟩
instance {b:Bool}{A X:Prop}{t:Tag (b,A,X)}:AndC (RgK b A X t) (b=true) A:=⟨RgK.mk⟩
theorem aC {G a b:Prop} [AndC G a b] (h:b) (u:a:=by and_intros<;>first|rfl|omega|decide):G:=AndC.out u h
namespace Q
instance (n:Nat):OfNat Operand n:=⟨.tmp (OfNat.ofNat n)⟩
theorem tl (n:Nat):(OfNat.ofNat n:Operand)=.tmp (OfNat.ofNat n):=rfl
abbrev m (d s:Nat):aL:=⟨some d,.mv (.tmp s),none⟩
abbrev mi (d:Nat) (n:Int):aL:=⟨some d,.mv (.const (.int .i64 n)),none⟩
abbrev lf (d k a:Nat):aL:=⟨some d,.load false k (.tmp a),none⟩
abbrev lt (d k a:Nat):aL:=⟨some d,.load true k (.tmp a),none⟩
abbrev fa (d k a:Nat):aL:=⟨some d,.fieldAddr k (.tmp a),none⟩
abbrev ix (d k a b:Nat):aL:=⟨some d,.idxSl k (.tmp a) (.tmp b),none⟩
abbrev mf (d:Nat):aL:=⟨some d,.mv (.const (.bool false)),none⟩
abbrev mt (d:Nat):aL:=⟨some d,.mv (.const (.bool true)),none⟩
abbrev mn (d:Nat):aL:=⟨some d,.mv (.const (.slice none 0 0)),none⟩
abbrev ln (d a:Nat):aL:=⟨some d,.len (.tmp a),none⟩
abbrev ex (d a k:Nat):aL:=⟨some d,.extract (.tmp a) k,none⟩
abbrev ad (d a:Nat) (n:Int):aL:=⟨some d,.bin .add (.tmp a) (.const (.int .i64 n)),none⟩
abbrev bx (d a:Nat):aL:=⟨some d,.box (.tmp a),none⟩
abbrev ls (d a b:Nat):aL:=⟨some d,.bin .lss (.tmp a) (.tmp b),none⟩
abbrev nt (d a:Nat):aL:=⟨some d,.un .not (.tmp a),none⟩
abbrev nc (d a:Nat):aL:=⟨some d,.nilc (.tmp a),none⟩
abbrev mg (d s g:Nat) (b:Bool):aL:=⟨some d,.mv (.tmp s),some (g,b)⟩
abbrev pf (d a b:Nat):aL:=⟨some d,.pick (.tmp a) (.tmp b) (.const (.bool false)),none⟩
abbrev pt (d a b:Nat):aL:=⟨some d,.pick (.tmp a) (.const (.bool true)) (.tmp b),none⟩
abbrev en (d a:Nat) (n:Int):aL:=⟨some d,.bin .eql (.tmp a) (.const (.int .i64 n)),none⟩
abbrev ne (d a:Nat) (n:Int):aL:=⟨some d,.bin .neq (.tmp a) (.const (.int .i64 n)),none⟩
abbrev fg (d k a g:Nat) (b:Bool):aL:=⟨some d,.fieldAddr k (.tmp a),some (g,b)⟩
abbrev lg (d k a g:Nat) (b:Bool):aL:=⟨some d,.load false k (.tmp a),some (g,b)⟩
abbrev k (n:Int):Operand:=.const (.int .i64 n)
abbrev c (d:Nat) (f:FuncId) (a:List Operand):aL:=⟨some d,.call (.func f) a [],none⟩
abbrev o (d:Nat) (p:AOp):aL:=⟨some d,p,none⟩
abbrev r (a:List aL) (b d:List Nat) (e:aF):aF:=.seq (.region a b d) e
abbrev s (a:List aL) (b:List Nat) (e:aF):aF:=.seq (.region a b []) e
attribute [go_sem] tl k c o r s m mi lf lt fa ix mf mt mn ln ex ad bx ls nt nc mg pf pt en ne fg lg
end Q
end Go.Vs
