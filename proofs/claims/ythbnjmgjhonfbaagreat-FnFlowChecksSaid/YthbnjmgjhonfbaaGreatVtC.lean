/- The rules by which a walk is run; the forms of a call. -/
import Derived.Test.YthbnjmgjhonfbaaGreatVsZ
import Derived.Attr
set_option linter.all false
set_option maxHeartbeats 8000000
namespace Go.Vs
variable [Envs]
variable {P:Program}
theorem aA.pure {f:FuncId}{ys:List AV}{L:List Name}{d:Option Nat}{σ:St}{B:List Name}{K:St→Prop}{t:Tag K}{r:AV} (hfn:Fn P f [] ys r [])
  (hK:K ⟨put d (rn (phi B (d.getD 0) 0) r) σ.s,xR σ.h B (d.getD 0) [] true L⟩):aA P f [] ys L d σ B K t:=
 ⟨r,[],true,hfn,fun h=>(by cases h),rfl,hK⟩
theorem aA.flat {f:FuncId}{ys:List AV}{L:List Name}{d:Option Nat}{σ:St}{B:List Name}{K:St→Prop}{t:Tag K}{r:AV} (hfn:Fn P f [] ys r []) (hL:flat r=true)
  (hK:K ⟨put d (rn (phi B (d.getD 0) 0) r) σ.s,xR σ.h B (d.getD 0) [] false L⟩):aA P f [] ys L d σ B K t:=
 ⟨r,[],false,hfn,fun _=>.inr ⟨hL,by simp⟩,rfl,hK⟩
theorem kC.fn0 {f:FuncId}{fn:Func}{ac:aD} (h:kC P f fn ac) (hm:P.follows .mixedOrders=true) {args:List AV}{r:AV}{nt:Nat}{rs:List ResultVar} (hnt:fn.ntmps=nt) (hrs:fn.results.toList=rs)
  (hna:Nat.ble args.length nt=true)
  (hw:∀C:Ctx,wpc P C (iL P) ac (wQ P rs [] r []) (fun e σ=>match e with|.ret=>wQ P rs [] r [] σ|.exit _=>False) ⟨ini 0 args,[]⟩) :
  Fn P f [] args r []:=
 h.fn hm (hin:=[]) nt rs [] [] hnt hrs rfl (Nat.le_of_ble_eq_true hna) rfl (by simp) hw
theorem aO {x r:AV} (h:x=r):∃L1 L2,some (x,([]:List Name))=some (r,L1)∧some (([]:List Blk),([]:List Name))=some ([],L2):=⟨[],[],by rw[h],rfl⟩
theorem aR {n:Int} (h1:-9223372036854775808≤n) (h2:n≤9223372036854775807):IntKind.i64.wrap n=n:=by
 simp only[IntKind.wrap,IntKind.bits,IntKind.signed];have e1:(2:Int) ^ 64=18446744073709551616:=by decide
 have e2:(2:Int) ^ (64-1)=9223372036854775808:=by decide
 simp only[e1,e2,Bool.true_and,decide_eq_true_eq];split<;>omega
attribute [go_sem ↓] wpc vc bK rd al
attribute [go_sem] rC look put aAo evO AV.ofValue AV.mk wQ aHo resV aEF ini aAq aFm yL aA4 conv uS aB aCA aFl fB
 rn rnL xR rG aC7 nodupB kG fJ Blk.fz AV.has phi rnB frz aFp jZ rD Value.oneCell' Blk.row Blk.setRow lay layAll hset Blk.has nH o7 sV rowsOf
 BrW aLk aJ4 aEd aGE vB nmF dE Name.isT jL aQ o6 scr aBp aBo p8 eqC eqV rE bO bC bB AV.ofValue Blk.okc Blk.k
 List.map List.flatMap_nil List.append_nil List.nil_append List.cons_append List.length_nil List.length_cons List.length_map List.all_cons List.all_nil List.drop List.take List.headD List.set List.getD_cons_zero List.getD_cons_succ
 Option.getD_some Option.getD_none Option.bind_some Option.map_some Option.map_none Bool.and_self Bool.not_false Bool.not_true bne_self_eq_false Bool.false_eq_true Bool.and_true Bool.true_and Bool.and_false Bool.false_and Bool.or_false Bool.false_or Bool.or_true Bool.true_or
 true_and and_true and_false false_and forall_const false_implies Nat.zero_add Nat.add_zero Nat.le_refl Nat.lt_irrefl Int.toNat_natCast Name.t.injEq decide_false decide_true List.range_zero
def FZ (z:Bool) (L:List Name) (r:AV):Prop:=z=false→L=[]∨flat r=true
theorem FZ.n {r:AV}:FZ false [] r:=fun _=>.inl rfl
theorem FZ.f {L:List Name}{r:AV} (h:flat r=true):FZ false L r:=fun _=>.inr h
theorem FZ.t {L:List Name}{r:AV}:FZ true L r:=fun h=>(by cases h)
theorem aA.c {f:FuncId}{ys:List AV}{L:List Name}{d:Option Nat}{σ:St}{B:List Name}{K:St→Prop}{t:Tag K}{r:AV}{z:Bool} (hfn:Fn P f [] ys r [])
 (hK:K ⟨put d (rn (phi B (d.getD 0) 0) r) σ.s,xR σ.h B (d.getD 0) [] z L⟩) (hL:FZ z L r:=by first|exact FZ.n|exact FZ.f rfl|exact FZ.t):aA P f [] ys L d σ B K t:=
 ⟨r,[],z,hfn,fun h=>(hL h).imp id fun h=>⟨h,by simp⟩,rfl,hK⟩
theorem aC {a b:Prop} (h:b) (ha:a:=by and_intros<;>first|rfl|omega|decide):a∧b:=⟨ha,h⟩
namespace Q
instance (n:Nat):OfNat Operand n:=⟨.tmp (OfNat.ofNat n)⟩
theorem tl (n:Nat):(OfNat.ofNat n:Operand)=.tmp (OfNat.ofNat n):=rfl
abbrev m (d s:Nat):aJ:=⟨some d,.mv (.tmp s),none⟩
abbrev mi (d:Nat) (n:Int):aJ:=⟨some d,.mv (.const (.int .i64 n)),none⟩
abbrev lf (d k a:Nat):aJ:=⟨some d,.load false k (.tmp a),none⟩
abbrev lt (d k a:Nat):aJ:=⟨some d,.load true k (.tmp a),none⟩
abbrev fa (d k a:Nat):aJ:=⟨some d,.fieldAddr k (.tmp a),none⟩
abbrev ix (d k a b:Nat):aJ:=⟨some d,.idxSl k (.tmp a) (.tmp b),none⟩
abbrev mf (d:Nat):aJ:=⟨some d,.mv (.const (.bool false)),none⟩
abbrev mt (d:Nat):aJ:=⟨some d,.mv (.const (.bool true)),none⟩
abbrev mn (d:Nat):aJ:=⟨some d,.mv (.const (.slice none 0 0)),none⟩
abbrev ln (d a:Nat):aJ:=⟨some d,.len (.tmp a),none⟩
abbrev ex (d a k:Nat):aJ:=⟨some d,.extract (.tmp a) k,none⟩
abbrev ad (d a:Nat) (n:Int):aJ:=⟨some d,.bin .add (.tmp a) (.const (.int .i64 n)),none⟩
abbrev bx (d a:Nat):aJ:=⟨some d,.box (.tmp a),none⟩
abbrev ls (d a b:Nat):aJ:=⟨some d,.bin .lss (.tmp a) (.tmp b),none⟩
abbrev nt (d a:Nat):aJ:=⟨some d,.un .not (.tmp a),none⟩
abbrev nc (d a:Nat):aJ:=⟨some d,.nilc (.tmp a),none⟩
abbrev mg (d s g:Nat) (b:Bool):aJ:=⟨some d,.mv (.tmp s),some (g,b)⟩
abbrev pf (d a b:Nat):aJ:=⟨some d,.pick (.tmp a) (.tmp b) (.const (.bool false)),none⟩
abbrev pt (d a b:Nat):aJ:=⟨some d,.pick (.tmp a) (.const (.bool true)) (.tmp b),none⟩
abbrev en (d a:Nat) (n:Int):aJ:=⟨some d,.bin .eql (.tmp a) (.const (.int .i64 n)),none⟩
abbrev ne (d a:Nat) (n:Int):aJ:=⟨some d,.bin .neq (.tmp a) (.const (.int .i64 n)),none⟩
abbrev fg (d k a g:Nat) (b:Bool):aJ:=⟨some d,.fieldAddr k (.tmp a),some (g,b)⟩
abbrev lg (d k a g:Nat) (b:Bool):aJ:=⟨some d,.load false k (.tmp a),some (g,b)⟩
abbrev k (n:Int):Operand:=.const (.int .i64 n)
abbrev c (d:Nat) (f:FuncId) (a:List Operand):aJ:=⟨some d,.call (.func f) a [],none⟩
abbrev o (d:Nat) (p:AOp):aJ:=⟨some d,p,none⟩
abbrev r (a:List aJ) (b d:List Nat) (e:aD):aD:=.seq (.region a b d) e
abbrev s (a:List aJ) (b:List Nat) (e:aD):aD:=.seq (.region a b []) e
attribute [go_sem] tl k c o r s m mi lf lt fa ix mf mt mn ln ex ad bx ls nt nc mg pf pt en ne fg lg
end Q
end Go.Vs
