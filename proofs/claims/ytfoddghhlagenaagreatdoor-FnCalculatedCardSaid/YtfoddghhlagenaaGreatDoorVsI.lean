/- A name is forgotten; append. -/
import Derived.Test.YtfoddghhlagenaaGreatDoorVsD
import GoSem.Dispatch
import Derived.Laws.StructEq
import Derived.Laws.World
import Derived.Laws.MakeOwn
import Derived.Laws.Append
import Derived.Laws.AppendOwn
set_option linter.all false
set_option maxHeartbeats 8000000
namespace Go.Vs
section
variable [Envs]
variable {P:Program}{C:Ctx}{σ:FSt}{a:Act}{w:World}{S:Nat->Prop}{ρ:Name->Option Nat}{κ:Name->Nat}{K:AV->Prop}
theorem aFZ (hok:OK C σ a w S ρ κ) {op:BinOp}{t:TypeId}{x y:Operand}
  (hv:rd (evO σ.s) σ.h K (.bin op x y)):Ans P S w ρ κ σ.h K (do eqGuard op t x y (a.eval x) (a.eval y);binOp op t (a.eval x) (a.eval y)):=by
 have hx:=hok.ev x
 have hy:=hok.ev y
 generalize a.eval x=va at hx⊢
 generalize a.eval y=vb at hy⊢
 simp only[rd] at hv
 split at hv
 .rename_i k n k' m hc hn
  rw[hc] at hx;rw[hn] at hy
  obtain rfl:=aZ hx
  obtain rfl:=aZ hy
  have hg:(eqGuard op t x y (.int k n) (.int k' m)).run P w=.ok () w:=by unfold eqGuard;cases op<;>simp
  unfold aA9 at hv
  cases op<;>simp only at hv
  case shl=>exact⟨_,_,hv.2,by simp[hg,binOp,Op.shift,show ¬m<0 by omega],.clo (.v _)⟩
  case shr=>exact⟨_,_,hv.2,by simp[hg,binOp,Op.shift,show ¬m<0 by omega],.clo (.v _)⟩
  case quo=>obtain⟨⟨rfl,h0⟩,hK⟩:=hv;exact⟨_,_,hK,by simp[hg,binOp,Op.intDiv,h0],.clo (.v _)⟩
  case rem=>obtain⟨⟨rfl,h0⟩,hK⟩:=hv;exact⟨_,_,hK,by simp[hg,binOp,Op.intDiv,h0],.clo (.v _)⟩
  all_goals(obtain⟨rfl,hK⟩:=hv;exact⟨_,_,hK,by simp[hg,binOp,Op.intArith,Op.intCmp,Op.intBits,bJ],.clo (.v _)⟩)
 .exact hv.elim
theorem aE1 (hok:OK C σ a w S ρ κ) {op:BinOp}{t:TypeId}{x y:Operand}
  (hv:rd (evO σ.s) σ.h K (.binS op x y)):Ans P S w ρ κ σ.h K (do eqGuard op t x y (a.eval x) (a.eval y);binOp op t (a.eval x) (a.eval y)):=by
 have hx:=hok.ev x
 have hy:=hok.ev y
 generalize a.eval x=va at hx⊢
 generalize a.eval y=vb at hy⊢
 simp only[rd] at hv
 split at hv
 .rename_i s s' hc hn
  rw[hc] at hx;rw[hn] at hy
  obtain rfl:=aZ hx
  obtain rfl:=aZ hy
  have hg:(eqGuard op t x y (.string s) (.string s')).run P w=.ok () w:=by unfold eqGuard;cases op<;>simp
  unfold vE at hv
  cases op<;>simp only at hv
  case add =>
   have hm:IntKind.i64.max=9223372036854775807:=by decide
   exact⟨_,_,hv.2,by simp[hg,binOp,Op.stringOp];omega,.clo (.v _)⟩
  case eql=>exact⟨_,_,hv,by simp[hg,binOp,Op.stringOp],.clo (.v _)⟩
  case neq=>exact⟨_,_,hv,by simp[hg,binOp,Op.stringOp],.clo (.v _)⟩
 .exact hv.elim
theorem aE2 (hok:OK C σ a w S ρ κ) {op:BinOp}{t:TypeId} (hu:P.underlying t=some .bool) {x y:Operand}
  (hv:rd (evO σ.s) σ.h K (.binB op x y)):Ans P S w ρ κ σ.h K (do eqGuard op t x y (a.eval x) (a.eval y);binOp op t (a.eval x) (a.eval y)):=by
 have hx:=hok.ev x
 have hy:=hok.ev y
 generalize a.eval x=va at hx⊢
 generalize a.eval y=vb at hy⊢
 simp only[rd] at hv
 split at hv
 .rename_i s s' hc hn
  rw[hc] at hx;rw[hn] at hy
  obtain rfl:=aZ hx
  obtain rfl:=aZ hy
  have hg:(eqGuard op t x y (.bool s) (.bool s')).run P w=.ok () w:=by unfold eqGuard;cases op<;>simp
  unfold rG at hv
  cases op<;>simp only at hv
  all_goals have he:(Op.equal t (.bool s) (.bool s')).run P w=.ok (s==s') w:=run_equalIn_bool' w 9999 t s s' hu
  case eql=>exact⟨_,_,hv,by simp[hg,binOp,he],.clo (.v _)⟩
  case neq=>exact⟨_,_,hv,by simp[hg,binOp,he],.clo (.v _)⟩
 .exact hv.elim
theorem rd_un (hok:OK C σ a w S ρ κ) {op:UnOp}{x:Operand}
  (hv:rd (evO σ.s) σ.h K (.un op x)):Ans P S w ρ κ σ.h K (Op.unary op (a.eval x)):=by
 have hx:=hok.ev x
 generalize a.eval x=va at hx⊢
 simp only[rd] at hv
 split at hv
 .rename_i b hc
  rw[hc] at hx;obtain rfl:=aZ hx
  exact⟨_,_,hv,by simp[Op.unary],.clo (.v _)⟩
 .rename_i k n hc
  rw[hc] at hx;obtain rfl:=aZ hx
  exact⟨_,_,hv,by simp[Op.unary,Op.intArith],.clo (.v _)⟩
 .rename_i k n hc
  rw[hc] at hx;obtain rfl:=aZ hx
  exact⟨_,_,hv,by simp[Op.unary,Op.intBits,bJ],.clo (.v _)⟩
 .exact hv.elim
theorem aE0 (hok:OK C σ a w S ρ κ) {s d:TypeId}{k k':IntKind} (hs:P.underlying s=some (.int k')) (hd:P.underlying d=some (.int k)) {x:Operand}
  (hv:rd (evO σ.s) σ.h K (.conv k x)):Ans P S w ρ κ σ.h K (convert s d (a.eval x)):=by
 have hx:=hok.ev x
 generalize a.eval x=va at hx⊢
 simp only[rd] at hv
 split at hv
 .rename_i kk n hc
  rw[hc] at hx;obtain rfl:=aZ hx
  exact⟨_,_,hv,by simp[convert,run_underlying hs,run_underlying hd,Conv.intToInt],.clo (.v _)⟩
 .exact hv.elim
theorem aFY (hok:OK C σ a w S ρ κ) {t ty e:TypeId} (hu:P.underlying t=some (.slice e)) {x:Operand}
  (hv:rd (evO σ.s) σ.h K (.len x)):Ans P S w ρ κ σ.h K (Builtin.len_ #[t] ty #[a.eval x]):=by
 have hx:=hok.ev x
 generalize a.eval x=va at hx⊢
 have hsl:∀b n c,(Builtin.len_ #[t] ty #[.slice b n c]).run P w=.ok (.int .i64 n) w:=by
  intro b n c;simp[Builtin.len_,run_underlying hu,goInt]
 simp only[rd] at hv
 split at hv
 .rename_i k l hc
  rw[hc] at hx
  cases p8 hx with
  |sl _ _ base cap x off xs hb hcc ho hr hk hcap=>exact⟨_,_,hv,hsl _ _ _,.clo (.v _)⟩
 .rename_i n off len hc
  rw[hc] at hx
  split at hv
  .rename_i k l z hb
   obtain⟨_,base,cap,rfl,_⟩:=d9 hx _ _ _ hb
   exact⟨_,_,hv,hsl _ _ _,.clo (.v _)⟩
  .exact hv.elim
 .rename_i b n c hc
  rw[hc] at hx;obtain rfl:=aZ hx
  exact⟨_,_,hv,hsl _ _ _,.clo (.v _)⟩
 .exact hv.elim
theorem aEX (hok:OK C σ a w S ρ κ) {t ty:TypeId} (hu:P.underlying t=some .string) {x:Operand}
  (hv:rd (evO σ.s) σ.h K (.lenS x)):Ans P S w ρ κ σ.h K (Builtin.len_ #[t] ty #[a.eval x]):=by
 have hx:=hok.ev x
 generalize a.eval x=va at hx⊢
 simp only[rd] at hv
 split at hv
 .rename_i s hc
  rw[hc] at hx;obtain rfl:=aZ hx
  exact⟨_,_,hv,by simp[Builtin.len_,run_underlying hu,goInt],.clo (.v _)⟩
 .exact hv.elim
theorem aEY (v:Value) {t ty e:TypeId}{n:Nat} (hu:P.underlying t=some (.array n e))
  (hv:rd (evO σ.s) σ.h K (.lenC n)):Ans P S w ρ κ σ.h K (Builtin.len_ #[t] ty #[v]):=by
 refine⟨_,.int .i64 n,hv,?_,.clo (.v _)⟩
 simp[Builtin.len_,run_underlying hu,goInt]
theorem aDr {k:Nat}{l:List (List AV)}{v:Value} (h:RC S w (.sl k l) v) {lo hi:Nat} (h1:lo<=hi) (h2:hi<=l.length) :
  ∃ base cap,v=.slice base l.length cap∧l.length<=cap∧
   RC S w (.sl k ((l.take hi).drop lo)) (.slice (if cap=lo then base else base.map (·.add (lo*k))) (hi-lo) (cap-lo)):=by
 cases h with
 | sl _ _ base cap x off xs hb hc ho hr hk hcap =>
  refine⟨base,cap,rfl,hcap.1,?_⟩
  have hlen:((l.take hi).drop lo).length=hi-lo:=by simp;omega
  have hget:∀i,i<hi-lo->((l.take hi).drop lo).getD i []=l.getD (lo+i) []:=by
   grind
  have e:∀i j,(lo+i)*k+j=lo*k+(i*k+j):=by intro i j;rw[Nat.add_mul];omega
  have key:=RC.sl (S:=S) (w:=w) k ((l.take hi).drop lo) (if cap=lo then base else base.map (·.add (lo*k))) (cap-lo) x (off+lo*k) (λm=>xs (lo*k+m))
   (λhne=>?_) (λi j hi' hj=>?_) (λi j hi' hj=>?_) (λi j hi' hj=>?_) (λi hi'=>?_) ?_
  .grind
  .have:0<hi-lo:=by
    grind
   obtain⟨rfl,hS⟩:=hb (by rintro rfl;simp at h2;omega)
   all_goals grind [addr_add]
  all_goals grind
def Bnd (ov:Option Value) (dflt:Nat) (n:Nat):Prop:=(ov=none∧n=dflt)∨∃k,ov=some (.int k n)
theorem sZ {t e:TypeId}{k:Nat} (hu:P.underlying t=some (.slice e)) (hk:fO P e=some k) {base:Option Addr}{len cap lo hi:Nat}{olo ohi:Option Value}
  (hlo:Bnd olo 0 lo) (hhi:Bnd ohi len hi) (h1:lo<=hi) (h2:hi<=cap) :
  (Instr.sliceAt t (.slice base len cap) olo ohi none).run P w=.ok (.slice (if cap=lo then base else base.map (·.add (lo*k))) (hi-lo) (cap-lo)) w:=by
 rcases hlo with⟨rfl,rfl⟩|⟨kl,rfl⟩<;>rcases hhi with⟨rfl,rfl⟩|⟨kh,rfl⟩ <;>
  simp[Instr.sliceAt,run_underlying hu,Instr.slice,Instr.sliceBounds,Instr.sliceBound,asIntOf,run_sizeOf hk,h1,h2]
theorem aFX (hok:OK C σ a w S ρ κ) {t e:TypeId}{k:Nat} (hu:P.underlying t=some (.slice e)) (hk:fO P e=some k) {x:Operand}{olo ohi:Option Operand}
  (hv:rd (evO σ.s) σ.h K (.slc k x olo ohi)):Ans P S w ρ κ σ.h K (Instr.sliceAt t (a.eval x) (olo.map a.eval) (ohi.map a.eval) none):=by
 have hx:=hok.ev x
 generalize a.eval x=va at hx⊢
 have hb:∀(o:Option Operand) (d:Nat),(o=none->Bnd (o.map a.eval) d d)∧(∀kk m,o.map (evO σ.s)=some (.v (.int kk m))->0<=m->Bnd (o.map a.eval) d m.toNat):=by
  intro o d
  refine⟨λh=>by subst h;exact .inl ⟨rfl,rfl⟩,λkk m h h0=>?_⟩
  cases o with
  |none=>simp at h
  | some o =>
   simp only[Option.map_some,Option.some.injEq] at h
   have:=hok.ev o
   rw[h] at this
   refine .inr ⟨kk,?_⟩
   simp only[Option.map_some,aZ this,Int.toNat_of_nonneg h0]
 simp only[rd] at hv
 split at hv
 .rename_i k' l hc
  rw[hc] at hx
  have fin:∀(lo hi:Int),(k'=k∧0<=lo∧lo<=hi∧hi<=l.length)∧K (.sl k ((l.take hi.toNat).drop lo.toNat))->Bnd (olo.map a.eval) 0 lo.toNat->Bnd (ohi.map a.eval) l.length hi.toNat->
    Ans P S w ρ κ σ.h K (Instr.sliceAt t va (olo.map a.eval) (ohi.map a.eval) none):=by
   rintro lo hi ⟨⟨rfl,h0,h1,h2⟩,hK⟩ b1 b2
   obtain⟨base,cap,rfl,hcap,hr⟩:=aDr (p8 hx) (lo:=lo.toNat) (hi:=hi.toNat) (by omega) (by omega)
   exact⟨_,_,hK,sZ hu hk b1 b2 (by omega) (by omega),.clo hr⟩
  split at hv
  .rename_i e1 e2
   have n1:olo=none:=by cases olo<;>simp_all
   have n2:ohi=none:=by cases ohi<;>simp_all
   exact fin _ _ hv (by simpa using(hb olo 0).1 n1) (by simpa using(hb ohi l.length).1 n2)
  .rename_i kk m e1 e2
   have n2:ohi=none:=by cases ohi<;>simp_all
   exact fin _ _ hv ((hb olo 0).2 _ _ e1 hv.1.2.1) (by simpa using(hb ohi l.length).1 n2)
  .rename_i kk m e1 e2
   have n1:olo=none:=by cases olo<;>simp_all
   exact fin _ _ hv (by simpa using(hb olo 0).1 n1) ((hb ohi l.length).2 _ _ e2 (by have:=hv.1.2.2.1;omega))
  all_goals grind
 .rename_i n off len hc
  rw[hc] at hx
  split at hv
  .rename_i k' l z hbk
   have fin:∀(lo hi:Int),(k'=k∧0<=lo∧lo<=hi∧hi<=len)∧K (.loc n (off+lo.toNat) (hi-lo).toNat)->Bnd (olo.map a.eval) 0 lo.toNat->Bnd (ohi.map a.eval) len hi.toNat->
     Ans P S w ρ κ σ.h K (Instr.sliceAt t va (olo.map a.eval) (ohi.map a.eval) none):=by
    rintro lo hi ⟨⟨rfl,h0,h1,h2⟩,hK⟩ b1 b2
    obtain⟨hle,base,cap,rfl,hlc,hcap,hbase,hfull⟩:=d9 hx _ _ _ hbk
    refine⟨_,_,hK,sZ hu hk b1 b2 (by omega) (by omega),.loc _ _ _ _ λk2 l2 z2 hb2=>?_⟩
    rw[hbk] at hb2
    simp only[Option.some.injEq,Blk.arr.injEq] at hb2
    obtain⟨rfl,rfl,rfl⟩:=hb2
    refine⟨by omega,_,_,by congr 1;omega,by omega,by omega,λhpos=>?_,λe1 e2=>?_⟩
    .obtain⟨y,hy,rfl⟩:=hbase (by omega)
     rw[if_neg (by omega)]
     exact⟨y,hy,by simp[addr_add,Nat.add_mul]⟩
    .have el:lo.toNat=0:=by omega
     have eo:off=0:=by omega
     rcases hfull eo (by omega) with⟨h1,h2,h3⟩|⟨y,hy,hb',hk'⟩
     .grind
     .refine .inr ⟨y,hy,?_,by rw[el];exact hk'⟩
      rw[el,hb']
      simp[Addr.add]
   split at hv
   .rename_i e1 e2
    have n1:olo=none:=by cases olo<;>simp_all
    have n2:ohi=none:=by cases ohi<;>simp_all
    exact fin _ _ hv (by simpa using(hb olo 0).1 n1) (by simpa using(hb ohi len).1 n2)
   .rename_i kk m e1 e2
    have n2:ohi=none:=by cases ohi<;>simp_all
    exact fin _ _ hv ((hb olo 0).2 _ _ e1 hv.1.2.1) (by simpa using(hb ohi len).1 n2)
   .rename_i kk m e1 e2
    have n1:olo=none:=by cases olo<;>simp_all
    exact fin _ _ hv (by simpa using(hb olo 0).1 n1) ((hb ohi len).2 _ _ e2 (by have:=hv.1.2.2.1;omega))
   all_goals grind
  .exact hv.elim
 .exact hv.elim
theorem aAw {t:TypeId} (hu:P.underlying t=some .string) {s:ByteArray}{lo hi:Nat}{olo ohi:Option Value}
  (hlo:Bnd olo 0 lo) (hhi:Bnd ohi s.size hi) (h1:lo<=hi) (h2:hi<=s.size) :
  (Instr.sliceAt t (.string s) olo ohi none).run P w=.ok (.string (s.extract lo hi)) w:=by
 rcases hlo with⟨rfl,rfl⟩|⟨kl,rfl⟩<;>rcases hhi with⟨rfl,rfl⟩|⟨kh,rfl⟩ <;>
  simp[Instr.sliceAt,run_underlying hu,Instr.slice,Instr.sliceBounds,Instr.sliceBound,asIntOf,h1,h2]
theorem aGv (hok:OK C σ a w S ρ κ) (o:Option Operand) (d:Nat):(o=none->Bnd (o.map a.eval) d d)∧(∀kk m,o.map (evO σ.s)=some (.v (.int kk m))->0<=m->Bnd (o.map a.eval) d m.toNat):=by
 refine⟨λh=>by subst h;exact .inl ⟨rfl,rfl⟩,λkk m h h0=>?_⟩
 cases o with
 |none=>simp at h
 | some o =>
  simp only[Option.map_some,Option.some.injEq] at h
  have:=hok.ev o
  all_goals grind [aZ,Bnd]
theorem aEU (hok:OK C σ a w S ρ κ) {t:TypeId} (hu:P.underlying t=some .string) {x:Operand}{olo ohi:Option Operand}
  (hv:rd (evO σ.s) σ.h K (.sstr x olo ohi)):Ans P S w ρ κ σ.h K (Instr.sliceAt t (a.eval x) (olo.map a.eval) (ohi.map a.eval) none):=by
 have hx:=hok.ev x
 generalize a.eval x=va at hx⊢
 have hb:=aGv hok
 simp only[rd] at hv
 split at hv
 .rename_i s hc
  rw[hc] at hx;obtain rfl:=aZ hx
  have fin:∀(lo hi:Int),(0<=lo∧lo<=hi∧hi<=s.size)∧K (.v (.string (s.extract lo.toNat hi.toNat)))->Bnd (olo.map a.eval) 0 lo.toNat->Bnd (ohi.map a.eval) s.size hi.toNat->
    Ans P S w ρ κ σ.h K (Instr.sliceAt t (.string s) (olo.map a.eval) (ohi.map a.eval) none):=by
   rintro lo hi ⟨⟨h0,h1,h2⟩,hK⟩ b1 b2
   exact⟨_,_,hK,aAw hu b1 b2 (by omega) (by omega),.clo (.v _)⟩
  split at hv
  .rename_i e1 e2
   have n1:olo=none:=by cases olo<;>simp_all
   have n2:ohi=none:=by cases ohi<;>simp_all
   exact fin _ _ hv (by simpa using(hb olo 0).1 n1) (by simpa using(hb ohi s.size).1 n2)
  .rename_i kk m e1 e2
   have n2:ohi=none:=by cases ohi<;>simp_all
   exact fin _ _ hv ((hb olo 0).2 _ _ e1 hv.1.1) (by simpa using(hb ohi s.size).1 n2)
  .rename_i kk m e1 e2
   have n1:olo=none:=by cases olo<;>simp_all
   exact fin _ _ hv (by simpa using(hb olo 0).1 n1) ((hb ohi s.size).2 _ _ e2 (by have:=hv.1;omega))
  all_goals grind
 .exact hv.elim
theorem aEV (hok:OK C σ a w S ρ κ) {o:Oper}{x:Operand} (ho:o.op=.nilCheck x) (hv:rd (evO σ.s) σ.h K (.nilc x)) :
  ∃x' v,K x'∧(execOp a.eval o).run P w=.ok (.value v) w∧RV S w ρ κ σ.h x' v:=by
 have hx:=hok.ev x
 simp only[execOp,ho]
 generalize a.eval x=va at hx⊢
 simp only[rd] at hv
 split at hv
 .rename_i c hc
  rw[hc] at hx
  cases qA hx with
  |ro _ y off xs hS hcell hone hr=>exact⟨_,_,hv,rfl,hx⟩
 .rename_i n e c hc
  rw[hc] at hx
  split at hv
  .rename_i b hb
   obtain⟨y,hy,rfl⟩:=bZ hx _ hb
   exact⟨_,_,hv,rfl,hx⟩
  .exact hv.elim
 .rename_i f c hc
  rw[hc] at hx
  obtain⟨vs,rfl,_⟩:=xN hx
  exact⟨_,_,hv,rfl,hx⟩
 .exact hv.elim
theorem aBn (hok:OK C σ a w S ρ κ) {x:Operand}{i:Nat} (hv:rd (evO σ.s) σ.h K (.extract x i)):Ans P S w ρ κ σ.h K (Instr.extract (a.eval x) i):=by
 have hx:=hok.ev x
 generalize a.eval x=va at hx⊢
 simp only[rd] at hv
 split at hv
 .rename_i c hc
  rw[hc] at hx
  obtain⟨vs,rfl,hl,hr⟩:=wJ hx
  refine⟨_,_,hv.2,?_,hr i hv.1⟩
  simp[Instr.extract,show i<vs.size by have:=hv.1;omega]
 .exact hv.elim
theorem aEW (hok:OK C σ a w S ρ κ) {f:FuncId}{caps:List Operand} (hv:rd (evO σ.s) σ.h K (.mkfn f caps)) :
  Ans P S w ρ κ σ.h K (Instr.makeFunc (.func f) #[] (caps.toArray.map a.eval)):=by
 refine⟨_,_,hv,rfl,.fn _ _ _ (by simp) λj hj=>?_⟩
 simp only[List.length_map] at hj
 have e1:(caps.map (evO σ.s)).getD j .junk=evO σ.s caps[j]:=by simp[List.getD,hj]
 have e2:(caps.toArray.map a.eval).getD j undef=a.eval caps[j]:=by simp[hj]
 rw[e1,e2];exact hok.ev _
theorem aFD (hok:OK C σ a w S ρ κ) {mx:Bool}{t:Array TypeId}{T:TypeId}{x y:Operand} (hv:rd (evO σ.s) σ.h K (.mm mx x y)) :
  Ans P S w ρ κ σ.h K (if mx then Builtin.max_ t T #[a.eval x,a.eval y] else Builtin.min_ t T #[a.eval x,a.eval y]):=by
 have hx:=hok.ev x
 have hy:=hok.ev y
 generalize a.eval x=va at hx⊢
 generalize a.eval y=vb at hy⊢
 simp only[rd] at hv
 split at hv
 .rename_i k n k' m hc hn
  rw[hc] at hx;rw[hn] at hy
  obtain rfl:=aZ hx
  obtain rfl:=aZ hy
  cases mx
  .exact⟨_,_,hv,by simp[Builtin.min_,Builtin.min2],.clo (.v _)⟩
  .exact⟨_,_,hv,by simp[Builtin.max_,Builtin.max2],.clo (.v _)⟩
 .exact hv.elim
end
section
variable [Envs]
variable {P:Program}{C:Ctx}{σ:FSt}{a:Act}{w:World}{S:Nat->Prop}{ρ:Name->Option Nat}{κ:Name->Nat}{K:AV->Prop}{h:Name->Option Blk}
theorem qV {x:AV}{v:Value} (hx:RV S w ρ κ h x v) (h1:mH h x=true):v.oneCell'=true:=by
 cases x with
 |v y=>obtain rfl:=aZ hx;exact h1
 |sl k l=>cases p8 hx;rfl
 |ro c=>cases qA hx;rfl
 |fn f c=>obtain⟨vs,rfl,_⟩:=xN hx;rfl
 | loc n off len =>
  simp only[mH] at h1
  split at h1
  .rename_i hb;obtain⟨_,base,cap,rfl,_⟩:=d9 hx _ _ _ hb;rfl
  .cases h1
 | ptr n e c =>
  simp only[mH] at h1
  obtain⟨b,hb⟩:=Option.isSome_iff_exists.1 h1
  obtain⟨y,_,rfl⟩:=bZ hx _ hb;rfl
 |agg c=>simp[mH] at h1
 |tup c=>simp[mH] at h1
 |junk=>simp[mH] at h1
def Cells (S:Nat->Prop) (w:World) (ρ:Name->Option Nat) (κ:Name->Nat) (h:Name->Option Blk) (c:List AV) (vs:Array Value):Prop:=
 c.length=vs.size∧∀j,j<c.length->RV S w ρ κ h (c.getD j .junk) (vs.getD j undef)
theorem xZ {x:AV}{v:Value} (hx:RV S w ρ κ h x v) {c:List AV} (hc:gM h x=some c) :
  Cells S w ρ κ h c v.cells∧(∀j,j<c.length->(v.cells.getD j undef).oneCell'=true):=by
 have single:∀x:AV,(mH h x=true)->RV S w ρ κ h x v->Cells S w ρ κ h [x] v.cells∧(∀j,j < [x].length->(v.cells.getD j undef).oneCell'=true):=by
  intro x h1 hx
  have ho:=qV hx h1
  have e:v.cells=#[v]:=by cases v<;>simp_all [Value.cells,Value.oneCell']
  rw[e]
  refine⟨⟨rfl,λj hj=>?_⟩,λj hj=>?_⟩
  .simp only[List.length_singleton] at hj
   obtain rfl:j=0:=by omega
   exact hx
  .simp only[List.length_singleton] at hj
   obtain rfl:j=0:=by omega
   exact ho
 cases x with
 | agg c' =>
  simp only[gM] at hc
  split at hc
  .rename_i hall
   obtain rfl:=Option.some.inj hc
   obtain⟨vs,rfl,hl,hr⟩:=lC hx
   refine⟨⟨hl,hr⟩,λj hj=>qV (hr j hj) ?_⟩
   have:=List.all_eq_true.1 hall (c'.getD j .junk) (by simp[List.getD,hj])
   exact this
  .cases hc
 | _ =>
  simp only[gM] at hc
  split at hc
  .rename_i h1
   obtain rfl:=Option.some.inj hc
   exact single _ h1 hx
  .cases hc
theorem iJ:∀(xs cs:List AV) (o:Nat),(lay cs o xs).length=cs.length
 | [],_,_=>rfl
 |x::r,cs,o=>by rw[lay,iJ r];simp
theorem uF:∀(xs cs:List AV) (o j:Nat),o+xs.length<=cs.length->(lay cs o xs).getD j .junk=if o<=j∧j<o+xs.length then xs.getD (j-o) .junk else cs.getD j .junk
 | [],cs,o,j,_=>by
  have:¬(o<=j∧j<o+([]:List AV).length):=by simp
  rw[lay,if_neg this]
 | x::r,cs,o,j,h=>by
  rw[lay,uF r _ _ _ (by simp at h⊢;omega)]
  simp only[List.length_cons] at h⊢
  by_cases h1:o+1<=j∧j<o+1+r.length
  .rw[if_pos h1,if_pos (by omega)]
   have:j-o=(j-(o+1))+1:=by omega
   rw[this];simp
  .rw[if_neg h1]
   by_cases h2:j=o
   .subst h2
    rw[if_pos (by omega)]
    have:j<cs.length:=by omega
    simp[List.getD,this]
   .rw[if_neg (by omega)]
    simp[List.getD,List.getElem?_set_ne (Ne.symm h2)]
theorem sF:∀(l:List Value) (i o:Nat) (cs:Array Value),o+i+l.length<=cs.size->
  ((l.zipIdx i).foldl (λcs (p:Value×Nat)=>cs.setIfInBounds (o+p.2) p.1) cs).size=cs.size∧
  ∀j,((l.zipIdx i).foldl (λcs (p:Value×Nat)=>cs.setIfInBounds (o+p.2) p.1) cs).getD j undef=if o+i<=j∧j<o+i+l.length then l.getD (j-(o+i)) undef else cs.getD j undef
 | [],i,o,cs,_=>⟨rfl,λj=>by
     have:¬(o+i<=j∧j<o+i+([]:List Value).length):=by simp
     rw[if_neg this];rfl⟩
 | x::r,i,o,cs,h=>by
  simp only[List.length_cons] at h
  obtain⟨h1,h2⟩:=sF r (i+1) o (cs.setIfInBounds (o+i) x) (by simp;omega)
  simp only[List.zipIdx_cons,List.foldl_cons]
  refine⟨by rw[h1];simp,λj=>?_⟩
  rw[h2 j]
  simp only[List.length_cons]
  by_cases h3:o+(i+1)<=j∧j<o+(i+1)+r.length
  .rw[if_pos h3,if_pos (by omega)]
   have:j-(o+i)=(j-(o+(i+1)))+1:=by omega
   rw[this];simp
  .rw[if_neg h3]
   by_cases h4:j=o+i
   .subst h4
    rw[if_pos (by omega)]
    simp[show o+i<cs.size by omega]
   .rw[if_neg (by omega)]
    simp[Array.getElem?_setIfInBounds_ne (Ne.symm h4)]
theorem getD_toList (vs:Array Value) (j:Nat):vs.toList.getD j undef=vs.getD j undef:=by
 simp[List.getD]
theorem wM (hok:OK C σ a w S ρ κ) (place:Nat->Option (Nat×Nat)):∀(parts:List (Nat×Operand)) (rp:List (Nat×Nat×Operand)) (cs:List AV) (vs:Array Value) {K:List AV->Prop},
  parts.map (λp=>(place p.1).map λq=>(q.1,q.2,p.2))=rp.map some->Cells S w ρ κ σ.h cs vs->layAll (evO σ.s) σ.h cs rp K->
  ∃ cs' vs',K cs'∧Instr.fill place vs (parts.map λp=>(p.1,a.eval p.2))=some vs'∧Cells S w ρ κ σ.h cs' vs'∧
   ((∀j,j<vs.size->(vs.getD j undef).oneCell'=true)->∀j,j<vs'.size->(vs'.getD j undef).oneCell'=true)
 | [],[],cs,vs,K,_,hc,hK=>⟨cs,vs,hK,rfl,hc,λh=>h⟩
 | [],_::_,_,_,_,h,_,_=>by simp at h
 |_::_,[],_,_,_,h,_,_=>by simp at h
 | (i,x)::parts,(o,n,y)::rp,cs,vs,K,h,hc,hK=>by
  simp only[List.map_cons,List.cons.injEq] at h
  obtain⟨h1,h2⟩:=h
  cases hp:place i with
  |none=>rw[hp] at h1;simp at h1
  | some q =>
   rw[hp] at h1
   simp only[Option.map_some,Option.some.injEq,Prod.mk.injEq] at h1
   obtain⟨rfl,rfl,rfl⟩:=h1
   simp only[layAll] at hK
   split at hK
   .rename_i c hcx
    obtain⟨⟨hn,hle⟩,hK⟩:=hK
    obtain⟨⟨hcl,hcr⟩,hone⟩:=xZ (hok.ev x) hcx
    obtain⟨hl,hr⟩:=hc
    have hf:=sF (a.eval x).cells.toList 0 q.1 vs (by simp;omega)
    simp only[Nat.add_zero,Array.length_toList,←hcl] at hf
    have hcells:Cells S w ρ κ σ.h (lay cs q.1 c) (((a.eval x).cells.toList.zipIdx 0).foldl (λcs (p:Value×Nat)=>cs.setIfInBounds (q.1+p.2) p.1) vs):=by
     refine⟨by rw[iJ,hf.1];exact hl,λj hj=>?_⟩
     rw[iJ] at hj
     rw[uF _ _ _ _ (by omega),hf.2 j]
     by_cases hj2:q.1<=j∧j<q.1+c.length
     .rw[if_pos hj2,if_pos hj2,getD_toList]
      exact hcr _ (by omega)
     .rw[if_neg hj2,if_neg hj2]
      exact hr j hj
    obtain⟨cs',vs',hK',hfill,hc',ho'⟩:=wM hok place parts rp _ _ h2 hcells hK
    refine⟨cs',vs',hK',?_,hc',λhv=>ho' λj hj=>?_⟩
    .have hz:(a.eval x).cells.zipIdx.foldl (λcs (p:Value×Nat)=>cs.setIfInBounds (q.1+p.2) p.1) vs=((a.eval x).cells.toList.zipIdx 0).foldl (λcs (p:Value×Nat)=>cs.setIfInBounds (q.1+p.2) p.1) vs:=by
      rw[←Array.foldl_toList,Array.toList_zipIdx]
     simp only[List.map_cons,Instr.fill,hp]
     rw[if_neg (by simp;omega)]
     rw[←hfill,←hz]
    .rw[hf.1] at hj
     rw[hf.2 j]
     by_cases hj2:q.1<=j∧j<q.1+c.length
     .rw[if_pos hj2,getD_toList];exact hone _ (by omega)
     .rw[if_neg hj2];exact hv j hj
   .exact hK.elim
end
section
variable [Envs]
mutual
def fM:AV->Bool
 |.v _=>true
 |.sl _ _=>true
 |.ro _=>true
 |.fn _ c=>nH c
 |.agg c=>nH c
 |.tup c=>nH c
 |_=>false
def nH:List AV->Bool
 | []=>true
 |x::r=>fM x&&nH r
end
theorem iW:∀{c:List AV}{j:Nat},nH c=true->j<c.length->fM (c.getD j .junk)=true
 | [],_,_,hj=>by simp at hj
 |x::r,0,h,_=>by simp[nH] at h;simpa using h.1
 |x::r,j+1,h,hj=>by simp[nH] at h;simpa using iW (c:=r) (j:=j) h.2 (by simpa using hj)
variable {P:Program}{C:Ctx}{σ:FSt}{a:Act}{w:World}{S:Nat->Prop}{ρ:Name->Option Nat}{κ:Name->Nat}{h:Name->Option Blk}
theorem RV.closed {x:AV}{v:Value} (hx:RV S w ρ κ h x v) (hc:fM x=true):RC S w x v:=by
 induction hx with
 |junk v=>simp[fM] at hc
 |clo hx=>exact hx
 |loc n off len v hv=>simp[fM] at hc
 |ptr n e c v hv=>simp[fM] at hc
 |fn f c vs hl hr ih=>simp only[fM] at hc;exact .fn f c vs hl λj hj=>ih j hj (iW hc hj)
 |agg c vs hl hr ih=>simp only[fM] at hc;exact .agg c vs hl λj hj=>ih j hj (iW hc hj)
 |tup c vs hl hr ih=>simp only[fM] at hc;exact .tup c vs hl λj hj=>ih j hj (iW hc hj)
def rowsOf (k:Nat):Nat->List AV->List (List AV)
 |0,_=>[]
 |m+1,cs=>cs.take k::rowsOf k m (cs.drop k)
def al (ev:Operand->AV) (h:Name->Option Blk) (n:Name) (K:AV->Blk->Prop):AOp->Prop
 | .box x=>match gM h (ev x) with
  |some c=>K (.ptr n 0 0) (.var c false)
  |none=>False
 |.alloc z=>z.all (λx=>mH h x&&fM x)=true∧K (.ptr n 0 0) (.var z false)
 | .bslice k m z parts=>(z.length=k∧m*k<=2 ^ 24∧m<=2 ^ 24∧z.all (mH h)=true)∧layAll ev h (List.flatten (List.replicate m z)) (parts.map λ(i,x)=>(i*k,k,x)) λcs =>
   nH cs=true∧K (.loc n 0 m) (.arr k (rowsOf k m cs) false)
 | .mk k bytes z x=>match ev x with
  |.v (.int .i64 i)=>(0<=i∧i*bytes<=2 ^ 47∧i<2 ^ 63∧z.length=k∧z.all (λx=>mH h x&&fM x)=true)∧K (.loc n 0 i.toNat) (.arr k (List.replicate i.toNat z) false)
  |_=>False
 |_=>False
theorem rA (w:World) (o:Obj):({w with heap:=w.heap.push o}:World).heap[w.heap.size]? = some o:=by simp
theorem OK.addVar (hok:OK C σ a w S ρ κ) {n:Name} (hf:dU n σ) {c:List AV}{cs:Array Value}{T:TypeId} (hc:Cells S w ρ κ σ.h c cs) (h1:∀j,j<c.length->(cs.getD j undef).oneCell'=true) (hn:iL n c=false) :
  ∃ ρ' κ',OK C ⟨σ.s,hput σ.h n (some (.var c false))⟩ a {w with heap:=w.heap.push (.cells cs T)} S ρ' κ'∧
   RV S {w with heap:=w.heap.push (.cells cs T)} ρ' κ' (hput σ.h n (some (.var c false))) (.ptr n 0 0) (.pointer (some ⟨w.heap.size,0,none⟩)):=by
 have hex:=Ext.push w (.cells cs T)
 refine⟨_,_,hok.add hex hf (b:=.var c false) (ox:=some w.heap.size) (kn:=cs.size) (λx hx=>by rw[←Option.some.inj hx];exact Nat.le_refl _) ?_,?_⟩
 .intro ρ' κ' h' e1 e2 hm
  refine⟨w.heap.size,cs,T,(0,0),e1,rA _ _,λj _ hj=>by omega,λ_ hs=>?_,by simp,e2.symm,by rw[hc.1];exact Nat.le_refl _,λj hj=>⟨h1 j hj,(hc.2 j hj).mono (λ_ h=>h) (λb hb=>hex.2.1 b (hok.hok.dom b hb)) λm hh=>hm m ?_⟩⟩
  .exact absurd (hok.hok.dom _ hs) (Nat.lt_irrefl _)
  .grind [lT]
 .refine .ptr _ _ _ _ λb hb=>?_
  all_goals grind
theorem OK.addArr (hok:OK C σ a w S ρ κ) {w':World} (hex:Ext w w') {n:Name} (hf:dU n σ) {k:Nat}{l:List (List AV)}{cs:Array Value}{T:TypeId}{fr:Nat×Nat}{x:Nat} (hxs:w.heap.size<=x) (hx:w'.heap[x]? = some (.cells cs T fr)) (hth:aBM fr cs.size)
  (hk:∀i,i<l.length->(l.getD i []).length=k) (hsz:l.length*k<=cs.size)
  (hr:∀i j,i<l.length->j<k->(cs.getD (i*k+j) undef).oneCell'=true∧RC S w ((l.getD i []).getD j .junk) (cs.getD (i*k+j) undef)) {cap:Nat} (hcap:l.length<=cap∧cap<2 ^ 63∧cap*k<=cs.size) :
  ∃ ρ' κ',OK C ⟨σ.s,hput σ.h n (some (.arr k l false))⟩ a w' S ρ' κ'∧
   RV S w' ρ' κ' (hput σ.h n (some (.arr k l false))) (.loc n 0 l.length) (.slice (some ⟨x,0,none⟩) l.length cap):=by
 refine⟨_,_,hok.add hex hf (b:=.arr k l false) (ox:=some x) (kn:=cs.size) (λy hy=>by rw[←Option.some.inj hy];exact hxs) ?_,?_⟩
 .intro ρ' κ' h' e1 e2 hm
  refine⟨hk,.inr ⟨x,cs,T,fr,e1,hx,hth,λ_ hs=>?_,by simp,e2.symm,hsz,λi j hi hj=>⟨(hr i j hi hj).1,(hr i j hi hj).2.mono (λ_ h=>h) λb hb=>hex.2.1 b (hok.hok.dom b hb)⟩⟩⟩
  have:=hok.hok.dom _ hs;omega
 .refine .loc _ _ _ _ λk' l' z hb=>?_
  all_goals grind [hput]
def Made (P:Program) (C:Ctx) (σ:FSt) (a:Act) (w:World) (S:Nat->Prop) (n:Name) (K:AV->Blk->Prop) (s:Sem Value):Prop:=
 ∃x b v w',K x b∧s.run P w=.ok v w'∧(dU n σ->b.has n=false->∃ρ' κ',OK C ⟨σ.s,hput σ.h n (some b)⟩ a w' S ρ' κ'∧RV S w' ρ' κ' (hput σ.h n (some b)) x v)
variable {K:AV->Blk->Prop}{n:Name}
theorem aGz (hok:OK C σ a w S ρ κ) {T:TypeId}{x:Operand} (hv:al (evO σ.s) σ.h n K (.box x)):Made P C σ a w S n K (Instr.box T (a.eval x)):=by
 have hx:=hok.ev x
 generalize a.eval x=va at hx⊢
 simp only[al] at hv
 split at hv
 .rename_i c hc
  obtain⟨hcs,h1⟩:=xZ hx hc
  refine⟨_,_,.pointer (some ⟨w.heap.size,0,none⟩),{w with heap:=w.heap.push (.cells va.cells T)},hv,?_,λhf hn=>?_⟩
  .simp[Instr.box,newVar,newRow]
  .exact hok.addVar hf hcs h1 (by simpa[Blk.has] using hn)
 .exact hv.elim
def zOf (P:Program) (t:TypeId):Option (Array Value):=match P.info? t with|some i=>i.zero.map (·.cells)|none=>none
theorem sW {t:TypeId}{z:Array Value} (h:zOf P t=some z) (w:World):∃v,(zeroValue t).run P w=.ok v w∧v.cells=z:=by
 unfold zOf at h
 cases hi:P.info? t with
 |none=>simp[hi] at h
 | some i =>
  simp only[hi] at h
  cases hz:i.zero with
  |none=>simp[hz] at h
  |some v=>exact⟨v,by simp[zeroValue,typeInfo,hi,hz],by simpa[hz] using h⟩
theorem nC (cs:Array Value):Cells S w ρ κ h (cs.toList.map λx=>.v x) cs:=by
 refine⟨by simp,λj hj=>?_⟩
 simp only[List.length_map,Array.length_toList] at hj
 simp[List.getD,hj]
 exact .clo (.v _)
theorem uJ {p:AV->Bool}{l:List AV} (h:l.all p=true) {j:Nat} (hj:j<l.length):p (l.getD j .junk)=true:=
 List.all_eq_true.1 h _ (by simp[List.getD,hj])
theorem aEL (hok:OK C σ a w S ρ κ) {T:TypeId}{z:Array Value} (hz:zOf P T=some z) (hv:al (evO σ.s) σ.h n K (.alloc (z.toList.map λx=>.v x))):Made P C σ a w S n K (Instr.alloc T true (.tuple #[])):=by
 obtain⟨v,hrun,rfl⟩:=sW hz w
 simp only[al] at hv
 obtain⟨hall,hK⟩:=hv
 refine⟨_,_,.pointer (some ⟨w.heap.size,0,none⟩),{w with heap:=w.heap.push (.cells v.cells T)},hK,?_,λhf hn=>?_⟩
 .simp[Instr.alloc,newVar,newRow,hrun]
 .refine hok.addVar hf (nC _) (λj hj=>?_) (by simpa[Blk.has] using hn)
  have:=uJ hall hj
  have h2:=(nC (S:=S) (w:=w) (ρ:=ρ) (κ:=κ) (h:=σ.h) v.cells).2 j hj
  all_goals grind [qV]
theorem zF {z:List AV}{k:Nat} (hz:z.length=k):∀(m i:Nat),i<m*k->(List.flatten (List.replicate m z)).getD i .junk=z.getD (i%k) .junk
 |0,i,h=>by omega
 | m+1,i,h=>by
  rw[List.replicate_succ,List.flatten_cons]
  by_cases hi:i<k
  .grind [Nat.mod_eq_of_lt]
  .have hk:0<k:=by
    grind
   have:i%k=(i-k)%k:=by rw[Nat.mod_eq_sub_mod (by omega)]
   rw[this,←zF hz m (i-k) (by rw[Nat.succ_mul] at h;omega)]
   simp[List.getD,List.getElem?_append_right (show z.length<=i by omega),hz]
theorem vR {z:List AV}{k:Nat} (hz:z.length=k) (m:Nat):(List.flatten (List.replicate m z)).length=m*k:=by
 simp[hz]
theorem fE (k:Nat):∀(m:Nat) (cs:List AV),(rowsOf k m cs).length=m
 |0,_=>rfl
 |m+1,cs=>by simp[rowsOf,fE k m]
theorem pM (k:Nat):∀(m:Nat) (cs:List AV),cs.length=m*k->∀i,i<m->(((rowsOf k m cs).getD i []).length=k∧∀j,j<k->((rowsOf k m cs).getD i []).getD j .junk=cs.getD (i*k+j) .junk)
 |0,_,_,i,h=>by omega
 | m+1,cs,hl,0,_=>by
  grind [rowsOf]
 | m+1,cs,hl,i+1,h=>by
  rw[Nat.succ_mul] at hl
  obtain⟨h1,h2⟩:=pM k m (cs.drop k) (by simp;omega) i (by omega)
  all_goals grind [rowsOf]
theorem mR (z:Array Value) (m k:Nat) (hz:z.size=k) (j:Nat) (hj:j<m*k):((Array.range (m*k)).map (z[· % z.size]!)).getD j undef=z.getD (j%k) undef:=by
 have hk:0<k:=by
  grind
 have h1:j%k<z.size:=by rw[hz];exact Nat.mod_lt _ hk
 simp[hj,hz,getElem!_pos z (j%k) h1,getElem?_pos z (j%k) h1]
theorem aDc (hok:OK C σ a w S ρ κ) {t e:TypeId}{k m:Nat}{z:Array Value} (hu:P.underlying t=some (.slice e)) (hk:fO P e=some k) (hz:zOf P e=some z) {parts:List (Nat×Operand)}
  (hv:al (evO σ.s) σ.h n K (.bslice k m (z.toList.map λx=>.v x) parts)):Made P C σ a w S n K (Instr.buildSlice t m (parts.map λp=>(p.1,a.eval p.2)).toArray):=by
 obtain⟨zv,hrun,rfl⟩:=sW hz w
 simp only[al] at hv
 obtain⟨⟨hzk,hmk,hm,hzo⟩,hv⟩:=hv
 have hzs:zv.cells.size=k:=by simpa using hzk
 have hc0:Cells S w ρ κ σ.h (List.flatten (List.replicate m (zv.cells.toList.map λx=>.v x))) ((Array.range (m*k)).map (zv.cells[· % zv.cells.size]!)):=by
  refine⟨by rw[vR hzk];simp,λj hj=>?_⟩
  rw[vR hzk] at hj
  rw[zF hzk m j hj,mR _ _ _ hzs _ hj]
  have hk0:0<k:=by
   grind
  exact(nC zv.cells).2 _ (by rw[hzk];exact Nat.mod_lt _ hk0)
 obtain⟨cs,vs,⟨hclo,hK⟩,hfill,hcs,hone⟩:=wM hok (λi=>some (i*k,k)) parts _ _ _ (by simp) hc0 hv
 have hlen:cs.length=m*k:=by
  have hfl:∀(parts:List (Nat×Value)) (c c':Array Value),Instr.fill (λi=>some (i*k,k)) c parts=some c'->c'.size=c.size:=by
   intro parts
   induction parts with
   |nil=>intro c c' h;simp[Instr.fill] at h;rw[h]
   | cons p r ih =>
    intro c c' h
    simp only[Instr.fill] at h
    split at h
    .cases h
    .rename_i hcond
     have:=ih _ _ h
     rw[this]
     have hz2:p.2.cells.zipIdx.foldl (λcs (q:Value×Nat)=>cs.setIfInBounds (p.1*k+q.2) q.1) c=((p.2.cells.toList.zipIdx 0).foldl (λcs (q:Value×Nat)=>cs.setIfInBounds (p.1*k+q.2) q.1) c):=by
      rw[←Array.foldl_toList,Array.toList_zipIdx]
     have:=(sF p.2.cells.toList 0 (p.1*k) c (by simp at hcond⊢;omega)).1
     rw[←hz2] at this
     exact this
  have:=hfl _ _ _ hfill
  rw[hcs.1,this];simp
 have hone':=hone (λj hj=>by
   simp only[Array.size_map,Array.size_range] at hj
   rw[mR _ _ _ hzs _ hj]
   have hk0:0<k:=by
     grind
   have h2:=(nC (S:=S) (w:=w) (ρ:=ρ) (κ:=κ) (h:=σ.h) zv.cells).2 (j%k) (by rw[hzk];exact Nat.mod_lt _ hk0)
   exact qV h2 (uJ hzo (by rw[hzk];exact Nat.mod_lt _ hk0)))
 refine⟨_,_,.slice (some ⟨w.heap.size,0,none⟩) m m,{w with heap:=w.heap.push (.cells vs e)},hK,?_,λhf _=>?_⟩
 .have hfill':Instr.fill (λi=>some (i*k,k)) ((Array.range (m*k)).map (λi=>(if m*k=0 then #[] else zv.cells)[i%(if m*k=0 then(#[]:Array Value) else zv.cells).size]!)) (parts.map λp=>(p.1,a.eval p.2))=some vs:=by
   grind
  have hn:¬(2 ^ 24<m*k):=by omega
  by_cases h0:m*k=0
  .simp only[h0,if_true] at hfill'
   simp[Instr.buildSlice,run_underlying hu,run_sizeOf hk,h0,newRow]
   simp at hfill'
   rw[hfill'];simp
  .simp only[h0,if_false] at hfill'
   have:¬16777216<m*k:=by omega
   simp[Instr.buildSlice,run_underlying hu,run_sizeOf hk,newRow,hrun,this]
   rw[if_neg h0,hfill'];simp
 .have key:=hok.addArr (w':={w with heap:=w.heap.push (.cells vs e)}) (Ext.push w _) hf (k:=k) (l:=rowsOf k m cs) (cs:=vs) (T:=e) (fr:=(0,0)) (x:=w.heap.size) (cap:=m) (Nat.le_refl _) (rA _ _) (λj _ hj=>by omega)
   (λi hi=>(pM k m cs hlen i (by rwa [fE] at hi)).1) (by rw[fE,←hcs.1,hlen];exact Nat.le_refl _) (λi j hi hj=>?_) ⟨by rw[fE];exact Nat.le_refl _,by omega,by rw[←hcs.1,hlen];exact Nat.le_refl _⟩
  .rw[fE] at key;exact key
  .rw[fE] at hi
   have hlt:i*k+j<m*k:=by
    have:(i+1)*k<=m*k:=Nat.mul_le_mul_right k hi
    rw[Nat.succ_mul] at this;omega
   refine⟨hone' _ (by rw[←hcs.1,hlen];exact hlt),?_⟩
   rw[(pM k m cs hlen i hi).2 j hj]
   exact(hcs.2 _ (by rw[hlen];exact hlt)).closed (iW hclo (by rw[hlen];exact hlt))
theorem al_mk (hok:OK C σ a w S ρ κ) {t e:TypeId}{i:TypeInfo}{zv:Value} (hu:P.underlying t=some (.slice e)) (hi:P.info? e=some i) (hz:i.zero=some zv) {x:Operand}
  (hv:al (evO σ.s) σ.h n K (.mk i.size i.bytes (zv.cells.toList.map λx=>.v x) x)):Made P C σ a w S n K (Instr.makeSlice t (a.eval x) (a.eval x)):=by
 have hx:=hok.ev x
 generalize a.eval x=va at hx⊢
 simp only[al] at hv
 split at hv
 .rename_i m hc
  rw[hc] at hx
  obtain rfl:=aZ hx
  obtain⟨⟨h0,h1,h2,h3,hall⟩,hK⟩:=hv
  have hzs:zv.cells.size=i.size:=by simpa using h3
  have hrun:=run_make (P:=P) w t e i zv hu hi hz .i64 .i64 m m h0 (by omega) (by rw[Int.mul_comm];omega) (by omega)
  refine⟨_,_,_,_,hK,hrun,λhf _=>?_⟩
  have hmc:∀j,j<m.toNat*i.size->(madeCells zv.cells (m.toNat*i.size)).getD j undef=zv.cells.getD (j%i.size) undef:=λj hj=>mR _ _ _ hzs _ hj
  have hlen:(List.replicate m.toNat (zv.cells.toList.map λx=>AV.v x)).length=m.toNat:=by simp
  have hget:∀j,j<m.toNat->(List.replicate m.toNat (zv.cells.toList.map λx=>AV.v x)).getD j []=(zv.cells.toList.map λx=>AV.v x):=by
   intro j hj;simp[List.getD,hj]
  have key:=hok.addArr (w':=w.alloc (.cells (madeCells zv.cells (m.toNat*i.size)) e)) (Ext.push w _) hf (k:=i.size) (l:=List.replicate m.toNat (zv.cells.toList.map λx=>.v x)) (cs:=madeCells zv.cells (m.toNat*i.size)) (T:=e) (fr:=(0,0)) (x:=w.heap.size) (cap:=m.toNat) (Nat.le_refl _) (rA _ _) (λj _ hj=>by omega)
   (λj hj=>by rw[hlen] at hj;rw[hget j hj];exact h3) (by rw[hlen,size_madeCells];exact Nat.le_refl _) (λp j hp hj=>?_) ⟨by rw[hlen];exact Nat.le_refl _,by omega,by rw[size_madeCells];exact Nat.le_refl _⟩
  .rw[hlen] at key;exact key
  .rw[hlen] at hp
   have hlt:p*i.size+j<m.toNat*i.size:=by
    have:(p+1)*i.size<=m.toNat*i.size:=Nat.mul_le_mul_right _ hp
    rw[Nat.succ_mul] at this;omega
   rw[hmc _ hlt,hget p hp]
   have e1:(p*i.size+j)%i.size=j:=by rw[Nat.mul_comm,Nat.mul_add_mod,Nat.mod_eq_of_lt hj]
   rw[e1]
   have hjl:j<(zv.cells.toList.map λx=>AV.v x).length:=by rw[h3];exact hj
   have h4:=(nC (S:=S) (w:=w) (ρ:=ρ) (κ:=κ) (h:=σ.h) zv.cells).2 j hjl
   have h5:=uJ hall hjl
   simp only[Bool.and_eq_true] at h5
   exact⟨qV h4 h5.1,h4.closed h5.2⟩
 .exact hv.elim
end
section
variable [Envs]
variable {P:Program}{C:Ctx}{σ:FSt}{a:Act}{w:World}{S:Nat->Prop}{ρ:Name->Option Nat}{κ:Name->Nat}{h:Name->Option Blk}
def dS (w:World) (x:Nat) (o:Obj):World:={w with heap:=w.heap.setIfInBounds x o}
theorem mQ (w:World) (x:Nat) (o:Obj):(dS w x o).heap.size=w.heap.size:=by simp[dS]
theorem iQ (w:World) {x y:Nat} (o:Obj) (hne:y≠x):(dS w x o).heap[y]? = w.heap[y]?:=by
 simp[dS,Array.getElem?_setIfInBounds_ne (Ne.symm hne)]
theorem lt_of_heap {w:World}{x:Nat}{o:Obj} (h:w.heap[x]? = some o):x<w.heap.size:=by
 grind
theorem nL {w:World}{x:Nat}{o':Obj} (o:Obj) (hx:w.heap[x]? = some o'):(dS w x o).heap[x]? = some o:=by
 simp[dS,lt_of_heap hx]
def pI:Array Value->Nat->List Value->Array Value
 |cs,_,[]=>cs
 |cs,o,v::r=>pI (cs.setIfInBounds o v) (o+1) r
theorem eG:∀(vs:List Value) (cs:Array Value) (o:Nat),(pI cs o vs).size=cs.size
 | [],_,_=>rfl
 |v::r,cs,o=>by rw[pI,eG r];simp
theorem nZ:∀(vs:List Value) (cs:Array Value) (o j:Nat),o+vs.length<=cs.size->(pI cs o vs).getD j undef=if o<=j∧j<o+vs.length then vs.getD (j-o) undef else cs.getD j undef
 | [],cs,o,j,_=>by
  grind [pI]
 | x::r,cs,o,j,h=>by
  simp only[List.length_cons] at h
  rw[pI,nZ r _ _ _ (by simp;omega)]
  simp only[List.length_cons]
  by_cases h1:o+1<=j∧j<o+1+r.length
  .grind
  .rw[if_neg h1]
   by_cases h2:j=o
   .subst h2
    rw[if_pos (by omega)]
    simp[show j<cs.size by omega]
   .rw[if_neg (by omega)]
    simp[Array.getElem?_setIfInBounds_ne (Ne.symm h2)]
theorem aAu {x o:Nat}{cs:Array Value}{T:TypeId}{fr:Nat×Nat} (hx:w.heap[x]? = some (.cells cs T fr)) (v:Value) :
  w.setCell ⟨x,o,none⟩ v=dS w x (.cells (cs.setIfInBounds o v) T fr):=by
 unfold World.setCell dS
 congr 1
 all_goals grind
theorem yP (w:World) (x:Nat) (o o':Obj):dS (dS w x o) x o'=dS w x o':=by
 unfold dS
 simp
theorem iZ {x o:Nat}{T:TypeId}{fr:Nat×Nat}:∀(vs:List Value) (i:Nat) (cs:Array Value) (w:World),w.heap[x]? = some (.cells cs T fr)->aBM fr cs.size->
  o+i+vs.length<=cs.size->(∀v∈vs,v.oneCell'=true)->(storeCells ⟨x,o,none⟩ vs i).run P w=.ok () (dS w x (.cells (pI cs (o+i) vs) T fr))
 | [],i,cs,w,hx,_,_,_=>by
  have:dS w x (.cells cs T fr)=w:=by
   unfold dS
   have hlt:=lt_of_heap hx
   have h1:w.heap[x]=.cells cs T fr:=by simpa[hlt] using hx
   congr 1
   all_goals grind
  simp[storeCells,pI,this]
 | v::r,i,cs,w,hx,ht,hl,h1=>by
  simp only[List.length_cons] at hl
  have hcell:w.cell? ⟨x,o+i,none⟩=some (cs.getD (o+i) undef):=cell_of_row hx (by omega)
  have hfr:w.frozen? ⟨x,o+i,none⟩=false:=by
   grind [World.frozen?,aBM]
  have hs:=run_store P w ⟨x,o+i,none⟩ v .plain (h1 v (by simp))
  rw[hcell] at hs
  simp only[hfr,Bool.false_eq_true,if_false] at hs
  rw[aAu hx] at hs
  simp only[storeCells,addr_add,Sem.run_bind,hs,Result.andThen_ok]
  have hx':=nL (.cells (cs.setIfInBounds (o+i) v) T fr) hx
  rw[iZ r (i+1) (cs.setIfInBounds (o+i) v) _ hx' (by simpa using ht) (by simp;omega) (λu hu=>h1 u (by simp[hu])),yP]
  rfl
theorem OK.write (hok:OK C σ a w S ρ κ) {n:Name}{b b':Blk}{x:Nat}{w':World} (hb:σ.h n=some b) (hx:ρ n=some x) (hS:¬S x) (hsz:w'.heap.size=w.heap.size)
  (hw:∀y,y≠x->w'.heap[y]? = w.heap[y]?) (ho:w'.os=w.os∧w'.output=w.output) (hsame:b.same b')
  (hbk:∀h',(∀m,dK ρ ρ κ κ σ.h h' m)->pF S w' ρ κ h' n b'):OK C ⟨σ.s,hput σ.h n (some b')⟩ a w' S ρ κ:=by
 have hn:∀m,dK ρ ρ κ κ σ.h (hput σ.h n (some b')) m:=by
  intro m c hc
  by_cases hm:m=n
  .grind [hput]
  .simp only[hput,hm,if_false] at hc
   exact⟨rfl,rfl,c,hc,c.same_refl⟩
 have hSw:∀y,S y->w'.heap[y]? = w.heap[y]?:=λy hy=>hw y (λe=>hS (e ▸ hy))
 refine ⟨hok.nt,hok.defers,λt=>(hok.slots t).mono (λ_ h=>h) hSw λm _=>hn m,⟨λm c hc=>?_,λm m' y h1 h2 h3 h4=>?_,λy hy=>(by rw[hsz];exact hok.hok.dom y hy),hok.hok.env.mono (λ_ h=>h) hSw⟩,
   (by rw[hsz];exact hok.size),λy hy hm=>?_,λm y h1 h2=>?_,hok.S0,hok.Snew,⟨ho.1.trans hok.out.1,ho.2.trans hok.out.2⟩,λj c hc=>?_⟩
 rotate_right
 .grind [Blk.same_trans,OK,hput]
 .by_cases hm:m=n
  .grind [hput]
  .simp only[hput,hm,if_false] at hc
   refine(hok.hok.blk m c hc).mono (λ_ h=>h) (λ_ _ h=>h) hSw (λy hy=>hw y ?_) rfl rfl λm' _=>hn m'
   rintro rfl
   exact hm (hok.hok.inj m n y (by simp[hc]) (by simp[hb]) hy hx)
 .have key:∀m,(hput σ.h n (some b') m).isSome->(σ.h m).isSome:=by
   grind [hput]
  exact hok.hok.inj m m' y (key m h1) (key m' h2) h3 h4
 all_goals grind [hput,OK]
def Blk.setRow:Blk->Nat->List AV->Blk
 |.var _ z,_,r=>.var r z
 |.arr k l z,e,r=>.arr k (l.set e r) z
def Blk.okc:Blk->List AV->Bool
 |.var _ _,_=>true
 |.arr _ _ _,c=>nH c
def aAl (l:List (List AV)) (off len:Nat) (z:List AV):List (List AV):=l.take off++(List.replicate len z++l.drop (off+len))
theorem nA {l:List (List AV)}{off len:Nat}{z:List AV} (h:off+len<=l.length):(aAl l off len z).length=l.length:=by simp[aAl];omega
theorem aC3 (l:List (List AV)) (off:Nat) (z:List AV):aAl l off 0 z=l:=by simp[aAl]
theorem zH {l:List (List AV)}{off len:Nat}{z:List AV} (h:off+len<=l.length) (i:Nat):(aAl l off len z).getD i []=if off<=i∧i<off+len then z else l.getD i []:=by
 grind [aAl]
def wrC (k:Nat) (z:List AV) (ev:Operand->AV) (h:Name->Option Blk) (X:Operand) (K:(Name->Option Blk)->Prop):Prop:=
 match ev X with
 | .loc n off len=>match h n with
  |some (.arr k' l fz)=>(fz=false∧k'=k∧z.length=k∧(z.all λx=>mH h x&&fM x)=true∧off+len<=l.length)∧K (hput h n (some (.arr k (aAl l off len z) false)))
  |_=>False
 |_=>False
theorem aFR (hok:OK C σ a w S ρ κ) {t e ty:TypeId}{i:TypeInfo}{zv:Value} (hu:P.underlying t=some (.slice e)) (hi:P.info? e=some i) (hz:i.zero=some zv) {X:Operand}{K:(Name->Option Blk)->Prop}
  (hv:wrC i.size (zv.cells.toList.map λx=>.v x) (evO σ.s) σ.h X K) :
  ∃h' w',K h'∧(Builtin.clear_ #[t] ty #[a.eval X]).run P w=.ok (.tuple #[]) w'∧OK C ⟨σ.s,h'⟩ a w' S ρ κ:=by
 have hX:=hok.ev X
 generalize a.eval X=vx at hX⊢
 simp only[wrC] at hv
 split at hv
 .rename_i n off len hc
  rw[hc] at hX
  split at hv
  .rename_i k' l fz hb
   obtain⟨⟨rfl,rfl,hzl,hall,hle⟩,hK⟩:=hv
   obtain⟨_,base,cap,rfl,hlc,hcap,hbase,_⟩:=d9 hX _ _ _ hb
   cases len with
   | zero =>
    refine⟨_,w,hK,?_,?_⟩
    .cases base<;>simp[Builtin.clear_,run_underlying hu]
    .have:hput σ.h n (some (.arr i.size (aAl l off 0 (zv.cells.toList.map λx=>.v x)) false))=σ.h:=by
      funext m
      all_goals grind [aC3,hput]
     rw[this];exact hok
   | succ len =>
    obtain⟨x,hx,rfl⟩:=hbase (by omega)
    obtain⟨h0,⟨h1,h2⟩|⟨y,cur,T',fr,h1,h2,h3,h4,_,h5,h6,h7⟩⟩:=hok.hok.blk n _ hb
    .rw[h1] at hx;cases hx
    obtain rfl:=Option.some.inj (hx.symm.trans h1)
    have hzs:zv.cells.size=i.size:=by simpa using hzl
    have hlen:(Builtin.zeroCells zv.cells (len+1)).size=(len+1)*i.size:=by simp[Builtin.zeroCells,hzs]
    have hget:∀j,j<(len+1)*i.size->(Builtin.zeroCells zv.cells (len+1)).getD j undef=zv.cells.getD (j%i.size) undef:=by
     grind [mR,Builtin.zeroCells]
    have hcv:∀j,j<i.size->(zv.cells.getD j undef).oneCell'=true∧RC S w ((zv.cells.toList.map λx=>AV.v x).getD j .junk) (zv.cells.getD j undef):=by
     intro j hj
     have hjl:j<(zv.cells.toList.map λx=>AV.v x).length:=by rw[hzl];exact hj
     have h8:=(nC (S:=S) (w:=w) (ρ:=ρ) (κ:=κ) (h:=σ.h) zv.cells).2 j hjl
     have h9:=uJ hall hjl
     simp only[Bool.and_eq_true] at h9
     exact⟨qV h8 h9.1,h8.closed h9.2⟩
    have hmul:(off+(len+1))*i.size<=l.length*i.size:=Nat.mul_le_mul_right _ hle
    rw[Nat.add_mul] at hmul
    have hone:∀v∈(Builtin.zeroCells zv.cells (len+1)).toList,v.oneCell'=true:=by
     intro v hv
     obtain⟨j,hj,rfl⟩:=List.mem_iff_getElem.1 hv
     simp only[Array.length_toList,hlen] at hj
     have hk0:0<i.size:=by
      grind
     have:=(hcv (j%i.size) (Nat.mod_lt _ hk0)).1
     rw[←hget j hj] at this
     have hj':j<(Builtin.zeroCells zv.cells (len+1)).size:=by rw[hlen];exact hj
     simpa[hj'] using this
    have hst:=iZ (P:=P) (o:=off*i.size) (Builtin.zeroCells zv.cells (len+1)).toList 0 cur w h2 h3 (by simp only[Array.length_toList,hlen];omega) hone
    refine⟨_,dS w x (.cells (pI cur (off*i.size+0) (Builtin.zeroCells zv.cells (len+1)).toList) T' fr),hK,?_,?_⟩
    rotate_left
    .refine hok.write hb hx (h4 rfl) (mQ _ _ _) (λy hy=>iQ _ _ hy) ⟨rfl,rfl⟩ (by simp[Blk.same,nA hle]) λh' hn=>?_
     have hSw:∀y,S y->(dS w x (.cells (pI cur (off*i.size+0) (Builtin.zeroCells zv.cells (len+1)).toList) T' fr)).heap[y]? = w.heap[y]?:=λy hy=>iQ _ _ (λe=>h4 rfl (e ▸ hy))
     refine⟨λp hp=>?_,.inr ⟨x,_,T',fr,hx,nL _ h2,by rw[eG];exact h3,λ_=>h4 rfl,by simp,by rw[eG];exact h5,by rw[eG,nA hle];exact h6,λp j hp hj=>?_⟩⟩
     .rw[nA hle] at hp
      rw[zH hle]
      split
      .exact hzl
      .exact h0 p hp
     .rw[nA hle] at hp
      rw[zH hle,nZ _ _ _ _ (by simp only[Array.length_toList,hlen];omega)]
      simp only[Array.length_toList,hlen,Nat.add_zero]
      by_cases hin:off<=p∧p<off+(len+1)
      .have g1:off*i.size<=p*i.size:=Nat.mul_le_mul_right _ hin.1
       have g2:(p+1)*i.size<=(off+(len+1))*i.size:=Nat.mul_le_mul_right _ hin.2
       rw[Nat.succ_mul,Nat.add_mul] at g2
       rw[if_pos hin,if_pos (by omega)]
       have e1:p*i.size+j-off*i.size=(p-off)*i.size+j:=by
        rw[Nat.sub_mul];omega
       have e2:((p-off)*i.size+j)%i.size=j:=by rw[Nat.mul_comm,Nat.mul_add_mod,Nat.mod_eq_of_lt hj]
       have e3:(p-off)*i.size+j<(len+1)*i.size:=by rw[Nat.sub_mul];omega
       have:=hget _ e3
       rw[e2] at this
       have e4:(Builtin.zeroCells zv.cells (len+1)).toList.getD (p*i.size+j-off*i.size) undef=zv.cells.getD j undef:=by
        rw[e1,←this,getD_toList]
       rw[e4]
       exact⟨(hcv j hj).1,(hcv j hj).2.mono (λ_ h=>h) hSw⟩
      .have:¬(off*i.size<=p*i.size+j∧p*i.size+j<off*i.size+(len+1)*i.size):=by
        rintro⟨g1,g2⟩
        rcases Nat.lt_or_ge p off with hlt'|hge
        .have:(p+1)*i.size<=off*i.size:=Nat.mul_le_mul_right _ hlt'
         rw[Nat.succ_mul] at this;omega
        .have:(off+(len+1))*i.size<=p*i.size:=Nat.mul_le_mul_right _ (by omega)
         rw[Nat.add_mul] at this;omega
       rw[if_neg hin,if_neg this]
       exact⟨(h7 p j hp hj).1,(h7 p j hp hj).2.mono (λ_ h=>h) hSw⟩
    .simp[Builtin.clear_,run_underlying hu,zeroValue,typeInfo,hi,hz,hst]
  .exact hv.elim
 .exact hv.elim
def wrS (k:Nat) (ev:Operand->AV) (h:Name->Option Blk) (A X:Operand) (K:(Name->Option Blk)->Prop):Prop:=
 match ev A with
 | .ptr n e c=>match h n,gM h (ev X) with
  |some b,some cs=>(b.fz=false∧0<k∧cs.length=k∧c+k<=(b.row e).length∧b.okc cs=true)∧K (hput h n (some (b.setRow e (lay (b.row e) c cs))))
  |_,_=>False
 |_=>False
theorem aAa (l:List (List AV)) (e i:Nat) (r:List AV) (he:e<l.length):(l.set e r).getD i []=if i=e then r else l.getD i []:=by
 grind
theorem aDd (hok:OK C σ a w S ρ κ) {T:TypeId}{k:Nat} (hk:fO P T=some k) {A X:Operand}{K:(Name->Option Blk)->Prop} (hv:wrS k (evO σ.s) σ.h A X K) :
  ∃h' w',K h'∧(Instr.storeAt T (a.eval A) (a.eval X)).run P w=.ok () w'∧OK C ⟨σ.s,h'⟩ a w' S ρ κ:=by
 have hA:=hok.ev A
 have hX:=hok.ev X
 generalize a.eval A=va at hA⊢
 generalize a.eval X=vx at hX⊢
 simp only[wrS] at hv
 split at hv
 .rename_i n e c hc
  rw[hc] at hA
  split at hv
  .rename_i b cs hb hcs
   obtain⟨⟨hz,hk0,hlen,hle,hclo⟩,hK⟩:=hv
   obtain⟨⟨hcl,hcr⟩,hone⟩:=xZ hX hcs
   obtain⟨x,hx,rfl⟩:=bZ hA _ hb
   have hbk:=hok.hok.blk n b hb
   have hvone:∀v∈vx.cells.toList,v.oneCell'=true:=by
    intro v hv
    obtain⟨j,hj,rfl⟩:=List.mem_iff_getElem.1 hv
    simp only[Array.length_toList] at hj
    have:=hone j (by omega)
    simpa[hj] using this
   have hstore:∀(cur:Array Value) (T':TypeId) (fr:Nat×Nat),w.heap[x]? = some (.cells cur T' fr)->aBM fr cur.size->e*b.k+c+k<=cur.size->
     (Instr.storeAt T (.pointer (some ⟨x,e*b.k+c,none⟩)) vx).run P w=.ok () (dS w x (.cells (pI cur (e*b.k+c) vx.cells.toList) T' fr)):=by
    intro cur T' fr hh ht hle'
    have hs:=iZ (P:=P) (o:=e*b.k+c) vx.cells.toList 0 cur w hh ht (by simp;omega) hvone
    have:¬(vx.cells.size≠k):=by omega
    simp only[Nat.add_zero] at hs
    simp[Instr.storeAt,Instr.sureAddr,storeVar,run_sizeOf hk,←hcl,hlen,hs]
   cases b with
   | var rc z =>
    simp only[Blk.fz] at hz
    subst hz
    obtain⟨y,cur,T',fr,h1,h2,h3,h4,_,h5,h6,h7⟩:=hbk
    obtain rfl:=Option.some.inj (hx.symm.trans h1)
    have he:e=0:=by
     cases e with
     |zero=>rfl
     |succ e=>simp[Blk.row] at hle;omega
    subst he
    simp only[Blk.row,Blk.k,Nat.mul_zero,Nat.zero_add] at hle hstore hK⊢
    refine⟨_,_,hK,hstore cur T' fr h2 h3 (by omega),?_⟩
    refine hok.write hb hx (h4 rfl) (mQ _ _ _) (λy hy=>iQ _ _ hy) ⟨rfl,rfl⟩ (by simp[Blk.same,Blk.setRow,iJ]) λh' hn=>?_
    have hSw:∀y,S y->(dS w x (.cells (pI cur c vx.cells.toList) T' fr)).heap[y]? = w.heap[y]?:=λy hy=>iQ _ _ (λe=>h4 rfl (e ▸ hy))
    refine⟨x,pI cur c vx.cells.toList,T',fr,hx,nL _ h2,by rw[eG];exact h3,λ_=>h4 rfl,by simp,by rw[eG];exact h5,by rw[eG,iJ];exact h6,λj hj=>?_⟩
    rw[iJ] at hj
    rw[uF _ _ _ _ (by omega),nZ _ _ _ _ (by simp;omega)]
    simp only[Array.length_toList,←hcl]
    by_cases hj2:c<=j∧j<c+cs.length
    .rw[if_pos hj2,if_pos hj2,getD_toList]
     exact⟨hone _ (by omega),(hcr _ (by omega)).mono (λ_ h=>h) hSw λm _=>hn m⟩
    .rw[if_neg hj2,if_neg hj2]
     exact⟨(h7 j hj).1,(h7 j hj).2.mono (λ_ h=>h) hSw λm _=>hn m⟩
   | arr k' l z =>
    simp only[Blk.fz] at hz
    subst hz
    simp only[Blk.row,Blk.k] at hle hstore hK⊢
    have he:e<l.length:=by
     grind
    obtain⟨h0,⟨h1,h2⟩|⟨y,cur,T',fr,h1,h2,h3,h4,_,h5,h6,h7⟩⟩:=hbk
    .subst h2;simp at he
    obtain rfl:=Option.some.inj (hx.symm.trans h1)
    have hrow:(l.getD e []).length=k':=h0 e he
    have hlt:e*k'+k'<=cur.size:=by
     have:(e+1)*k'<=l.length*k':=Nat.mul_le_mul_right _ he
     rw[Nat.succ_mul] at this;omega
    refine⟨_,_,hK,hstore cur T' fr h2 h3 (by omega),?_⟩
    refine hok.write hb hx (h4 rfl) (mQ _ _ _) (λy hy=>iQ _ _ hy) ⟨rfl,rfl⟩ (by simp[Blk.same,Blk.setRow]) λh' hn=>?_
    have hSw:∀y,S y->(dS w x (.cells (pI cur (e*k'+c) vx.cells.toList) T' fr)).heap[y]? = w.heap[y]?:=λy hy=>iQ _ _ (λe=>h4 rfl (e ▸ hy))
    refine⟨λi hi=>?_,.inr ⟨x,pI cur (e*k'+c) vx.cells.toList,T',fr,hx,nL _ h2,by rw[eG];exact h3,λ_=>h4 rfl,by simp,by rw[eG];exact h5,by rw[eG];simpa using h6,λi j hi hj=>?_⟩⟩
    .grind [iJ]
    .simp only[List.length_set] at hi
     rw[aAa _ _ _ _ he,nZ _ _ _ _ (by simp;omega)]
     simp only[Array.length_toList,←hcl]
     by_cases hie:i=e
     .subst hie
      rw[if_pos rfl,uF _ _ _ _ (by omega)]
      by_cases hj2:c<=j∧j<c+cs.length
      .rw[if_pos hj2,if_pos (by omega),getD_toList]
       have e1:i*k'+j-(i*k'+c)=j-c:=by omega
       rw[e1]
       exact⟨hone _ (by omega),((hcr _ (by omega)).closed (iW hclo (by omega))).mono (λ_ h=>h) hSw⟩
      .rw[if_neg hj2,if_neg (by omega)]
       exact⟨(h7 i j hi hj).1,(h7 i j hi hj).2.mono (λ_ h=>h) hSw⟩
     .rw[if_neg hie]
      have:¬(e*k'+c<=i*k'+j∧i*k'+j<e*k'+c+cs.length):=by
       rintro⟨g1,g2⟩
       rcases Nat.lt_or_ge i e with hlt'|hge
       .have:(i+1)*k'<=e*k':=Nat.mul_le_mul_right _ hlt'
        rw[Nat.succ_mul] at this;omega
       .have:(e+1)*k'<=i*k':=Nat.mul_le_mul_right _ (by omega)
        rw[Nat.succ_mul] at this;omega
      rw[if_neg this]
      exact⟨(h7 i j hi hj).1,(h7 i j hi hj).2.mono (λ_ h=>h) hSw⟩
  .exact hv.elim
 .exact hv.elim
end
section
variable [Envs]
variable {P:Program}{C:Ctx}{σ:FSt}{a:Act}{w:World}{S:Nat->Prop}{ρ:Name->Option Nat}{κ:Name->Nat}{h:Name->Option Blk}
def scr (n:Name) (x:AV):AV:=if x.has n then .junk else x
def rR (n:Name):Blk->Blk
 |.var c z=>.var (c.map (scr n)) z
 |b=>b
def kI (n:Name) (σ:FSt):FSt:=⟨λt=>scr n (σ.s t),λm=>if m=n then none else(σ.h m).map (rR n)⟩
theorem OK.kill (hok:OK C σ a w S ρ κ) (n:Name):OK C (kI n σ) a w S ρ κ:=by
 have hsame:∀c:Blk,c.same (rR n c):=by
  intro c;cases c<;>simp[rR,Blk.same]
 have hn:∀m,dK ρ ρ κ κ σ.h (kI n σ).h m:=by
  intro m b' hb'
  simp only[kI] at hb'
  split at hb'
  .cases hb'
  .cases hm:σ.h m with
   |none=>rw[hm] at hb';cases hb'
   | some c =>
    grind
 have hrv:∀x v,RV S w ρ κ σ.h x v->RV S w ρ κ (kI n σ).h (scr n x) v:=by
  intro x v hx
  unfold scr;split
  .exact .junk _
  .exact hx.mono (λ_ h=>h) (λ_ _=>rfl) λm _=>hn m
 have hsome:∀m,((kI n σ).h m).isSome->(σ.h m).isSome:=by
  grind [kI]
 refine ⟨hok.nt,hok.defers,λt=>hrv _ _ (hok.slots t),⟨λm b' hb'=>?_,λm m' y h1 h2 h3 h4=>hok.hok.inj m m' y (hsome m h1) (hsome m' h2) h3 h4,hok.hok.dom,hok.hok.env⟩,hok.size,hok.old,
   λm y h1 h2=>hok.mine m y (hsome m h1) h2,hok.S0,hok.Snew,hok.out,λj b' hb'=>?_⟩
 rotate_left
 .obtain⟨_,_,c,h1,h2⟩:=hn (.b j) b' hb'
  all_goals grind [Blk.same_trans,OK]
 simp only[kI] at hb'
 split at hb'
 .cases hb'
 .cases hm:σ.h m with
  |none=>rw[hm] at hb';cases hb'
  | some c =>
   rw[hm] at hb'
   simp only[Option.map_some,Option.some.injEq] at hb'
   subst hb'
   have hc:=hok.hok.blk m c hm
   cases c with
   | var c z =>
    obtain⟨x,cs,T,fr,h1,h2,h3,h4,h4',h5,h6,h7⟩:=hc
    refine⟨x,cs,T,fr,h1,h2,h3,h4,h4',h5,by simpa using h6,λj hj=>?_⟩
    all_goals grind
   |arr k l z=>exact hc
theorem OK.add2 (hok:OK C σ a w S ρ κ) {w':World}{n:Name} (hf:dU n σ) {b:Blk}{ox:Option Nat}{kn:Nat} (hsz:w.heap.size<=w'.heap.size)
  (hw:∀y,y<w.heap.size->ox≠some y->w'.heap[y]? = w.heap[y]?) (ho:w'.os=w.os∧w'.output=w.output)
  (hox:∀x,ox=some x->(∀m,(σ.h m).isSome->ρ m≠some x)∧¬S x∧(C.w0.heap.size<=x∨C.Mut x))
  (hb:∀ρ' κ' h',ρ' n=ox->κ' n=kn->(∀m,m≠n->dK ρ ρ' κ κ' σ.h h' m)->pF S w' ρ' κ' h' n b) :
  OK C ⟨σ.s,hput σ.h n (some b)⟩ a w' S (λm=>if m=n then ox else ρ m) (λm=>if m=n then kn else κ m):=by
 have hn:∀m,m≠n->dK ρ (λm=>if m=n then ox else ρ m) κ (λm=>if m=n then kn else κ m) σ.h (hput σ.h n (some b)) m:=by
  intro m hm b' hb'
  simp only[hput,hm,if_false] at hb'⊢
  exact⟨trivial,trivial,b',hb',b'.same_refl⟩
 have hSw:∀y,S y->w'.heap[y]? = w.heap[y]?:=λy hy=>hw y (hok.hok.dom y hy) λe=>(hox y e).2.1 hy
 refine⟨hok.nt,hok.defers,λt=>?_,⟨λm c hc=>?_,λm m' y h1 h2 h3 h4=>?_,λy hy=>Nat.lt_of_lt_of_le (hok.hok.dom y hy) hsz,hok.hok.env.mono (λ_ h=>h) hSw⟩,Nat.le_trans hok.size hsz,λy hy hm=>?_,λm y h1 h2=>?_,hok.S0,hok.Snew,⟨ho.1.trans hok.out.1,ho.2.trans hok.out.2⟩,λj c hc=>?_⟩
 rotate_right
 .grind [hput,OK,dU]
 .refine(hok.slots t).mono (λ_ h=>h) hSw λm hm=>hn m ?_
  rintro rfl
  rw[hf.2.1 t] at hm;cases hm
 .by_cases hmn:m=n
  .grind [hput]
  .simp only[hput,hmn,if_false] at hc
   refine(hok.hok.blk m c hc).mono (λ_ h=>h) (λ_ _ h=>h) hSw (λy hy=>hw y (hok.hok.lt (by simp[hc]) hy) λe=>(hox y e).1 m (by simp[hc]) hy) (by simp[hmn]) (by simp[hmn]) λm' hm'=>hn m' ?_
   rintro rfl
   rw[hf.2.2 m c hc] at hm';cases hm'
 .by_cases e1:m=n<;>by_cases e2:m'=n
  .rw[e1,e2]
  .grind [hput]
  .grind [hput]
  .simp only[hput,e1,e2,if_false] at h1 h2 h3 h4
   exact hok.hok.inj m m' y h1 h2 h3 h4
 all_goals grind [hput,OK]
theorem aBU {x:AV}{v:Value} (hok:HOK S w ρ κ h) (hx:RV S w ρ κ h x v) {k:Nat}{l:List (List AV)} (hl:kG k h x=some l) :
  ∃ base cap,v=.slice base l.length cap∧(∀i,i<l.length->(l.getD i []).length=k)∧
   ∃b off,(l≠[]->base=some ⟨b,off,none⟩∧b<w.heap.size)∧∀i j,i<l.length->j<k->∃u,w.cell? ⟨b,off+(i*k+j),none⟩=some u∧u.oneCell'=true∧RC S w ((l.getD i []).getD j .junk) u:=by
 unfold kG at hl
 split at hl
 .rename_i k' l'
  split at hl
  .rename_i hk;subst hk
   obtain rfl:=Option.some.inj hl
   cases p8 hx with
   | sl _ _ base cap b off xs hb hc ho hr hk hcap =>
    exact⟨base,cap,rfl,hk,b,off,λhne=>⟨(hb hne).1,hok.dom _ (hb hne).2⟩,λi j hi hj=>⟨_,hc i j hi hj,ho i j hi hj,hr i j hi hj⟩⟩
  .cases hl
 .rename_i n off len
  split at hl
  .rename_i k' l' z hb
   split at hl
   .rename_i hk;subst hk
    obtain rfl:=Option.some.inj hl
    obtain⟨hle,base,cap,rfl,hlc,hcap,hbase,_⟩:=d9 hx _ _ _ hb
    have hlen:((l'.drop off).take len).length=len:=by simp;omega
    have hget:∀i,i<len->((l'.drop off).take len).getD i []=l'.getD (off+i) []:=by
     intro i hi;simp[List.getD,hi]
    obtain⟨h0,h1⟩:=hok.blk n _ hb
    refine⟨base,cap,by rw[hlen],λi hi=>?_,?_⟩
    .grind
    .rcases h1 with⟨h1,h2⟩|⟨x,cs,T,fr,h1,h2,h3,h4,_,h5,h6,h7⟩
     .subst h2
      simp only[List.length_nil] at hle
      exact⟨0,0,λhne=>absurd (List.length_eq_zero_iff.1 (by rw[hlen];omega)) hne,λi j hi=>by rw[hlen] at hi;omega⟩
     .refine⟨x,off*k',λhne=>?_,λi j hi hj=>?_⟩
      .grind [HOK,RV,kG]
      .rw[hlen] at hi
       have:=h7 (off+i) j (by omega) hj
       have hlt:(off+i)*k'+j<cs.size:=by
        have:(off+i+1)*k'<=l'.length*k':=Nat.mul_le_mul_right _ (by omega)
        rw[Nat.succ_mul] at this;omega
       all_goals grind [cell_of_row]
   .cases hl
  .cases hl
 .obtain rfl:=Option.some.inj hl
  obtain rfl:=aZ hx
  exact⟨none,0,rfl,by simp,0,0,by simp,by simp⟩
 .cases hl
def kX (k:Nat) (l:List (List AV)) (m:Nat):AV:=(l.getD (m/k) []).getD (m%k) .junk
theorem vV {k n m:Nat} (h:m<n*k):m/k<n∧m%k<k∧m/k*k+m%k=m:=by
 have hk:0<k:=by
  grind
 refine⟨(Nat.div_lt_iff_lt_mul hk).2 h,Nat.mod_lt _ hk,?_⟩
 all_goals grind [Nat.div_add_mod]
structure Reads (S:Nat->Prop) (w:World) (base:Option Addr) (k:Nat) (l:List (List AV)) (f:Nat->Value):Prop where
 rows:∀i,i<l.length->(l.getD i []).length=k
 cell:∀w':World,w'.heap=w.heap->∀m,m<l.length*k->∃b off,base=some ⟨b,off,none⟩∧w'.cell? ⟨b,off+m,none⟩=some (f m)
 one:∀m,m<l.length*k->(f m).oneCell'=true
 rc:∀m,m<l.length*k->RC S w (kX k l m) (f m)
theorem wV {x:AV}{v:Value} (hok:HOK S w ρ κ h) (hx:RV S w ρ κ h x v) {k:Nat}{l:List (List AV)} (hl:kG k h x=some l) :
  ∃base cap f,v=.slice base l.length cap∧Reads S w base k l f:=by
 obtain⟨base,cap,rfl,hrow,b,off,hb,hc⟩:=aBU hok hx hl
 refine⟨base,cap,λm=>(w.cell? ⟨b,off+m,none⟩).getD undef,rfl,hrow,λw' hw m hm=>?_,λm hm=>?_,λm hm=>?_⟩
 all_goals
  obtain⟨h1,h2,h3⟩:=vV hm
  obtain⟨u,hu,ho,hr⟩:=hc _ _ h1 h2
  rw[h3] at hu
 .grind [World.cell?]
 .simp only[hu,Option.getD_some];exact ho
 .simp only[hu,Option.getD_some];exact hr
theorem Reads.first {base:Option Addr}{k:Nat}{l:List (List AV)}{f:Nat->Value} (hr:Reads S w base k l f) (cap:Nat) {w':World} (hw:w'.heap=w.heap) :
  (Builtin.firstCells k l.length (.slice base l.length cap)).run P w'=.ok ((List.range (l.length*k)).map f).toArray w':=by
 cases base with
 | none =>
  have:l.length*k=0:=by
   rcases Nat.eq_zero_or_pos (l.length*k) with h|h
   .exact h
   .obtain⟨_,_,h,_⟩:=hr.cell w rfl 0 h;cases h
  simp[Builtin.firstCells,this]
 | some b =>
  grind [Builtin.firstCells,run_loadCells,addr_add,Reads]
theorem pO {k:Nat}{l l':List (List AV)}{m:Nat} (hm:m<(l++l').length*k) :
  kX k (l++l') m=if m<l.length*k then kX k l m else kX k l' (m-l.length*k):=by
 grind [kX,List.getElem?_append_left,Nat.le_div_iff_mul_le,Nat.mul_comm,Nat.sub_mul_div,Nat.sub_mul_mod]
theorem uI {k:Nat}{l:List (List AV)}{cs:Array Value} (hc:∀m,m<l.length*k->(cs.getD m undef).oneCell'=true∧RC S w (kX k l m) (cs.getD m undef)) :
  ∀i j,i<l.length->j<k->(cs.getD (i*k+j) undef).oneCell'=true∧RC S w ((l.getD i []).getD j .junk) (cs.getD (i*k+j) undef):=by
 intro i j hi hj
 have hlt:i*k+j<l.length*k:=by
  have:(i+1)*k<=l.length*k:=Nat.mul_le_mul_right _ hi
  rw[Nat.succ_mul] at this;omega
 all_goals grind [kX,Nat.mul_comm,Nat.mul_add_div,Nat.div_eq_of_lt,Nat.mul_add_mod,Nat.mod_eq_of_lt]
def vY (k:Nat) (h:Name->Option Blk):AV->Option (Option Name×List (List AV))
 |.v (.slice none 0 0)=>some (none,[])
 | .loc n off len=>match h n with
  |some (.arr k' l z)=>if k'=k∧off=0∧len=l.length∧z=false then some (some n,l) else none
  |_=>none
 |_=>none
def vQ:Option Name->FSt->FSt
 |some n,σ=>kI n σ
 |none,σ=>σ
def wrA (k bytes:Nat) (σ:FSt) (d:Name) (A X:Operand) (K:FSt->AV->Prop):Prop:=
 match vY k σ.h (evO σ.s A),kG k σ.h (evO σ.s X) with
 | some (on,l),some l'=>((l.length+l'.length)*bytes<=2 ^ 47∧l.length+l'.length<2 ^ 62)∧
   K ⟨(vQ on σ).s,hput (vQ on σ).h d (some (.arr k (l++l') false))⟩ (.loc d 0 (l.length+l'.length))
 |_,_=>False
theorem aCw (hok:OK C σ a w S ρ κ) {t t2 e e2:TypeId}{ty:TypeId}{i:TypeInfo}{zv:Value} (hu:P.underlying t=some (.slice e)) (hu2:P.underlying t2=some (.slice e2)) (hi:P.info? e=some i) (hz:i.zero=some zv) (hzs:zv.cells.size=i.size) {A X:Operand}{d:Name}{K:FSt->AV->Prop}
  (hf:∀on l,vY i.size σ.h (evO σ.s A)=some (on,l)->dU d (vQ on σ)) (hv:wrA i.size i.bytes σ d A X K) :
  ∃σ' x v w' ρ' κ',K σ' x∧(Builtin.append_ #[t,t2] ty #[a.eval A,a.eval X]).run P w=.ok v w'∧OK C σ' a w' S ρ' κ'∧RV S w' ρ' κ' σ'.h x v:=by
 have hA:=hok.ev A
 have hX:=hok.ev X
 generalize a.eval A=va at hA⊢
 generalize a.eval X=vx at hX⊢
 simp only[wrA] at hv
 split at hv
 .rename_i on l l' hbo hro
  obtain⟨⟨hby,hln⟩,hK⟩:=hv
  have hfr:=hf _ _ hbo
  obtain⟨xb,xc,f',rfl,hR'⟩:=wV hok.hok hX hro
  have hbase:∃base cap f,va=.slice base l.length cap∧Reads S w base i.size l f∧cap<2 ^ 63∧
    ((on=none∧base=none∧cap=0∧l=[])∨∃n z,on=some n∧σ.h n=some (.arr i.size l false)∧z=()∧((ρ n=none∧base=none∧cap=0)∨∃x,ρ n=some x∧base=some ⟨x,0,none⟩∧cap*i.size<=κ n)):=by
   unfold vY at hbo
   split at hbo
   .rename_i hev
    simp only[Option.some.injEq,Prod.mk.injEq] at hbo
    obtain⟨rfl,rfl⟩:=hbo
    rw[hev] at hA
    obtain rfl:=aZ hA
    exact⟨none,0,λ_=>undef,rfl,⟨by simp,by simp,by simp,by simp⟩,by omega,.inl ⟨rfl,rfl,rfl,rfl⟩⟩
   .rename_i n off len hev
    split at hbo
    .rename_i k' l2 z hb
     split at hbo
     .rename_i hcond
      obtain⟨rfl,rfl,rfl,rfl⟩:=hcond
      simp only[Option.some.injEq,Prod.mk.injEq] at hbo
      obtain⟨rfl,rfl⟩:=hbo
      rw[hev] at hA
      have hro':kG i.size σ.h (.loc n 0 l2.length)=some l2:=by simp[kG,hb]
      obtain⟨base,cap,f,hva,hR⟩:=wV hok.hok hA hro'
      obtain⟨_,base',cap',hva',_,hcap,_,hfull⟩:=d9 hA _ _ _ hb
      rw[hva] at hva'
      simp only[Value.slice.injEq,true_and] at hva'
      obtain⟨rfl,rfl⟩:=hva'
      exact⟨base,cap,f,hva,hR,hcap,.inr ⟨n,(),rfl,hb,rfl,hfull rfl rfl⟩⟩
     .cases hbo
    .cases hbo
   .cases hbo
  obtain⟨base,cap,f,rfl,hR,hcap,hcase⟩:=hbase
  have hokk:OK C (vQ on σ) a w S ρ κ:=by
   cases on with
   |none=>exact hok
   |some n=>exact hok.kill n
  have hrows:∀j,j<(l++l').length->((l++l').getD j []).length=i.size:=by
   intro j hj
   simp only[List.length_append] at hj
   by_cases h1:j<l.length
   .simpa[List.getD,List.getElem?_append_left h1] using hR.rows j h1
   .simpa[List.getD,List.getElem?_append_right (Nat.le_of_not_lt h1)] using hR'.rows (j-l.length) (by omega)
  have hfirst':=λw' hw=>hR'.first (P:=P) xc (w':=w') hw
  have hfirst:=λw' hw=>hR.first (P:=P) cap (w':=w') hw
  have hcellsN:(l++l').length*i.size=l.length*i.size+l'.length*i.size:=by rw[List.length_append,Nat.add_mul]
  have hone':∀v∈(List.range (l'.length*i.size)).map f',v.oneCell'=true:=by
   intro v hv
   obtain⟨m,hm,rfl⟩:=List.mem_map.1 hv
   exact hR'.one m (by simpa using hm)
  by_cases hroom:l.length+l'.length<=cap
  .-- there is room: the row is written where it lies, or nothing is written
   have hnil:base=none->cap=0->l=[]->∃σ' x v w' ρ' κ',K σ' x∧(Builtin.append_ #[t,t2] ty #[.slice base l.length cap,.slice xb l'.length xc]).run P w=.ok v w'∧OK C σ' a w' S ρ' κ'∧RV S w' ρ' κ' σ'.h x v:=by
    rintro rfl rfl rfl
    obtain rfl:l'=[]:=by simpa using hroom
    have hff:=hfirst' w rfl
    simp only[List.length_nil,Nat.zero_mul,List.range_zero,List.map_nil] at hff
    refine⟨_,_,.slice none 0 0,w,_,_,hK,?_,hokk.add2 hfr (b:=.arr i.size [] false) (ox:=none) (kn:=0) (Nat.le_refl _) (λ_ _ _=>rfl) ⟨rfl,rfl⟩ (by simp) (fun ρ' κ' h' e1 e2 _=>⟨by simp,.inl ⟨e1,rfl⟩⟩),?_⟩
    .simp[Builtin.append_,run_underlying hu,run_underlying hu2,sizeOf,typeInfo,hi,Builtin.lenOf,hff]
    .refine .loc _ _ _ _ λk' l2 z hb=>?_
     simp only[hput,if_true,Option.some.injEq,Blk.arr.injEq] at hb
     obtain⟨rfl,rfl,rfl⟩:=hb
     exact⟨by simp,none,0,rfl,by omega,by omega,λh=>absurd h (by simp),λ_ _=>.inl ⟨by simp,rfl,rfl⟩⟩
   rcases hcase with⟨rfl,hbn,hc0,hl0⟩|⟨n,_,rfl,hb,_,⟨hρ,hbn,hc0⟩|⟨x,hρ,rfl,hck⟩⟩
   .exact hnil hbn hc0 hl0
   .obtain⟨_,⟨_,hl0⟩|⟨x,_,_,_,hx,_⟩⟩:=hok.hok.blk n _ hb
    .exact hnil hbn hc0 hl0
    .rw[hρ] at hx;cases hx
   .-- written in place
    obtain⟨hk0,⟨h1,h2⟩|⟨y,cur,T,fr,h1,h2,h3,h4,_,h5,h6,h7⟩⟩:=hok.hok.blk n _ hb
    .rw[hρ] at h1;cases h1
    obtain rfl:=Option.some.inj (hρ.symm.trans h1)
    have hfit:l.length*i.size+l'.length*i.size<=cur.size:=by
     rw[h5,←Nat.add_mul]
     exact Nat.le_trans (Nat.mul_le_mul_right _ hroom) hck
    have hst:=iZ (P:=P) (o:=l.length*i.size) ((List.range (l'.length*i.size)).map f') 0 cur w h2 h3 (by simp;omega) hone'
    simp only[Nat.add_zero] at hst
    have hff:=hfirst' w rfl
    have hS:¬S x:=h4 rfl
    have hsz:(pI cur (l.length*i.size) ((List.range (l'.length*i.size)).map f')).size=cur.size:=eG _ _ _
    have hget:=λm=>nZ ((List.range (l'.length*i.size)).map f') cur (l.length*i.size) m (by simp;omega)
    simp only[List.length_map,List.length_range] at hget
    refine ⟨_,_,.slice (some ⟨x,0,none⟩) (l.length+l'.length) cap,dS w x (.cells (pI cur (l.length*i.size) ((List.range (l'.length*i.size)).map f')) T fr),_,_,hK,?_,
      hokk.add2 hfr (b:=.arr i.size (l++l') false) (ox:=some x) (kn:=κ n) (by rw[mQ];exact Nat.le_refl _) (λy _ hne=>iQ _ _ (λe=>hne (e ▸ rfl))) ⟨rfl,rfl⟩ ?_ ?_,?_⟩
    .simp[Builtin.append_,run_underlying hu,run_underlying hu2,sizeOf,typeInfo,hi,Builtin.lenOf,hff,hroom,addr_add,hst]
    .intro x' hx'
     obtain rfl:=Option.some.inj hx'
     refine⟨λm hm he=>?_,hS,hok.mine n x (by simp[hb]) hρ⟩
     simp only[vQ,kI] at hm
     split at hm
     .cases hm
     .rename_i hmn
      exact hmn (hok.hok.inj m n x (by simpa using hm) (by simp[hb]) he hρ)
    .intro ρ' κ' h' e1 e2 _
     refine⟨hrows,.inr ⟨x,_,T,fr,e1,nL _ h2,by rw[hsz];exact h3,λ_=>hS,by simp,by rw[hsz,h5,e2],by rw[hcellsN,hsz];exact hfit,uI λm hm=>?_⟩⟩
     have hSw:∀y,S y->(dS w x (.cells (pI cur (l.length*i.size) ((List.range (l'.length*i.size)).map f')) T fr)).heap[y]? = w.heap[y]?:=λy hy=>iQ _ _ (λe=>hS (e ▸ hy))
     rw[pO hm,hget m]
     rw[hcellsN] at hm
     by_cases hml:m<l.length*i.size
     .rw[if_pos hml,if_neg (by omega)]
      obtain⟨g1,g2,g3⟩:=vV hml
      have:=h7 _ _ g1 g2
      rw[g3] at this
      exact⟨this.1,this.2.mono (λ_ h=>h) hSw⟩
     .rw[if_neg hml,if_pos (by omega)]
      have hm':m-l.length*i.size<l'.length*i.size:=by omega
      have e:((List.range (l'.length*i.size)).map f').getD (m-l.length*i.size) undef=f' (m-l.length*i.size):=by simp[List.getD,hm']
      rw[e]
      exact⟨hR'.one _ hm',(hR'.rc _ hm').mono (λ_ h=>h) hSw⟩
    .refine .loc _ _ _ _ λk' l2 z hb2=>?_
     simp only[hput,if_true,Option.some.injEq,Blk.arr.injEq] at hb2
     obtain⟨rfl,rfl,rfl⟩:=hb2
     refine⟨by simp,_,_,rfl,hroom,hcap,λ_=>⟨x,by simp,by simp⟩,λ_ _=>.inr ⟨x,by simp,rfl,by simpa using hck⟩⟩
  .-- it grows
   have hgrow:cap<l.length+l'.length:=by omega
   have hff:=hfirst' w.drew rfl
   have hff0:=hfirst w.drew rfl
   have hfits:=growslice_fits (bytes:=i.bytes) hgrow (by omega)
   have n63:¬(9223372036854775807<(l.length:Int)+(l'.length:Int)):=by omega
   have n48:¬(281474976710656<Builtin.nextslicecap (l.length+l'.length) cap*i.bytes):=by omega
   have hn:¬(l.length+l'.length<=cap):=by omega
   have hge:=grownCap_ge w (l.length+l'.length) cap e
   have hle:=grownCap_le_maxLen w (l.length+l'.length) cap e (by unfold maxLen;omega)
   unfold maxLen at hle
   have hszz:=size_zeroCells zv.cells (grownCap w (l.length+l'.length) cap e-(l.length+l'.length))
   generalize hcsd:((List.range (l.length*i.size)).map f).toArray++((List.range (l'.length*i.size)).map f').toArray++Builtin.zeroCells zv.cells (grownCap w (l.length+l'.length) cap e-(l.length+l'.length))=cs
   have hcsz:cs.size=grownCap w (l.length+l'.length) cap e*i.size:=by
    rw[←hcsd]
    simp only[Array.size_append,List.size_toArray,List.length_map,List.length_range,hszz,hzs]
    rw[←Nat.add_mul,←Nat.add_mul]
    congr 1;omega
   have hget:∀m,m<l.length*i.size+l'.length*i.size->cs.getD m undef=if m<l.length*i.size then f m else f' (m-l.length*i.size):=by
    intro m hm
    rw[←hcsd]
    by_cases h1:m<l.length*i.size
    .rw[if_pos h1]
     simp[Array.getElem?_append,h1,show m<l.length*i.size+l'.length*i.size by omega]
    .rw[if_neg h1]
     simp[Array.getElem?_append,hm,List.getElem_append,h1]
   have hex:Ext w (w.drew.alloc (.cells cs e)):=(Ext.of_heap (w':=w.drew) rfl rfl rfl).trans (Ext.push w.drew _)
   obtain ⟨ρ',κ',hok',hrv⟩:=hokk.addArr hex hfr (k:=i.size) (l:=l++l') (cs:=cs) (T:=e) (fr:=(0,0)) (x:=w.heap.size) (cap:=grownCap w (l.length+l'.length) cap e) (Nat.le_refl _) (rA w.drew _) (λj _ hj=>by omega)
    hrows (by rw[hcsz,List.length_append];exact Nat.mul_le_mul_right _ hge) (uI λm hm=>by
      rw[pO hm]
      rw[hcellsN] at hm
      rw[hget m hm]
      by_cases h1:m<l.length*i.size
      . rw[if_pos h1,if_pos h1];exact⟨hR.one _ h1,hR.rc _ h1⟩
      . rw[if_neg h1,if_neg h1];exact⟨hR'.one _ (by omega),hR'.rc _ (by omega)⟩) ⟨by rw[List.length_append];exact hge,by omega,by rw[hcsz];exact Nat.le_refl _⟩
   refine⟨_,_,_,_,ρ',κ',hK,?_,hok',by rw[←List.length_append];exact hrv⟩
   simp[Builtin.append_,run_underlying hu,run_underlying hu2,sizeOf,typeInfo,zeroValue,hi,hz,Builtin.lenOf,hn,n63,n48,Question.forced,hff,hff0,newRow]
   rw[←hcsd]
   exact⟨rfl,by rw[Array.append_assoc];rfl⟩
 .exact hv.elim
end
end Go.Vs
