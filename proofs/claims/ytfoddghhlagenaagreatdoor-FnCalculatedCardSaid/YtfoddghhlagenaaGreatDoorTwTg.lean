/- Two rows of fields put one behind the other: slices.Concat. -/
import Derived.Test.YtfoddghhlagenaaGreatDoorVsD
import Derived.Test.YtfoddghhlagenaaGreatDoorTwTb
import Derived.Test.YtfoddghhlagenaaGreatDoorVuX
import Derived.WalkKit
import Derived.Handy
import Derived.Deep.LoopGhost
import Derived.Deep.RegionLaw
import Derived.Lib.Walk
import Derived.Lib.SliceRun
import Derived.Lib.AppendZerosOnto
import Derived.Shelf.RegionOpenPlain
set_option linter.all false
set_option maxHeartbeats 8000000
namespace Go.Proofs.YtfoddghhlagenaaGreatDoor
open Go.Vs
variable [Vs.Tab 0 Vs.powP]
attribute [local irreducible] Vs.Fn
open Go.RowKit Go.Lib
theorem aAc:∃(i0:TypeInfo) (z:Value),Tryz.prog.info? 28=some i0∧i0.zero=some z∧i0.size=2∧i0.bytes=16∧z.cells.size=2:=by
 have h:(Tryz.prog.info? 28).map (λi=>(i.size,i.bytes,i.zero.map λz=>z.cells.size))=some (2,16,some 2):=by kernel_rfl
 cases hi:Tryz.prog.info? 28 with
 |none=>rw[hi] at h;cases h
 | some i =>
  rw[hi] at h
  simp only[Option.map_some,Option.some.injEq,Prod.mk.injEq] at h
  obtain⟨a,b,c⟩:=h
  cases hz:i.zero with
  |none=>rw[hz] at c;cases c
  | some z =>
   rw[hz] at c
   simp only[Option.map_some,Option.some.injEq] at c
   exact⟨i,z,rfl,hz,a,b,c⟩
set_option maxRecDepth 100000 in
theorem growW (n:Nat) (h0:0<n) (hn:n<=2000) (w:World):Calls Tryz.prog 80 #[.slice none 0 0,.int .i64 n] w λe w'=>∃v,e=.returned v∧w'.ownsRow w.heap.size 28 2 v 0 []∧v≠.slice none 0 0∧Below w.heap.size w w':=by
 have mixed:Tryz.prog.follows .mixedOrders=true:=Tryz.checked.mixed
 obtain⟨i0,z,hi,hz0,hz1,hz2,hzs⟩:=aAc
 have u42:∀w,Sem.run Tryz.prog (underlying 42) w=.ok (TypeDesc.slice 28) w:=run_underlying Tryz.underlying42
 have h1:¬((n:Int)<0):=by omega
 have h3:wrap64 (n:Int)=(n:Int):=by unfold wrap64;omega
 have h4:(n:Int)>0:=by omega
 have hold:(Builtin.firstCells i0.size 0 (.slice none 0 0)).run Tryz.prog w.drew=.ok ([]:List Value).toArray w.drew:=run_firstCells_none w.drew i0.size 0 0 0
 have hrz:∀ty,(Builtin.append_ #[42,3] ty #[.slice none 0 0,.int .i64 (n:Int)]).run Tryz.prog w=.ok (.slice (some ⟨w.heap.size,0,none⟩) n (grownCap w n 0 28)) (w.drew.alloc (.cells (#[]++Builtin.zeroCells z.cells n++Builtin.zeroCells z.cells (grownCap w n 0 28-n)) 28)):=λty=>by
  have h:=Lib.run_append_grow_zeros w 42 3 ty 28 i0 z .i64 .i64 Tryz.underlying42 Tryz.underlying3 hi hz0 none 0 0 [] hold n h0 (by omega) (by omega) (by omega) (by rw[hz2];omega) (growslice_fits (by omega) (by rw[hz2];omega))
  simpa using h
 have hGn:n<=grownCap w n 0 28:=grownCap_ge w _ _ _
 have hG63:grownCap w n 0 28<=maxLen:=grownCap_le_maxLen w n 0 28 (by unfold maxLen;omega)
 have hsz:(#[]++Builtin.zeroCells z.cells n++Builtin.zeroCells z.cells (grownCap w n 0 28-n)).size=grownCap w n 0 28*2:=by
  simp only[Array.size_append,size_zeroCells,hzs]
  simp only[Array.size_empty]
  omega
 generalize hG:grownCap w n 0 28=G at *
 generalize(#[]++Builtin.zeroCells z.cells n++Builtin.zeroCells z.cells (G-n))=cur at *
 have hG9:G<=9223372036854775807:=by unfold maxLen at hG63;omega
 have A:Aside (cur.size=G*2∧G<=maxLen):=⟨hsz,hG63⟩
 clear hold hG hi hz0 hz1 hz2 hzs hsz hG63
 go_enter Tryz.func80,Tryz.ntmps80
 go_wp2_with (at_builtin;refine Lib.wpList_append_run _ rfl _ _ _ _ rfl _ _ rfl rfl _ _ (hrz _) ?_)
 all_goals(go_ret;refine⟨_,rfl,World.ownsRow_made (w.drew) cur G (by exact Nat.le_refl _) A.out.2 A.out.1,by simp,?_⟩;exact((Below.refl _ w).drew).alloc (Nat.le_refl _) _)
set_option maxRecDepth 100000 in
theorem aGi (w:World):Calls Tryz.prog 80 #[.slice none 0 0,.int .i64 0] w λe w'=>e=.returned (.slice none 0 0)∧w'=w:=by
 have mixed:Tryz.prog.follows .mixedOrders=true:=Tryz.checked.mixed
 have u42:∀w,Sem.run Tryz.prog (underlying 42) w=.ok (TypeDesc.slice 28) w:=run_underlying Tryz.underlying42
 go_enter Tryz.func80,Tryz.ntmps80
 go_wp2
 go_ret
 exact⟨rfl,rfl⟩
theorem growA (n:Nat) (hn:n<=2000) (w:World):Calls Tryz.prog 80 #[.slice none 0 0,.int .i64 n] w λe w'=>∃v,e=.returned v∧w'.ownsRow w.heap.size 28 2 v 0 []∧(v=.slice none 0 0↔n=0)∧Below w.heap.size w w':=by
 by_cases h:n=0
 .subst h
  exact(aGi w).mono λe w' ⟨h1,h2⟩=>⟨_,h1,World.ownsRow_nil _ _ _ _,by simp,h2 ▸ Below.refl _ _⟩
 .exact(growW n (by omega) hn w).mono λe w' ⟨v,h1,h2,h3,h4⟩=>⟨v,h1,h2,⟨λe=>absurd e h3,λe=>absurd e h⟩,h4⟩
def aAr (w:World) (a:Option Addr) (n c:Nat) (news:List Value):Prop:=news.length=n*2∧(∀u∈news,u.oneCell'=true)∧((a=none∧n=0)∨∃ad:Addr,a=some ad∧∀j u,news[j]? = some u->ad.block<w.heap.size∧w.cell? (ad.add j)=some u)
theorem aAr.later {w w':World}{a:Option Addr}{n c:Nat}{news:List Value} (h:aAr w a n c news) (hb:Below w.heap.size w w'):aAr w' a n c news:=by
 obtain⟨h1,h2,h3⟩:=h
 refine⟨h1,h2,h3.imp id λ⟨ad,h4,h6⟩=>⟨ad,h4,λj u hj=>?_⟩⟩
 obtain⟨h5,h7⟩:=h6 j u hj
 have e:(ad.add j).block=ad.block:=by unfold Addr.add;split<;>rfl
 exact⟨Nat.lt_of_lt_of_le h5 hb.size,(hb.cell (p:=ad.add j) (by rw[e];exact h5)).trans h7⟩
theorem aGw (w:World) (c:Nat) (v:Value) (m:Nat) (ks:List Value) (base:Nat) (hown:w.ownsRow base 28 2 v m ks):(Builtin.append_ #[42,42] 42 #[v,.slice none 0 c]).run Tryz.prog w=.ok v w:=by
 obtain⟨i0,z,hi,hz0,hz1,hz2,hzs⟩:=aAc
 rcases hown with⟨hl,⟨rfl,rfl⟩|⟨g,cap,cur,rfl,_,hg,hcap,_⟩⟩
 .simp[Builtin.append_,run_underlying Tryz.underlying42,Go.sizeOf,typeInfo,hi,Builtin.lenOf,Builtin.firstCells]
 .simp[Builtin.append_,run_underlying Tryz.underlying42,Go.sizeOf,typeInfo,hi,Builtin.lenOf,Builtin.firstCells,hcap,storeCells]
theorem appA (w:World) (base:Nat) (v:Value) (m:Nat) (ks:List Value) (hown:w.ownsRow base 28 2 v m ks) (hb:base<=w.heap.size) (a:Option Addr) (n c:Nat) (news:List Value) (hs:aAr w a n c news) (hm:m+n<=10000) :
  ∃v' w',(Builtin.append_ #[42,42] 42 #[v,.slice a n c]).run Tryz.prog w=.ok v' w'∧w'.ownsRow base 28 2 v' (m+n) (ks++news)∧w.grownBy w' v.ownBlock∧(v'=.slice none 0 0↔v=.slice none 0 0∧n=0):=by
 obtain⟨i0,z,hi,hz0,hz1,hz2,hzs⟩:=aAc
 obtain⟨h1,h2,⟨rfl,rfl⟩|⟨ad,rfl,h3⟩⟩:=hs
 .have:news=[]:=List.length_eq_zero_iff.1 (by simpa using h1)
  subst this
  exact⟨v,w,aGw w c v m ks base hown,by simpa using hown,⟨rfl,rfl,rfl,Nat.le_refl _,λ_ _ _=>rfl⟩,by simp⟩
 .exact run_append_own w base 42 42 28 i0 z 2 16 Tryz.underlying42 hi hz0 hz1 hz2 hzs (by omega) v m ks hown ad n c news h1 (λj u hj=>(h3 j u hj).2) h2 (by unfold maxLen;omega) (by omega) hb
theorem sum2 {n0 n1:Nat} (h0:n0<=1000) (h1:n1<=1000):wrap64 ((n0:Int)+(n1:Int))=((n0+n1:Nat):Int):=by unfold wrap64;omega
theorem wrapN {n:Nat} (h:n<=2000):wrap64 (n:Int)=(n:Int):=by unfold wrap64;omega
set_option maxRecDepth 1000000 in
theorem aFl (xb xo xc:Nat) (a0 a1:Option Addr) (n0 n1 c0 c1:Nat) (k0 k1:List Value) (w:World) (hxl:xb<w.heap.size) (hx0:w.cell? ⟨xb,xo,none⟩=some (.slice a0 n0 c0)) (hx1:w.cell? ⟨xb,xo+1,none⟩=some (.slice a1 n1 c1)) (s0:aAr w a0 n0 c0 k0) (s1:aAr w a1 n1 c1 k1) (hn0:n0<=1000) (hn1:n1<=1000) :
  Calls Tryz.prog 46 #[.slice (some ⟨xb,xo,none⟩) 2 xc] w λe w'=>∃v,e=.returned v∧w'.ownsRow w.heap.size 28 2 v (n0+n1) (k0++k1)∧(v=.slice none 0 0↔n0+n1=0)∧Below w.heap.size w w':=by
 have mixed:Tryz.prog.follows .mixedOrders=true:=Tryz.checked.mixed
 have hw0:=wrapN (n:=n0) (by omega)
 have hw1:=sum2 hn0 hn1
 have S0:Aside (aAr w a0 n0 c0 k0):=s0
 have S1:Aside (aAr w a1 n1 c1 k1):=s1
 clear s0 s1
 go_enter Tryz.func46,Tryz.ntmps46
 go_wp2
 go_loopg [3,11] 2 (λk s3 s11 wr=>∃j,k=2-j∧j<=2∧s11=.int .i64 j∧s3=.int .i64 ((if j=0 then 0 else if j=1 then n0 else n0+n1:Nat))∧w=wr)
 case atStart=>exact⟨0,rfl,by omega,rfl,rfl,rfl⟩
 case round =>
  obtain⟨j,hk,hj,rfl,rfl,rfl⟩:=hrel
  have hj3:j=0∨j=1∨j=2:=by omega
  rcases hj3 with rfl|rfl|rfl
  .go_wp2
   go_roundg 1
   case measure=>omega
   case rel=>exact⟨1,rfl,by omega,rfl,by simp[hw0],rfl⟩
  .go_wp2
   go_roundg 0
   case measure=>omega
   case rel=>exact⟨2,rfl,by omega,rfl,by simp[hw1],rfl⟩
  .go_wp2_with fail
   go_call (growA (n0+n1) (by omega) w) as e w1 ⟨v,he,hown,hnil,hbl⟩
   subst he
   go_wp2
   go_loopg [6,27] 2 (λk d s27 wr=>∃j,k=2-j∧j<=2∧s27=.int .i64 j∧∃m ks,wr.ownsRow w.heap.size 28 2 d m ks∧Below w.heap.size w wr∧(d=.slice none 0 0↔n0+n1=0)∧m=(if j=0 then 0 else if j=1 then n0 else n0+n1)∧ks=(if j=0 then[] else if j=1 then k0 else k0++k1))
   case atStart=>exact⟨0,rfl,by omega,rfl,0,[],hown,hbl,hnil,rfl,rfl⟩
   case round =>
    obtain⟨j,hk,hj,rfl,m,ks,ho,hb,hd,rfl,rfl⟩:=hrel
    have hj3:j=0∨j=1∨j=2:=by omega
    rcases hj3 with rfl|rfl|rfl
    .have hxc:wr.cell? ⟨xb,xo,none⟩=some (.slice a0 n0 c0):=(hb.cell hxl).trans hx0
     obtain⟨v',w2,hrun,hown2,hgrow,hnil2⟩:=appA wr w.heap.size _ _ _ ho hb.size a0 n0 c0 k0 (S0.out.later hb) (by simp;omega)
     have hb2:Below w.heap.size w w2:=hb.grown hgrow hb.size (λk hk=>(ho.lt k hk).1)
     have hd2:(v'=.slice none 0 0↔n0+n1=0):=by rw[hnil2,hd];omega
     have R:Aside (w2.ownsRow w.heap.size 28 2 v' _ _):=hown2
     clear hown2 hnil2 hgrow ho
     go_wp2_with (at_builtin;refine Lib.wpList_append_run _ rfl _ _ _ _ rfl _ _ rfl rfl _ _ hrun ?_)
     go_wp2
     go_roundg 1
     case measure=>omega
     case rel=>exact⟨1,rfl,by omega,by simp,_,_,R.out,hb2,hd2,by simp,by simp⟩
    .have hxc:wr.cell? ⟨xb,xo+1,none⟩=some (.slice a1 n1 c1):=(hb.cell hxl).trans hx1
     obtain⟨v',w2,hrun,hown2,hgrow,hnil2⟩:=appA wr w.heap.size _ _ _ ho hb.size a1 n1 c1 k1 (S1.out.later hb) (by simp;omega)
     have hb2:Below w.heap.size w w2:=hb.grown hgrow hb.size (λk hk=>(ho.lt k hk).1)
     have hd2:(v'=.slice none 0 0↔n0+n1=0):=by rw[hnil2,hd];omega
     have R:Aside (w2.ownsRow w.heap.size 28 2 v' _ _):=hown2
     clear hown2 hnil2 hgrow ho
     go_wp2_with (at_builtin;refine Lib.wpList_append_run _ rfl _ _ _ _ rfl _ _ rfl rfl _ _ hrun ?_)
     go_wp2
     go_roundg 0
     case measure=>omega
     case rel=>exact⟨2,rfl,by omega,by simp,_,_,R.out,hb2,hd2,by simp,by simp⟩
    .go_wp2
     go_ret
     exact⟨_,rfl,by simpa using ho,hd,hb⟩
def kR:List (Int×Int)->List Value
 | []=>[]
 |f::r=>.int .i64 f.1::.int .i64 f.2::kR r
theorem uL:∀fs:List (Int×Int),(kR fs).length=fs.length*2
 | []=>rfl
 |f::r=>by simp only[kR,List.length_cons,uL r];omega
theorem yT:∀a b:List (Int×Int),kR (a++b)=kR a++kR b
 | [],_=>rfl
 |f::r,b=>by simp only[kR,List.cons_append,yT r b]
theorem yS:∀(fs:List (Int×Int)) (u:Value),u∈kR fs->u.oneCell'=true
 | [],u,h=>by cases h
 | f::r,u,h=>by
  simp only[kR,List.mem_cons] at h
  rcases h with rfl|rfl|h
  .rfl
  .rfl
  .exact yS r u h
theorem uM:∀(fs:List (Int×Int)) (i b:Nat),b<2->(kR fs)[i*2+b]? = fs[i]?.map λf=>Value.int .i64 (if b=0 then f.1 else f.2)
 | [],i,b,_=>by simp[kR]
 | f::r,0,b,h=>by
  have:b=0∨b=1:=by omega
  rcases this with rfl|rfl<;>rfl
 | f::r,i+1,b,h=>by
  rw[show(i+1)*2+b=(i*2+b)+1+1 by omega]
  simp only[kR,List.getElem?_cons_succ]
  exact uM r i b h
theorem aEE {fs:List (Int×Int)}{i j:Nat} (hi:i<fs.length) (hj:j<2):((E cPf fs).getD i []).getD j .junk=.v (.int .i64 (if j=0 then fs[i].1 else fs[i].2)):=by
 rw[bI hi]
 have:j=0∨j=1:=by omega
 rcases this with rfl|rfl<;>rfl
theorem aFy {S:Nat->Prop}{w:World}{u:Value}{fs:List (Int×Int)} (h:RC S w (.sl 2 (E cPf fs)) u) (hS:∀b,S b->b<w.heap.size):∃a c,u=.slice a fs.length c∧aAr w a fs.length c (kR fs):=by
 have hL:(E cPf fs).length=fs.length:=aJ _
 generalize hx:(.sl 2 (E cPf fs):AV)=X at h
 cases h with
 | sl k l base cap x off xs hb hc ho hr hk hcap =>
  obtain⟨rfl,rfl⟩:=AV.sl.inj hx
  rw[hL]
  refine⟨base,cap,rfl,uL fs,λu hu=>yS fs u hu,?_⟩
  by_cases hl:fs=[]
  .subst hl
   cases base with
   |none=>exact .inl ⟨rfl,rfl⟩
   |some ad=>exact .inr ⟨ad,rfl,λj u hj=>by simp[kR] at hj⟩
  .have h0:0<fs.length:=List.length_pos_iff.2 hl
   obtain⟨rfl,hSx⟩:=hb (λe=>by rw[e] at hL;simp at hL;omega)
   refine .inr ⟨_,rfl,λj u hj=>?_⟩
   have hj2:j<fs.length*2:=by rw[←uL];exact(List.getElem?_eq_some_iff.1 hj).1
   have hi:j/2<fs.length:=by omega
   have hg:=uM fs (j/2) (j%2) (by omega)
   rw[show j/2*2+j%2=j by omega,hj,List.getElem?_eq_getElem hi] at hg
   have hrr:=hr (j/2) (j%2) (by omega) (by omega)
   have hcc:=hc (j/2) (j%2) (by omega) (by omega)
   rw[show j/2*2+j%2=j by omega] at hrr hcc
   rw[aEE hi (by omega)] at hrr
   refine⟨hS x hSx,?_⟩
   rw[Addr.add_lit,hcc]
   rw[aZ (ρ:=λ_=>none) (κ:=λ_=>0) (h:=λ_=>none) (.clo hrr)]
   exact hg.symm
 |_=>cases hx
theorem aFM:aFQ:=λp m hp hm=>by
 refine Vs.Fn.of_new ⟨Tryz.f46,_,Tryz.func46,rfl,by decide⟩ (by intro y hy;obtain rfl:=List.mem_singleton.1 hy;rfl) λS w vs hS he hvs hargs=>?_
 have h0:=hargs 0 (by show 0<1;omega)
 have evs:vs=#[vs.getD 0 undef]:=by
  have hs:vs.size=1:=hvs
  apply Array.ext (by simpa using hs)
  intro i hi hi2
  have hi3:i=0:=by simp at hi2;exact hi2
  subst hi3
  simp[Array.getD,hs]
 rw[evs]
 generalize vs.getD 0 undef=v at h0
 cases h0 with
 | sl _ _ base cap x off xs hb hc ho hr hk hcap =>
  obtain⟨rfl,hSx⟩:=hb (by simp)
  obtain⟨a0,c0,e0,s0⟩:=aFy (fs:=p) (show RC S w (.sl 2 (E cPf p)) (xs 0) from hr 0 0 (by simp) (by omega)) hS
  obtain⟨a1,c1,e1,s1⟩:=aFy (fs:=m) (show RC S w (.sl 2 (E cPf m)) (xs 1) from hr 1 0 (by simp) (by omega)) hS
  have q0:w.cell? ⟨x,off,none⟩=some (xs 0):=hc 0 0 (by simp) (by omega)
  have q1:w.cell? ⟨x,off+1,none⟩=some (xs 1):=hc 1 0 (by simp) (by omega)
  rw[e0] at q0
  rw[e1] at q1
  refine(aFl x off cap a0 a1 p.length m.length c0 c1 (kR p) (kR m) w (hS x hSx) q0 q1 s0 s1 hp hm).mono ?_
  rintro e w' ⟨v,rfl,⟨hlen,hown⟩,hnil,hbelow⟩
  refine⟨v,λb=>w.heap.size<=b∧b<w'.heap.size,rfl,Vs.mP.of_below hbelow,λb hb=>hb,?_⟩
  have hE:(E cPf (p++m)).length=p.length+m.length:=by rw[aJ,List.length_append]
  rcases hown with⟨rfl,h0⟩|⟨g,cap',cur,rfl,hgb,hh,h1,h2,h3,h4⟩
  .have hpm:p++m=[]:=List.length_eq_zero_iff.1 (by rw[List.length_append];exact h0)
   rw[hpm]
   exact .sl 2 [] none 0 0 0 (λ_=>undef) (by simp) (by simp) (by simp) (by simp) (by simp) ⟨by simp,by decide⟩
  .have hgl:g<w'.heap.size:=by
    rcases Nat.lt_or_ge g w'.heap.size with h|h
    .exact h
    .rw[Array.getElem?_eq_none h] at hh;cases hh
   rw[←yT] at h4
   have key:∀i j,i<(E cPf (p++m)).length->j<2->∃n:Int,cur.getD (i*2+j) undef=.int .i64 n∧((E cPf (p++m)).getD i []).getD j .junk=.v (.int .i64 n):=λi j hi hj=>by
    rw[aJ] at hi
    have hi2:i<p.length+m.length:=by rw[←List.length_append];exact hi
    have hg:=uM (p++m) i j hj
    rw[List.getElem?_eq_getElem hi,←h4,List.getElem?_take,if_pos (by omega)] at hg
    have h7:i*2+j<cur.size:=by omega
    refine⟨_,?_,aEE hi hj⟩
    simp only[Array.getElem?_toList,Option.map_some] at hg
    rw[Array.getElem?_eq_getElem h7] at hg
    simp[Array.getD,h7] at hg⊢
    exact hg
   rw[←hE]
   refine .sl 2 (E cPf (p++m)) (some ⟨g,0,none⟩) cap' g 0 (λt=>cur.getD t undef) (λ_=>⟨rfl,hgb,hgl⟩) (λi j hi hj=>?_) (λi j hi hj=>?_) (λi j hi hj=>?_) (λi hi=>?_) ⟨by rw[hE];exact h1,Nat.lt_of_le_of_lt h2 (by decide)⟩
   .rw[Nat.zero_add]
    exact Vs.aFn hh (by omega)
   .obtain⟨n,e1,_⟩:=key i j hi hj
    rw[e1];rfl
   .obtain⟨n,e1,e2⟩:=key i j hi hj
    rw[e1,e2];exact .v _
   .rw[aJ] at hi
    rw[bI hi];rfl
end Go.Proofs.YtfoddghhlagenaaGreatDoor
