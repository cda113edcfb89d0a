/- A row of steps copied, and a step taken out of it. -/
import Derived.Test.YtonkjfiffcfaoaaGreatUuA
import Derived.Test.YtonkjfiffcfaoaaGreatUuD
import Derived.Test.YtonkjfiffcfaoaaGreatVuM
import Derived.WalkKit
import Derived.Deep.LoopGhost
import Derived.Deep.RegionLaw
import Derived.Lib.Walk
import Derived.Lib.SliceRun
import Derived.Shelf.RegionOpenPlain
set_option linter.all false
set_option maxHeartbeats 8000000
namespace Go.Proofs.YtonkjfiffcfaoaaGreat
open Go.Vs
variable [Vs.Envs]
attribute [local irreducible] Vs.Fn
open Go.RowKit Go.Lib
theorem aIc:∃(i0:TypeInfo) (z:Value),Tryz.prog.info? 64=some i0∧i0.zero=some z∧i0.size=9∧i0.bytes=80∧z.cells.size=9∧∀u,u∈z.cells.toList→u.oneCell'=true:=by
 have h:(Tryz.prog.info? 64).map (fun i=>(i.size,i.bytes,i.zero.map fun z=>(z.cells.size,z.cells.toList.all (·.oneCell'))))=some (9,80,some (9,true)):=by kernel_rfl
 cases hi:Tryz.prog.info? 64 with
 |none=>rw[hi] at h;cases h
 | some i =>
  rw[hi] at h;simp only[Option.map_some,Option.some.injEq,Prod.mk.injEq] at h;obtain⟨a,b,c⟩:=h;cases hz:i.zero with
  |none=>rw[hz] at c;cases c
  | some z =>
   rw[hz] at c;simp only[Option.map_some,Option.some.injEq,Prod.mk.injEq] at c;exact⟨i,z,rfl,hz,a,b,c.1,List.all_eq_true.1 c.2⟩
set_option maxRecDepth 100000 in
theorem aL1 (b off n c:Nat) (news:List Value) (w:World) (hl:news.length=n*9) (hn:n≤maxLen) (hbig:n*80≤140737488355328)
  (hc:∀j u,news[j]? = some u→w.cell? ⟨b,off+j,none⟩=some u) (h1:∀u∈news,u.oneCell'=true) :
  Calls Tryz.prog 28 #[.slice (some ⟨b,off,none⟩) n c] w fun e w'=>∃v',e=.returned v'∧w'.ownsRow w.heap.size 64 9 v' n news∧v'≠.slice none 0 0∧Below w.heap.size w w':=by
 obtain⟨i0,z,hi,hz0,hz1,hz2,hzs,_⟩:=aIc;have q22:∀(w:World) (a:Option Addr) (n c n' c':Nat),(binOp .eql 24 (.slice a n c) (.slice none n' c')).run Tryz.prog w=.ok (.bool a.isNone) w:=fun w a n c n' c'=>Lib.run_eql_slice_nil w _ _ a n c n' c' Tryz.underlying24;have u22:∀w,Sem.run Tryz.prog (underlying 24) w=.ok (TypeDesc.slice 64) w:=run_underlying Tryz.underlying24;have A:Aside (∀j u,news[j]? = some u→w.cell? ⟨b,off+j,none⟩=some u):=hc;clear hc
 go_enter Tryz.func28,Tryz.ntmps28
 go_wp2_with (at_builtin;refine wpList_append_own _ rfl _ _ 24 rfl w.heap.size 64 i0 z 9 80 Tryz.underlying24 hi hz0 hz1 hz2 hzs (by omega) _ _ _ rfl (World.ownsRow_made w #[] 0 (Nat.le_refl _) (Nat.zero_le _) (by simp)) ⟨b,off,none⟩ n c news rfl ?qc1 ?qc2 ?qc3 ?qc4 ?qc5 ?qc6 ?_)
 case qc1=>exact hl
 case qc2 =>
  intro j u hj;rw[Addr.add_lit];exact Lib.cell?_alloc_some _ (A.out j u hj)
 case qc3=>exact h1
 case qc4=>rw[Nat.zero_add];exact hn
 case qc5=>rw[Nat.zero_add];exact hbig
 case qc6=>simp
 intro v' w1 hown hgrow hnil
 go_wp2
 go_ret
 refine⟨v',rfl,by simpa using hown,?_,?_⟩
 ·exact hnil
 ·exact((Below.refl _ w).alloc (Nat.le_refl _) _).grown hgrow (by simp) (by intro k hk;simp[Value.ownBlock] at hk;omega)
theorem aFx (w:World) (ty:TypeId) (b o c:Nat) (z:Value) (i0:TypeInfo) (hi:Tryz.prog.info? 64=some i0) (hz0:i0.zero=some z) (hzs:z.cells.size=9) (hone:∀u,u∈z.cells.toList→u.oneCell'=true)
  (hc:∀j,j<9→(w.cell? ⟨b,o+j,none⟩).isSome=true) (hf:∀j,j<9→w.frozen? ⟨b,o+j,none⟩=false) :
  (Builtin.clear_ #[24] ty #[.slice (some ⟨b,o,none⟩) 1 c]).run Tryz.prog w=.ok (.tuple #[]) (w.setCells b o z.cells.toList):=by
 have hzc:(Builtin.zeroCells z.cells 1).toList=z.cells.toList:=by
  apply List.ext_getElem
  ·simp[Builtin.zeroCells]
  ·intro i h1 h2;have:i<9:=by simpa[hzs] using h2
   simp[Builtin.zeroCells,hzs,Nat.mod_eq_of_lt this];exact getElem!_pos z.cells i (by omega)
 have hst:=run_storeCells_cells (P:=Tryz.prog) b o z.cells.toList 0 w (by simpa[hzs] using hc) (by simpa[hzs] using hf) hone;simp only[Nat.add_zero] at hst;simp[Builtin.clear_,run_underlying Tryz.underlying24,zeroValue,typeInfo,hi,hz0,hzc,hst]
set_option maxRecDepth 1000000 in
theorem delW (w:World) (b cap i j n:Nat) (cs:List Value) (hcs:cs.length=n*9) (hc:∀j u,cs[j]? = some u→w.cell? ⟨b,j,none⟩=some u) (h1:∀u,u∈cs→u.oneCell'=true) (hf:∀j,j<cs.length→w.frozen? ⟨b,j,none⟩=false) (hcap:n≤cap) (hm:cap≤9223372036854775807) (hij:j=i+1) (hj:j≤n) :
  Calls Tryz.prog 27 #[.slice (some ⟨b,0,none⟩) n cap,.int .i64 i,.int .i64 j] w fun e w'=>e=.returned (.slice (some ⟨b,0,none⟩) (n-1) cap)∧∃q zs,zs.length=9∧w'=((w.drewN q).setCells b (i*9) (cs.drop ((i+1)*9))).setCells b ((n-1)*9) zs:=by
 have mixed:Tryz.prog.follows .mixedOrders=true:=Tryz.checked.mixed;obtain⟨i0,z,hi,hz0,hz1,hz2,hzs,hone⟩:=aIc;obtain⟨news,hnews⟩:∃news,news=cs.drop ((i+1)*9):=⟨_,rfl⟩;have hlen:news.length=(n-j)*9:=by rw[hnews,List.length_drop,hcs,hij];omega
 have hget:∀t u,news[t]? = some u→w.cell? ⟨b,j*9+t,none⟩=some u:=fun t u ht=>by
  rw[hnews,List.getElem?_drop,←hij] at ht;exact hc _ u ht
 have hlt:i<j:=by omega
 obtain ⟨A,hA,hsrc⟩:∃A:Addr,(if cap=j then some (⟨b,0,none⟩:Addr) else some ⟨b,j*9,none⟩)=some A∧Hid (∀t u,news[t]? = some u→w.drew.cell? (A.add t)=some u):=by
  by_cases h:cap=j
  ·refine⟨⟨b,0,none⟩,by simp[h],fun t u hu=>?_⟩;have h0:news.length=0:=by rw[hlen];omega
   rw[List.length_eq_zero_iff.1 h0] at hu;simp at hu
  ·refine⟨⟨b,j*9,none⟩,by simp[h],fun t u hu=>?_⟩;rw[Addr.add_lit];exact hget t u hu
 have hcell:∀t,t<n*9→(w.cell? ⟨b,t,none⟩).isSome=true∧w.frozen? ⟨b,t,none⟩=false:=fun t ht=>by
  obtain⟨u,hu⟩:∃u,cs[t]? = some u:=⟨cs[t],List.getElem?_eq_getElem (by omega)⟩;exact⟨by rw[hc t u hu];rfl,hf t (by omega)⟩
 have s1:Hid (news.length=(n-j)*9):=hlen
 have s2:Hid (∀u∈news,u.oneCell'=true):=by
  intro u hu;rw[hnews] at hu;exact h1 u (List.mem_of_mem_drop hu)
 have s3:Hid (∀t,t<news.length→(w.drew.cell? ⟨b,0+i*9+t,none⟩).isSome=true∧w.drew.frozen? ⟨b,0+i*9+t,none⟩=false):=by
  intro t ht;rw[hlen] at ht;rw[Nat.zero_add];exact hcell _ (by omega)
 obtain⟨W1,hW1⟩:∃W1,W1=w.drew.setCells b (0+i*9) news:=⟨_,rfl⟩;have hk:i+(n-j)=n-1:=by omega
 have hcell1:∀t,t<n*9→(W1.cell? ⟨b,t,none⟩).isSome=true∧W1.frozen? ⟨b,t,none⟩=false:=fun t ht=>by
  rw[hW1,World.frozen?_setCells];refine⟨?_,(hcell t ht).2⟩;by_cases hin:t<i*9∨i*9+news.length≤t
  ·rw[World.cell?_setCells_out b _ _ _ _ (fun _ _=>by show t<_∨_≤t;omega)];exact(hcell t ht).1
  ·have:=World.cell?_setCells_in b news (0+i*9) w.drew (fun t ht=>by
     rw[hlen] at ht;rw[Nat.zero_add];exact(hcell _ (by omega)).1) (t-i*9) (by omega)
   rw[show 0+i*9+(t-i*9)=t by omega] at this;rw[this];rfl
 have hcl:∀ty,(Builtin.clear_ #[24] ty #[.slice (some ⟨b,(n-1)*9,none⟩) (n-(n-1)) (cap-(n-1))]).run Tryz.prog W1=.ok (.tuple #[]) (W1.setCells b ((n-1)*9) z.cells.toList):=fun ty=>by
  rw[show n-(n-1)=1 by omega];exact aFx W1 ty b _ _ z i0 hi hz0 hzs hone (fun t ht=>(hcell1 _ (by omega)).1) (fun t ht=>(hcell1 _ (by omega)).2)
 have X:Aside (W1=w.drew.setCells b (0+i*9) news):=hW1;have hW:Hid (W1=w.drew.setCells b (0+i*9) news):=hW1;have Y:Aside (news=cs.drop ((i+1)*9)):=hnews;have hic:i≤cap:=by omega
 have hjc:j≤cap:=by omega
 obtain⟨zs,ezs,hzl⟩:∃zs:List Value,z.cells.toList=zs∧zs.length=9:=⟨_,rfl,by simp[hzs]⟩;rw[ezs] at hcl;clear hW1 hcell1 hcell hget hnews hlen hc h1 hf hcs hij ezs hz0 hzs hone z
 go_enter Tryz.func27,Tryz.ntmps27
 go_wp2_with fail
 go_region_law_o (refine step_append_room rfl (.tmp 22) (.tmp 25) 24 rfl 64 i0 9 Tryz.underlying24 hi hz1 b 0 i cap (by simp[Act.eval,Act.put]) A (n-j) (cap-j) news (by simp[Act.eval,Act.put]) s1.out hsrc.out s2.out (by omega) s3.out ?_;rw[←hW.out])
 go_wp2
 go_ret
 refine⟨rfl,1,zs,hzl,?_⟩;rw[←Y.out,X.out,Nat.zero_add];rfl
theorem aL2 (l:List Stp) (hpos:0<l.length) (hl:l.length≤1048576):Vs.Fn Tryz.prog F.pV [] [.sl 9 (E cS l)] (.loc (.b 0) 0 l.length) [some (.arr 9 (E cS l) false)]:=by
 have hL:(E cS l).length=l.length:=aG l;rw[←hL];refine Vs.Fn.of_newrow ⟨Tryz.f28,_,Tryz.func28,rfl,by decide⟩ (by intro y hy;obtain rfl:=List.mem_singleton.1 hy;rfl) (fun i hi=>?_) fun S w vs hS he hvs hargs=>?_
 ·rw[aT (by rw[←hL];exact hi)];rfl
 have h0:=hargs 0 (by show 0<1;omega)
 have evs:vs=#[vs.getD 0 undef]:=by
  have hs:vs.size=1:=hvs;apply Array.ext (by simpa using hs);intro i hi hi2;have hi3:i=0:=by simp at hi2;exact hi2
  subst hi3;simp[Array.getD,hs]
 rw[evs];generalize vs.getD 0 undef=v at h0;cases h0 with
 | sl _ _ base cap x off xs hb hc ho hr hk hcap =>
  obtain⟨rfl,hSx⟩:=hb (fun e=>by rw[e] at hL;simp at hL;omega)
  have hg:∀t,t<(E cS l).length*9→w.cell? ⟨x,off+t,none⟩=some (xs t)∧(xs t).oneCell'=true:=fun t ht=>by
   have h1:=hc (t/9) (t%9) (by omega) (by omega);have h2:=ho (t/9) (t%9) (by omega) (by omega);rw[show t/9*9+t%9=t by omega] at h1 h2;exact⟨h1,h2⟩
  refine(aL1 x off (E cS l).length cap ((List.range ((E cS l).length*9)).map xs) w (by simp) (by rw[hL];exact Nat.le_trans hl (by decide)) (by omega) (fun j u hu=>?_) (fun u hu=>?_)).mono ?_
  ·obtain⟨hj,hx⟩:=List.getElem?_eq_some_iff.1 hu;have hj2:j<(E cS l).length*9:=by simpa using hj
   rw[(hg j hj2).1,←hx];simp
  ·obtain⟨j,hj,rfl⟩:=List.mem_map.1 hu;exact(hg j (by simpa using hj)).2
  rintro e w' ⟨v',rfl,⟨hlen,hown⟩,hne,hbelow⟩;rcases hown with⟨rfl,_⟩|⟨g,cap',cur,rfl,hgb,hh,h1,h2,h3,h4⟩
  ·exact absurd rfl hne
  refine⟨g,cap',cur,_,rfl,Vs.yQ.of_below hbelow,hgb,hh,h1,Nat.lt_of_le_of_lt h2 (by decide),by omega,fun i j hi hj=>?_⟩
  have e1:cur.getD (i*9+j) undef=xs (i*9+j):=by
   have h5:i*9+j<(E cS l).length*9:=by omega
   have h6:=congrArg (fun z=>z[i*9+j]?) h4;have h7:i*9+j<cur.size:=by omega
   simp only[List.getElem?_take,if_pos h5,List.getElem?_map,List.getElem?_range h5,Array.getElem?_toList,Option.map_some] at h6;simp[Array.getD,h7,Array.getElem?_eq_getElem h7] at h6⊢;exact h6
  rw[e1];exact⟨ho i j hi hj,hr i j hi hj⟩
theorem delS (l:List Stp) (i:Nat) (hi:i<l.length):Vs.Fn Tryz.prog F.kI [.arr 9 (E cS l) false] [.loc (.b 0) 0 l.length,.v (.int .i64 (i:Nat)),.v (.int .i64 (i+1:Nat))] (.sl 9 (E cS (l.take i++l.drop (i+1)))) [none]:=by
 have h:=Vs.Fn.of_del (P:=Tryz.prog) (f:=F.kI) (k:=9) (i:=i) (l:=E cS l) ⟨Tryz.f27,_,Tryz.func27,rfl,by decide⟩ (by rw[aG];exact hi) (fun w b cap cs h1 h2 h3 h4 h5 h6=>delW w b cap i (i+1) (E cS l).length cs h1 h2 h3 h4 h5 (by omega) rfl (by rw[aG];omega));rw[aG] at h;have e:(E cS l).take i++(E cS l).drop (i+1)=E cS (l.take i++l.drop (i+1)):=by simp[E,List.map_take,List.map_drop]
 rw[e] at h;exact h
end Go.Proofs.YtonkjfiffcfaoaaGreat
