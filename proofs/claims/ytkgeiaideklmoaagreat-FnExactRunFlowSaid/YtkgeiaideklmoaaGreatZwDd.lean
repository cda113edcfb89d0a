/- The cards that match, or do not, in memory of their own. -/
import Derived.Test.YtkgeiaideklmoaaGreatZwDg
import Derived.Test.YtkgeiaideklmoaaGreatZwVl
import Derived.Test.YtkgeiaideklmoaaGreatZwDb
import Derived.Test.YtkgeiaideklmoaaGreatZwQh
import Derived.Test.YtkgeiaideklmoaaGreatVuS
set_option linter.all false
set_option maxHeartbeats 8000000
namespace Go.Proofs.YtkgeiaideklmoaaGreat
open Go.Vs
section
variable [Vs.Envs]
attribute [local irreducible] Vs.Fn bK aO bL bM l03 chB rk cd3 chI stp aP
def aGC:List (List Nat):=[[0,1,2,3,4,5,6,7],[0,2,1,3,4,5,6,7],[0,2,3,1,4,5,6,7],[0,2,3,4,1,5,6,7],[2,0,1,3,4,5,6,7],[2,0,3,1,4,5,6,7],[2,0,3,4,1,5,6,7],[2,3,0,1,4,5,6,7],[2,3,0,4,1,5,6,7],[2,3,4,0,1,5,6,7]]
def aGB:List (List Nat):=[[0,1,2,3,4,5,6,7,8],[0,1,3,2,4,5,6,7,8],[0,2,1,3,4,5,6,7,8],[0,2,3,1,4,5,6,7,8],[0,2,3,4,1,5,6,7,8],[0,2,3,4,5,1,6,7,8],[0,3,1,2,4,5,6,7,8],[0,3,2,1,4,5,6,7,8],[0,3,2,4,1,5,6,7,8],[0,3,2,4,5,1,6,7,8],[2,0,1,3,4,5,6,7,8],[2,0,3,1,4,5,6,7,8],[2,0,3,4,1,5,6,7,8],[2,0,3,4,5,1,6,7,8],[2,3,0,1,4,5,6,7,8],[2,3,0,4,1,5,6,7,8],[2,3,0,4,5,1,6,7,8],[2,3,4,0,1,5,6,7,8],[2,3,4,0,5,1,6,7,8],[2,3,4,5,0,1,6,7,8],[3,0,1,2,4,5,6,7,8],[3,0,2,1,4,5,6,7,8],[3,0,2,4,1,5,6,7,8],[3,0,2,4,5,1,6,7,8],[3,2,0,1,4,5,6,7,8],[3,2,0,4,1,5,6,7,8],[3,2,0,4,5,1,6,7,8],[3,2,4,0,1,5,6,7,8],[3,2,4,0,5,1,6,7,8],[3,2,4,5,0,1,6,7,8]]
variable {C1:Ctx}
theorem aKJ (O:C1.nt=Tryz.f90.ntmps) {Q:Exit->Act->World->Prop}{I:Vs.Envs}{a:Act}{w w0:World}{S:Nat->Prop}{d:List (List Int)} (hk:aZ d) {V W:List Sl}{T:List (List (List Int))}{U:List (List Tot)}{H J:Value} (hd:Vs.Pt I C1 (⟨[(5,.sl 1 (E cC d)),(1,.ro [.sl 1 (E cD T),.sl 1 (E cTs U)]),(2,.ptr (.t 2 0) 0 0),(3,.ptr (.t 3 0) 0 0),(12,.sl 1 (E cD T)),(13,.v H),(14,.v J)],[(.t 3 0,.var [.loc (.t 8 0) 0 V.length,.loc (.t 9 0) 0 W.length] false),(.t 8 0,.arr 1 (E sV V) false),(.t 9 0,.arr 1 (E sV W) false),(.t 2 0,.var [.v (.slice none 0 0),.v (.slice none 0 0)] false)]⟩:St) a w0 S) (p0:Vs.Past S w S w0) (hN:∀(I':Vs.Envs) a' w' S' (s:Sl) (m:Vs.Mem),Vs.Past S w S' w'->Vs.Pt I' C1 (⟨[(1,.ro [.sl 1 (E cD T),.sl 1 (E cTs U)]),(2,.ptr (.t 2 0) 0 0),(3,.ptr (.t 3 0) 0 0),(12,.sl 1 (E cD T)),(13,.v H),(14,.v J)],[(.t 3 0,.var [.loc (.t 23 0) 0 (V.length+1),.loc (.t 9 0) 0 W.length] false),(.t 23 0,.arr 1 (E sV (V++[s])) false),(.t 9 0,.arr 1 (E sV W) false),(.t 2 0,.var [.v (.slice none 0 0),.v (.slice none 0 0)] false)]⟩:St) a' w' S'->Vs.Dk w' (d.map (E cI)) (slW s) m->(∀b,m.D b->S' b∧w.heap.size<=b)->Q .normal a' w')
  (e:Nat×AV) (n:Nat) {ops post:List aI} (hc:ops.drop n=⟨some 21,.call (.func F.dE) ([20].map .tmp) [],none⟩::post) (ha:∀p,p∈[e,(1,.ro [.sl 1 (E cD T),.sl 1 (E cTs U)]),(2,.ptr (.t 2 0) 0 0),(3,.ptr (.t 3 0) 0 0),(12,.sl 1 (E cD T)),(13,.v H),(14,.v J)]->p.2=Vs.look ((⟨[(20,.sl 1 (E cC d)),e,(1,.ro [.sl 1 (E cD T),.sl 1 (E cTs U)]),(2,.ptr (.t 2 0) 0 0),(3,.ptr (.t 3 0) 0 0),(12,.sl 1 (E cD T)),(13,.v H),(14,.v J)],[(.t 3 0,.var [.loc (.t 8 0) 0 V.length,.loc (.t 9 0) 0 W.length] false),(.t 8 0,.arr 1 (E sV V) false),(.t 9 0,.arr 1 (E sV W) false),(.t 2 0,.var [.v (.slice none 0 0),.v (.slice none 0 0)] false)]⟩:St)).s p.1∧(Vs.flat p.2=true∨dA p.2=true)) (h1:@Vs.vc I Tryz.prog (fun σ'=>LeL σ' (⟨[(20,.sl 1 (E cC d)),e,(1,.ro [.sl 1 (E cD T),.sl 1 (E cTs U)]),(2,.ptr (.t 2 0) 0 0),(3,.ptr (.t 3 0) 0 0),(12,.sl 1 (E cD T)),(13,.v H),(14,.v J)],[(.t 3 0,.var [.loc (.t 8 0) 0 V.length,.loc (.t 9 0) 0 W.length] false),(.t 8 0,.arr 1 (E sV V) false),(.t 9 0,.arr 1 (E sV W) false),(.t 2 0,.var [.v (.slice none 0 0),.v (.slice none 0 0)] false)]⟩:St)) (ops.take n) (⟨[(5,.sl 1 (E cC d)),(1,.ro [.sl 1 (E cD T),.sl 1 (E cTs U)]),(2,.ptr (.t 2 0) 0 0),(3,.ptr (.t 3 0) 0 0),(12,.sl 1 (E cD T)),(13,.v H),(14,.v J)],[(.t 3 0,.var [.loc (.t 8 0) 0 V.length,.loc (.t 9 0) 0 W.length] false),(.t 8 0,.arr 1 (E sV V) false),(.t 9 0,.arr 1 (E sV W) false),(.t 2 0,.var [.v (.slice none 0 0),.v (.slice none 0 0)] false)]⟩:St))
  (h2:∀(I':Vs.Envs) Z vm vc,@Vs.vc I' Tryz.prog (fun σ'=>LeL σ' (⟨[(1,.ro [.sl 1 (E cD T),.sl 1 (E cTs U)]),(2,.ptr (.t 2 0) 0 0),(3,.ptr (.t 3 0) 0 0),(12,.sl 1 (E cD T)),(13,.v H),(14,.v J)],[(.t 3 0,.var [.loc (.t 23 0) 0 (V.length+1),.loc (.t 9 0) 0 W.length] false),(.t 23 0,.arr 1 (E sV (V++[(Z,vm,vc)])) false),(.t 9 0,.arr 1 (E sV W) false),(.t 2 0,.var [.v (.slice none 0 0),.v (.slice none 0 0)] false)]⟩:St)) post (⟨[(21,.v (.slice Z vm vc)),e,(1,.ro [.sl 1 (E cD T),.sl 1 (E cTs U)]),(2,.ptr (.t 2 0) 0 0),(3,.ptr (.t 3 0) 0 0),(12,.sl 1 (E cD T)),(13,.v H),(14,.v J)],[(.t 3 0,.var [.loc (.t 8 0) 0 V.length,.loc (.t 9 0) 0 W.length] false),(.t 8 0,.arr 1 (E sV V) false),(.t 9 0,.arr 1 (E sV W) false),(.t 2 0,.var [.v (.slice none 0 0),.v (.slice none 0 0)] false)]⟩:St)):RgL Tryz.prog Tryz.f90.ntmps ops Q a w0:=by
 rw[←BR n ops,hc];refine hd.rg O (pre:=ops.take n) (post:=⟨some 21,.call (.func F.dE) ([20].map .tmp) [],none⟩::post) (τ:=(⟨[(20,.sl 1 (E cC d)),e,(1,.ro [.sl 1 (E cD T),.sl 1 (E cTs U)]),(2,.ptr (.t 2 0) 0 0),(3,.ptr (.t 3 0) 0 0),(12,.sl 1 (E cD T)),(13,.v H),(14,.v J)],[(.t 3 0,.var [.loc (.t 8 0) 0 V.length,.loc (.t 9 0) 0 W.length] false),(.t 8 0,.arr 1 (E sV V) false),(.t 9 0,.arr 1 (E sV W) false),(.t 2 0,.var [.v (.slice none 0 0),.v (.slice none 0 0)] false)]⟩:St)) (fvC ⟨rfl,rfl⟩ (fvC ⟨aX,rfl⟩ (fvC ⟨aX,rfl⟩ (fvC ⟨rfl,rfl⟩ fvN)))) h1 λa2 w2 S2 p2 L=>L.rgc O (ts:=[20]) (ys:=[.sl 1 (E cC d)]) (jZ Cd.i_newDeck_k.o) rfl rfl λus hh hr=>?_;obtain⟨u0,rfl⟩:∃u0,us=#[u0]:=⟨_,Vs.us1 hh rfl⟩;refine(aAe d hk L.dom L.env (hr 0 Dj)).mono ?_;rintro e w3 ⟨v,rfl,hg,m3,hd3,hn3,c3,ho3⟩;refine⟨v,rfl,?_⟩
 obtain ⟨Z,vm,vc,hv⟩:∃b m c,v=slW (b,m,c):=by
  obtain⟨_,b,c,e,_⟩:=ho3.loc 1 _ false rfl;exact⟨b,_,c,e⟩
 subst hv;have he:=(L.grow hg (D:=m3.D) (λb Y=>⟨hn3 b Y,hd3.lt b Y⟩) _ ha).put (d:=21) (by rw[O,Cd.i_newOffice_k.n];omega) (slW (Z,vm,vc))
 letI I3:=Vs.keepE (λb=>S2 b∨m3.D b) w3
 have g:=he.rg O (Q:=Q) (pre:=post) (post:=[]) (τ:=⟨[(1,.ro [.sl 1 (E cD T),.sl 1 (E cTs U)]),(2,.ptr (.t 2 0) 0 0),(3,.ptr (.t 3 0) 0 0),(12,.sl 1 (E cD T)),(13,.v H),(14,.v J)],[(.t 3 0,.var [.loc (.t 23 0) 0 (V.length+1),.loc (.t 9 0) 0 W.length] false),(.t 23 0,.arr 1 (E sV (V++[(Z,vm,vc)])) false),(.t 9 0,.arr 1 (E sV W) false),(.t 2 0,.var [.v (.slice none 0 0),.v (.slice none 0 0)] false)]⟩) (fvC ⟨rfl,rfl⟩ (fvC ⟨aX,rfl⟩ (fvC ⟨aX,rfl⟩ (fvC ⟨rfl,rfl⟩ fvN)))) (h2 _ Z vm vc) λa4 w4 S4 p4 hf=>RgL.nil (hN I3 a4 w4 S4 (Z,vm,vc) m3 (((p0.trans p2).trans (Vs.Past.grow hg L.dom)).trans p4) hf (hd3.past (S:=λb=>S2 b∨m3.D b) (λb Y=>.inr Y) p4) λb Y=>⟨p4.sub b (.inr Y),by have:=hn3 b Y;have:=p2.size;have:=p0.size;omega⟩)
 rwa [Be] at g
attribute [local go_sem] Int.reduceBEq Int.reduceBNe cC cFd Af Ag Al Aq Ae Ai Ac Ak Ab Ah Am aH in
theorem noR1 (ha:C1.nt=Tryz.f90.ntmps) {Q:Exit->Act->World->Prop}{I:Vs.Envs}{a:Act}{w:World}{S:Nat->Prop}{d:List (List Int)} (hk:aZ d) {V W:List Sl} (hV:V.length<=1048576) {T:List (List (List Int))}{U:List (List Tot)}{hb hc:Value}
  (H:Vs.Pt I C1 (⟨[(5,.sl 1 (E cC d)),(1,.ro [.sl 1 (E cD T),.sl 1 (E cTs U)]),(2,.ptr (.t 2 0) 0 0),(3,.ptr (.t 3 0) 0 0),(12,.sl 1 (E cD T)),(13,.v hb),(14,.v hc)],[(.t 3 0,.var [.loc (.t 8 0) 0 V.length,.loc (.t 9 0) 0 W.length] false),(.t 8 0,.arr 1 (E sV V) false),(.t 9 0,.arr 1 (E sV W) false),(.t 2 0,.var [.v (.slice none 0 0),.v (.slice none 0 0)] false)]⟩:St) a w S)
  (hN:∀(I':Vs.Envs) a' w' S' (s:Sl) (m:Vs.Mem),Vs.Past S w S' w'->Vs.Pt I' C1 (⟨[(1,.ro [.sl 1 (E cD T),.sl 1 (E cTs U)]),(2,.ptr (.t 2 0) 0 0),(3,.ptr (.t 3 0) 0 0),(12,.sl 1 (E cD T)),(13,.v hb),(14,.v hc)],[(.t 3 0,.var [.loc (.t 23 0) 0 (V.length+1),.loc (.t 9 0) 0 W.length] false),(.t 23 0,.arr 1 (E sV (V++[s])) false),(.t 9 0,.arr 1 (E sV W) false),(.t 2 0,.var [.v (.slice none 0 0),.v (.slice none 0 0)] false)]⟩:St) a' w' S'->Vs.Dk w' (d.map (E cI)) (slW s) m->(∀b,m.D b->S' b∧w.heap.size<=b)->Q .normal a' w') :
  Vs.At Tryz.prog Tryz.f90.ntmps (aBy Tryz.prog 8 aGC 9 aGB) (.region [⟨some 18,.fieldAddr 0 (.tmp 3),none⟩,⟨some 19,.load false 1 (.tmp 18),none⟩,⟨some 20,.mv (.tmp 5),none⟩,⟨some 21,.call (.func F.dE) [(.tmp 20)] [],none⟩,⟨some 22,.bslice 1 1 [.v (.slice none 0 0)] [(0,(.tmp 21))],none⟩,⟨some 23,.append 1 24 (.tmp 19) (.tmp 22),none⟩,⟨some 24,.fieldAddr 0 (.tmp 3),none⟩,⟨none,.store 1 (.tmp 24) (.tmp 23),none⟩] [1,2,3,12,13,14] [18,20,19,21,22,23]) Q a w:=by
 have Y:(E sV V).length=V.length:=aH _;have Z:(E sV W).length=W.length:=aH _;refine At.rgsD Tryz.mixed rfl (by decide +kernel) (λops fl hd hn=>aN4 ops fl hd hn) λL hL=>?_;have J:=H.drew;have p0:Vs.Past S w S {w with drawn:=w.drawn+1}:=Vs.Past.drew;generalize({w with drawn:=w.drawn+1}:World)=w0 at J p0;have O:=λvb vm vc=>aCA V (vb,vm,vc);simp only[aGC,Ap,Ao,AX] at hL;rcases hL with rfl|rfl|rfl|rfl|rfl|rfl|rfl|rfl|rfl|rfl
 all_goals first
  | (refine aKJ ha hk J p0 hN (19,.loc (.t 8 0) 0 V.length) 3 rfl (λp H=>by
      simp only[Ap,Ao,AX] at H;rcases H with rfl|rfl|rfl|rfl|rfl|rfl|rfl
      all_goals first|exact⟨rfl,.inl rfl⟩|exact⟨rfl,.inr rfl⟩) ?_ λI' vb vm vc=>?_<;>(simp -dsimp only[BD,BX,Aw,A9,Bh,Bz,Cv,Cn];simp -dsimp only[go_sem,O,Y,Z];first|(simp[Vs.LeL,Vs.look,aA];done)|(and_intros<;>first|omega|(simp[Vs.LeL,Vs.look,aA];done)));done)
  | (refine aKJ ha hk J p0 hN (18,.ptr (.t 3 0) 0 0) 2 rfl (λp H=>by
      simp only[Ap,Ao,AX] at H;rcases H with rfl|rfl|rfl|rfl|rfl|rfl|rfl
      all_goals first|exact⟨rfl,.inl rfl⟩|exact⟨rfl,.inr rfl⟩) ?_ λI' vb vm vc=>?_<;>(simp -dsimp only[BD,BX,Aw,A9,Bh,Bz,Cv,Cn];simp -dsimp only[go_sem,O,Y,Z];first|(simp[Vs.LeL,Vs.look,aA];done)|(and_intros<;>first|omega|(simp[Vs.LeL,Vs.look,aA];done)));done)
  | (refine aKJ ha hk J p0 hN (2,.ptr (.t 2 0) 0 0) 1 rfl (λp H=>by
      simp only[Ap,Ao,AX] at H;rcases H with rfl|rfl|rfl|rfl|rfl|rfl|rfl
      all_goals first|exact⟨rfl,.inl rfl⟩|exact⟨rfl,.inr rfl⟩) ?_ λI' vb vm vc=>?_<;>(simp -dsimp only[BD,BX,Aw,A9,Bh,Bz,Cv,Cn];simp -dsimp only[go_sem,O,Y,Z];first|(simp[Vs.LeL,Vs.look,aA];done)|(and_intros<;>first|omega|(simp[Vs.LeL,Vs.look,aA];done)));done)

theorem aE7 {l:List Tot}:∀r,r∈E cT l->fJ r=true:=λr F=>by
 obtain⟨x,_,rfl⟩:=Bq.1 F;rfl
theorem aKI (L:C1.nt=Tryz.f90.ntmps) {Q:Exit->Act->World->Prop}{I:Vs.Envs}{a:Act}{w w0:World}{S:Nat->Prop}{t:List Tot}{V W:List Sl}{U:List (List Tot)}{F H:Value} (he:Vs.Pt I C1 (⟨[(7,.sl 2 (E cT t)),(2,.ptr (.t 2 0) 0 0),(3,.ptr (.t 3 0) 0 0),(27,.sl 1 (E cTs U)),(28,.v F),(29,.v H)],[(.t 3 0,.var [.loc (.t 8 0) 0 V.length,.loc (.t 9 0) 0 W.length] false),(.t 8 0,.arr 1 (E sV V) false),(.t 9 0,.arr 1 (E sV W) false),(.t 2 0,.var [.v (.slice none 0 0),.v (.slice none 0 0)] false)]⟩:St) a w0 S) (p0:Vs.Past S w S w0) (hN:∀(Z:Vs.Envs) a' w' S' (s:Sl) (x:Option Nat) (c:Nat),Vs.Past S w S' w'->Vs.Pt Z C1 (⟨[(2,.ptr (.t 2 0) 0 0),(3,.ptr (.t 3 0) 0 0),(27,.sl 1 (E cTs U)),(28,.v F),(29,.v H)],[(.t 3 0,.var [.loc (.t 8 0) 0 V.length,.loc (.t 39 0) 0 (W.length+1)] false),(.t 8 0,.arr 1 (E sV V) false),(.t 39 0,.arr 1 (E sV (W++[s])) false),(.t 2 0,.var [.v (.slice none 0 0),.v (.slice none 0 0)] false)]⟩:St) a' w' S'->Vs.Own (λ_=>False) w' x c 2 (E cT t) (slW s)->(∀b,x=some b->S' b∧C1.w0.heap.size<=b∧¬S b)->Q .normal a' w')
  (e:Nat×AV) (n:Nat) {ops:List aI} (h1:@Vs.vc I Tryz.prog (fun σ'=>LeL σ' (⟨[(37,.loc (.t 37 0) 0 (E cT t).length),e,(2,.ptr (.t 2 0) 0 0),(3,.ptr (.t 3 0) 0 0),(27,.sl 1 (E cTs U)),(28,.v F),(29,.v H)],(.t 37 0,.arr 2 (E cT t) false)::[(.t 3 0,.var [.loc (.t 8 0) 0 V.length,.loc (.t 9 0) 0 W.length] false),(.t 8 0,.arr 1 (E sV V) false),(.t 9 0,.arr 1 (E sV W) false),(.t 2 0,.var [.v (.slice none 0 0),.v (.slice none 0 0)] false)]⟩:St)) (ops.take n) (⟨[(7,.sl 2 (E cT t)),(2,.ptr (.t 2 0) 0 0),(3,.ptr (.t 3 0) 0 0),(27,.sl 1 (E cTs U)),(28,.v F),(29,.v H)],[(.t 3 0,.var [.loc (.t 8 0) 0 V.length,.loc (.t 9 0) 0 W.length] false),(.t 8 0,.arr 1 (E sV V) false),(.t 9 0,.arr 1 (E sV W) false),(.t 2 0,.var [.v (.slice none 0 0),.v (.slice none 0 0)] false)]⟩:St))
  (hc:∀v p,p∈[(37,.v v),e,(2,.ptr (.t 2 0) 0 0),(3,.ptr (.t 3 0) 0 0),(27,.sl 1 (E cTs U)),(28,.v F),(29,.v H)]->(p.2=Vs.look (bW (.t 37 0) (⟨[(37,.loc (.t 37 0) 0 (E cT t).length),e,(2,.ptr (.t 2 0) 0 0),(3,.ptr (.t 3 0) 0 0),(27,.sl 1 (E cTs U)),(28,.v F),(29,.v H)],(.t 37 0,.arr 2 (E cT t) false)::[(.t 3 0,.var [.loc (.t 8 0) 0 V.length,.loc (.t 9 0) 0 W.length] false),(.t 8 0,.arr 1 (E sV V) false),(.t 9 0,.arr 1 (E sV W) false),(.t 2 0,.var [.v (.slice none 0 0),.v (.slice none 0 0)] false)]⟩:St)).s p.1∧Vs.flat p.2=true)∨(p.2=Vs.look ((⟨[(37,.loc (.t 37 0) 0 (E cT t).length),e,(2,.ptr (.t 2 0) 0 0),(3,.ptr (.t 3 0) 0 0),(27,.sl 1 (E cTs U)),(28,.v F),(29,.v H)],(.t 37 0,.arr 2 (E cT t) false)::[(.t 3 0,.var [.loc (.t 8 0) 0 V.length,.loc (.t 9 0) 0 W.length] false),(.t 8 0,.arr 1 (E sV V) false),(.t 9 0,.arr 1 (E sV W) false),(.t 2 0,.var [.v (.slice none 0 0),.v (.slice none 0 0)] false)]⟩:St)).s p.1∧dA p.2=true)∨p=(37,.v v))
  (hd:∀v,LeL (⟨[(37,.v v),e,(2,.ptr (.t 2 0) 0 0),(3,.ptr (.t 3 0) 0 0),(27,.sl 1 (E cTs U)),(28,.v F),(29,.v H)],(bW (.t 37 0) (⟨[(37,.loc (.t 37 0) 0 (E cT t).length),e,(2,.ptr (.t 2 0) 0 0),(3,.ptr (.t 3 0) 0 0),(27,.sl 1 (E cTs U)),(28,.v F),(29,.v H)],(.t 37 0,.arr 2 (E cT t) false)::[(.t 3 0,.var [.loc (.t 8 0) 0 V.length,.loc (.t 9 0) 0 W.length] false),(.t 8 0,.arr 1 (E sV V) false),(.t 9 0,.arr 1 (E sV W) false),(.t 2 0,.var [.v (.slice none 0 0),.v (.slice none 0 0)] false)]⟩:St)).h⟩:St) (⟨[(37,.v v),e,(2,.ptr (.t 2 0) 0 0),(3,.ptr (.t 3 0) 0 0),(27,.sl 1 (E cTs U)),(28,.v F),(29,.v H)],[(.t 3 0,.var [.loc (.t 8 0) 0 V.length,.loc (.t 9 0) 0 W.length] false),(.t 8 0,.arr 1 (E sV V) false),(.t 9 0,.arr 1 (E sV W) false),(.t 2 0,.var [.v (.slice none 0 0),.v (.slice none 0 0)] false)]⟩:St))
  (h2:∀(Z:Vs.Envs) vb vm vc,@Vs.vc Z Tryz.prog (fun σ'=>LeL σ' (⟨[(2,.ptr (.t 2 0) 0 0),(3,.ptr (.t 3 0) 0 0),(27,.sl 1 (E cTs U)),(28,.v F),(29,.v H)],[(.t 3 0,.var [.loc (.t 8 0) 0 V.length,.loc (.t 39 0) 0 (W.length+1)] false),(.t 8 0,.arr 1 (E sV V) false),(.t 39 0,.arr 1 (E sV (W++[(vb,vm,vc)])) false),(.t 2 0,.var [.v (.slice none 0 0),.v (.slice none 0 0)] false)]⟩:St)) (ops.drop n) (⟨[(37,.v (.slice vb vm vc)),e,(2,.ptr (.t 2 0) 0 0),(3,.ptr (.t 3 0) 0 0),(27,.sl 1 (E cTs U)),(28,.v F),(29,.v H)],[(.t 3 0,.var [.loc (.t 8 0) 0 V.length,.loc (.t 9 0) 0 W.length] false),(.t 8 0,.arr 1 (E sV V) false),(.t 9 0,.arr 1 (E sV W) false),(.t 2 0,.var [.v (.slice none 0 0),.v (.slice none 0 0)] false)]⟩:St)):RgL Tryz.prog Tryz.f90.ntmps ops Q a w0:=by
 rw[←BR n ops];refine he.rg L (pre:=ops.take n) (post:=ops.drop n) (τ:=(⟨[(37,.loc (.t 37 0) 0 (E cT t).length),e,(2,.ptr (.t 2 0) 0 0),(3,.ptr (.t 3 0) 0 0),(27,.sl 1 (E cTs U)),(28,.v F),(29,.v H)],(.t 37 0,.arr 2 (E cT t) false)::[(.t 3 0,.var [.loc (.t 8 0) 0 V.length,.loc (.t 9 0) 0 W.length] false),(.t 8 0,.arr 1 (E sV V) false),(.t 9 0,.arr 1 (E sV W) false),(.t 2 0,.var [.v (.slice none 0 0),.v (.slice none 0 0)] false)]⟩:St)) (fvC ⟨aE7,rfl⟩ (fvC ⟨rfl,rfl⟩ (fvC ⟨aX,rfl⟩ (fvC ⟨aX,rfl⟩ (fvC ⟨rfl,rfl⟩ fvN))))) h1 λa2 w2 S2 p2 hf=>?_
 obtain ⟨s,x6,c6,⟨sb,sm,sc,rfl⟩,O,Y,ha⟩:=hf.buryS (n:=.t 37 0) (k:=2) (rows:=E cT t) rfl aE7 (t:=37) rfl (by
   simp only[bW];intro p hp;simp[rF,Vs.scr,Vs.AV.has] at hp;rcases hp with rfl|rfl|rfl|rfl
   . exact⟨rfl,rfl⟩
   . exact⟨λr hr=>aX r hr,rfl⟩
   . exact⟨λr hr=>aX r hr,rfl⟩
   . exact⟨rfl,rfl⟩)
 have hh:=(ha _ (hc _)).le (hd _) (fvC ⟨rfl,rfl⟩ (fvC ⟨aX,rfl⟩ (fvC ⟨aX,rfl⟩ (fvC ⟨rfl,rfl⟩ fvN))))
 letI I6:=Vs.keepE (λb=>S2 b∨x6=some b) w2
 have pk:Vs.Past S2 w2 (λb=>S2 b∨x6=some b) w2:=⟨λ_ h=>.inl h,λ_ _=>rfl,Ar _⟩;have g:=hh.rg L (Q:=Q) (pre:=ops.drop n) (post:=[]) (τ:=⟨[(2,.ptr (.t 2 0) 0 0),(3,.ptr (.t 3 0) 0 0),(27,.sl 1 (E cTs U)),(28,.v F),(29,.v H)],[(.t 3 0,.var [.loc (.t 8 0) 0 V.length,.loc (.t 39 0) 0 (W.length+1)] false),(.t 8 0,.arr 1 (E sV V) false),(.t 39 0,.arr 1 (E sV (W++[(sb,sm,sc)])) false),(.t 2 0,.var [.v (.slice none 0 0),.v (.slice none 0 0)] false)]⟩) (fvC ⟨rfl,rfl⟩ (fvC ⟨aX,rfl⟩ (fvC ⟨aX,rfl⟩ (fvC ⟨rfl,rfl⟩ fvN)))) (h2 _ sb sm sc) λa4 w4 S4 p4 hg=>RgL.nil (hN I6 a4 w4 S4 (sb,sm,sc) x6 c6 (((p0.trans p2).trans pk).trans p4) hg (O.mono (λ_ _ h=>h) λb J=>p4.old b (.inr J)) λb J=>⟨p4.sub b (.inr J),(Y b J).1,λh=>(Y b J).2.2 ((p0.trans p2).sub b h)⟩)
 rwa [Be] at g
attribute [local go_sem] Int.reduceBEq Int.reduceBNe cC cFd Af Ag Al Aq Ae Ai Ac Ak Ab Ah Am aH in
theorem noR2 (ha:C1.nt=Tryz.f90.ntmps) {Q:Exit->Act->World->Prop}{I:Vs.Envs}{a:Act}{w:World}{S:Nat->Prop}{t:List Tot} (ht:t.length<=1048576) {V W:List Sl} (hW:W.length<=1048576) {U:List (List Tot)}{hc he:Value}
  (F:Vs.Pt I C1 (⟨[(7,.sl 2 (E cT t)),(2,.ptr (.t 2 0) 0 0),(3,.ptr (.t 3 0) 0 0),(27,.sl 1 (E cTs U)),(28,.v hc),(29,.v he)],[(.t 3 0,.var [.loc (.t 8 0) 0 V.length,.loc (.t 9 0) 0 W.length] false),(.t 8 0,.arr 1 (E sV V) false),(.t 9 0,.arr 1 (E sV W) false),(.t 2 0,.var [.v (.slice none 0 0),.v (.slice none 0 0)] false)]⟩:St) a w S)
  (hN:∀(I':Vs.Envs) a' w' S' (s:Sl) (x:Option Nat) (c:Nat),Vs.Past S w S' w'->Vs.Pt I' C1 (⟨[(2,.ptr (.t 2 0) 0 0),(3,.ptr (.t 3 0) 0 0),(27,.sl 1 (E cTs U)),(28,.v hc),(29,.v he)],[(.t 3 0,.var [.loc (.t 8 0) 0 V.length,.loc (.t 39 0) 0 (W.length+1)] false),(.t 8 0,.arr 1 (E sV V) false),(.t 39 0,.arr 1 (E sV (W++[s])) false),(.t 2 0,.var [.v (.slice none 0 0),.v (.slice none 0 0)] false)]⟩:St) a' w' S'->Vs.Own (λ_=>False) w' x c 2 (E cT t) (slW s)->(∀b,x=some b->S' b∧C1.w0.heap.size<=b∧¬S b)->Q .normal a' w') :
  Vs.At Tryz.prog Tryz.f90.ntmps (aBy Tryz.prog 8 aGC 9 aGB) (.region [⟨some 33,.fieldV 1 (.tmp 3),none⟩,⟨some 34,.loadV false 1 (.tmp 33),none⟩,⟨some 35,.bslice 2 0 [.v (.string ⟨#[]⟩),.v (.int .i64 (0))] [],none⟩,⟨some 36,.mv (.tmp 7),none⟩,⟨some 37,.append 2 24 (.tmp 35) (.tmp 36),none⟩,⟨some 38,.bslice 1 1 [.v (.slice none 0 0)] [(0,(.tmp 37))],none⟩,⟨some 39,.append 1 24 (.tmp 34) (.tmp 38),none⟩,⟨some 40,.fieldAddr 1 (.tmp 3),none⟩,⟨none,.store 1 (.tmp 40) (.tmp 39),none⟩] [2,3,27,28,29] [33,35,34,36,37,1000033,1000034,38,39]) Q a w:=by
 have Y:(E sV V).length=V.length:=aH _;have Z:(E sV W).length=W.length:=aH _;have H:(E cT t).length=t.length:=aH _;have hb:(E cT t).take t.length=E cT t:=Aj (by rw[H];exact Ar _);refine At.rgsD Tryz.mixed rfl (by decide +kernel) (λops fl hd hn=>aN3 ops fl hd hn) λL hL=>?_;have J:=F.drew;have p0:Vs.Past S w S {w with drawn:=w.drawn+1}:=Vs.Past.drew;generalize({w with drawn:=w.drawn+1}:World)=w0 at J p0;have O:=λvb vm vc=>aCA W (vb,vm,vc);simp only[aGB,Ap,Ao,AX] at hL;rcases hL with rfl|rfl|rfl|rfl|rfl|rfl|rfl|rfl|rfl|rfl|rfl|rfl|rfl|rfl|rfl|rfl|rfl|rfl|rfl|rfl|rfl|rfl|rfl|rfl|rfl|rfl|rfl|rfl|rfl|rfl
 all_goals first
  | (refine aKI ha J p0 hN (34,.loc (.t 9 0) 0 W.length) 5 ?_ (λv p F=>by
      simp only[Ap,Ao,AX] at F;rcases F with rfl|rfl|rfl|rfl|rfl|rfl|rfl
      . exact .inr (.inr rfl)
      all_goals first|exact .inl ⟨rfl,rfl⟩|exact .inr (.inl ⟨rfl,rfl⟩)) (λv=>by simp[Vs.LeL,Vs.look,aA,bW,rF,Vs.scr,Vs.AV.has]) λI' vb vm vc=>?_<;>(simp -dsimp only[BD,BX,Aw,A9,Bh,Bz,Cv,Cn];simp -dsimp only[go_sem,O,Y,Z,H,hb];first|(simp[Vs.LeL,Vs.look,aA];done)|(and_intros<;>first|omega|(simp[Vs.LeL,Vs.look,aA];done)));done)
  | (refine aKI ha J p0 hN (33,.ptr (.t 3 0) 0 1) 4 ?_ (λv p F=>by
      simp only[Ap,Ao,AX] at F;rcases F with rfl|rfl|rfl|rfl|rfl|rfl|rfl
      . exact .inr (.inr rfl)
      all_goals first|exact .inl ⟨rfl,rfl⟩|exact .inr (.inl ⟨rfl,rfl⟩)) (λv=>by simp[Vs.LeL,Vs.look,aA,bW,rF,Vs.scr,Vs.AV.has]) λI' vb vm vc=>?_<;>(simp -dsimp only[BD,BX,Aw,A9,Bh,Bz,Cv,Cn];simp -dsimp only[go_sem,O,Y,Z,H,hb];first|(simp[Vs.LeL,Vs.look,aA];done)|(and_intros<;>first|omega|(simp[Vs.LeL,Vs.look,aA];done)));done)
  | (refine aKI ha J p0 hN (2,.ptr (.t 2 0) 0 0) 3 ?_ (λv p F=>by
      simp only[Ap,Ao,AX] at F;rcases F with rfl|rfl|rfl|rfl|rfl|rfl|rfl
      . exact .inr (.inr rfl)
      all_goals first|exact .inl ⟨rfl,rfl⟩|exact .inr (.inl ⟨rfl,rfl⟩)) (λv=>by simp[Vs.LeL,Vs.look,aA,bW,rF,Vs.scr,Vs.AV.has]) λI' vb vm vc=>?_<;>(simp -dsimp only[BD,BX,Aw,A9,Bh,Bz,Cv,Cn];simp -dsimp only[go_sem,O,Y,Z,H,hb];first|(simp[Vs.LeL,Vs.look,aA];done)|(and_intros<;>first|omega|(simp[Vs.LeL,Vs.look,aA];done)));done)

end
section
variable [Vs.Envs]
attribute [local irreducible] Vs.Fn bK aO bL bM l03 chB rk cd3 chI stp aP
def CdO.impl_newOffice:aD:=
 .seq (.region [⟨some 1,.box (.tmp 0),none⟩,
    ⟨some 2,.alloc [.v (.slice none 0 0),.v (.slice none 0 0)],none⟩] [1,2] []) <|
 .seq (.region [⟨some 8,.bslice 1 0 [.v (.slice none 0 0)] [],none⟩,
    ⟨some 9,.bslice 1 0 [.v (.slice none 0 0)] [],none⟩,
    ⟨some 10,.build [.v (.slice none 0 0),.v (.slice none 0 0)] [(0,1,(.tmp 8)),(1,1,(.tmp 9))],none⟩,
    ⟨some 3,.alloc [.v (.slice none 0 0),.v (.slice none 0 0)],none⟩,
    ⟨none,.store 2 (.tmp 3) (.tmp 10),none⟩] [1,2,3] []) <|
 .seq (.seq (.region [⟨some 11,.fieldAddr 0 (.tmp 1),none⟩,
     ⟨some 12,.load false 1 (.tmp 11),none⟩,
     ⟨some 13,.len (.tmp 12),none⟩,
     ⟨some 14,.mv (.const (.int .i64 (0))),none⟩] [1,2,3,12,13,14] []) <|
  .block 0 (
    .loop (
      .seq (.region [⟨some 15,.bin .lss (.tmp 14) (.tmp 13),none⟩] [1,2,3,12,13,14,15] []) <|
      .seq (.cond (.tmp 15)
         (.skip)
         (.exit 0)) <|
      .seq (.block 1 (
         .seq (.region [⟨some 16,.idxSl 1 (.tmp 12) (.tmp 14),none⟩,
            ⟨some 17,.load false 1 (.tmp 16),none⟩,
            ⟨some 5,.mv (.tmp 17),none⟩] [1,2,3,5,12,13,14] []) <|
         .region [⟨some 18,.fieldAddr 0 (.tmp 3),none⟩,
           ⟨some 19,.load false 1 (.tmp 18),none⟩,
           ⟨some 20,.mv (.tmp 5),none⟩,
           ⟨some 21,.call (.func F.dE) [(.tmp 20)] [],none⟩,
           ⟨some 22,.bslice 1 1 [.v (.slice none 0 0)] [(0,(.tmp 21))],none⟩,
           ⟨some 23,.append 1 24 (.tmp 19) (.tmp 22),none⟩,
           ⟨some 24,.fieldAddr 0 (.tmp 3),none⟩,
           ⟨none,.store 1 (.tmp 24) (.tmp 23),none⟩] [1,2,3,12,13,14] [18,20,19,21,22,23])) <|
      .region [⟨some 25,.bin .add (.tmp 14) (.const (.int .i64 (1))),none⟩,
        ⟨some 14,.mv (.tmp 25),none⟩] [1,2,3,12,13,14] []))) <|
 .seq (.seq (.region [⟨some 26,.fieldAddr 1 (.tmp 1),none⟩,
     ⟨some 27,.load false 1 (.tmp 26),none⟩,
     ⟨some 28,.len (.tmp 27),none⟩,
     ⟨some 29,.mv (.const (.int .i64 (0))),none⟩] [2,3,27,28,29] []) <|
  .block 2 (
    .loop (
      .seq (.region [⟨some 30,.bin .lss (.tmp 29) (.tmp 28),none⟩] [2,3,27,28,29,30] []) <|
      .seq (.cond (.tmp 30)
         (.skip)
         (.exit 2)) <|
      .seq (.block 3 (
         .seq (.region [⟨some 31,.idxSl 1 (.tmp 27) (.tmp 29),none⟩,
            ⟨some 32,.load false 1 (.tmp 31),none⟩,
            ⟨some 7,.mv (.tmp 32),none⟩] [2,3,7,27,28,29] []) <|
         .region [⟨some 33,.fieldV 1 (.tmp 3),none⟩,
           ⟨some 34,.loadV false 1 (.tmp 33),none⟩,
           ⟨some 35,.bslice 2 0 [.v (.string ⟨#[]⟩),.v (.int .i64 (0))] [],none⟩,
           ⟨some 36,.mv (.tmp 7),none⟩,
           ⟨some 37,.append 2 24 (.tmp 35) (.tmp 36),none⟩,
           ⟨some 38,.bslice 1 1 [.v (.slice none 0 0)] [(0,(.tmp 37))],none⟩,
           ⟨some 39,.append 1 24 (.tmp 34) (.tmp 38),none⟩,
           ⟨some 40,.fieldAddr 1 (.tmp 3),none⟩,
           ⟨none,.store 1 (.tmp 40) (.tmp 39),none⟩] [2,3,27,28,29] [33,35,34,36,37,1000033,1000034,38,39])) <|
      .region [⟨some 41,.bin .add (.tmp 29) (.const (.int .i64 (1))),none⟩,
        ⟨some 29,.mv (.tmp 41),none⟩] [2,3,27,28,29] []))) <|
 .seq (.region [⟨some 42,.load true 2 (.tmp 3),none⟩,
    ⟨none,.store 2 (.tmp 2) (.tmp 42),none⟩] [2] []) <|
 .ret
abbrev pP (n:Nat):Nat×AV:=(n,.ptr (.t n 0) 0 0)
abbrev nW:Vs.Blk:=.var [.v (.slice none 0 0),.v (.slice none 0 0)] false
abbrev lW (k l:Nat):Vs.Blk:=.var [.loc (.t 8 0) 0 k,.loc (.t 9 0) 0 l] false
abbrev rO (T:List (List (List Int))) (U:List (List Tot)):Nat×AV:=(1,.ro [.sl 1 (E cD T),.sl 1 (E cTs U)])
theorem uJ {vs:Array Value} (h:2=vs.size):vs=#[vs.getD 0 undef,vs.getD 1 undef]:=by
 obtain⟨l⟩:=vs
 match l,h with
 | [x,y],_=>rfl
theorem aJz:E sV ([]:List Sl)=[]:=rfl
attribute [local go_sem] Bh Bz lW rO pP nW Int.reduceBEq Int.reduceBNe cC cFd Af Ag Al Aq Ae Ai Ac Ak Ab Ah Am aH cD in
theorem aAN (T:List (List (List Int))) (U:List (List Tot)) (hT:wG T) (hU:rE U) {S:Nat->Prop}{w:World}{vs:Array Value} (hS:∀b,S b->b<w.heap.size) (he:Env S w) (qg:vs.size=1) (h9:∀j,j<1->RC S w (([.agg [.sl 1 (E cD T),.sl 1 (E cTs U)]]:List AV).getD j .junk) (vs.getD j undef)):Calls Tryz.prog F.iY vs w (λe0 w0=>∃tv sv,e0=.returned (.agg #[tv,sv])∧kY w w0∧aBa w w0 ⟨T,U⟩ tv sv):=by
 obtain⟨h1,_,_⟩:=Cd.i_newOffice_k.o;have h2:Tryz.f90.body.bind (bI Tryz.prog Tryz.f90.ntmps (aBy Tryz.prog 8 aGC 9 aGB))=some CdO.impl_newOffice.bare:=by kernel_rfl
 obtain⟨q6,H,hc⟩:=AY.1 h2;have hz:(Tryz.f90.body.map (zB Tryz.f90.ntmps (aBy Tryz.prog 8 aGC 9 aGB)))=some true:=by kernel_rfl
 rw[H] at hz;have qy:=@rP;clear qy;refine Vs.Pt.calls (dr:=(aBy Tryz.prog 8 aGC 9 aGB)) (ac:=CdO.impl_newOffice) h1 H hc (by simpa using hz) (args:=[.agg [.sl 1 (E cD T),.sl 1 (E cTs U)]]) (by rw[Cd.i_newOffice_k.n];exact Bc rfl) hS he qg h9 λC1 a J qt q7 hp=>?_;unfold CdO.impl_newOffice
 refine hp.goS (τ:=⟨[pP 1,pP 2],[(.t 1 0,.var [.sl 1 (E cD T),.sl 1 (E cTs U)] false),(.t 2 0,nW)]⟩) (rP Tryz.mixed _ _ _ _) J 1 _ (E:=λ_ _=>False) [(.t 2 0,nW)] (λp hp=>by
     rw[Au.1 hp];exact⟨rfl,rfl,rfl⟩) [rO T U,pP 2] (λp hp=>?_) (λC hC=>?_) (λi σ h=>h) (λC a w hl hg=>hg.no.elim) λI1 a1 w1 S1 p1 hv=>?_
 .simp only[Ap,Ao,AX] at hp;rcases hp with rfl|rfl
  .exact .inr ⟨rfl,_,rfl,λn hn=>by
     have:n=.t 1 0:=by simpa using hn
     subst this;rfl⟩
  .exact .inl ⟨rfl,rfl⟩
 .simp -dsimp only[go_sem,cTs]
  first|(simp[Vs.LeL,Vs.look,aA];done)
 refine hv.goT (rP Tryz.mixed _ _ _ _) J 1 _ (τ:=⟨[rO T U,pP 2,pP 3],[(.t 3 0,lW (([]:List Sl).length) (([]:List Sl).length)),(.t 8 0,.arr 1 (E sV ([]:List Sl)) false),(.t 9 0,.arr 1 (E sV ([]:List Sl)) false),(.t 2 0,nW)]⟩) (λC hC=>?_) λa2 w2 S2 p2 hs=>?_
 .simp -dsimp only[go_sem,aJz,cTs]
  repeat' first|simp -dsimp only[go_sem,aJz,cTs]|apply Br.mk<;>intro h<;>try simp -dsimp only[h]|refine aC ?_|fail
  all_goals first|(simp[Vs.LeL,Vs.look,aA];done)|exact⟨by simp[Vs.LeL,Vs.look,aA],trivial⟩|omega|(and_intros<;>first|omega|trivial|(simp[Vs.LeL,Vs.look,aA];done))
 have h5:(E cD T).length=T.length:=aH _;have h6:(E cTs U).length=U.length:=aH _;refine At.seq (?_);refine hs.goT (rP Tryz.mixed _ _ _ _) J 1 _ (τ:=⟨[rO T U,pP 2,pP 3,(12,.sl 1 (E cD T)),(13,.v (.int .i64 (T.length:Nat))),(14,.v (.int .i64 (0:Nat)))],[(.t 3 0,.var [.loc (.t 8 0) 0 (([]:List Sl)).length,.loc (.t 9 0) 0 ([]:List Sl).length] false),(.t 8 0,.arr 1 (E sV (([]:List Sl))) false),(.t 9 0,.arr 1 (E sV ([]:List Sl)) false),(.t 2 0,nW)]⟩) (λC hC=>?_) λa3 w3 S3 p3 ha=>?_
 .simp -dsimp only[go_sem,h5,aJz,cTs]
  repeat' first|simp -dsimp only[go_sem,h5,aJz,cTs]|apply Br.mk<;>intro h<;>try simp -dsimp only[h]|refine aC ?_|fail
  all_goals first|(simp[Vs.LeL,Vs.look,aA];done)|exact⟨by simp[Vs.LeL,Vs.look,aA],trivial⟩|omega|(and_intros<;>first|omega|trivial|(simp[Vs.LeL,Vs.look,aA];done))
 let IV:Nat->Act->World->Prop:=λnn a' w'=>∃(i:Nat) (V:List Sl) (S':Nat->Prop) (I':Vs.Envs) (M:Nat->Vs.Mem),nn=T.length-i∧i<=T.length∧V.length=i∧Vs.Pt I' C1 (⟨[rO T U,pP 2,pP 3,(12,.sl 1 (E cD T)),(13,.v (.int .i64 (T.length:Nat))),(14,.v (.int .i64 (i:Nat)))],[(.t 3 0,lW ((V).length) (([]:List Sl).length)),(.t 8 0,.arr 1 (E sV (V)) false),(.t 9 0,.arr 1 (E sV ([]:List Sl)) false),(.t 2 0,nW)]⟩:St) a' w' S'∧(∀j,j<V.length->Vs.Dk w' ((T.getD j []).map (E cI)) (slW (V.getD j default)) (M j))∧(∀j b,j<V.length->(M j).D b->S' b∧C1.w0.heap.size<=b)∧∀j k b,j<V.length->k<V.length->(M j).D b->(M k).D b->j=k
 refine At.block (At.loop IV (λnn a1 w1 hI=>?_) (n:=T.length) ⟨0,[],S3,_,λ_=>⟨none,[],λ_=>none,λ_=>0⟩,by omega,by omega,rfl,ha,by simp,by simp,by simp⟩);obtain⟨i,V,S1,I1,M,hn,hi,hy,hv,qo,Z,qk⟩:=hI;refine hv.goT (rP Tryz.mixed _ _ _ _) J 1 _ (τ:=⟨[(15,.v (.bool (decide ((i:Nat)<(T.length:Nat))))),rO T U,pP 2,pP 3,(12,.sl 1 (E cD T)),(13,.v (.int .i64 (T.length:Nat))),(14,.v (.int .i64 (i:Nat)))],[(.t 3 0,lW ((V).length) (([]:List Sl).length)),(.t 8 0,.arr 1 (E sV (V)) false),(.t 9 0,.arr 1 (E sV ([]:List Sl)) false),(.t 2 0,nW)]⟩) (λC hC=>?_) λa2 w2 S2 p2 hs=>?_
 .simp -dsimp only[go_sem,cTs]
  repeat' first|simp -dsimp only[go_sem,cTs]|apply Br.mk<;>intro h<;>try simp -dsimp only[h]|refine aC ?_|fail
  all_goals first|(simp[Vs.LeL,Vs.look,aA];done)|exact⟨by simp[Vs.LeL,Vs.look,aA],trivial⟩|omega|(and_intros<;>first|omega|trivial|(simp[Vs.LeL,Vs.look,aA];done))
 refine At.seq (hs.cond (b:=decide ((i:Nat)<(T.length:Nat))) rfl (λht=>At.skip ?_) (λhf=>At.exit ?_))
 .have L:i<T.length:=BJ ht;have qh:=aG L hT.1;have hm:(E cD T).getD i []=[.sl 1 (E cC T[i])]:=aN L;have qz:=hT.2 _ (Aa L);refine At.seq (At.block ?_);refine hs.goT (rP Tryz.mixed _ _ _ _) J 1 _ (τ:=⟨[(5,.sl 1 (E cC T[i])),rO T U,pP 2,pP 3,(12,.sl 1 (E cD T)),(13,.v (.int .i64 (T.length:Nat))),(14,.v (.int .i64 (i:Nat)))],[(.t 3 0,lW (V.length) (([]:List Sl).length)),(.t 8 0,.arr 1 (E sV V) false),(.t 9 0,.arr 1 (E sV ([]:List Sl)) false),(.t 2 0,nW)]⟩) (λC hC=>?_) λa3 w3 S3 p3 ha=>?_
  .simp -dsimp only[go_sem,h5,hm,cTs]
   repeat' first|simp -dsimp only[go_sem,h5,hm,cTs]|apply Br.mk<;>intro h<;>try simp -dsimp only[h]|refine aC ?_|fail
   all_goals first|(simp[Vs.LeL,Vs.look,aA];done)|exact⟨by simp[Vs.LeL,Vs.look,aA],trivial⟩|omega|(and_intros<;>first|omega|trivial|(simp[Vs.LeL,Vs.look,aA];done))
  refine noR1 J qz (V:=V) (W:=[]) (by rw[hy];exact Bl hi hT.1) ha λI4 a4 w4 S4 s m p4 qc qw h7=>?_
  have O:=(qc.ren (n:=.t 23 0) (m:=.t 8 0) (by decide) (by rfl) (λpp hp=>by
    have e:pp∈[(.t 3 0,lW ((V.length+1)) (([]:List Sl).length)),(.t 8 0,.arr 1 (E sV (V++[s])) false),(.t 9 0,.arr 1 (E sV ([]:List Sl)) false),(.t 2 0,nW)]:=by simpa[nN,Vs.rnB,Vs.nmF,Vs.rn,Vs.rnL] using hp
    simp only[Ap,Ao,AX] at e;rcases e with rfl|rfl|rfl|rfl
    . exact⟨rfl,rfl⟩
    . exact⟨λr hr=>aX r hr,rfl⟩
    . exact⟨λr hr=>aX r hr,rfl⟩
    . exact⟨rfl,rfl⟩)).le (τ:=⟨[rO T U,pP 2,pP 3,(12,.sl 1 (E cD T)),(13,.v (.int .i64 (T.length:Nat))),(14,.v (.int .i64 (i:Nat)))],[(.t 3 0,lW ((V++[s]).length) (([]:List Sl).length)),(.t 8 0,.arr 1 (E sV (V++[s])) false),(.t 9 0,.arr 1 (E sV ([]:List Sl)) false),(.t 2 0,nW)]⟩) (by simp[Vs.LeL,Vs.look,aA,nN,Vs.rnB,Vs.nmF,Vs.rn,Vs.rnL]) (fvC ⟨rfl,rfl⟩ (fvC ⟨aX,rfl⟩ (fvC ⟨aX,rfl⟩ (fvC ⟨rfl,rfl⟩ fvN))))
  show Vs.At Tryz.prog Tryz.f90.ntmps (aBy Tryz.prog 8 aGC 9 aGB) (.region [⟨some 25,.bin .add (.tmp 14) (.const (.int .i64 (1))),none⟩,⟨some 14,.mv (.tmp 25),none⟩] _ []) _ a4 w4
  refine At.rg (O.rgN J 2 (τ:=⟨[rO T U,pP 2,pP 3,(12,.sl 1 (E cD T)),(13,.v (.int .i64 (T.length:Nat))),(14,.v (.int .i64 (i+1:Nat)))],[(.t 3 0,lW ((V++[s]).length) (([]:List Sl).length)),(.t 8 0,.arr 1 (E sV (V++[s])) false),(.t 9 0,.arr 1 (E sV ([]:List Sl)) false),(.t 2 0,nW)]⟩) ?_ λa9 w9 S9 p9 qd=>RgL.nil ?_)
  .simp -dsimp only[go_sem,qh,cTs]
   first|(simp[Vs.LeL,Vs.look,aA];done)
  have pA:Vs.Past S1 w1 S4 w4:=(p2.trans p3).trans p4;have pB:=pA.trans p9;have q9:C1.w0.heap.size<=w3.heap.size:=ha.size;refine⟨T.length-(i+1),by omega,i+1,V++[s],S9,_,λj=>if j=V.length then m else M j,rfl,by omega,by simp[hy],qd,λj I=>?_,λj b I H=>?_,λj k b I hk hh ho=>?_⟩
  .by_cases e:j=V.length
   .subst e;have e1:(V++[s]).getD V.length default=s:=by simp
    have e2:T.getD V.length []=T[i]:=by rw[hy];simp[L]
    simp only[Bj];rw[e1,e2];exact qw.past (λb H=>(h7 b H).1) p9
   .have hq:j<V.length:=by simp at I;omega
    have e1:(V++[s]).getD j default=V.getD j default:=by simp[BB hq]
    simp only[e,Bd];rw[e1];exact(qo j hq).past (λb H=>(Z j b hq H).1) pB
  .by_cases e:j=V.length
   .simp only[e,Bj] at H;exact⟨p9.sub b (h7 b H).1,by have:=(h7 b H).2;omega⟩
   .have hq:j<V.length:=by simp at I;omega
    simp only[e,Bd] at H;exact⟨pB.sub b (Z j b hq H).1,(Z j b hq H).2⟩
  .have h8:∀j b,j<V.length->(M j).D b->m.D b->False:=λj b I H hm=>by
    have h1:=(Z j b I H).1;have h2:=ha.dom b ((p2.trans p3).sub b h1);have h3:=(h7 b hm).2;omega
   by_cases e:j=V.length<;>by_cases e':k=V.length
   .rw[e,e']
   .simp only[e,e',Bj,Bd] at hh ho;exact(h8 k b (by simp at hk;omega) ho hh).elim
   .simp only[e,e',Bj,Bd] at hh ho;exact(h8 j b (by simp at I;omega) hh ho).elim
   .simp only[e,e',Bd] at hh ho;exact qk j k b (by simp at I;omega) (by simp at hk;omega) hh ho
 .have qa:i=T.length:=by have:=BQ hf;omega
  subst qa;simp only[Exit.then,Exit.inBlock,Bj];clear hn hi;have qp:∀j,j<V.length->Vs.Dk w2 ((T.getD j []).map (E cI)) (slW (V.getD j default)) (M j):=λj I=>(qo j I).past (λb H=>(Z j b I H).1) p2;have hd:∀j b,j<V.length->(M j).D b->S2 b∧C1.w0.heap.size<=b:=λj b I H=>⟨p2.sub b (Z j b I H).1,(Z j b I H).2⟩;refine At.seq (?_);refine hs.goT (rP Tryz.mixed _ _ _ _) J 1 _ (τ:=⟨[pP 2,pP 3,(27,.sl 1 (E cTs U)),(28,.v (.int .i64 (U.length:Nat))),(29,.v (.int .i64 (0:Nat)))],[(.t 3 0,.var [.loc (.t 8 0) 0 V.length,.loc (.t 9 0) 0 (([]:List Sl)).length] false),(.t 8 0,.arr 1 (E sV V) false),(.t 9 0,.arr 1 (E sV (([]:List Sl))) false),(.t 2 0,nW)]⟩) (λC hC=>?_) λax wx Sx px q3=>?_
  .simp -dsimp only[go_sem,h6,aJz,cTs]
   repeat' first|simp -dsimp only[go_sem,h6,aJz,cTs]|apply Br.mk<;>intro h<;>try simp -dsimp only[h]|refine aC ?_|fail
   all_goals first|(simp[Vs.LeL,Vs.look,aA];done)|exact⟨by simp[Vs.LeL,Vs.look,aA],trivial⟩|omega|(and_intros<;>first|omega|trivial|(simp[Vs.LeL,Vs.look,aA];done))
  let JV:Nat->Act->World->Prop:=λnn a' w'=>∃(i:Nat) (W:List Sl) (S':Nat->Prop) (I':Vs.Envs) (ys:Nat->Option Nat) (cs:Nat->Nat),nn=U.length-i∧i<=U.length∧W.length=i∧Vs.Past Sx wx S' w'∧Vs.Pt I' C1 (⟨[pP 2,pP 3,(27,.sl 1 (E cTs U)),(28,.v (.int .i64 (U.length:Nat))),(29,.v (.int .i64 (i:Nat)))],[(.t 3 0,lW (V.length) ((W).length)),(.t 8 0,.arr 1 (E sV V) false),(.t 9 0,.arr 1 (E sV (W)) false),(.t 2 0,nW)]⟩:St) a' w' S'∧mD (λ_=>False) w' 2 ((U.take i).map (E cT)) (W.map slW) ys cs∧∀j b,j<W.length->ys j=some b->S' b∧C1.w0.heap.size<=b∧¬Sx b
  refine At.block (At.loop JV (λnn a1 w1 hI=>?_) (n:=U.length) ⟨0,[],Sx,_,λ_=>none,λ_=>0,by omega,by omega,rfl,Vs.Past.refl _ _,q3,⟨rfl,by simp,by simp⟩,by simp⟩);clear hf hs;obtain⟨i,W,Sq,I1,ys,cs,hn,hi,qn,pz,hv,hu,Y⟩:=hI;refine hv.goT (rP Tryz.mixed _ _ _ _) J 1 _ (τ:=⟨[(30,.v (.bool (decide ((i:Nat)<(U.length:Nat))))),pP 2,pP 3,(27,.sl 1 (E cTs U)),(28,.v (.int .i64 (U.length:Nat))),(29,.v (.int .i64 (i:Nat)))],[(.t 3 0,lW (V.length) ((W).length)),(.t 8 0,.arr 1 (E sV V) false),(.t 9 0,.arr 1 (E sV (W)) false),(.t 2 0,nW)]⟩) (λC hC=>?_) λay wy Sy py qe=>?_
  .simp -dsimp only[go_sem,cTs]
   repeat' first|simp -dsimp only[go_sem,cTs]|apply Br.mk<;>intro h<;>try simp -dsimp only[h]|refine aC ?_|fail
   all_goals first|(simp[Vs.LeL,Vs.look,aA];done)|exact⟨by simp[Vs.LeL,Vs.look,aA],trivial⟩|omega|(and_intros<;>first|omega|trivial|(simp[Vs.LeL,Vs.look,aA];done))
  refine At.seq (qe.cond (b:=decide ((i:Nat)<(U.length:Nat))) rfl (λht=>At.skip ?_) (λhf=>At.exit ?_))
  .have L:i<U.length:=BJ ht;have qh:=aG L hU.1;have hm:(E cTs U).getD i []=[.sl 2 (E cT U[i])]:=aN L;have q0:=(hU.2 _ (Aa L)).1;refine At.seq (At.block ?_);refine qe.goT (rP Tryz.mixed _ _ _ _) J 1 _ (τ:=⟨[(7,.sl 2 (E cT U[i])),pP 2,pP 3,(27,.sl 1 (E cTs U)),(28,.v (.int .i64 (U.length:Nat))),(29,.v (.int .i64 (i:Nat)))],[(.t 3 0,lW (V.length) (W.length)),(.t 8 0,.arr 1 (E sV V) false),(.t 9 0,.arr 1 (E sV W) false),(.t 2 0,nW)]⟩) (λC hC=>?_) λa3 w3 S3 p3 ha=>?_
   .simp -dsimp only[go_sem,h6,hm,cTs]
    repeat' first|simp -dsimp only[go_sem,h6,hm,cTs]|apply Br.mk<;>intro h<;>try simp -dsimp only[h]|refine aC ?_|fail
    all_goals first|(simp[Vs.LeL,Vs.look,aA];done)|exact⟨by simp[Vs.LeL,Vs.look,aA],trivial⟩|omega|(and_intros<;>first|omega|trivial|(simp[Vs.LeL,Vs.look,aA];done))
   refine noR2 J (t:=U[i]) q0 (V:=V) (W:=W) (by rw[qn];exact Bl hi hU.1) ha λI4 a4 w4 S4 s x6 c6 p4 qc qq hw=>?_
   have O:=(qc.ren (n:=.t 39 0) (m:=.t 9 0) (by decide) (by rfl) (λpp hp=>by
     have e:pp∈[(.t 3 0,lW (V.length) ((W.length+1))),(.t 8 0,.arr 1 (E sV V) false),(.t 9 0,.arr 1 (E sV (W++[s])) false),(.t 2 0,nW)]:=by simpa[nN,Vs.rnB,Vs.nmF,Vs.rn,Vs.rnL] using hp
     simp only[Ap,Ao,AX] at e;rcases e with rfl|rfl|rfl|rfl
     . exact⟨rfl,rfl⟩
     . exact⟨λr hr=>aX r hr,rfl⟩
     . exact⟨λr hr=>aX r hr,rfl⟩
     . exact⟨rfl,rfl⟩)).le (τ:=⟨[pP 2,pP 3,(27,.sl 1 (E cTs U)),(28,.v (.int .i64 (U.length:Nat))),(29,.v (.int .i64 (i:Nat)))],[(.t 3 0,lW (V.length) ((W++[s]).length)),(.t 8 0,.arr 1 (E sV V) false),(.t 9 0,.arr 1 (E sV (W++[s])) false),(.t 2 0,nW)]⟩) (by simp[Vs.LeL,Vs.look,aA,nN,Vs.rnB,Vs.nmF,Vs.rn,Vs.rnL]) (fvC ⟨rfl,rfl⟩ (fvC ⟨aX,rfl⟩ (fvC ⟨aX,rfl⟩ (fvC ⟨rfl,rfl⟩ fvN))))
   show Vs.At Tryz.prog Tryz.f90.ntmps (aBy Tryz.prog 8 aGC 9 aGB) (.region [⟨some 41,.bin .add (.tmp 29) (.const (.int .i64 (1))),none⟩,⟨some 29,.mv (.tmp 41),none⟩] _ []) _ a4 w4
   refine At.rg (O.rgN J 2 (τ:=⟨[pP 2,pP 3,(27,.sl 1 (E cTs U)),(28,.v (.int .i64 (U.length:Nat))),(29,.v (.int .i64 (i+1:Nat)))],[(.t 3 0,lW (V.length) ((W++[s]).length)),(.t 8 0,.arr 1 (E sV V) false),(.t 9 0,.arr 1 (E sV (W++[s])) false),(.t 2 0,nW)]⟩) ?_ λa9 w9 S9 p9 qd=>RgL.nil ?_)
   .simp -dsimp only[go_sem,qh,cTs]
    first|(simp[Vs.LeL,Vs.look,aA];done)
   have pA:Vs.Past Sq w1 S4 w4:=(py.trans p3).trans p4;have qv:Vs.Past Sq w1 S3 w3:=py.trans p3;have q8:(W.map slW).length=W.length:=Bg _;have qb:=hu.mono (w':=w4) (λj b I H h=>h) λj b I H=>pA.old b (Y j b (by omega) H).1;have q4:=qb.snoc qq (λj b I H e=>(hw b e).2.2 (qv.sub b (Y j b (by omega) H).1));refine⟨U.length-(i+1),by omega,i+1,W++[s],S9,_,λj=>if j=(W.map slW).length then x6 else ys j,λj=>if j=(W.map slW).length then c6 else cs j,rfl,by omega,by simp[qn],(pz.trans pA).trans p9,qd,?_,λj b I H=>?_⟩
   .have e:((U.take (i+1)).map (E cT))=(U.take i).map (E cT)++[E cT U[i]]:=by rw[aY L,Bu];rfl
    rw[e,Bu];refine q4.mono (λj b I H h=>h) λj b I H=>p9.old b ?_
    try dsimp only at H
    split at H
    .exact(hw b H).1
    .exact pA.sub b (Y j b (by simp at I;omega) H).1
   .try dsimp only at H
    split at H
    .exact⟨p9.sub b (hw b H).1,(hw b H).2.1,λh=>(hw b H).2.2 (qv.sub b (pz.sub b h))⟩
    .have g:=Y j b (by simp at I;omega) H;exact⟨p9.sub b (pA.sub b g.1),g.2⟩
  .have qa:i=U.length:=by have:=BQ hf;omega
   subst qa;simp only[Exit.then,Exit.inBlock,Bj];refine At.seq (At.rg (qe.rgN J 2 (τ:=⟨[pP 2],[(.t 2 0,lW (V.length) (W.length)),(.t 8 0,.arr 1 (E sV V) false),(.t 9 0,.arr 1 (E sV W) false)]⟩) ?_ λa5 w5 S5 p5 O=>RgL.nil ?_))
   .simp -dsimp only[go_sem,cTs]
    first|(simp[Vs.LeL,Vs.look,aA];done)|(and_intros<;>first|omega|trivial|(simp[Vs.LeL,Vs.look,aA];done))
   obtain ⟨qx,u,ρ,κ,qr,q5,qm,ql,qj⟩:=O.resX (fn:=Tryz.f90) (x:=.agg [.loc (.t 8 0) 0 V.length,.loc (.t 9 0) 0 W.length]) (by
     show dQ Tryz.prog _ _ [_]
     simp -dsimp only[go_sem,cTs]
     try simp[dU])
   obtain⟨vs,rfl,qg,qs⟩:=jW q5;have qf:=uJ (vs:=vs) qg;have r0:RV S5 w5 ρ κ _ (.loc (.t 8 0) 0 V.length) (vs.getD 0 undef):=qs 0 (by simp);have r1:RV S5 w5 ρ κ _ (.loc (.t 9 0) 0 W.length) (vs.getD 1 undef):=qs 1 (by simp);generalize vs.getD 0 undef=tv at r0 qf;generalize vs.getD 1 undef=sv at r1 qf;subst qf;have q1:(E sV V).length=V.length:=aH _;have q2:(E sV W).length=W.length:=aH _;have o0:=qm (.t 8 0) 1 (E sV V) tv rfl (λr hr=>aX r hr) (by rw[q1];exact r0);have o1:=qm (.t 9 0) 1 (E sV W) sv rfl (λr hr=>aX r hr) (by rw[q2];exact r1);have n0:=λb=>ql (.t 8 0) b rfl;have n1:=λb=>ql (.t 9 0) b rfl;have qu:Vs.Past Sx wx S5 w5:=(pz.trans py).trans p5;have qi:Vs.Past S2 w2 Sx wx:=px;have hx:∀j b,j<V.length->(M j).D b->S5 b∧Sx b:=λj b I H=>⟨qu.sub b (qi.sub b (hd j b I H).1),qi.sub b (hd j b I H).1⟩;have h4:∀j b,j<W.length->ys j=some b->S5 b∧¬Sx b:=λj b I H=>⟨p5.sub b (py.sub b (Y j b I H).1),(Y j b I H).2.2⟩;refine At.ret ⟨.inl rfl,qx,_,qr,tv,sv,rfl,qt ▸ O.out,⟨ρ (.t 8 0),κ (.t 8 0),V,M,ρ (.t 9 0),κ (.t 9 0),W,ys,cs⟩,⟨o0,hy.symm,λj I=>?_,qk,λj b I H e=>(n0 b e).2.2 (hx j b I H).1,o1,?_,λj b I H e=>(n1 b e).2.2 (h4 j b I H).1,λb h1 h2=>?_,λb H=>?_⟩,λb H=>?_⟩
   .exact(qp j I).past (λb H=>(hd j b I H).1) (qi.trans qu)
   .show mD _ w5 2 (U.map (E cT)) (W.map slW) ys cs
    rw[Bv] at hu;exact hu.mono (λj b I H h=>h) λj b I H=>(py.trans p5).old b (Y j b (by simpa using I) H).1
   .rcases h1 with h1|⟨j,I,h1⟩<;>rcases h2 with h2|⟨k,hk,h2⟩
    .have:=qj (.t 8 0) (.t 9 0) b rfl rfl h1 h2;cases this
    .exact(n0 b h1).2.2 (h4 k b hk h2).1
    .exact(n1 b h2).2.2 (hx j b I h1).1
    .exact(h4 k b hk h2).2 (hx j b I h1).2
   .rcases H with(H|⟨j,I,H⟩)|(H|⟨j,I,H⟩)
    .exact(n0 b H).2.1
    .exact O.dom b (hx j b I H).1
    .exact(n1 b H).2.1
    .exact O.dom b (h4 j b I H).1
   .rw[←qt];rcases H with(H|⟨j,I,H⟩)|(H|⟨j,I,H⟩)
    .exact(n0 b H).1
    .exact(hd j b I H).2
    .exact(n1 b H).1
    .exact(Y j b I H).2.1
end
section
variable [Vs.Envs]
attribute [local irreducible] Vs.Fn flt dH zR vP bK aO bL bM l03 chB rk cd3 chI stp aP
def mq (fr to:Int) (o:List (List Int)) (e:Bool):List Int->Bool:=λx=>!(vP fr to o x==e)
attribute [local go_sem] Bh Bz Int.reduceBEq Int.reduceBNe Af Ag Al Aq Ae Ai Ac Ak Ab Ah Am aH in
theorem wJ (l o:List (List Int)) (fr to:Int) (e:Bool) (hk:aZ l) (qp:o.length<=1048576) (hx:∀c,c∈l->okF fr to c) (hy:∀c,c∈o->okF fr to c) {S:Nat->Prop}{w:World}{vs:Array Value} (hS:∀b,S b->b<w.heap.size) (he:Env S w) (qt:vs.size=4) (hm:∀j,j<4->RC S w (([.sl 1 (E cC l),.sl 1 (E cC o),.v (.bool e),.ro (cFd fr to)]:List AV).getD j .junk) (vs.getD j undef)):Calls Tryz.prog F.aT vs w (λe0 w0=>∃v,e0=.returned v∧kY w w0∧aBb w w0 ((mat fr to l o e).map (E cI)) v):=by
 obtain⟨h1,h2,_⟩:=Cd.i_MatchDecks_1_k.o;obtain⟨qv,H,hc⟩:=AY.1 h2;have hz:(Tryz.f155.body.map (zB Tryz.f155.ntmps (aW Tryz.prog)))=some true:=by kernel_rfl
 rw[H] at hz;have qm:=bB Tryz.mixed;refine Vs.Pt.calls (dr:=aW Tryz.prog) (ac:=Cd.aT) h1 H hc (by simpa using hz) (args:=[.sl 1 (E cC l),.sl 1 (E cC o),.v (.bool e),.ro (cFd fr to)]) (by rw[Cd.i_MatchDecks_1_k.n];exact Bc rfl) hS he qt hm λC1 a O ha qk hp=>?_;unfold Cd.aT;refine hp.goC (τ:=⟨[(0,.sl 1 (E cC l)),(3,.ro (cFd fr to)),(5,.ptr (.t 5 0) 0 0),(6,.ptr (.t 6 0) 0 0)],[(.t 5 0,.var [.sl 1 (E cC o)] false),(.t 6 0,.var [.v (.bool e)] false)]⟩) qm O 1 _ (E:=λ_ _=>False) [(0,.sl 1 (E cC l)),(3,.ro (cFd fr to)),(5,.ro [.sl 1 (E cC o)]),(6,.ro [.v (.bool e)])] (λp hp=>?_) (λC hC=>?_) (λi σ h=>h) (λC a w hl hg=>hg.no.elim) λI1 a1 w1 S1 p1 qq=>?_
 .simp only[Ap,Ao,AX] at hp;rcases hp with rfl|rfl|rfl|rfl<;>exact⟨rfl,_,rfl⟩
 .simp -dsimp only[go_sem,cC,cFd]
  first|(simp[Vs.LeL,Vs.look,aA];done)
 refine At.seq (At.rg (qq.rgN O 1 (τ:=⟨[(8,.sl 1 (E cC l)),(3,.ro (cFd fr to)),(5,.ro [.sl 1 (E cC o)]),(6,.ro [.v (.bool e)])],[]⟩) ?_ λa2 w2 S2 p2 I=>I.rgc O (ts:=[8]) (ys:=[.sl 1 (E cC l)]) (jZ Cd.i_newDeck_k.o) rfl rfl λus qs hr=>?_))
 .simp -dsimp only[go_sem,cC,cFd];simp[Vs.LeL,Vs.look,aA]
 obtain⟨u0,rfl⟩:∃u0,us=#[u0]:=⟨_,Vs.us1 qs rfl⟩;refine(aAe l hk I.dom I.env (hr 0 Dj)).mono ?_;rintro e0 w3 ⟨v,rfl,hg,m,hd3,hn,c,ho3⟩;refine⟨v,rfl,?_⟩;have qx:w.heap.size<=w2.heap.size:=by rw[←ha];exact I.size
 have qd:=(I.grow hg (D:=m.D) (λb H=>⟨hn b H,hd3.lt b H⟩) [(3,.ro (cFd fr to)),(5,.ro [.sl 1 (E cC o)]),(6,.ro [.v (.bool e)])] (λp hp=>by
     simp only[Ap,Ao,AX] at hp;rcases hp with rfl|rfl|rfl<;>exact⟨rfl,.inr rfl⟩)).put (d:=9) (by rw[O,Cd.i_MatchDecks_1_k.n];omega) v
 obtain⟨lv,L,Y⟩:=aKe hd3;have qe:(m.ss.map λs=>[AV.v s])=E cV lv:=by rw[Y,Cc];rfl
 have qc:lv.length=l.length:=by rw[←L,Bg]
 rw[qe] at ho3;have h9:∀b,S2 b->(S2 b∨m.D b)∧m.x0≠some b:=λb H=>⟨.inl H,λe=>by have:=hn b (.inl e);have:=I.dom b H;omega⟩;have qo:∀b,S2 b->w3.heap[b]? = w2.heap[b]?:=λb H=>hg.old b (I.dom b H)
 have hs:∀{t:Nat}{x:AV},Vs.look [(8,.sl 1 (E cC l)),(3,.ro (cFd fr to)),(5,.ro [.sl 1 (E cC o)]),(6,.ro [.v (.bool e)])] t=x->dA x=true->9≠t->RC (λb=>(S2 b∨m.D b)∧m.x0≠some b) w3 x ((a2.put (some 9) v).tmps.getD t undef):=λ{t x} hx hc ht=>by
  subst hx;rw[aBQ ht];exact(I.val hc).mono (λb H=>h9 b H) λb H=>qo b H
 have h5:=qd.adopt1 (n1:=.t 9 0) ho3 (λb H=>⟨by rw[ha];have:=hn b (.inl H);omega,.inr (.inl H),λh=>by rw[qk] at h;have:=hS b h;have:=hn b (.inl H);omega⟩) (t:=9) (qd.valv rfl) [(3,.ro (cFd fr to)),(5,.ro [.sl 1 (E cC o)]),(6,.ro [.v (.bool e)])] (fvC (.inr (hs rfl rfl (show(9:Nat)≠3 by decide))) (fvC (.inr (hs rfl rfl (show(9:Nat)≠5 by decide))) (fvC (.inr (hs rfl rfl (show(9:Nat)≠6 by decide))) fvN))) rfl;rw[aH] at h5
 have ho:∀x,x∈lv->∀(S':Nat->Prop) (w':World),@Vs.Env (Vs.keepE (λb=>(S2 b∨m.D b)∧m.x0≠some b) w3) S' w'->RC S' w' (.sl 1 (E cI x.2)) (slV x):=λx hx S' w' hv=>by
  obtain⟨i,hi,rfl⟩:=Cb.1 hx;have h4:i<m.ss.length:=by rw[Y,Bg];exact hi
  have qg:=(hd3.rows.row i h4).rc;have e1:(l.map (E cI)).getD i []=E cI lv[i].2:=by rw[←L];simp[hi]
  have e2:m.ss.getD i undef=slV lv[i]:=by rw[Y];simp[hi]
  rw[e1,e2] at qg;refine bO (λb H=>h5.dom b H) hv (qg.mono (λb H=>⟨.inr (.inr ⟨i,h4,H⟩),λe=>(hd3.rows.row i h4).no H e⟩) λ_ _=>rfl)
 have qi:∀(I':Vs.Envs),I'=Vs.keepE (λb=>(S2 b∨m.D b)∧m.x0≠some b) w3->@Vs.Fn I' Tryz.prog F.kV [.arr 1 (E cV lv) false] [.loc (.b 0) 0 lv.length,.fn F.dO [.ro [.sl 1 (E cC o)],.ro (cFd fr to),.ro [.v (.bool e)]]] (.loc (.b 0) 0 (dH (qV (mq fr to o e)) lv).length) [some (.arr 1 (E cV (dH (qV (mq fr to o e)) lv)++zR (lv.length-(dH (qV (mq fr to o e)) lv).length)) false)]:=λI' qj=>by
  subst qj
  letI I':=Vs.keepE (λb=>(S2 b∨m.D b)∧m.x0≠some b) w3
  refine delV (qV (mq fr to o e)) F.dO [.ro [.sl 1 (E cC o)],.ro (cFd fr to),.ro [.v (.bool e)]] rfl lv (by rw[qc];exact hk.1) λx qh=>?_;have qu:x.2∈l:=by rw[←L];exact Bq.2 ⟨x,qh,rfl⟩
  refine Vs.Fn.knownR (aIh x.2 o fr to e (hx _ qu) hy qp) rfl λj hj=>?_
  match j,hj with
  | 0,_ =>
   refine .inr ⟨rfl,λS' w' u hv hu=>?_⟩;cases hu with
   | agg _ us hl2 hr2 =>
    refine .agg _ us hl2 λj hj=>?_;obtain rfl:j=0:=by simpa[cC] using hj
    have h3:RC S' w' (.v (.slice x.1.1 x.1.2.1 x.1.2.2)) (us.getD 0 undef):=hr2 0 (by simp[cV]);rw[bE (ρ:=λ_=>none) (κ:=λ_=>0) (h:=λ_=>none) (.clo h3)];exact ho x qh S' w' hv
  |1,_=>exact .inl rfl
  |2,_=>exact .inl rfl
  |3,_=>exact .inl rfl
 have hD:=qi _ rfl;have hq:=aDT (dH (qV (mq fr to o e)) lv) (lv.length-(dH (qV (mq fr to o e)) lv).length);have qw:(dH (qV (mq fr to o e)) lv).length<=lv.length:=aGb ..
 have hw:=aIr (dH (qV (mq fr to o e)) lv) (lv.length-(dH (qV (mq fr to o e)) lv).length);generalize hZ:zR (lv.length-(dH (qV (mq fr to o e)) lv).length)=Z at hD hq hw
 letI I4:=Vs.keepE (λb=>(S2 b∨m.D b)∧m.x0≠some b) w3
 refine h5.rgN O 3 (τ:=⟨[(7,.loc (.t 9 0) 0 (dH (qV (mq fr to o e)) lv).length)],[(.t 9 0,.arr 1 (E cV (dH (qV (mq fr to o e)) lv)++Z) false)]⟩) (hτ:=(fvC ⟨hw,rfl⟩ fvN)) ?_ λa5 w5 S5 p5 h6=>RgL.nil ?_
 .simp -dsimp only[go_sem,cC,cFd,BF,BG,l8,sF,lU,Aw,Be,Au,Ap,Ao,AX,BH,Vs.Name.t.injEq]
  first|refine⟨rfl,aB.borL hD rfl ?_⟩|refine⟨rfl,aB.bor hD rfl ?_⟩
  simp -dsimp only[go_sem,AJ,Cn,AQ,cC,cFd]
  first|(simp[Vs.LeL,Vs.look,aA];done)
 obtain ⟨ql,u,x,qf,U,h7⟩:=h6.resOne (fn:=Tryz.f155) (n:=.t 9 0) rfl hw (len:=(dH (qV (mq fr to o e)) lv).length) (by
   show dQ Tryz.prog _ _ [_]
   simp[dQ,qX,Vs.look,dU])
 rw[hq] at U;have qr:(lv.map λx=>E cI x.2)=l.map (E cI):=by rw[←L,Cc];rfl
 obtain⟨hd,h8,hf,hh⟩:=aCP (qV (mq fr to o e)) (S:=λ_=>False) (w:=w3) (lv:=lv) (xs:=m.xs) (cs:=m.cs) (by rw[qr,←Y];exact hd3.rows.mono (λ_ _ _ _ h=>h) λ_ _ _ _=>rfl) lv.length (Ar _);rw[Bv] at hf hh
 have hin:∀i b,i<(dH (qV (mq fr to o e)) lv).length->hd i=some b->(m.D b∧m.x0≠some b):=λi b hi H=>by
  obtain⟨j,hj,qb⟩:=hh i b hi H;have qa:j<m.ss.length:=by rw[Y,Bg];exact hj
  exact⟨.inr ⟨j,qa,qb⟩,λe=>(hd3.rows.row j qa).no qb e⟩
 have J:∀i b,i<(dH (qV (mq fr to o e)) lv).length->hd i=some b->S5 b∧w5.heap[b]? = w3.heap[b]?:=λi b hi H=>by
  obtain⟨g1,g2⟩:=hin i b hi H;exact⟨p5.sub b ⟨.inr g1,g2⟩,p5.old b ⟨.inr g1,g2⟩⟩
 have qn:((dH (qV (mq fr to o e)) lv).map λx=>E cI x.2)=(mat fr to l o e).map (E cI):=by
  rw[show mat fr to l o e=flt (mq fr to o e) l from rfl,←L,←aGa,Cc];rfl
 refine At.ret ⟨.inl rfl,ql,_,qf,u,rfl,ha ▸ h6.out,⟨x,(dH (qV (mq fr to o e)) lv).map slV,hd,h8⟩,⟨?_,?_,λb H=>?_⟩,λb H=>?_⟩
 .have e9:(((dH (qV (mq fr to o e)) lv).map slV).map λs=>[AV.v s])=E cV (dH (qV (mq fr to o e)) lv):=by rw[Cc];rfl
  show RC _ w5 (.sl 1 (((dH (qV (mq fr to o e)) lv).map slV).map λs=>[AV.v s])) u
  rw[e9];exact U
 .show mD _ w5 1 ((mat fr to l o e).map (E cI)) ((dH (qV (mq fr to o e)) lv).map slV) hd h8
  rw[←qn];exact hf.mono (λi b hi H e8=>(h7 b e8).2.2 (J i b (by simpa using hi) H).1) λi b hi H=>(J i b (by simpa using hi) H).2
 .rcases H with H|⟨i,hi,H⟩
  .exact(h7 b H).2.1
  .exact h6.dom b (J i b (by simpa using hi) H).1
 .rcases H with H|⟨i,hi,H⟩
  .rw[←ha];exact(h7 b H).1
  .have:=hn b (hin i b (by simpa using hi) H).1;omega
end
end Go.Proofs.YtkgeiaideklmoaaGreat
