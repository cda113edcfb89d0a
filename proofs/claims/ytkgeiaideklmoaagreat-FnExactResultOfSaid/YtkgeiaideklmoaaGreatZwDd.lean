/- The cards that match, or do not, in memory of their own. -/
import Derived.Test.YtkgeiaideklmoaaGreatZwDg
import Derived.Test.YtkgeiaideklmoaaGreatZwVl
import Derived.Test.YtkgeiaideklmoaaGreatZwDb
import Derived.Test.YtkgeiaideklmoaaGreatZwSh
import Derived.Test.YtkgeiaideklmoaaGreatVuS
set_option linter.all false
set_option maxHeartbeats 8000000
namespace Go.Proofs.YtkgeiaideklmoaaGreat
open Go.Vs
section
variable [Vs.Envs]
attribute [local irreducible] Vs.Fn chOK areCh chTo chAt l03 chB rk cd3 chI stp stpTo
def aFj:List (List Nat):=[[0,1,2,3,4,5,6,7],[0,2,1,3,4,5,6,7],[0,2,3,1,4,5,6,7],[0,2,3,4,1,5,6,7],[2,0,1,3,4,5,6,7],[2,0,3,1,4,5,6,7],[2,0,3,4,1,5,6,7],[2,3,0,1,4,5,6,7],[2,3,0,4,1,5,6,7],[2,3,4,0,1,5,6,7]]
def aFi:List (List Nat):=[[0,1,2,3,4,5,6,7,8],[0,1,3,2,4,5,6,7,8],[0,2,1,3,4,5,6,7,8],[0,2,3,1,4,5,6,7,8],[0,2,3,4,1,5,6,7,8],[0,2,3,4,5,1,6,7,8],[0,3,1,2,4,5,6,7,8],[0,3,2,1,4,5,6,7,8],[0,3,2,4,1,5,6,7,8],[0,3,2,4,5,1,6,7,8],[2,0,1,3,4,5,6,7,8],[2,0,3,1,4,5,6,7,8],[2,0,3,4,1,5,6,7,8],[2,0,3,4,5,1,6,7,8],[2,3,0,1,4,5,6,7,8],[2,3,0,4,1,5,6,7,8],[2,3,0,4,5,1,6,7,8],[2,3,4,0,1,5,6,7,8],[2,3,4,0,5,1,6,7,8],[2,3,4,5,0,1,6,7,8],[3,0,1,2,4,5,6,7,8],[3,0,2,1,4,5,6,7,8],[3,0,2,4,1,5,6,7,8],[3,0,2,4,5,1,6,7,8],[3,2,0,1,4,5,6,7,8],[3,2,0,4,1,5,6,7,8],[3,2,0,4,5,1,6,7,8],[3,2,4,0,1,5,6,7,8],[3,2,4,0,5,1,6,7,8],[3,2,4,5,0,1,6,7,8]]
variable {C1:Ctx}
theorem yF (L:C1.nt=Tryz.f90.ntmps) {Q:Exit→Act→World→Prop}{I:Vs.Envs}{a:Act}{w w0:World}{S:Nat→Prop}{d:List (List Int)} (hk:aU d) {V W:List Sl}{T:List (List (List Int))}{U:List (List Tot)}{G H:Value} (hc:Vs.Pt I C1 (⟨[(5,.sl 1 (E cC d)),(1,.ro [.sl 1 (E cD T),.sl 1 (E cTs U)]),(2,.ptr (.t 2 0) 0 0),(3,.ptr (.t 3 0) 0 0),(12,.sl 1 (E cD T)),(13,.v G),(14,.v H)],[(.t 3 0,.var [.loc (.t 8 0) 0 V.length,.loc (.t 9 0) 0 W.length] false),(.t 8 0,.arr 1 (E sV V) false),(.t 9 0,.arr 1 (E sV W) false),(.t 2 0,.var [.v (.slice none 0 0),.v (.slice none 0 0)] false)]⟩:St) a w0 S) (p0:Vs.Past S w S w0) (hN:∀(I':Vs.Envs) a' w' S' (s:Sl) (m:Vs.Mem),Vs.Past S w S' w'→Vs.Pt I' C1 (⟨[(1,.ro [.sl 1 (E cD T),.sl 1 (E cTs U)]),(2,.ptr (.t 2 0) 0 0),(3,.ptr (.t 3 0) 0 0),(12,.sl 1 (E cD T)),(13,.v G),(14,.v H)],[(.t 3 0,.var [.loc (.t 23 0) 0 (V.length+1),.loc (.t 9 0) 0 W.length] false),(.t 23 0,.arr 1 (E sV (V++[s])) false),(.t 9 0,.arr 1 (E sV W) false),(.t 2 0,.var [.v (.slice none 0 0),.v (.slice none 0 0)] false)]⟩:St) a' w' S'→Vs.Dk w' (d.map (E cI)) (slW s) m→(∀b,m.D b→S' b∧w.heap.size≤b)→Q .normal a' w')
  (e:Nat×AV) (pre post:List aJ) (ha:∀p,p∈[e,(1,.ro [.sl 1 (E cD T),.sl 1 (E cTs U)]),(2,.ptr (.t 2 0) 0 0),(3,.ptr (.t 3 0) 0 0),(12,.sl 1 (E cD T)),(13,.v G),(14,.v H)]→p.2=Vs.look ((⟨[(20,.sl 1 (E cC d)),e,(1,.ro [.sl 1 (E cD T),.sl 1 (E cTs U)]),(2,.ptr (.t 2 0) 0 0),(3,.ptr (.t 3 0) 0 0),(12,.sl 1 (E cD T)),(13,.v G),(14,.v H)],[(.t 3 0,.var [.loc (.t 8 0) 0 V.length,.loc (.t 9 0) 0 W.length] false),(.t 8 0,.arr 1 (E sV V) false),(.t 9 0,.arr 1 (E sV W) false),(.t 2 0,.var [.v (.slice none 0 0),.v (.slice none 0 0)] false)]⟩:St)).s p.1∧(Vs.flat p.2=true∨Vs.dY p.2=true)) (h1:@Vs.vc I Tryz.prog (fun σ'=>LeL σ' (⟨[(20,.sl 1 (E cC d)),e,(1,.ro [.sl 1 (E cD T),.sl 1 (E cTs U)]),(2,.ptr (.t 2 0) 0 0),(3,.ptr (.t 3 0) 0 0),(12,.sl 1 (E cD T)),(13,.v G),(14,.v H)],[(.t 3 0,.var [.loc (.t 8 0) 0 V.length,.loc (.t 9 0) 0 W.length] false),(.t 8 0,.arr 1 (E sV V) false),(.t 9 0,.arr 1 (E sV W) false),(.t 2 0,.var [.v (.slice none 0 0),.v (.slice none 0 0)] false)]⟩:St)) pre (⟨[(5,.sl 1 (E cC d)),(1,.ro [.sl 1 (E cD T),.sl 1 (E cTs U)]),(2,.ptr (.t 2 0) 0 0),(3,.ptr (.t 3 0) 0 0),(12,.sl 1 (E cD T)),(13,.v G),(14,.v H)],[(.t 3 0,.var [.loc (.t 8 0) 0 V.length,.loc (.t 9 0) 0 W.length] false),(.t 8 0,.arr 1 (E sV V) false),(.t 9 0,.arr 1 (E sV W) false),(.t 2 0,.var [.v (.slice none 0 0),.v (.slice none 0 0)] false)]⟩:St))
  (h2:∀(I':Vs.Envs) O Y vc,@Vs.vc I' Tryz.prog (fun σ'=>LeL σ' (⟨[(1,.ro [.sl 1 (E cD T),.sl 1 (E cTs U)]),(2,.ptr (.t 2 0) 0 0),(3,.ptr (.t 3 0) 0 0),(12,.sl 1 (E cD T)),(13,.v G),(14,.v H)],[(.t 3 0,.var [.loc (.t 23 0) 0 (V.length+1),.loc (.t 9 0) 0 W.length] false),(.t 23 0,.arr 1 (E sV (V++[(O,Y,vc)])) false),(.t 9 0,.arr 1 (E sV W) false),(.t 2 0,.var [.v (.slice none 0 0),.v (.slice none 0 0)] false)]⟩:St)) post (⟨[(21,.v (.slice O Y vc)),e,(1,.ro [.sl 1 (E cD T),.sl 1 (E cTs U)]),(2,.ptr (.t 2 0) 0 0),(3,.ptr (.t 3 0) 0 0),(12,.sl 1 (E cD T)),(13,.v G),(14,.v H)],[(.t 3 0,.var [.loc (.t 8 0) 0 V.length,.loc (.t 9 0) 0 W.length] false),(.t 8 0,.arr 1 (E sV V) false),(.t 9 0,.arr 1 (E sV W) false),(.t 2 0,.var [.v (.slice none 0 0),.v (.slice none 0 0)] false)]⟩:St)):RgL Tryz.prog Tryz.f90.ntmps (pre++⟨some 21,.call (.func F.bZ) ([20].map .tmp) [],none⟩::post) Q a w0:=by
 refine hc.rg L (pre:=pre) (post:=⟨some 21,.call (.func F.bZ) ([20].map .tmp) [],none⟩::post) (τ:=(⟨[(20,.sl 1 (E cC d)),e,(1,.ro [.sl 1 (E cD T),.sl 1 (E cTs U)]),(2,.ptr (.t 2 0) 0 0),(3,.ptr (.t 3 0) 0 0),(12,.sl 1 (E cD T)),(13,.v G),(14,.v H)],[(.t 3 0,.var [.loc (.t 8 0) 0 V.length,.loc (.t 9 0) 0 W.length] false),(.t 8 0,.arr 1 (E sV V) false),(.t 9 0,.arr 1 (E sV W) false),(.t 2 0,.var [.v (.slice none 0 0),.v (.slice none 0 0)] false)]⟩:St)) (fvC ⟨rfl,rfl⟩ (fvC ⟨bQ,rfl⟩ (fvC ⟨bQ,rfl⟩ (fvC ⟨rfl,rfl⟩ fvN)))) h1 fun a2 w2 S2 p2 J=>J.rgc L (ts:=[20]) (ys:=[.sl 1 (E cC d)]) (aDP Cd.i_newDeck_k.o) rfl rfl fun us hf hr=>?_;obtain⟨u0,rfl⟩:∃u0,us=#[u0]:=⟨_,Vs.us1 hf rfl⟩;refine(aFB d hk J.dom J.env (hr 0 Nat.zero_lt_one)).mono ?_;rintro e w3 ⟨v,rfl,hg,m3,hd3,hn3,c3,ho3⟩;refine⟨v,rfl,?_⟩
 obtain ⟨O,Y,vc,hv⟩:∃b m c,v=slW (b,m,c):=by
  obtain⟨_,b,c,e,_⟩:=ho3.loc 1 _ false rfl;exact⟨b,_,c,e⟩
 subst hv;have hd:=(J.grow hg (D:=m3.D) (fun b M=>⟨hn3 b M,hd3.lt b M⟩) _ ha).put (d:=21) (by rw[L,Cd.i_newOffice_k.n];omega) (slW (O,Y,vc))
 letI I3:=Vs.keepE (fun b=>S2 b∨m3.D b) w3
 have g:=hd.rg L (Q:=Q) (pre:=post) (post:=[]) (τ:=⟨[(1,.ro [.sl 1 (E cD T),.sl 1 (E cTs U)]),(2,.ptr (.t 2 0) 0 0),(3,.ptr (.t 3 0) 0 0),(12,.sl 1 (E cD T)),(13,.v G),(14,.v H)],[(.t 3 0,.var [.loc (.t 23 0) 0 (V.length+1),.loc (.t 9 0) 0 W.length] false),(.t 23 0,.arr 1 (E sV (V++[(O,Y,vc)])) false),(.t 9 0,.arr 1 (E sV W) false),(.t 2 0,.var [.v (.slice none 0 0),.v (.slice none 0 0)] false)]⟩) (fvC ⟨rfl,rfl⟩ (fvC ⟨bQ,rfl⟩ (fvC ⟨bQ,rfl⟩ (fvC ⟨rfl,rfl⟩ fvN)))) (h2 _ O Y vc) fun a4 w4 S4 p4 he=>RgL.nil (hN I3 a4 w4 S4 (O,Y,vc) m3 (((p0.trans p2).trans (Vs.Past.grow hg J.dom)).trans p4) he (hd3.past (S:=fun b=>S2 b∨m3.D b) (fun b M=>.inr M) p4) fun b M=>⟨p4.sub b (.inr M),by have:=hn3 b M;have:=p2.size;have:=p0.size;omega⟩)
 rwa [List.append_nil] at g
attribute [local go_sem] Int.reduceBEq Int.reduceBNe cC cFd List.replicate_succ List.replicate_zero List.flatten_cons List.flatten_nil List.cons_append List.nil_append List.set_cons_zero List.set_cons_succ List.length_cons List.length_nil List.length_set aI in
theorem noR1 (Y:C1.nt=Tryz.f90.ntmps) {Q:Exit→Act→World→Prop}{I:Vs.Envs}{a:Act}{w:World}{S:Nat→Prop}{d:List (List Int)} (hk:aU d) {V W:List Sl} (hV:V.length≤1048576) {T:List (List (List Int))}{U:List (List Tot)}{ha hb:Value}
  (G:Vs.Pt I C1 (⟨[(5,.sl 1 (E cC d)),(1,.ro [.sl 1 (E cD T),.sl 1 (E cTs U)]),(2,.ptr (.t 2 0) 0 0),(3,.ptr (.t 3 0) 0 0),(12,.sl 1 (E cD T)),(13,.v ha),(14,.v hb)],[(.t 3 0,.var [.loc (.t 8 0) 0 V.length,.loc (.t 9 0) 0 W.length] false),(.t 8 0,.arr 1 (E sV V) false),(.t 9 0,.arr 1 (E sV W) false),(.t 2 0,.var [.v (.slice none 0 0),.v (.slice none 0 0)] false)]⟩:St) a w S)
  (hN:∀(I':Vs.Envs) a' w' S' (s:Sl) (m:Vs.Mem),Vs.Past S w S' w'→Vs.Pt I' C1 (⟨[(1,.ro [.sl 1 (E cD T),.sl 1 (E cTs U)]),(2,.ptr (.t 2 0) 0 0),(3,.ptr (.t 3 0) 0 0),(12,.sl 1 (E cD T)),(13,.v ha),(14,.v hb)],[(.t 3 0,.var [.loc (.t 23 0) 0 (V.length+1),.loc (.t 9 0) 0 W.length] false),(.t 23 0,.arr 1 (E sV (V++[s])) false),(.t 9 0,.arr 1 (E sV W) false),(.t 2 0,.var [.v (.slice none 0 0),.v (.slice none 0 0)] false)]⟩:St) a' w' S'→Vs.Dk w' (d.map (E cI)) (slW s) m→(∀b,m.D b→S' b∧w.heap.size≤b)→Q .normal a' w') :
  Vs.At Tryz.prog Tryz.f90.ntmps (Vs.aAL Tryz.prog 8 aFj 9 aFi) (.region [⟨some 18,.fieldAddr 0 (.tmp 3),none⟩,⟨some 19,.load false 1 (.tmp 18),none⟩,⟨some 20,.mv (.tmp 5),none⟩,⟨some 21,.call (.func F.bZ) [(.tmp 20)] [],none⟩,⟨some 22,.bslice 1 1 [.v (.slice none 0 0)] [(0,(.tmp 21))],none⟩,⟨some 23,.append 1 24 (.tmp 19) (.tmp 22),none⟩,⟨some 24,.fieldAddr 0 (.tmp 3),none⟩,⟨none,.store 1 (.tmp 24) (.tmp 23),none⟩] [1,2,3,12,13,14] [18,20,19,21,22,23]) Q a w:=by
 have M:(E sV V).length=V.length:=aI _;have O:(E sV W).length=W.length:=aI _;refine At.rgsD Tryz.mixed rfl (by decide +kernel) (fun ops fl hd hn=>Vs.aLO ops fl hd hn) fun L hL=>?_;have H:=G.drew;have p0:Vs.Past S w S {w with drawn:=w.drawn+1}:=Vs.Past.drew;generalize({w with drawn:=w.drawn+1}:World)=w0 at H p0;have J:=fun vb vm vc=>aFu V (vb,vm,vc);simp only[aFj,List.mem_cons,List.not_mem_nil,or_false] at hL;rcases hL with rfl|rfl|rfl|rfl|rfl|rfl|rfl|rfl|rfl|rfl
 ·refine yF Y hk H p0 hN (19,.loc (.t 8 0) 0 V.length) [⟨some 18,.fieldAddr 0 (.tmp 3),none⟩,⟨some 19,.load false 1 (.tmp 18),none⟩,⟨some 20,.mv (.tmp 5),none⟩] [⟨some 22,.bslice 1 1 [.v (.slice none 0 0)] [(0,(.tmp 21))],none⟩,⟨some 23,.append 1 24 (.tmp 19) (.tmp 22),none⟩,⟨some 24,.fieldAddr 0 (.tmp 3),none⟩,⟨none,.store 1 (.tmp 24) (.tmp 23),none⟩] (fun p G=>by
    simp only[List.mem_cons,List.not_mem_nil,or_false] at G;rcases G with rfl|rfl|rfl|rfl|rfl|rfl|rfl
    all_goals first|exact⟨rfl,.inl rfl⟩|exact⟨rfl,.inr rfl⟩) ?_ fun I' vb vm vc=>?_
  all_goals(simp -dsimp only[go_sem,J,M,O];first|(simp[Vs.LeL,Vs.look,Vs.aB];done)|(and_intros<;>first|omega|(simp[Vs.LeL,Vs.look,Vs.aB];done))|trace_state)
 ·refine yF Y hk H p0 hN (19,.loc (.t 8 0) 0 V.length) [⟨some 18,.fieldAddr 0 (.tmp 3),none⟩,⟨some 20,.mv (.tmp 5),none⟩,⟨some 19,.load false 1 (.tmp 18),none⟩] [⟨some 22,.bslice 1 1 [.v (.slice none 0 0)] [(0,(.tmp 21))],none⟩,⟨some 23,.append 1 24 (.tmp 19) (.tmp 22),none⟩,⟨some 24,.fieldAddr 0 (.tmp 3),none⟩,⟨none,.store 1 (.tmp 24) (.tmp 23),none⟩] (fun p G=>by
    simp only[List.mem_cons,List.not_mem_nil,or_false] at G;rcases G with rfl|rfl|rfl|rfl|rfl|rfl|rfl
    all_goals first|exact⟨rfl,.inl rfl⟩|exact⟨rfl,.inr rfl⟩) ?_ fun I' vb vm vc=>?_
  all_goals(simp -dsimp only[go_sem,J,M,O];first|(simp[Vs.LeL,Vs.look,Vs.aB];done)|(and_intros<;>first|omega|(simp[Vs.LeL,Vs.look,Vs.aB];done))|trace_state)
 ·refine yF Y hk H p0 hN (18,.ptr (.t 3 0) 0 0) [⟨some 18,.fieldAddr 0 (.tmp 3),none⟩,⟨some 20,.mv (.tmp 5),none⟩] [⟨some 19,.load false 1 (.tmp 18),none⟩,⟨some 22,.bslice 1 1 [.v (.slice none 0 0)] [(0,(.tmp 21))],none⟩,⟨some 23,.append 1 24 (.tmp 19) (.tmp 22),none⟩,⟨some 24,.fieldAddr 0 (.tmp 3),none⟩,⟨none,.store 1 (.tmp 24) (.tmp 23),none⟩] (fun p G=>by
    simp only[List.mem_cons,List.not_mem_nil,or_false] at G;rcases G with rfl|rfl|rfl|rfl|rfl|rfl|rfl
    all_goals first|exact⟨rfl,.inl rfl⟩|exact⟨rfl,.inr rfl⟩) ?_ fun I' vb vm vc=>?_
  all_goals(simp -dsimp only[go_sem,J,M,O];first|(simp[Vs.LeL,Vs.look,Vs.aB];done)|(and_intros<;>first|omega|(simp[Vs.LeL,Vs.look,Vs.aB];done))|trace_state)
 ·refine yF Y hk H p0 hN (18,.ptr (.t 3 0) 0 0) [⟨some 18,.fieldAddr 0 (.tmp 3),none⟩,⟨some 20,.mv (.tmp 5),none⟩] [⟨some 22,.bslice 1 1 [.v (.slice none 0 0)] [(0,(.tmp 21))],none⟩,⟨some 19,.load false 1 (.tmp 18),none⟩,⟨some 23,.append 1 24 (.tmp 19) (.tmp 22),none⟩,⟨some 24,.fieldAddr 0 (.tmp 3),none⟩,⟨none,.store 1 (.tmp 24) (.tmp 23),none⟩] (fun p G=>by
    simp only[List.mem_cons,List.not_mem_nil,or_false] at G;rcases G with rfl|rfl|rfl|rfl|rfl|rfl|rfl
    all_goals first|exact⟨rfl,.inl rfl⟩|exact⟨rfl,.inr rfl⟩) ?_ fun I' vb vm vc=>?_
  all_goals(simp -dsimp only[go_sem,J,M,O];first|(simp[Vs.LeL,Vs.look,Vs.aB];done)|(and_intros<;>first|omega|(simp[Vs.LeL,Vs.look,Vs.aB];done))|trace_state)
 ·refine yF Y hk H p0 hN (19,.loc (.t 8 0) 0 V.length) [⟨some 20,.mv (.tmp 5),none⟩,⟨some 18,.fieldAddr 0 (.tmp 3),none⟩,⟨some 19,.load false 1 (.tmp 18),none⟩] [⟨some 22,.bslice 1 1 [.v (.slice none 0 0)] [(0,(.tmp 21))],none⟩,⟨some 23,.append 1 24 (.tmp 19) (.tmp 22),none⟩,⟨some 24,.fieldAddr 0 (.tmp 3),none⟩,⟨none,.store 1 (.tmp 24) (.tmp 23),none⟩] (fun p G=>by
    simp only[List.mem_cons,List.not_mem_nil,or_false] at G;rcases G with rfl|rfl|rfl|rfl|rfl|rfl|rfl
    all_goals first|exact⟨rfl,.inl rfl⟩|exact⟨rfl,.inr rfl⟩) ?_ fun I' vb vm vc=>?_
  all_goals(simp -dsimp only[go_sem,J,M,O];first|(simp[Vs.LeL,Vs.look,Vs.aB];done)|(and_intros<;>first|omega|(simp[Vs.LeL,Vs.look,Vs.aB];done))|trace_state)
 ·refine yF Y hk H p0 hN (18,.ptr (.t 3 0) 0 0) [⟨some 20,.mv (.tmp 5),none⟩,⟨some 18,.fieldAddr 0 (.tmp 3),none⟩] [⟨some 19,.load false 1 (.tmp 18),none⟩,⟨some 22,.bslice 1 1 [.v (.slice none 0 0)] [(0,(.tmp 21))],none⟩,⟨some 23,.append 1 24 (.tmp 19) (.tmp 22),none⟩,⟨some 24,.fieldAddr 0 (.tmp 3),none⟩,⟨none,.store 1 (.tmp 24) (.tmp 23),none⟩] (fun p G=>by
    simp only[List.mem_cons,List.not_mem_nil,or_false] at G;rcases G with rfl|rfl|rfl|rfl|rfl|rfl|rfl
    all_goals first|exact⟨rfl,.inl rfl⟩|exact⟨rfl,.inr rfl⟩) ?_ fun I' vb vm vc=>?_
  all_goals(simp -dsimp only[go_sem,J,M,O];first|(simp[Vs.LeL,Vs.look,Vs.aB];done)|(and_intros<;>first|omega|(simp[Vs.LeL,Vs.look,Vs.aB];done))|trace_state)
 ·refine yF Y hk H p0 hN (18,.ptr (.t 3 0) 0 0) [⟨some 20,.mv (.tmp 5),none⟩,⟨some 18,.fieldAddr 0 (.tmp 3),none⟩] [⟨some 22,.bslice 1 1 [.v (.slice none 0 0)] [(0,(.tmp 21))],none⟩,⟨some 19,.load false 1 (.tmp 18),none⟩,⟨some 23,.append 1 24 (.tmp 19) (.tmp 22),none⟩,⟨some 24,.fieldAddr 0 (.tmp 3),none⟩,⟨none,.store 1 (.tmp 24) (.tmp 23),none⟩] (fun p G=>by
    simp only[List.mem_cons,List.not_mem_nil,or_false] at G;rcases G with rfl|rfl|rfl|rfl|rfl|rfl|rfl
    all_goals first|exact⟨rfl,.inl rfl⟩|exact⟨rfl,.inr rfl⟩) ?_ fun I' vb vm vc=>?_
  all_goals(simp -dsimp only[go_sem,J,M,O];first|(simp[Vs.LeL,Vs.look,Vs.aB];done)|(and_intros<;>first|omega|(simp[Vs.LeL,Vs.look,Vs.aB];done))|trace_state)
 ·refine yF Y hk H p0 hN (2,.ptr (.t 2 0) 0 0) [⟨some 20,.mv (.tmp 5),none⟩] [⟨some 18,.fieldAddr 0 (.tmp 3),none⟩,⟨some 19,.load false 1 (.tmp 18),none⟩,⟨some 22,.bslice 1 1 [.v (.slice none 0 0)] [(0,(.tmp 21))],none⟩,⟨some 23,.append 1 24 (.tmp 19) (.tmp 22),none⟩,⟨some 24,.fieldAddr 0 (.tmp 3),none⟩,⟨none,.store 1 (.tmp 24) (.tmp 23),none⟩] (fun p G=>by
    simp only[List.mem_cons,List.not_mem_nil,or_false] at G;rcases G with rfl|rfl|rfl|rfl|rfl|rfl|rfl
    all_goals first|exact⟨rfl,.inl rfl⟩|exact⟨rfl,.inr rfl⟩) ?_ fun I' vb vm vc=>?_
  all_goals(simp -dsimp only[go_sem,J,M,O];first|(simp[Vs.LeL,Vs.look,Vs.aB];done)|(and_intros<;>first|omega|(simp[Vs.LeL,Vs.look,Vs.aB];done))|trace_state)
 ·refine yF Y hk H p0 hN (2,.ptr (.t 2 0) 0 0) [⟨some 20,.mv (.tmp 5),none⟩] [⟨some 18,.fieldAddr 0 (.tmp 3),none⟩,⟨some 22,.bslice 1 1 [.v (.slice none 0 0)] [(0,(.tmp 21))],none⟩,⟨some 19,.load false 1 (.tmp 18),none⟩,⟨some 23,.append 1 24 (.tmp 19) (.tmp 22),none⟩,⟨some 24,.fieldAddr 0 (.tmp 3),none⟩,⟨none,.store 1 (.tmp 24) (.tmp 23),none⟩] (fun p G=>by
    simp only[List.mem_cons,List.not_mem_nil,or_false] at G;rcases G with rfl|rfl|rfl|rfl|rfl|rfl|rfl
    all_goals first|exact⟨rfl,.inl rfl⟩|exact⟨rfl,.inr rfl⟩) ?_ fun I' vb vm vc=>?_
  all_goals(simp -dsimp only[go_sem,J,M,O];first|(simp[Vs.LeL,Vs.look,Vs.aB];done)|(and_intros<;>first|omega|(simp[Vs.LeL,Vs.look,Vs.aB];done))|trace_state)
 ·refine yF Y hk H p0 hN (2,.ptr (.t 2 0) 0 0) [⟨some 20,.mv (.tmp 5),none⟩] [⟨some 22,.bslice 1 1 [.v (.slice none 0 0)] [(0,(.tmp 21))],none⟩,⟨some 18,.fieldAddr 0 (.tmp 3),none⟩,⟨some 19,.load false 1 (.tmp 18),none⟩,⟨some 23,.append 1 24 (.tmp 19) (.tmp 22),none⟩,⟨some 24,.fieldAddr 0 (.tmp 3),none⟩,⟨none,.store 1 (.tmp 24) (.tmp 23),none⟩] (fun p G=>by
    simp only[List.mem_cons,List.not_mem_nil,or_false] at G;rcases G with rfl|rfl|rfl|rfl|rfl|rfl|rfl
    all_goals first|exact⟨rfl,.inl rfl⟩|exact⟨rfl,.inr rfl⟩) ?_ fun I' vb vm vc=>?_
  all_goals(simp -dsimp only[go_sem,J,M,O];first|(simp[Vs.LeL,Vs.look,Vs.aB];done)|(and_intros<;>first|omega|(simp[Vs.LeL,Vs.look,Vs.aB];done))|trace_state)
theorem aBy {l:List Tot}:∀r,r∈E cT l→Vs.jQ r=true:=fun r F=>by
 obtain⟨x,_,rfl⟩:=List.mem_map.1 F;rfl
theorem fU (J:C1.nt=Tryz.f90.ntmps) {Q:Exit→Act→World→Prop}{I:Vs.Envs}{a:Act}{w w0:World}{S:Nat→Prop}{t:List Tot}{V W:List Sl}{U:List (List Tot)}{F G:Value} (he:Vs.Pt I C1 (⟨[(7,.sl 2 (E cT t)),(2,.ptr (.t 2 0) 0 0),(3,.ptr (.t 3 0) 0 0),(27,.sl 1 (E cTs U)),(28,.v F),(29,.v G)],[(.t 3 0,.var [.loc (.t 8 0) 0 V.length,.loc (.t 9 0) 0 W.length] false),(.t 8 0,.arr 1 (E sV V) false),(.t 9 0,.arr 1 (E sV W) false),(.t 2 0,.var [.v (.slice none 0 0),.v (.slice none 0 0)] false)]⟩:St) a w0 S) (p0:Vs.Past S w S w0) (hN:∀(O:Vs.Envs) a' w' S' (s:Sl) (x:Option Nat) (c:Nat),Vs.Past S w S' w'→Vs.Pt O C1 (⟨[(2,.ptr (.t 2 0) 0 0),(3,.ptr (.t 3 0) 0 0),(27,.sl 1 (E cTs U)),(28,.v F),(29,.v G)],[(.t 3 0,.var [.loc (.t 8 0) 0 V.length,.loc (.t 39 0) 0 (W.length+1)] false),(.t 8 0,.arr 1 (E sV V) false),(.t 39 0,.arr 1 (E sV (W++[s])) false),(.t 2 0,.var [.v (.slice none 0 0),.v (.slice none 0 0)] false)]⟩:St) a' w' S'→Vs.Own (fun _=>False) w' x c 2 (E cT t) (slW s)→(∀b,x=some b→S' b∧C1.w0.heap.size≤b∧¬S b)→Q .normal a' w')
  (e:Nat×AV) (pre post:List aJ) (h1:@Vs.vc I Tryz.prog (fun σ'=>LeL σ' (⟨[(37,.loc (.t 37 0) 0 (E cT t).length),e,(2,.ptr (.t 2 0) 0 0),(3,.ptr (.t 3 0) 0 0),(27,.sl 1 (E cTs U)),(28,.v F),(29,.v G)],(.t 37 0,.arr 2 (E cT t) false)::[(.t 3 0,.var [.loc (.t 8 0) 0 V.length,.loc (.t 9 0) 0 W.length] false),(.t 8 0,.arr 1 (E sV V) false),(.t 9 0,.arr 1 (E sV W) false),(.t 2 0,.var [.v (.slice none 0 0),.v (.slice none 0 0)] false)]⟩:St)) pre (⟨[(7,.sl 2 (E cT t)),(2,.ptr (.t 2 0) 0 0),(3,.ptr (.t 3 0) 0 0),(27,.sl 1 (E cTs U)),(28,.v F),(29,.v G)],[(.t 3 0,.var [.loc (.t 8 0) 0 V.length,.loc (.t 9 0) 0 W.length] false),(.t 8 0,.arr 1 (E sV V) false),(.t 9 0,.arr 1 (E sV W) false),(.t 2 0,.var [.v (.slice none 0 0),.v (.slice none 0 0)] false)]⟩:St))
  (hc:∀v p,p∈[(37,.v v),e,(2,.ptr (.t 2 0) 0 0),(3,.ptr (.t 3 0) 0 0),(27,.sl 1 (E cTs U)),(28,.v F),(29,.v G)]→(p.2=Vs.look (Vs.aW (.t 37 0) (⟨[(37,.loc (.t 37 0) 0 (E cT t).length),e,(2,.ptr (.t 2 0) 0 0),(3,.ptr (.t 3 0) 0 0),(27,.sl 1 (E cTs U)),(28,.v F),(29,.v G)],(.t 37 0,.arr 2 (E cT t) false)::[(.t 3 0,.var [.loc (.t 8 0) 0 V.length,.loc (.t 9 0) 0 W.length] false),(.t 8 0,.arr 1 (E sV V) false),(.t 9 0,.arr 1 (E sV W) false),(.t 2 0,.var [.v (.slice none 0 0),.v (.slice none 0 0)] false)]⟩:St)).s p.1∧Vs.flat p.2=true)∨(p.2=Vs.look ((⟨[(37,.loc (.t 37 0) 0 (E cT t).length),e,(2,.ptr (.t 2 0) 0 0),(3,.ptr (.t 3 0) 0 0),(27,.sl 1 (E cTs U)),(28,.v F),(29,.v G)],(.t 37 0,.arr 2 (E cT t) false)::[(.t 3 0,.var [.loc (.t 8 0) 0 V.length,.loc (.t 9 0) 0 W.length] false),(.t 8 0,.arr 1 (E sV V) false),(.t 9 0,.arr 1 (E sV W) false),(.t 2 0,.var [.v (.slice none 0 0),.v (.slice none 0 0)] false)]⟩:St)).s p.1∧Vs.dY p.2=true)∨p=(37,.v v))
  (hd:∀v,LeL (⟨[(37,.v v),e,(2,.ptr (.t 2 0) 0 0),(3,.ptr (.t 3 0) 0 0),(27,.sl 1 (E cTs U)),(28,.v F),(29,.v G)],(Vs.aW (.t 37 0) (⟨[(37,.loc (.t 37 0) 0 (E cT t).length),e,(2,.ptr (.t 2 0) 0 0),(3,.ptr (.t 3 0) 0 0),(27,.sl 1 (E cTs U)),(28,.v F),(29,.v G)],(.t 37 0,.arr 2 (E cT t) false)::[(.t 3 0,.var [.loc (.t 8 0) 0 V.length,.loc (.t 9 0) 0 W.length] false),(.t 8 0,.arr 1 (E sV V) false),(.t 9 0,.arr 1 (E sV W) false),(.t 2 0,.var [.v (.slice none 0 0),.v (.slice none 0 0)] false)]⟩:St)).h⟩:St) (⟨[(37,.v v),e,(2,.ptr (.t 2 0) 0 0),(3,.ptr (.t 3 0) 0 0),(27,.sl 1 (E cTs U)),(28,.v F),(29,.v G)],[(.t 3 0,.var [.loc (.t 8 0) 0 V.length,.loc (.t 9 0) 0 W.length] false),(.t 8 0,.arr 1 (E sV V) false),(.t 9 0,.arr 1 (E sV W) false),(.t 2 0,.var [.v (.slice none 0 0),.v (.slice none 0 0)] false)]⟩:St))
  (h2:∀(O:Vs.Envs) vb vm vc,@Vs.vc O Tryz.prog (fun σ'=>LeL σ' (⟨[(2,.ptr (.t 2 0) 0 0),(3,.ptr (.t 3 0) 0 0),(27,.sl 1 (E cTs U)),(28,.v F),(29,.v G)],[(.t 3 0,.var [.loc (.t 8 0) 0 V.length,.loc (.t 39 0) 0 (W.length+1)] false),(.t 8 0,.arr 1 (E sV V) false),(.t 39 0,.arr 1 (E sV (W++[(vb,vm,vc)])) false),(.t 2 0,.var [.v (.slice none 0 0),.v (.slice none 0 0)] false)]⟩:St)) post (⟨[(37,.v (.slice vb vm vc)),e,(2,.ptr (.t 2 0) 0 0),(3,.ptr (.t 3 0) 0 0),(27,.sl 1 (E cTs U)),(28,.v F),(29,.v G)],[(.t 3 0,.var [.loc (.t 8 0) 0 V.length,.loc (.t 9 0) 0 W.length] false),(.t 8 0,.arr 1 (E sV V) false),(.t 9 0,.arr 1 (E sV W) false),(.t 2 0,.var [.v (.slice none 0 0),.v (.slice none 0 0)] false)]⟩:St)):RgL Tryz.prog Tryz.f90.ntmps (pre++post) Q a w0:=by
 refine he.rg J (pre:=pre) (post:=post) (τ:=(⟨[(37,.loc (.t 37 0) 0 (E cT t).length),e,(2,.ptr (.t 2 0) 0 0),(3,.ptr (.t 3 0) 0 0),(27,.sl 1 (E cTs U)),(28,.v F),(29,.v G)],(.t 37 0,.arr 2 (E cT t) false)::[(.t 3 0,.var [.loc (.t 8 0) 0 V.length,.loc (.t 9 0) 0 W.length] false),(.t 8 0,.arr 1 (E sV V) false),(.t 9 0,.arr 1 (E sV W) false),(.t 2 0,.var [.v (.slice none 0 0),.v (.slice none 0 0)] false)]⟩:St)) (fvC ⟨aBy,rfl⟩ (fvC ⟨rfl,rfl⟩ (fvC ⟨bQ,rfl⟩ (fvC ⟨bQ,rfl⟩ (fvC ⟨rfl,rfl⟩ fvN))))) h1 fun a2 w2 Y p2 hf=>?_
 obtain ⟨s,x6,c6,⟨sb,sm,sc,rfl⟩,L,M,ha⟩:=hf.buryS (n:=.t 37 0) (k:=2) (rows:=E cT t) rfl aBy (t:=37) rfl (by
   simp only[Vs.aW];intro p hp;simp[Vs.fM,Vs.scr,Vs.AV.has] at hp;rcases hp with rfl|rfl|rfl|rfl
   · exact⟨rfl,rfl⟩
   · exact⟨fun r hr=>bQ r hr,rfl⟩
   · exact⟨fun r hr=>bQ r hr,rfl⟩
   · exact⟨rfl,rfl⟩)
 have hj:=(ha _ (hc _)).le (hd _) (fvC ⟨rfl,rfl⟩ (fvC ⟨bQ,rfl⟩ (fvC ⟨bQ,rfl⟩ (fvC ⟨rfl,rfl⟩ fvN))))
 letI I6:=Vs.keepE (fun b=>Y b∨x6=some b) w2
 have pk:Vs.Past Y w2 (fun b=>Y b∨x6=some b) w2:=⟨fun _ h=>.inl h,fun _ _=>rfl,Nat.le_refl _⟩;have g:=hj.rg J (Q:=Q) (pre:=post) (post:=[]) (τ:=⟨[(2,.ptr (.t 2 0) 0 0),(3,.ptr (.t 3 0) 0 0),(27,.sl 1 (E cTs U)),(28,.v F),(29,.v G)],[(.t 3 0,.var [.loc (.t 8 0) 0 V.length,.loc (.t 39 0) 0 (W.length+1)] false),(.t 8 0,.arr 1 (E sV V) false),(.t 39 0,.arr 1 (E sV (W++[(sb,sm,sc)])) false),(.t 2 0,.var [.v (.slice none 0 0),.v (.slice none 0 0)] false)]⟩) (fvC ⟨rfl,rfl⟩ (fvC ⟨bQ,rfl⟩ (fvC ⟨bQ,rfl⟩ (fvC ⟨rfl,rfl⟩ fvN)))) (h2 _ sb sm sc) fun a4 w4 S4 p4 hg=>RgL.nil (hN I6 a4 w4 S4 (sb,sm,sc) x6 c6 (((p0.trans p2).trans pk).trans p4) hg (L.mono (fun _ _ h=>h) fun b H=>p4.old b (.inr H)) fun b H=>⟨p4.sub b (.inr H),(M b H).1,fun h=>(M b H).2.2 ((p0.trans p2).sub b h)⟩)
 rwa [List.append_nil] at g
attribute [local go_sem] Int.reduceBEq Int.reduceBNe cC cFd List.replicate_succ List.replicate_zero List.flatten_cons List.flatten_nil List.cons_append List.nil_append List.set_cons_zero List.set_cons_succ List.length_cons List.length_nil List.length_set aI in
theorem noR2 (Y:C1.nt=Tryz.f90.ntmps) {Q:Exit→Act→World→Prop}{I:Vs.Envs}{a:Act}{w:World}{S:Nat→Prop}{t:List Tot} (ht:t.length≤1048576) {V W:List Sl} (hW:W.length≤1048576) {U:List (List Tot)}{hb hc:Value}
  (F:Vs.Pt I C1 (⟨[(7,.sl 2 (E cT t)),(2,.ptr (.t 2 0) 0 0),(3,.ptr (.t 3 0) 0 0),(27,.sl 1 (E cTs U)),(28,.v hb),(29,.v hc)],[(.t 3 0,.var [.loc (.t 8 0) 0 V.length,.loc (.t 9 0) 0 W.length] false),(.t 8 0,.arr 1 (E sV V) false),(.t 9 0,.arr 1 (E sV W) false),(.t 2 0,.var [.v (.slice none 0 0),.v (.slice none 0 0)] false)]⟩:St) a w S)
  (hN:∀(I':Vs.Envs) a' w' S' (s:Sl) (x:Option Nat) (c:Nat),Vs.Past S w S' w'→Vs.Pt I' C1 (⟨[(2,.ptr (.t 2 0) 0 0),(3,.ptr (.t 3 0) 0 0),(27,.sl 1 (E cTs U)),(28,.v hb),(29,.v hc)],[(.t 3 0,.var [.loc (.t 8 0) 0 V.length,.loc (.t 39 0) 0 (W.length+1)] false),(.t 8 0,.arr 1 (E sV V) false),(.t 39 0,.arr 1 (E sV (W++[s])) false),(.t 2 0,.var [.v (.slice none 0 0),.v (.slice none 0 0)] false)]⟩:St) a' w' S'→Vs.Own (fun _=>False) w' x c 2 (E cT t) (slW s)→(∀b,x=some b→S' b∧C1.w0.heap.size≤b∧¬S b)→Q .normal a' w') :
  Vs.At Tryz.prog Tryz.f90.ntmps (Vs.aAL Tryz.prog 8 aFj 9 aFi) (.region [⟨some 33,.fieldV 1 (.tmp 3),none⟩,⟨some 34,.loadV false 1 (.tmp 33),none⟩,⟨some 35,.bslice 2 0 [.v (.string ⟨#[]⟩),.v (.int .i64 (0))] [],none⟩,⟨some 36,.mv (.tmp 7),none⟩,⟨some 37,.append 2 24 (.tmp 35) (.tmp 36),none⟩,⟨some 38,.bslice 1 1 [.v (.slice none 0 0)] [(0,(.tmp 37))],none⟩,⟨some 39,.append 1 24 (.tmp 34) (.tmp 38),none⟩,⟨some 40,.fieldAddr 1 (.tmp 3),none⟩,⟨none,.store 1 (.tmp 40) (.tmp 39),none⟩] [2,3,27,28,29] [33,35,34,36,37,1000033,1000034,38,39]) Q a w:=by
 have M:(E sV V).length=V.length:=aI _;have O:(E sV W).length=W.length:=aI _;have G:(E cT t).length=t.length:=aI _;have ha:(E cT t).take t.length=E cT t:=List.take_of_length_le (by rw[G];exact Nat.le_refl _);refine At.rgsD Tryz.mixed rfl (by decide +kernel) (fun ops fl hd hn=>Vs.aLN ops fl hd hn) fun L hL=>?_;have H:=F.drew;have p0:Vs.Past S w S {w with drawn:=w.drawn+1}:=Vs.Past.drew;generalize({w with drawn:=w.drawn+1}:World)=w0 at H p0;have J:=fun vb vm vc=>aFu W (vb,vm,vc);simp only[aFi,List.mem_cons,List.not_mem_nil,or_false] at hL;rcases hL with rfl|rfl|rfl|rfl|rfl|rfl|rfl|rfl|rfl|rfl|rfl|rfl|rfl|rfl|rfl|rfl|rfl|rfl|rfl|rfl|rfl|rfl|rfl|rfl|rfl|rfl|rfl|rfl|rfl|rfl
 ·refine fU Y H p0 hN (34,.loc (.t 9 0) 0 W.length) [⟨some 33,.fieldV 1 (.tmp 3),none⟩,⟨some 34,.loadV false 1 (.tmp 33),none⟩,⟨some 35,.bslice 2 0 [.v (.string ⟨#[]⟩),.v (.int .i64 (0))] [],none⟩,⟨some 36,.mv (.tmp 7),none⟩,⟨some 37,.append 2 24 (.tmp 35) (.tmp 36),none⟩] [⟨some 38,.bslice 1 1 [.v (.slice none 0 0)] [(0,(.tmp 37))],none⟩,⟨some 39,.append 1 24 (.tmp 34) (.tmp 38),none⟩,⟨some 40,.fieldAddr 1 (.tmp 3),none⟩,⟨none,.store 1 (.tmp 40) (.tmp 39),none⟩] ?_ (fun v p F=>by
    simp only[List.mem_cons,List.not_mem_nil,or_false] at F;rcases F with rfl|rfl|rfl|rfl|rfl|rfl|rfl
    · exact .inr (.inr rfl)
    all_goals first|exact .inl ⟨rfl,rfl⟩|exact .inr (.inl ⟨rfl,rfl⟩)) (fun v=>by simp[Vs.LeL,Vs.look,Vs.aB,Vs.aW,Vs.fM,Vs.scr,Vs.AV.has]) fun I' vb vm vc=>?_
  all_goals(simp -dsimp only[go_sem,J,M,O,G,ha];first|(simp[Vs.LeL,Vs.look,Vs.aB];done)|(and_intros<;>first|omega|(simp[Vs.LeL,Vs.look,Vs.aB];done))|trace_state)
 ·refine fU Y H p0 hN (34,.loc (.t 9 0) 0 W.length) [⟨some 33,.fieldV 1 (.tmp 3),none⟩,⟨some 34,.loadV false 1 (.tmp 33),none⟩,⟨some 36,.mv (.tmp 7),none⟩,⟨some 35,.bslice 2 0 [.v (.string ⟨#[]⟩),.v (.int .i64 (0))] [],none⟩,⟨some 37,.append 2 24 (.tmp 35) (.tmp 36),none⟩] [⟨some 38,.bslice 1 1 [.v (.slice none 0 0)] [(0,(.tmp 37))],none⟩,⟨some 39,.append 1 24 (.tmp 34) (.tmp 38),none⟩,⟨some 40,.fieldAddr 1 (.tmp 3),none⟩,⟨none,.store 1 (.tmp 40) (.tmp 39),none⟩] ?_ (fun v p F=>by
    simp only[List.mem_cons,List.not_mem_nil,or_false] at F;rcases F with rfl|rfl|rfl|rfl|rfl|rfl|rfl
    · exact .inr (.inr rfl)
    all_goals first|exact .inl ⟨rfl,rfl⟩|exact .inr (.inl ⟨rfl,rfl⟩)) (fun v=>by simp[Vs.LeL,Vs.look,Vs.aB,Vs.aW,Vs.fM,Vs.scr,Vs.AV.has]) fun I' vb vm vc=>?_
  all_goals(simp -dsimp only[go_sem,J,M,O,G,ha];first|(simp[Vs.LeL,Vs.look,Vs.aB];done)|(and_intros<;>first|omega|(simp[Vs.LeL,Vs.look,Vs.aB];done))|trace_state)
 ·refine fU Y H p0 hN (34,.loc (.t 9 0) 0 W.length) [⟨some 33,.fieldV 1 (.tmp 3),none⟩,⟨some 35,.bslice 2 0 [.v (.string ⟨#[]⟩),.v (.int .i64 (0))] [],none⟩,⟨some 34,.loadV false 1 (.tmp 33),none⟩,⟨some 36,.mv (.tmp 7),none⟩,⟨some 37,.append 2 24 (.tmp 35) (.tmp 36),none⟩] [⟨some 38,.bslice 1 1 [.v (.slice none 0 0)] [(0,(.tmp 37))],none⟩,⟨some 39,.append 1 24 (.tmp 34) (.tmp 38),none⟩,⟨some 40,.fieldAddr 1 (.tmp 3),none⟩,⟨none,.store 1 (.tmp 40) (.tmp 39),none⟩] ?_ (fun v p F=>by
    simp only[List.mem_cons,List.not_mem_nil,or_false] at F;rcases F with rfl|rfl|rfl|rfl|rfl|rfl|rfl
    · exact .inr (.inr rfl)
    all_goals first|exact .inl ⟨rfl,rfl⟩|exact .inr (.inl ⟨rfl,rfl⟩)) (fun v=>by simp[Vs.LeL,Vs.look,Vs.aB,Vs.aW,Vs.fM,Vs.scr,Vs.AV.has]) fun I' vb vm vc=>?_
  all_goals(simp -dsimp only[go_sem,J,M,O,G,ha];first|(simp[Vs.LeL,Vs.look,Vs.aB];done)|(and_intros<;>first|omega|(simp[Vs.LeL,Vs.look,Vs.aB];done))|trace_state)
 ·refine fU Y H p0 hN (34,.loc (.t 9 0) 0 W.length) [⟨some 33,.fieldV 1 (.tmp 3),none⟩,⟨some 35,.bslice 2 0 [.v (.string ⟨#[]⟩),.v (.int .i64 (0))] [],none⟩,⟨some 36,.mv (.tmp 7),none⟩,⟨some 34,.loadV false 1 (.tmp 33),none⟩,⟨some 37,.append 2 24 (.tmp 35) (.tmp 36),none⟩] [⟨some 38,.bslice 1 1 [.v (.slice none 0 0)] [(0,(.tmp 37))],none⟩,⟨some 39,.append 1 24 (.tmp 34) (.tmp 38),none⟩,⟨some 40,.fieldAddr 1 (.tmp 3),none⟩,⟨none,.store 1 (.tmp 40) (.tmp 39),none⟩] ?_ (fun v p F=>by
    simp only[List.mem_cons,List.not_mem_nil,or_false] at F;rcases F with rfl|rfl|rfl|rfl|rfl|rfl|rfl
    · exact .inr (.inr rfl)
    all_goals first|exact .inl ⟨rfl,rfl⟩|exact .inr (.inl ⟨rfl,rfl⟩)) (fun v=>by simp[Vs.LeL,Vs.look,Vs.aB,Vs.aW,Vs.fM,Vs.scr,Vs.AV.has]) fun I' vb vm vc=>?_
  all_goals(simp -dsimp only[go_sem,J,M,O,G,ha];first|(simp[Vs.LeL,Vs.look,Vs.aB];done)|(and_intros<;>first|omega|(simp[Vs.LeL,Vs.look,Vs.aB];done))|trace_state)
 ·refine fU Y H p0 hN (33,.ptr (.t 3 0) 0 1) [⟨some 33,.fieldV 1 (.tmp 3),none⟩,⟨some 35,.bslice 2 0 [.v (.string ⟨#[]⟩),.v (.int .i64 (0))] [],none⟩,⟨some 36,.mv (.tmp 7),none⟩,⟨some 37,.append 2 24 (.tmp 35) (.tmp 36),none⟩] [⟨some 34,.loadV false 1 (.tmp 33),none⟩,⟨some 38,.bslice 1 1 [.v (.slice none 0 0)] [(0,(.tmp 37))],none⟩,⟨some 39,.append 1 24 (.tmp 34) (.tmp 38),none⟩,⟨some 40,.fieldAddr 1 (.tmp 3),none⟩,⟨none,.store 1 (.tmp 40) (.tmp 39),none⟩] ?_ (fun v p F=>by
    simp only[List.mem_cons,List.not_mem_nil,or_false] at F;rcases F with rfl|rfl|rfl|rfl|rfl|rfl|rfl
    · exact .inr (.inr rfl)
    all_goals first|exact .inl ⟨rfl,rfl⟩|exact .inr (.inl ⟨rfl,rfl⟩)) (fun v=>by simp[Vs.LeL,Vs.look,Vs.aB,Vs.aW,Vs.fM,Vs.scr,Vs.AV.has]) fun I' vb vm vc=>?_
  all_goals(simp -dsimp only[go_sem,J,M,O,G,ha];first|(simp[Vs.LeL,Vs.look,Vs.aB];done)|(and_intros<;>first|omega|(simp[Vs.LeL,Vs.look,Vs.aB];done))|trace_state)
 ·refine fU Y H p0 hN (33,.ptr (.t 3 0) 0 1) [⟨some 33,.fieldV 1 (.tmp 3),none⟩,⟨some 35,.bslice 2 0 [.v (.string ⟨#[]⟩),.v (.int .i64 (0))] [],none⟩,⟨some 36,.mv (.tmp 7),none⟩,⟨some 37,.append 2 24 (.tmp 35) (.tmp 36),none⟩] [⟨some 38,.bslice 1 1 [.v (.slice none 0 0)] [(0,(.tmp 37))],none⟩,⟨some 34,.loadV false 1 (.tmp 33),none⟩,⟨some 39,.append 1 24 (.tmp 34) (.tmp 38),none⟩,⟨some 40,.fieldAddr 1 (.tmp 3),none⟩,⟨none,.store 1 (.tmp 40) (.tmp 39),none⟩] ?_ (fun v p F=>by
    simp only[List.mem_cons,List.not_mem_nil,or_false] at F;rcases F with rfl|rfl|rfl|rfl|rfl|rfl|rfl
    · exact .inr (.inr rfl)
    all_goals first|exact .inl ⟨rfl,rfl⟩|exact .inr (.inl ⟨rfl,rfl⟩)) (fun v=>by simp[Vs.LeL,Vs.look,Vs.aB,Vs.aW,Vs.fM,Vs.scr,Vs.AV.has]) fun I' vb vm vc=>?_
  all_goals(simp -dsimp only[go_sem,J,M,O,G,ha];first|(simp[Vs.LeL,Vs.look,Vs.aB];done)|(and_intros<;>first|omega|(simp[Vs.LeL,Vs.look,Vs.aB];done))|trace_state)
 ·refine fU Y H p0 hN (34,.loc (.t 9 0) 0 W.length) [⟨some 33,.fieldV 1 (.tmp 3),none⟩,⟨some 36,.mv (.tmp 7),none⟩,⟨some 34,.loadV false 1 (.tmp 33),none⟩,⟨some 35,.bslice 2 0 [.v (.string ⟨#[]⟩),.v (.int .i64 (0))] [],none⟩,⟨some 37,.append 2 24 (.tmp 35) (.tmp 36),none⟩] [⟨some 38,.bslice 1 1 [.v (.slice none 0 0)] [(0,(.tmp 37))],none⟩,⟨some 39,.append 1 24 (.tmp 34) (.tmp 38),none⟩,⟨some 40,.fieldAddr 1 (.tmp 3),none⟩,⟨none,.store 1 (.tmp 40) (.tmp 39),none⟩] ?_ (fun v p F=>by
    simp only[List.mem_cons,List.not_mem_nil,or_false] at F;rcases F with rfl|rfl|rfl|rfl|rfl|rfl|rfl
    · exact .inr (.inr rfl)
    all_goals first|exact .inl ⟨rfl,rfl⟩|exact .inr (.inl ⟨rfl,rfl⟩)) (fun v=>by simp[Vs.LeL,Vs.look,Vs.aB,Vs.aW,Vs.fM,Vs.scr,Vs.AV.has]) fun I' vb vm vc=>?_
  all_goals(simp -dsimp only[go_sem,J,M,O,G,ha];first|(simp[Vs.LeL,Vs.look,Vs.aB];done)|(and_intros<;>first|omega|(simp[Vs.LeL,Vs.look,Vs.aB];done))|trace_state)
 ·refine fU Y H p0 hN (34,.loc (.t 9 0) 0 W.length) [⟨some 33,.fieldV 1 (.tmp 3),none⟩,⟨some 36,.mv (.tmp 7),none⟩,⟨some 35,.bslice 2 0 [.v (.string ⟨#[]⟩),.v (.int .i64 (0))] [],none⟩,⟨some 34,.loadV false 1 (.tmp 33),none⟩,⟨some 37,.append 2 24 (.tmp 35) (.tmp 36),none⟩] [⟨some 38,.bslice 1 1 [.v (.slice none 0 0)] [(0,(.tmp 37))],none⟩,⟨some 39,.append 1 24 (.tmp 34) (.tmp 38),none⟩,⟨some 40,.fieldAddr 1 (.tmp 3),none⟩,⟨none,.store 1 (.tmp 40) (.tmp 39),none⟩] ?_ (fun v p F=>by
    simp only[List.mem_cons,List.not_mem_nil,or_false] at F;rcases F with rfl|rfl|rfl|rfl|rfl|rfl|rfl
    · exact .inr (.inr rfl)
    all_goals first|exact .inl ⟨rfl,rfl⟩|exact .inr (.inl ⟨rfl,rfl⟩)) (fun v=>by simp[Vs.LeL,Vs.look,Vs.aB,Vs.aW,Vs.fM,Vs.scr,Vs.AV.has]) fun I' vb vm vc=>?_
  all_goals(simp -dsimp only[go_sem,J,M,O,G,ha];first|(simp[Vs.LeL,Vs.look,Vs.aB];done)|(and_intros<;>first|omega|(simp[Vs.LeL,Vs.look,Vs.aB];done))|trace_state)
 ·refine fU Y H p0 hN (33,.ptr (.t 3 0) 0 1) [⟨some 33,.fieldV 1 (.tmp 3),none⟩,⟨some 36,.mv (.tmp 7),none⟩,⟨some 35,.bslice 2 0 [.v (.string ⟨#[]⟩),.v (.int .i64 (0))] [],none⟩,⟨some 37,.append 2 24 (.tmp 35) (.tmp 36),none⟩] [⟨some 34,.loadV false 1 (.tmp 33),none⟩,⟨some 38,.bslice 1 1 [.v (.slice none 0 0)] [(0,(.tmp 37))],none⟩,⟨some 39,.append 1 24 (.tmp 34) (.tmp 38),none⟩,⟨some 40,.fieldAddr 1 (.tmp 3),none⟩,⟨none,.store 1 (.tmp 40) (.tmp 39),none⟩] ?_ (fun v p F=>by
    simp only[List.mem_cons,List.not_mem_nil,or_false] at F;rcases F with rfl|rfl|rfl|rfl|rfl|rfl|rfl
    · exact .inr (.inr rfl)
    all_goals first|exact .inl ⟨rfl,rfl⟩|exact .inr (.inl ⟨rfl,rfl⟩)) (fun v=>by simp[Vs.LeL,Vs.look,Vs.aB,Vs.aW,Vs.fM,Vs.scr,Vs.AV.has]) fun I' vb vm vc=>?_
  all_goals(simp -dsimp only[go_sem,J,M,O,G,ha];first|(simp[Vs.LeL,Vs.look,Vs.aB];done)|(and_intros<;>first|omega|(simp[Vs.LeL,Vs.look,Vs.aB];done))|trace_state)
 ·refine fU Y H p0 hN (33,.ptr (.t 3 0) 0 1) [⟨some 33,.fieldV 1 (.tmp 3),none⟩,⟨some 36,.mv (.tmp 7),none⟩,⟨some 35,.bslice 2 0 [.v (.string ⟨#[]⟩),.v (.int .i64 (0))] [],none⟩,⟨some 37,.append 2 24 (.tmp 35) (.tmp 36),none⟩] [⟨some 38,.bslice 1 1 [.v (.slice none 0 0)] [(0,(.tmp 37))],none⟩,⟨some 34,.loadV false 1 (.tmp 33),none⟩,⟨some 39,.append 1 24 (.tmp 34) (.tmp 38),none⟩,⟨some 40,.fieldAddr 1 (.tmp 3),none⟩,⟨none,.store 1 (.tmp 40) (.tmp 39),none⟩] ?_ (fun v p F=>by
    simp only[List.mem_cons,List.not_mem_nil,or_false] at F;rcases F with rfl|rfl|rfl|rfl|rfl|rfl|rfl
    · exact .inr (.inr rfl)
    all_goals first|exact .inl ⟨rfl,rfl⟩|exact .inr (.inl ⟨rfl,rfl⟩)) (fun v=>by simp[Vs.LeL,Vs.look,Vs.aB,Vs.aW,Vs.fM,Vs.scr,Vs.AV.has]) fun I' vb vm vc=>?_
  all_goals(simp -dsimp only[go_sem,J,M,O,G,ha];first|(simp[Vs.LeL,Vs.look,Vs.aB];done)|(and_intros<;>first|omega|(simp[Vs.LeL,Vs.look,Vs.aB];done))|trace_state)
 ·refine fU Y H p0 hN (34,.loc (.t 9 0) 0 W.length) [⟨some 35,.bslice 2 0 [.v (.string ⟨#[]⟩),.v (.int .i64 (0))] [],none⟩,⟨some 33,.fieldV 1 (.tmp 3),none⟩,⟨some 34,.loadV false 1 (.tmp 33),none⟩,⟨some 36,.mv (.tmp 7),none⟩,⟨some 37,.append 2 24 (.tmp 35) (.tmp 36),none⟩] [⟨some 38,.bslice 1 1 [.v (.slice none 0 0)] [(0,(.tmp 37))],none⟩,⟨some 39,.append 1 24 (.tmp 34) (.tmp 38),none⟩,⟨some 40,.fieldAddr 1 (.tmp 3),none⟩,⟨none,.store 1 (.tmp 40) (.tmp 39),none⟩] ?_ (fun v p F=>by
    simp only[List.mem_cons,List.not_mem_nil,or_false] at F;rcases F with rfl|rfl|rfl|rfl|rfl|rfl|rfl
    · exact .inr (.inr rfl)
    all_goals first|exact .inl ⟨rfl,rfl⟩|exact .inr (.inl ⟨rfl,rfl⟩)) (fun v=>by simp[Vs.LeL,Vs.look,Vs.aB,Vs.aW,Vs.fM,Vs.scr,Vs.AV.has]) fun I' vb vm vc=>?_
  all_goals(simp -dsimp only[go_sem,J,M,O,G,ha];first|(simp[Vs.LeL,Vs.look,Vs.aB];done)|(and_intros<;>first|omega|(simp[Vs.LeL,Vs.look,Vs.aB];done))|trace_state)
 ·refine fU Y H p0 hN (34,.loc (.t 9 0) 0 W.length) [⟨some 35,.bslice 2 0 [.v (.string ⟨#[]⟩),.v (.int .i64 (0))] [],none⟩,⟨some 33,.fieldV 1 (.tmp 3),none⟩,⟨some 36,.mv (.tmp 7),none⟩,⟨some 34,.loadV false 1 (.tmp 33),none⟩,⟨some 37,.append 2 24 (.tmp 35) (.tmp 36),none⟩] [⟨some 38,.bslice 1 1 [.v (.slice none 0 0)] [(0,(.tmp 37))],none⟩,⟨some 39,.append 1 24 (.tmp 34) (.tmp 38),none⟩,⟨some 40,.fieldAddr 1 (.tmp 3),none⟩,⟨none,.store 1 (.tmp 40) (.tmp 39),none⟩] ?_ (fun v p F=>by
    simp only[List.mem_cons,List.not_mem_nil,or_false] at F;rcases F with rfl|rfl|rfl|rfl|rfl|rfl|rfl
    · exact .inr (.inr rfl)
    all_goals first|exact .inl ⟨rfl,rfl⟩|exact .inr (.inl ⟨rfl,rfl⟩)) (fun v=>by simp[Vs.LeL,Vs.look,Vs.aB,Vs.aW,Vs.fM,Vs.scr,Vs.AV.has]) fun I' vb vm vc=>?_
  all_goals(simp -dsimp only[go_sem,J,M,O,G,ha];first|(simp[Vs.LeL,Vs.look,Vs.aB];done)|(and_intros<;>first|omega|(simp[Vs.LeL,Vs.look,Vs.aB];done))|trace_state)
 ·refine fU Y H p0 hN (33,.ptr (.t 3 0) 0 1) [⟨some 35,.bslice 2 0 [.v (.string ⟨#[]⟩),.v (.int .i64 (0))] [],none⟩,⟨some 33,.fieldV 1 (.tmp 3),none⟩,⟨some 36,.mv (.tmp 7),none⟩,⟨some 37,.append 2 24 (.tmp 35) (.tmp 36),none⟩] [⟨some 34,.loadV false 1 (.tmp 33),none⟩,⟨some 38,.bslice 1 1 [.v (.slice none 0 0)] [(0,(.tmp 37))],none⟩,⟨some 39,.append 1 24 (.tmp 34) (.tmp 38),none⟩,⟨some 40,.fieldAddr 1 (.tmp 3),none⟩,⟨none,.store 1 (.tmp 40) (.tmp 39),none⟩] ?_ (fun v p F=>by
    simp only[List.mem_cons,List.not_mem_nil,or_false] at F;rcases F with rfl|rfl|rfl|rfl|rfl|rfl|rfl
    · exact .inr (.inr rfl)
    all_goals first|exact .inl ⟨rfl,rfl⟩|exact .inr (.inl ⟨rfl,rfl⟩)) (fun v=>by simp[Vs.LeL,Vs.look,Vs.aB,Vs.aW,Vs.fM,Vs.scr,Vs.AV.has]) fun I' vb vm vc=>?_
  all_goals(simp -dsimp only[go_sem,J,M,O,G,ha];first|(simp[Vs.LeL,Vs.look,Vs.aB];done)|(and_intros<;>first|omega|(simp[Vs.LeL,Vs.look,Vs.aB];done))|trace_state)
 ·refine fU Y H p0 hN (33,.ptr (.t 3 0) 0 1) [⟨some 35,.bslice 2 0 [.v (.string ⟨#[]⟩),.v (.int .i64 (0))] [],none⟩,⟨some 33,.fieldV 1 (.tmp 3),none⟩,⟨some 36,.mv (.tmp 7),none⟩,⟨some 37,.append 2 24 (.tmp 35) (.tmp 36),none⟩] [⟨some 38,.bslice 1 1 [.v (.slice none 0 0)] [(0,(.tmp 37))],none⟩,⟨some 34,.loadV false 1 (.tmp 33),none⟩,⟨some 39,.append 1 24 (.tmp 34) (.tmp 38),none⟩,⟨some 40,.fieldAddr 1 (.tmp 3),none⟩,⟨none,.store 1 (.tmp 40) (.tmp 39),none⟩] ?_ (fun v p F=>by
    simp only[List.mem_cons,List.not_mem_nil,or_false] at F;rcases F with rfl|rfl|rfl|rfl|rfl|rfl|rfl
    · exact .inr (.inr rfl)
    all_goals first|exact .inl ⟨rfl,rfl⟩|exact .inr (.inl ⟨rfl,rfl⟩)) (fun v=>by simp[Vs.LeL,Vs.look,Vs.aB,Vs.aW,Vs.fM,Vs.scr,Vs.AV.has]) fun I' vb vm vc=>?_
  all_goals(simp -dsimp only[go_sem,J,M,O,G,ha];first|(simp[Vs.LeL,Vs.look,Vs.aB];done)|(and_intros<;>first|omega|(simp[Vs.LeL,Vs.look,Vs.aB];done))|trace_state)
 ·refine fU Y H p0 hN (34,.loc (.t 9 0) 0 W.length) [⟨some 35,.bslice 2 0 [.v (.string ⟨#[]⟩),.v (.int .i64 (0))] [],none⟩,⟨some 36,.mv (.tmp 7),none⟩,⟨some 33,.fieldV 1 (.tmp 3),none⟩,⟨some 34,.loadV false 1 (.tmp 33),none⟩,⟨some 37,.append 2 24 (.tmp 35) (.tmp 36),none⟩] [⟨some 38,.bslice 1 1 [.v (.slice none 0 0)] [(0,(.tmp 37))],none⟩,⟨some 39,.append 1 24 (.tmp 34) (.tmp 38),none⟩,⟨some 40,.fieldAddr 1 (.tmp 3),none⟩,⟨none,.store 1 (.tmp 40) (.tmp 39),none⟩] ?_ (fun v p F=>by
    simp only[List.mem_cons,List.not_mem_nil,or_false] at F;rcases F with rfl|rfl|rfl|rfl|rfl|rfl|rfl
    · exact .inr (.inr rfl)
    all_goals first|exact .inl ⟨rfl,rfl⟩|exact .inr (.inl ⟨rfl,rfl⟩)) (fun v=>by simp[Vs.LeL,Vs.look,Vs.aB,Vs.aW,Vs.fM,Vs.scr,Vs.AV.has]) fun I' vb vm vc=>?_
  all_goals(simp -dsimp only[go_sem,J,M,O,G,ha];first|(simp[Vs.LeL,Vs.look,Vs.aB];done)|(and_intros<;>first|omega|(simp[Vs.LeL,Vs.look,Vs.aB];done))|trace_state)
 ·refine fU Y H p0 hN (33,.ptr (.t 3 0) 0 1) [⟨some 35,.bslice 2 0 [.v (.string ⟨#[]⟩),.v (.int .i64 (0))] [],none⟩,⟨some 36,.mv (.tmp 7),none⟩,⟨some 33,.fieldV 1 (.tmp 3),none⟩,⟨some 37,.append 2 24 (.tmp 35) (.tmp 36),none⟩] [⟨some 34,.loadV false 1 (.tmp 33),none⟩,⟨some 38,.bslice 1 1 [.v (.slice none 0 0)] [(0,(.tmp 37))],none⟩,⟨some 39,.append 1 24 (.tmp 34) (.tmp 38),none⟩,⟨some 40,.fieldAddr 1 (.tmp 3),none⟩,⟨none,.store 1 (.tmp 40) (.tmp 39),none⟩] ?_ (fun v p F=>by
    simp only[List.mem_cons,List.not_mem_nil,or_false] at F;rcases F with rfl|rfl|rfl|rfl|rfl|rfl|rfl
    · exact .inr (.inr rfl)
    all_goals first|exact .inl ⟨rfl,rfl⟩|exact .inr (.inl ⟨rfl,rfl⟩)) (fun v=>by simp[Vs.LeL,Vs.look,Vs.aB,Vs.aW,Vs.fM,Vs.scr,Vs.AV.has]) fun I' vb vm vc=>?_
  all_goals(simp -dsimp only[go_sem,J,M,O,G,ha];first|(simp[Vs.LeL,Vs.look,Vs.aB];done)|(and_intros<;>first|omega|(simp[Vs.LeL,Vs.look,Vs.aB];done))|trace_state)
 ·refine fU Y H p0 hN (33,.ptr (.t 3 0) 0 1) [⟨some 35,.bslice 2 0 [.v (.string ⟨#[]⟩),.v (.int .i64 (0))] [],none⟩,⟨some 36,.mv (.tmp 7),none⟩,⟨some 33,.fieldV 1 (.tmp 3),none⟩,⟨some 37,.append 2 24 (.tmp 35) (.tmp 36),none⟩] [⟨some 38,.bslice 1 1 [.v (.slice none 0 0)] [(0,(.tmp 37))],none⟩,⟨some 34,.loadV false 1 (.tmp 33),none⟩,⟨some 39,.append 1 24 (.tmp 34) (.tmp 38),none⟩,⟨some 40,.fieldAddr 1 (.tmp 3),none⟩,⟨none,.store 1 (.tmp 40) (.tmp 39),none⟩] ?_ (fun v p F=>by
    simp only[List.mem_cons,List.not_mem_nil,or_false] at F;rcases F with rfl|rfl|rfl|rfl|rfl|rfl|rfl
    · exact .inr (.inr rfl)
    all_goals first|exact .inl ⟨rfl,rfl⟩|exact .inr (.inl ⟨rfl,rfl⟩)) (fun v=>by simp[Vs.LeL,Vs.look,Vs.aB,Vs.aW,Vs.fM,Vs.scr,Vs.AV.has]) fun I' vb vm vc=>?_
  all_goals(simp -dsimp only[go_sem,J,M,O,G,ha];first|(simp[Vs.LeL,Vs.look,Vs.aB];done)|(and_intros<;>first|omega|(simp[Vs.LeL,Vs.look,Vs.aB];done))|trace_state)
 ·refine fU Y H p0 hN (2,.ptr (.t 2 0) 0 0) [⟨some 35,.bslice 2 0 [.v (.string ⟨#[]⟩),.v (.int .i64 (0))] [],none⟩,⟨some 36,.mv (.tmp 7),none⟩,⟨some 37,.append 2 24 (.tmp 35) (.tmp 36),none⟩] [⟨some 33,.fieldV 1 (.tmp 3),none⟩,⟨some 34,.loadV false 1 (.tmp 33),none⟩,⟨some 38,.bslice 1 1 [.v (.slice none 0 0)] [(0,(.tmp 37))],none⟩,⟨some 39,.append 1 24 (.tmp 34) (.tmp 38),none⟩,⟨some 40,.fieldAddr 1 (.tmp 3),none⟩,⟨none,.store 1 (.tmp 40) (.tmp 39),none⟩] ?_ (fun v p F=>by
    simp only[List.mem_cons,List.not_mem_nil,or_false] at F;rcases F with rfl|rfl|rfl|rfl|rfl|rfl|rfl
    · exact .inr (.inr rfl)
    all_goals first|exact .inl ⟨rfl,rfl⟩|exact .inr (.inl ⟨rfl,rfl⟩)) (fun v=>by simp[Vs.LeL,Vs.look,Vs.aB,Vs.aW,Vs.fM,Vs.scr,Vs.AV.has]) fun I' vb vm vc=>?_
  all_goals(simp -dsimp only[go_sem,J,M,O,G,ha];first|(simp[Vs.LeL,Vs.look,Vs.aB];done)|(and_intros<;>first|omega|(simp[Vs.LeL,Vs.look,Vs.aB];done))|trace_state)
 ·refine fU Y H p0 hN (2,.ptr (.t 2 0) 0 0) [⟨some 35,.bslice 2 0 [.v (.string ⟨#[]⟩),.v (.int .i64 (0))] [],none⟩,⟨some 36,.mv (.tmp 7),none⟩,⟨some 37,.append 2 24 (.tmp 35) (.tmp 36),none⟩] [⟨some 33,.fieldV 1 (.tmp 3),none⟩,⟨some 38,.bslice 1 1 [.v (.slice none 0 0)] [(0,(.tmp 37))],none⟩,⟨some 34,.loadV false 1 (.tmp 33),none⟩,⟨some 39,.append 1 24 (.tmp 34) (.tmp 38),none⟩,⟨some 40,.fieldAddr 1 (.tmp 3),none⟩,⟨none,.store 1 (.tmp 40) (.tmp 39),none⟩] ?_ (fun v p F=>by
    simp only[List.mem_cons,List.not_mem_nil,or_false] at F;rcases F with rfl|rfl|rfl|rfl|rfl|rfl|rfl
    · exact .inr (.inr rfl)
    all_goals first|exact .inl ⟨rfl,rfl⟩|exact .inr (.inl ⟨rfl,rfl⟩)) (fun v=>by simp[Vs.LeL,Vs.look,Vs.aB,Vs.aW,Vs.fM,Vs.scr,Vs.AV.has]) fun I' vb vm vc=>?_
  all_goals(simp -dsimp only[go_sem,J,M,O,G,ha];first|(simp[Vs.LeL,Vs.look,Vs.aB];done)|(and_intros<;>first|omega|(simp[Vs.LeL,Vs.look,Vs.aB];done))|trace_state)
 ·refine fU Y H p0 hN (2,.ptr (.t 2 0) 0 0) [⟨some 35,.bslice 2 0 [.v (.string ⟨#[]⟩),.v (.int .i64 (0))] [],none⟩,⟨some 36,.mv (.tmp 7),none⟩,⟨some 37,.append 2 24 (.tmp 35) (.tmp 36),none⟩] [⟨some 38,.bslice 1 1 [.v (.slice none 0 0)] [(0,(.tmp 37))],none⟩,⟨some 33,.fieldV 1 (.tmp 3),none⟩,⟨some 34,.loadV false 1 (.tmp 33),none⟩,⟨some 39,.append 1 24 (.tmp 34) (.tmp 38),none⟩,⟨some 40,.fieldAddr 1 (.tmp 3),none⟩,⟨none,.store 1 (.tmp 40) (.tmp 39),none⟩] ?_ (fun v p F=>by
    simp only[List.mem_cons,List.not_mem_nil,or_false] at F;rcases F with rfl|rfl|rfl|rfl|rfl|rfl|rfl
    · exact .inr (.inr rfl)
    all_goals first|exact .inl ⟨rfl,rfl⟩|exact .inr (.inl ⟨rfl,rfl⟩)) (fun v=>by simp[Vs.LeL,Vs.look,Vs.aB,Vs.aW,Vs.fM,Vs.scr,Vs.AV.has]) fun I' vb vm vc=>?_
  all_goals(simp -dsimp only[go_sem,J,M,O,G,ha];first|(simp[Vs.LeL,Vs.look,Vs.aB];done)|(and_intros<;>first|omega|(simp[Vs.LeL,Vs.look,Vs.aB];done))|trace_state)
 ·refine fU Y H p0 hN (34,.loc (.t 9 0) 0 W.length) [⟨some 36,.mv (.tmp 7),none⟩,⟨some 33,.fieldV 1 (.tmp 3),none⟩,⟨some 34,.loadV false 1 (.tmp 33),none⟩,⟨some 35,.bslice 2 0 [.v (.string ⟨#[]⟩),.v (.int .i64 (0))] [],none⟩,⟨some 37,.append 2 24 (.tmp 35) (.tmp 36),none⟩] [⟨some 38,.bslice 1 1 [.v (.slice none 0 0)] [(0,(.tmp 37))],none⟩,⟨some 39,.append 1 24 (.tmp 34) (.tmp 38),none⟩,⟨some 40,.fieldAddr 1 (.tmp 3),none⟩,⟨none,.store 1 (.tmp 40) (.tmp 39),none⟩] ?_ (fun v p F=>by
    simp only[List.mem_cons,List.not_mem_nil,or_false] at F;rcases F with rfl|rfl|rfl|rfl|rfl|rfl|rfl
    · exact .inr (.inr rfl)
    all_goals first|exact .inl ⟨rfl,rfl⟩|exact .inr (.inl ⟨rfl,rfl⟩)) (fun v=>by simp[Vs.LeL,Vs.look,Vs.aB,Vs.aW,Vs.fM,Vs.scr,Vs.AV.has]) fun I' vb vm vc=>?_
  all_goals(simp -dsimp only[go_sem,J,M,O,G,ha];first|(simp[Vs.LeL,Vs.look,Vs.aB];done)|(and_intros<;>first|omega|(simp[Vs.LeL,Vs.look,Vs.aB];done))|trace_state)
 ·refine fU Y H p0 hN (34,.loc (.t 9 0) 0 W.length) [⟨some 36,.mv (.tmp 7),none⟩,⟨some 33,.fieldV 1 (.tmp 3),none⟩,⟨some 35,.bslice 2 0 [.v (.string ⟨#[]⟩),.v (.int .i64 (0))] [],none⟩,⟨some 34,.loadV false 1 (.tmp 33),none⟩,⟨some 37,.append 2 24 (.tmp 35) (.tmp 36),none⟩] [⟨some 38,.bslice 1 1 [.v (.slice none 0 0)] [(0,(.tmp 37))],none⟩,⟨some 39,.append 1 24 (.tmp 34) (.tmp 38),none⟩,⟨some 40,.fieldAddr 1 (.tmp 3),none⟩,⟨none,.store 1 (.tmp 40) (.tmp 39),none⟩] ?_ (fun v p F=>by
    simp only[List.mem_cons,List.not_mem_nil,or_false] at F;rcases F with rfl|rfl|rfl|rfl|rfl|rfl|rfl
    · exact .inr (.inr rfl)
    all_goals first|exact .inl ⟨rfl,rfl⟩|exact .inr (.inl ⟨rfl,rfl⟩)) (fun v=>by simp[Vs.LeL,Vs.look,Vs.aB,Vs.aW,Vs.fM,Vs.scr,Vs.AV.has]) fun I' vb vm vc=>?_
  all_goals(simp -dsimp only[go_sem,J,M,O,G,ha];first|(simp[Vs.LeL,Vs.look,Vs.aB];done)|(and_intros<;>first|omega|(simp[Vs.LeL,Vs.look,Vs.aB];done))|trace_state)
 ·refine fU Y H p0 hN (33,.ptr (.t 3 0) 0 1) [⟨some 36,.mv (.tmp 7),none⟩,⟨some 33,.fieldV 1 (.tmp 3),none⟩,⟨some 35,.bslice 2 0 [.v (.string ⟨#[]⟩),.v (.int .i64 (0))] [],none⟩,⟨some 37,.append 2 24 (.tmp 35) (.tmp 36),none⟩] [⟨some 34,.loadV false 1 (.tmp 33),none⟩,⟨some 38,.bslice 1 1 [.v (.slice none 0 0)] [(0,(.tmp 37))],none⟩,⟨some 39,.append 1 24 (.tmp 34) (.tmp 38),none⟩,⟨some 40,.fieldAddr 1 (.tmp 3),none⟩,⟨none,.store 1 (.tmp 40) (.tmp 39),none⟩] ?_ (fun v p F=>by
    simp only[List.mem_cons,List.not_mem_nil,or_false] at F;rcases F with rfl|rfl|rfl|rfl|rfl|rfl|rfl
    · exact .inr (.inr rfl)
    all_goals first|exact .inl ⟨rfl,rfl⟩|exact .inr (.inl ⟨rfl,rfl⟩)) (fun v=>by simp[Vs.LeL,Vs.look,Vs.aB,Vs.aW,Vs.fM,Vs.scr,Vs.AV.has]) fun I' vb vm vc=>?_
  all_goals(simp -dsimp only[go_sem,J,M,O,G,ha];first|(simp[Vs.LeL,Vs.look,Vs.aB];done)|(and_intros<;>first|omega|(simp[Vs.LeL,Vs.look,Vs.aB];done))|trace_state)
 ·refine fU Y H p0 hN (33,.ptr (.t 3 0) 0 1) [⟨some 36,.mv (.tmp 7),none⟩,⟨some 33,.fieldV 1 (.tmp 3),none⟩,⟨some 35,.bslice 2 0 [.v (.string ⟨#[]⟩),.v (.int .i64 (0))] [],none⟩,⟨some 37,.append 2 24 (.tmp 35) (.tmp 36),none⟩] [⟨some 38,.bslice 1 1 [.v (.slice none 0 0)] [(0,(.tmp 37))],none⟩,⟨some 34,.loadV false 1 (.tmp 33),none⟩,⟨some 39,.append 1 24 (.tmp 34) (.tmp 38),none⟩,⟨some 40,.fieldAddr 1 (.tmp 3),none⟩,⟨none,.store 1 (.tmp 40) (.tmp 39),none⟩] ?_ (fun v p F=>by
    simp only[List.mem_cons,List.not_mem_nil,or_false] at F;rcases F with rfl|rfl|rfl|rfl|rfl|rfl|rfl
    · exact .inr (.inr rfl)
    all_goals first|exact .inl ⟨rfl,rfl⟩|exact .inr (.inl ⟨rfl,rfl⟩)) (fun v=>by simp[Vs.LeL,Vs.look,Vs.aB,Vs.aW,Vs.fM,Vs.scr,Vs.AV.has]) fun I' vb vm vc=>?_
  all_goals(simp -dsimp only[go_sem,J,M,O,G,ha];first|(simp[Vs.LeL,Vs.look,Vs.aB];done)|(and_intros<;>first|omega|(simp[Vs.LeL,Vs.look,Vs.aB];done))|trace_state)
 ·refine fU Y H p0 hN (34,.loc (.t 9 0) 0 W.length) [⟨some 36,.mv (.tmp 7),none⟩,⟨some 35,.bslice 2 0 [.v (.string ⟨#[]⟩),.v (.int .i64 (0))] [],none⟩,⟨some 33,.fieldV 1 (.tmp 3),none⟩,⟨some 34,.loadV false 1 (.tmp 33),none⟩,⟨some 37,.append 2 24 (.tmp 35) (.tmp 36),none⟩] [⟨some 38,.bslice 1 1 [.v (.slice none 0 0)] [(0,(.tmp 37))],none⟩,⟨some 39,.append 1 24 (.tmp 34) (.tmp 38),none⟩,⟨some 40,.fieldAddr 1 (.tmp 3),none⟩,⟨none,.store 1 (.tmp 40) (.tmp 39),none⟩] ?_ (fun v p F=>by
    simp only[List.mem_cons,List.not_mem_nil,or_false] at F;rcases F with rfl|rfl|rfl|rfl|rfl|rfl|rfl
    · exact .inr (.inr rfl)
    all_goals first|exact .inl ⟨rfl,rfl⟩|exact .inr (.inl ⟨rfl,rfl⟩)) (fun v=>by simp[Vs.LeL,Vs.look,Vs.aB,Vs.aW,Vs.fM,Vs.scr,Vs.AV.has]) fun I' vb vm vc=>?_
  all_goals(simp -dsimp only[go_sem,J,M,O,G,ha];first|(simp[Vs.LeL,Vs.look,Vs.aB];done)|(and_intros<;>first|omega|(simp[Vs.LeL,Vs.look,Vs.aB];done))|trace_state)
 ·refine fU Y H p0 hN (33,.ptr (.t 3 0) 0 1) [⟨some 36,.mv (.tmp 7),none⟩,⟨some 35,.bslice 2 0 [.v (.string ⟨#[]⟩),.v (.int .i64 (0))] [],none⟩,⟨some 33,.fieldV 1 (.tmp 3),none⟩,⟨some 37,.append 2 24 (.tmp 35) (.tmp 36),none⟩] [⟨some 34,.loadV false 1 (.tmp 33),none⟩,⟨some 38,.bslice 1 1 [.v (.slice none 0 0)] [(0,(.tmp 37))],none⟩,⟨some 39,.append 1 24 (.tmp 34) (.tmp 38),none⟩,⟨some 40,.fieldAddr 1 (.tmp 3),none⟩,⟨none,.store 1 (.tmp 40) (.tmp 39),none⟩] ?_ (fun v p F=>by
    simp only[List.mem_cons,List.not_mem_nil,or_false] at F;rcases F with rfl|rfl|rfl|rfl|rfl|rfl|rfl
    · exact .inr (.inr rfl)
    all_goals first|exact .inl ⟨rfl,rfl⟩|exact .inr (.inl ⟨rfl,rfl⟩)) (fun v=>by simp[Vs.LeL,Vs.look,Vs.aB,Vs.aW,Vs.fM,Vs.scr,Vs.AV.has]) fun I' vb vm vc=>?_
  all_goals(simp -dsimp only[go_sem,J,M,O,G,ha];first|(simp[Vs.LeL,Vs.look,Vs.aB];done)|(and_intros<;>first|omega|(simp[Vs.LeL,Vs.look,Vs.aB];done))|trace_state)
 ·refine fU Y H p0 hN (33,.ptr (.t 3 0) 0 1) [⟨some 36,.mv (.tmp 7),none⟩,⟨some 35,.bslice 2 0 [.v (.string ⟨#[]⟩),.v (.int .i64 (0))] [],none⟩,⟨some 33,.fieldV 1 (.tmp 3),none⟩,⟨some 37,.append 2 24 (.tmp 35) (.tmp 36),none⟩] [⟨some 38,.bslice 1 1 [.v (.slice none 0 0)] [(0,(.tmp 37))],none⟩,⟨some 34,.loadV false 1 (.tmp 33),none⟩,⟨some 39,.append 1 24 (.tmp 34) (.tmp 38),none⟩,⟨some 40,.fieldAddr 1 (.tmp 3),none⟩,⟨none,.store 1 (.tmp 40) (.tmp 39),none⟩] ?_ (fun v p F=>by
    simp only[List.mem_cons,List.not_mem_nil,or_false] at F;rcases F with rfl|rfl|rfl|rfl|rfl|rfl|rfl
    · exact .inr (.inr rfl)
    all_goals first|exact .inl ⟨rfl,rfl⟩|exact .inr (.inl ⟨rfl,rfl⟩)) (fun v=>by simp[Vs.LeL,Vs.look,Vs.aB,Vs.aW,Vs.fM,Vs.scr,Vs.AV.has]) fun I' vb vm vc=>?_
  all_goals(simp -dsimp only[go_sem,J,M,O,G,ha];first|(simp[Vs.LeL,Vs.look,Vs.aB];done)|(and_intros<;>first|omega|(simp[Vs.LeL,Vs.look,Vs.aB];done))|trace_state)
 ·refine fU Y H p0 hN (2,.ptr (.t 2 0) 0 0) [⟨some 36,.mv (.tmp 7),none⟩,⟨some 35,.bslice 2 0 [.v (.string ⟨#[]⟩),.v (.int .i64 (0))] [],none⟩,⟨some 37,.append 2 24 (.tmp 35) (.tmp 36),none⟩] [⟨some 33,.fieldV 1 (.tmp 3),none⟩,⟨some 34,.loadV false 1 (.tmp 33),none⟩,⟨some 38,.bslice 1 1 [.v (.slice none 0 0)] [(0,(.tmp 37))],none⟩,⟨some 39,.append 1 24 (.tmp 34) (.tmp 38),none⟩,⟨some 40,.fieldAddr 1 (.tmp 3),none⟩,⟨none,.store 1 (.tmp 40) (.tmp 39),none⟩] ?_ (fun v p F=>by
    simp only[List.mem_cons,List.not_mem_nil,or_false] at F;rcases F with rfl|rfl|rfl|rfl|rfl|rfl|rfl
    · exact .inr (.inr rfl)
    all_goals first|exact .inl ⟨rfl,rfl⟩|exact .inr (.inl ⟨rfl,rfl⟩)) (fun v=>by simp[Vs.LeL,Vs.look,Vs.aB,Vs.aW,Vs.fM,Vs.scr,Vs.AV.has]) fun I' vb vm vc=>?_
  all_goals(simp -dsimp only[go_sem,J,M,O,G,ha];first|(simp[Vs.LeL,Vs.look,Vs.aB];done)|(and_intros<;>first|omega|(simp[Vs.LeL,Vs.look,Vs.aB];done))|trace_state)
 ·refine fU Y H p0 hN (2,.ptr (.t 2 0) 0 0) [⟨some 36,.mv (.tmp 7),none⟩,⟨some 35,.bslice 2 0 [.v (.string ⟨#[]⟩),.v (.int .i64 (0))] [],none⟩,⟨some 37,.append 2 24 (.tmp 35) (.tmp 36),none⟩] [⟨some 33,.fieldV 1 (.tmp 3),none⟩,⟨some 38,.bslice 1 1 [.v (.slice none 0 0)] [(0,(.tmp 37))],none⟩,⟨some 34,.loadV false 1 (.tmp 33),none⟩,⟨some 39,.append 1 24 (.tmp 34) (.tmp 38),none⟩,⟨some 40,.fieldAddr 1 (.tmp 3),none⟩,⟨none,.store 1 (.tmp 40) (.tmp 39),none⟩] ?_ (fun v p F=>by
    simp only[List.mem_cons,List.not_mem_nil,or_false] at F;rcases F with rfl|rfl|rfl|rfl|rfl|rfl|rfl
    · exact .inr (.inr rfl)
    all_goals first|exact .inl ⟨rfl,rfl⟩|exact .inr (.inl ⟨rfl,rfl⟩)) (fun v=>by simp[Vs.LeL,Vs.look,Vs.aB,Vs.aW,Vs.fM,Vs.scr,Vs.AV.has]) fun I' vb vm vc=>?_
  all_goals(simp -dsimp only[go_sem,J,M,O,G,ha];first|(simp[Vs.LeL,Vs.look,Vs.aB];done)|(and_intros<;>first|omega|(simp[Vs.LeL,Vs.look,Vs.aB];done))|trace_state)
 ·refine fU Y H p0 hN (2,.ptr (.t 2 0) 0 0) [⟨some 36,.mv (.tmp 7),none⟩,⟨some 35,.bslice 2 0 [.v (.string ⟨#[]⟩),.v (.int .i64 (0))] [],none⟩,⟨some 37,.append 2 24 (.tmp 35) (.tmp 36),none⟩] [⟨some 38,.bslice 1 1 [.v (.slice none 0 0)] [(0,(.tmp 37))],none⟩,⟨some 33,.fieldV 1 (.tmp 3),none⟩,⟨some 34,.loadV false 1 (.tmp 33),none⟩,⟨some 39,.append 1 24 (.tmp 34) (.tmp 38),none⟩,⟨some 40,.fieldAddr 1 (.tmp 3),none⟩,⟨none,.store 1 (.tmp 40) (.tmp 39),none⟩] ?_ (fun v p F=>by
    simp only[List.mem_cons,List.not_mem_nil,or_false] at F;rcases F with rfl|rfl|rfl|rfl|rfl|rfl|rfl
    · exact .inr (.inr rfl)
    all_goals first|exact .inl ⟨rfl,rfl⟩|exact .inr (.inl ⟨rfl,rfl⟩)) (fun v=>by simp[Vs.LeL,Vs.look,Vs.aB,Vs.aW,Vs.fM,Vs.scr,Vs.AV.has]) fun I' vb vm vc=>?_
  all_goals(simp -dsimp only[go_sem,J,M,O,G,ha];first|(simp[Vs.LeL,Vs.look,Vs.aB];done)|(and_intros<;>first|omega|(simp[Vs.LeL,Vs.look,Vs.aB];done))|trace_state)
end
section
variable [Vs.Envs]
attribute [local irreducible] Vs.Fn chOK areCh chTo chAt l03 chB rk cd3 chI stp stpTo
def CdO.impl_newOffice:aF:=
 .seq (.region [⟨some 1,.box (.tmp 0),none⟩,
    ⟨some 2,.alloc [.v (.slice none 0 0),.v (.slice none 0 0)],none⟩] [1,2] []) <|
 .seq (.region [⟨some 8,.bslice 1 0 [.v (.slice none 0 0)] [],none⟩,
    ⟨some 9,.bslice 1 0 [.v (.slice none 0 0)] [],none⟩,
    ⟨some 10,.build [.v (.slice none 0 0),.v (.slice none 0 0)] [(0,1,(.tmp 8)),(1,1,(.tmp 9))],none⟩,
    ⟨some 3,.alloc [.v (.slice none 0 0),.v (.slice none 0 0)],none⟩,
    ⟨none,.store 2 (.tmp 3) (.tmp 10),none⟩] [1,2,3] []) <|
 .seq (.seq (.region [⟨some 11,.fieldAddr 0 (.tmp 1),none⟩,
     ⟨some 12,.load false 1 (.tmp 11),none⟩,
     ⟨some 13,.len (.tmp 12),none⟩,
     ⟨some 14,.mv (.const (.int .i64 (0))),none⟩] [1,2,3,12,13,14] []) <|
  .block 0 (
    .loop (
      .seq (.region [⟨some 15,.bin .lss (.tmp 14) (.tmp 13),none⟩] [1,2,3,12,13,14,15] []) <|
      .seq (.cond (.tmp 15)
         (.skip)
         (.exit 0)) <|
      .seq (.block 1 (
         .seq (.region [⟨some 16,.idxSl 1 (.tmp 12) (.tmp 14),none⟩,
            ⟨some 17,.load false 1 (.tmp 16),none⟩,
            ⟨some 5,.mv (.tmp 17),none⟩] [1,2,3,5,12,13,14] []) <|
         .region [⟨some 18,.fieldAddr 0 (.tmp 3),none⟩,
           ⟨some 19,.load false 1 (.tmp 18),none⟩,
           ⟨some 20,.mv (.tmp 5),none⟩,
           ⟨some 21,.call (.func F.bZ) [(.tmp 20)] [],none⟩,
           ⟨some 22,.bslice 1 1 [.v (.slice none 0 0)] [(0,(.tmp 21))],none⟩,
           ⟨some 23,.append 1 24 (.tmp 19) (.tmp 22),none⟩,
           ⟨some 24,.fieldAddr 0 (.tmp 3),none⟩,
           ⟨none,.store 1 (.tmp 24) (.tmp 23),none⟩] [1,2,3,12,13,14] [18,20,19,21,22,23])) <|
      .region [⟨some 25,.bin .add (.tmp 14) (.const (.int .i64 (1))),none⟩,
        ⟨some 14,.mv (.tmp 25),none⟩] [1,2,3,12,13,14] []))) <|
 .seq (.seq (.region [⟨some 26,.fieldAddr 1 (.tmp 1),none⟩,
     ⟨some 27,.load false 1 (.tmp 26),none⟩,
     ⟨some 28,.len (.tmp 27),none⟩,
     ⟨some 29,.mv (.const (.int .i64 (0))),none⟩] [2,3,27,28,29] []) <|
  .block 2 (
    .loop (
      .seq (.region [⟨some 30,.bin .lss (.tmp 29) (.tmp 28),none⟩] [2,3,27,28,29,30] []) <|
      .seq (.cond (.tmp 30)
         (.skip)
         (.exit 2)) <|
      .seq (.block 3 (
         .seq (.region [⟨some 31,.idxSl 1 (.tmp 27) (.tmp 29),none⟩,
            ⟨some 32,.load false 1 (.tmp 31),none⟩,
            ⟨some 7,.mv (.tmp 32),none⟩] [2,3,7,27,28,29] []) <|
         .region [⟨some 33,.fieldV 1 (.tmp 3),none⟩,
           ⟨some 34,.loadV false 1 (.tmp 33),none⟩,
           ⟨some 35,.bslice 2 0 [.v (.string ⟨#[]⟩),.v (.int .i64 (0))] [],none⟩,
           ⟨some 36,.mv (.tmp 7),none⟩,
           ⟨some 37,.append 2 24 (.tmp 35) (.tmp 36),none⟩,
           ⟨some 38,.bslice 1 1 [.v (.slice none 0 0)] [(0,(.tmp 37))],none⟩,
           ⟨some 39,.append 1 24 (.tmp 34) (.tmp 38),none⟩,
           ⟨some 40,.fieldAddr 1 (.tmp 3),none⟩,
           ⟨none,.store 1 (.tmp 40) (.tmp 39),none⟩] [2,3,27,28,29] [33,35,34,36,37,1000033,1000034,38,39])) <|
      .region [⟨some 41,.bin .add (.tmp 29) (.const (.int .i64 (1))),none⟩,
        ⟨some 29,.mv (.tmp 41),none⟩] [2,3,27,28,29] []))) <|
 .seq (.region [⟨some 42,.load true 2 (.tmp 3),none⟩,
    ⟨none,.store 2 (.tmp 2) (.tmp 42),none⟩] [2] []) <|
 .ret
theorem qG {vs:Array Value} (h:2=vs.size):vs=#[vs.getD 0 undef,vs.getD 1 undef]:=by
 obtain⟨l⟩:=vs
 match l,h with
 | [x,y],_=>rfl
theorem aHP:E sV ([]:List Sl)=[]:=rfl
attribute [local go_sem] Int.reduceBEq Int.reduceBNe cC cFd List.replicate_succ List.replicate_zero List.flatten_cons List.flatten_nil List.cons_append List.nil_append List.set_cons_zero List.set_cons_succ List.length_cons List.length_nil List.length_set List.take_succ_cons List.take_zero aI cD in
theorem uS (T:List (List (List Int))) (U:List (List Tot)) (hT:aDs T) (hU:aBi U) {S:Nat→Prop}{w:World}{vs:Array Value} (hS:∀b,S b→b<w.heap.size) (he:Env S w) (qg:vs.size=1) (h9:∀j,j<1→RC S w (([.agg [.sl 1 (E cD T),.sl 1 (E cTs U)]]:List AV).getD j .junk) (vs.getD j undef)):Calls Tryz.prog F.fE vs w (fun e0 w0=>∃tv sv,e0=.returned (.agg #[tv,sv])∧Vs.mZ w w0∧OfNew w w0 ⟨T,U⟩ tv sv):=by
 obtain⟨h1,_,_⟩:=Cd.i_newOffice_k.o;have h2:Tryz.f90.body.bind (bF Tryz.prog Tryz.f90.ntmps (Vs.aAL Tryz.prog 8 aFj 9 aFi))=some CdO.impl_newOffice.bare:=by kernel_rfl
 obtain⟨q6,G,hc⟩:=Option.bind_eq_some_iff.1 h2;have hz:(Tryz.f90.body.map (zB Tryz.f90.ntmps (Vs.aAL Tryz.prog 8 aFj 9 aFi)))=some true:=by kernel_rfl
 rw[G] at hz;have qy:=@Vs.pV;clear qy;refine Vs.Pt.calls (dr:=(Vs.aAL Tryz.prog 8 aFj 9 aFi)) (ac:=CdO.impl_newOffice) h1 G hc (by simpa using hz) (args:=[.agg [.sl 1 (E cD T),.sl 1 (E cTs U)]]) (by rw[Cd.i_newOffice_k.n];exact Nat.le_of_ble_eq_true rfl) hS he qg h9 fun C1 a I qt q7 hp=>?_;unfold CdO.impl_newOffice
 refine hp.goS (τ:=⟨[(1,.ptr (.t 1 0) 0 0),(2,.ptr (.t 2 0) 0 0)],[(.t 1 0,.var [.sl 1 (E cD T),.sl 1 (E cTs U)] false),(.t 2 0,.var [.v (.slice none 0 0),.v (.slice none 0 0)] false)]⟩) (Vs.pV Tryz.mixed _ _ _ _) I 1 _ (E:=fun _ _=>False) [(.t 2 0,.var [.v (.slice none 0 0),.v (.slice none 0 0)] false)] (fun p hp=>by
     rw[List.mem_singleton.1 hp];exact⟨rfl,rfl,rfl⟩) [(1,.ro [.sl 1 (E cD T),.sl 1 (E cTs U)]),(2,.ptr (.t 2 0) 0 0)] (fun p hp=>?_) (fun C hC=>?_) (fun i σ h=>h) (fun C a w hl hg=>hg.no.elim) fun I1 a1 w1 S1 p1 hw=>?_
 ·simp only[List.mem_cons,List.not_mem_nil,or_false] at hp;rcases hp with rfl|rfl
  ·exact .inr ⟨rfl,_,rfl,fun n hn=>by
     have:n=.t 1 0:=by simpa using hn
     subst this;rfl⟩
  ·exact .inl ⟨rfl,rfl⟩
 ·simp -dsimp only[go_sem,cTs]
  first|(simp[Vs.LeL,Vs.look,Vs.aB];done)
 refine hw.goT (Vs.pV Tryz.mixed _ _ _ _) I 1 _ (τ:=⟨[(1,.ro [.sl 1 (E cD T),.sl 1 (E cTs U)]),(2,.ptr (.t 2 0) 0 0),(3,.ptr (.t 3 0) 0 0)],[(.t 3 0,.var [.loc (.t 8 0) 0 ([]:List Sl).length,.loc (.t 9 0) 0 ([]:List Sl).length] false),(.t 8 0,.arr 1 (E sV ([]:List Sl)) false),(.t 9 0,.arr 1 (E sV ([]:List Sl)) false),(.t 2 0,.var [.v (.slice none 0 0),.v (.slice none 0 0)] false)]⟩) (fun C hC=>?_) fun a2 w2 S2 p2 hu=>?_
 ·simp -dsimp only[go_sem,aHP,cTs]
  repeat' first|simp -dsimp only[go_sem,aHP,cTs]|apply Br.mk<;>intro h<;>try simp -dsimp only[h]|refine aC ?_|fail
  all_goals first|(simp[Vs.LeL,Vs.look,Vs.aB];done)|exact⟨by simp[Vs.LeL,Vs.look,Vs.aB],trivial⟩|omega|(and_intros<;>first|omega|trivial|(simp[Vs.LeL,Vs.look,Vs.aB];done))
 have h5:(E cD T).length=T.length:=aI _;have h6:(E cTs U).length=U.length:=aI _;refine At.seq (?_);refine hu.goT (Vs.pV Tryz.mixed _ _ _ _) I 1 _ (τ:=⟨[(1,.ro [.sl 1 (E cD T),.sl 1 (E cTs U)]),(2,.ptr (.t 2 0) 0 0),(3,.ptr (.t 3 0) 0 0),(12,.sl 1 (E cD T)),(13,.v (.int .i64 (T.length:Nat))),(14,.v (.int .i64 (0:Nat)))],[(.t 3 0,.var [.loc (.t 8 0) 0 (([]:List Sl)).length,.loc (.t 9 0) 0 ([]:List Sl).length] false),(.t 8 0,.arr 1 (E sV (([]:List Sl))) false),(.t 9 0,.arr 1 (E sV ([]:List Sl)) false),(.t 2 0,.var [.v (.slice none 0 0),.v (.slice none 0 0)] false)]⟩) (fun C hC=>?_) fun a3 w3 S3 p3 ha=>?_
 ·simp -dsimp only[go_sem,h5,aHP,cTs]
  repeat' first|simp -dsimp only[go_sem,h5,aHP,cTs]|apply Br.mk<;>intro h<;>try simp -dsimp only[h]|refine aC ?_|fail
  all_goals first|(simp[Vs.LeL,Vs.look,Vs.aB];done)|exact⟨by simp[Vs.LeL,Vs.look,Vs.aB],trivial⟩|omega|(and_intros<;>first|omega|trivial|(simp[Vs.LeL,Vs.look,Vs.aB];done))
 let IV:Nat→Act→World→Prop:=fun nn a' w'=>∃(i:Nat) (V:List Sl) (S':Nat→Prop) (I':Vs.Envs) (M:Nat→Vs.Mem),nn=T.length-i∧i≤T.length∧V.length=i∧Vs.Pt I' C1 (⟨[(1,.ro [.sl 1 (E cD T),.sl 1 (E cTs U)]),(2,.ptr (.t 2 0) 0 0),(3,.ptr (.t 3 0) 0 0),(12,.sl 1 (E cD T)),(13,.v (.int .i64 (T.length:Nat))),(14,.v (.int .i64 (i:Nat)))],[(.t 3 0,.var [.loc (.t 8 0) 0 (V).length,.loc (.t 9 0) 0 ([]:List Sl).length] false),(.t 8 0,.arr 1 (E sV (V)) false),(.t 9 0,.arr 1 (E sV ([]:List Sl)) false),(.t 2 0,.var [.v (.slice none 0 0),.v (.slice none 0 0)] false)]⟩:St) a' w' S'∧(∀j,j<V.length→Vs.Dk w' ((T.getD j []).map (E cI)) (slW (V.getD j default)) (M j))∧(∀j b,j<V.length→(M j).D b→S' b∧C1.w0.heap.size≤b)∧∀j k b,j<V.length→k<V.length→(M j).D b→(M k).D b→j=k
 refine At.block (At.loop IV (fun nn a1 w1 hI=>?_) (n:=T.length) ⟨0,[],S3,_,fun _=>⟨none,[],fun _=>none,fun _=>0⟩,by omega,by omega,rfl,ha,by simp,by simp,by simp⟩);obtain⟨i,V,S1,I1,M,hn,hi,h0,hw,qo,Y,qk⟩:=hI;refine hw.goT (Vs.pV Tryz.mixed _ _ _ _) I 1 _ (τ:=⟨[(15,.v (.bool (decide ((i:Nat)<(T.length:Nat))))),(1,.ro [.sl 1 (E cD T),.sl 1 (E cTs U)]),(2,.ptr (.t 2 0) 0 0),(3,.ptr (.t 3 0) 0 0),(12,.sl 1 (E cD T)),(13,.v (.int .i64 (T.length:Nat))),(14,.v (.int .i64 (i:Nat)))],[(.t 3 0,.var [.loc (.t 8 0) 0 (V).length,.loc (.t 9 0) 0 ([]:List Sl).length] false),(.t 8 0,.arr 1 (E sV (V)) false),(.t 9 0,.arr 1 (E sV ([]:List Sl)) false),(.t 2 0,.var [.v (.slice none 0 0),.v (.slice none 0 0)] false)]⟩) (fun C hC=>?_) fun a2 w2 S2 p2 hu=>?_
 ·simp -dsimp only[go_sem,cTs]
  repeat' first|simp -dsimp only[go_sem,cTs]|apply Br.mk<;>intro h<;>try simp -dsimp only[h]|refine aC ?_|fail
  all_goals first|(simp[Vs.LeL,Vs.look,Vs.aB];done)|exact⟨by simp[Vs.LeL,Vs.look,Vs.aB],trivial⟩|omega|(and_intros<;>first|omega|trivial|(simp[Vs.LeL,Vs.look,Vs.aB];done))
 refine At.seq (hu.cond (b:=decide ((i:Nat)<(T.length:Nat))) rfl (fun ht=>At.skip ?_) (fun hf=>At.exit ?_))
 ·have J:i<T.length:=of_decide_eq_true ht;have qh:=aH J hT.1;have hm:(E cD T).getD i []=[.sl 1 (E cC T[i])]:=aS J;have qz:=hT.2 _ (List.getElem_mem J);refine At.seq (At.block ?_);refine hu.goT (Vs.pV Tryz.mixed _ _ _ _) I 1 _ (τ:=⟨[(5,.sl 1 (E cC T[i])),(1,.ro [.sl 1 (E cD T),.sl 1 (E cTs U)]),(2,.ptr (.t 2 0) 0 0),(3,.ptr (.t 3 0) 0 0),(12,.sl 1 (E cD T)),(13,.v (.int .i64 (T.length:Nat))),(14,.v (.int .i64 (i:Nat)))],[(.t 3 0,.var [.loc (.t 8 0) 0 V.length,.loc (.t 9 0) 0 ([]:List Sl).length] false),(.t 8 0,.arr 1 (E sV V) false),(.t 9 0,.arr 1 (E sV ([]:List Sl)) false),(.t 2 0,.var [.v (.slice none 0 0),.v (.slice none 0 0)] false)]⟩) (fun C hC=>?_) fun a3 w3 S3 p3 ha=>?_
  ·simp -dsimp only[go_sem,h5,hm,cTs]
   repeat' first|simp -dsimp only[go_sem,h5,hm,cTs]|apply Br.mk<;>intro h<;>try simp -dsimp only[h]|refine aC ?_|fail
   all_goals first|(simp[Vs.LeL,Vs.look,Vs.aB];done)|exact⟨by simp[Vs.LeL,Vs.look,Vs.aB],trivial⟩|omega|(and_intros<;>first|omega|trivial|(simp[Vs.LeL,Vs.look,Vs.aB];done))
  refine noR1 I qz (V:=V) (W:=[]) (by rw[h0];exact Nat.le_trans hi hT.1) ha fun I4 a4 w4 S4 s m p4 qc qw h7=>?_
  have L:=(qc.ren (n:=.t 23 0) (m:=.t 8 0) (by decide) (by rfl) (fun pp hp=>by
    have e:pp∈[(.t 3 0,.var [.loc (.t 8 0) 0 (V.length+1),.loc (.t 9 0) 0 ([]:List Sl).length] false),(.t 8 0,.arr 1 (E sV (V++[s])) false),(.t 9 0,.arr 1 (E sV ([]:List Sl)) false),(.t 2 0,.var [.v (.slice none 0 0),.v (.slice none 0 0)] false)]:=by simpa[Vs.mX,Vs.rnB,Vs.nmF,Vs.rn,Vs.rnL] using hp
    simp only[List.mem_cons,List.not_mem_nil,or_false] at e;rcases e with rfl|rfl|rfl|rfl
    · exact⟨rfl,rfl⟩
    · exact⟨fun r hr=>bQ r hr,rfl⟩
    · exact⟨fun r hr=>bQ r hr,rfl⟩
    · exact⟨rfl,rfl⟩)).le (τ:=⟨[(1,.ro [.sl 1 (E cD T),.sl 1 (E cTs U)]),(2,.ptr (.t 2 0) 0 0),(3,.ptr (.t 3 0) 0 0),(12,.sl 1 (E cD T)),(13,.v (.int .i64 (T.length:Nat))),(14,.v (.int .i64 (i:Nat)))],[(.t 3 0,.var [.loc (.t 8 0) 0 (V++[s]).length,.loc (.t 9 0) 0 ([]:List Sl).length] false),(.t 8 0,.arr 1 (E sV (V++[s])) false),(.t 9 0,.arr 1 (E sV ([]:List Sl)) false),(.t 2 0,.var [.v (.slice none 0 0),.v (.slice none 0 0)] false)]⟩) (by simp[Vs.LeL,Vs.look,Vs.aB,Vs.mX,Vs.rnB,Vs.nmF,Vs.rn,Vs.rnL]) (fvC ⟨rfl,rfl⟩ (fvC ⟨bQ,rfl⟩ (fvC ⟨bQ,rfl⟩ (fvC ⟨rfl,rfl⟩ fvN))))
  show Vs.At Tryz.prog Tryz.f90.ntmps (Vs.aAL Tryz.prog 8 aFj 9 aFi) (.region [⟨some 25,.bin .add (.tmp 14) (.const (.int .i64 (1))),none⟩,⟨some 14,.mv (.tmp 25),none⟩] _ []) _ a4 w4
  refine At.rg (L.rgN I 2 (τ:=⟨[(1,.ro [.sl 1 (E cD T),.sl 1 (E cTs U)]),(2,.ptr (.t 2 0) 0 0),(3,.ptr (.t 3 0) 0 0),(12,.sl 1 (E cD T)),(13,.v (.int .i64 (T.length:Nat))),(14,.v (.int .i64 (i+1:Nat)))],[(.t 3 0,.var [.loc (.t 8 0) 0 (V++[s]).length,.loc (.t 9 0) 0 ([]:List Sl).length] false),(.t 8 0,.arr 1 (E sV (V++[s])) false),(.t 9 0,.arr 1 (E sV ([]:List Sl)) false),(.t 2 0,.var [.v (.slice none 0 0),.v (.slice none 0 0)] false)]⟩) ?_ fun a9 w9 S9 p9 qd=>RgL.nil ?_)
  ·simp -dsimp only[go_sem,qh,cTs]
   first|(simp[Vs.LeL,Vs.look,Vs.aB];done)
  have pA:Vs.Past S1 w1 S4 w4:=(p2.trans p3).trans p4;have pB:=pA.trans p9;have q9:C1.w0.heap.size≤w3.heap.size:=ha.size;refine⟨T.length-(i+1),by omega,i+1,V++[s],S9,_,fun j=>if j=V.length then m else M j,rfl,by omega,by simp[h0],qd,fun j H=>?_,fun j b H G=>?_,fun j k b H hk ho hq=>?_⟩
  ·by_cases e:j=V.length
   ·subst e;have e1:(V++[s]).getD V.length default=s:=by simp
    have e2:T.getD V.length []=T[i]:=by rw[h0];simp[J]
    simp only[if_true];rw[e1,e2];exact qw.past (fun b G=>(h7 b G).1) p9
   ·have hs:j<V.length:=by simp at H;omega
    have e1:(V++[s]).getD j default=V.getD j default:=by simp[List.getElem?_append_left hs]
    simp only[e,if_false];rw[e1];exact(qo j hs).past (fun b G=>(Y j b hs G).1) pB
  ·by_cases e:j=V.length
   ·simp only[e,if_true] at G;exact⟨p9.sub b (h7 b G).1,by have:=(h7 b G).2;omega⟩
   ·have hs:j<V.length:=by simp at H;omega
    simp only[e,if_false] at G;exact⟨pB.sub b (Y j b hs G).1,(Y j b hs G).2⟩
  ·have h8:∀j b,j<V.length→(M j).D b→m.D b→False:=fun j b H G hm=>by
    have h1:=(Y j b H G).1;have h2:=ha.dom b ((p2.trans p3).sub b h1);have h3:=(h7 b hm).2;omega
   by_cases e:j=V.length<;>by_cases e':k=V.length
   ·rw[e,e']
   ·simp only[e,e',if_true,if_false] at ho hq;exact(h8 k b (by simp at hk;omega) hq ho).elim
   ·simp only[e,e',if_true,if_false] at ho hq;exact(h8 j b (by simp at H;omega) ho hq).elim
   ·simp only[e,e',if_false] at ho hq;exact qk j k b (by simp at H;omega) (by simp at hk;omega) ho hq
 ·have qa:i=T.length:=by have:=of_decide_eq_false hf;omega
  subst qa;simp only[Exit.then,Exit.inBlock,if_true];clear hn hi;have qp:∀j,j<V.length→Vs.Dk w2 ((T.getD j []).map (E cI)) (slW (V.getD j default)) (M j):=fun j H=>(qo j H).past (fun b G=>(Y j b H G).1) p2;have hd:∀j b,j<V.length→(M j).D b→S2 b∧C1.w0.heap.size≤b:=fun j b H G=>⟨p2.sub b (Y j b H G).1,(Y j b H G).2⟩;refine At.seq (?_);refine hu.goT (Vs.pV Tryz.mixed _ _ _ _) I 1 _ (τ:=⟨[(2,.ptr (.t 2 0) 0 0),(3,.ptr (.t 3 0) 0 0),(27,.sl 1 (E cTs U)),(28,.v (.int .i64 (U.length:Nat))),(29,.v (.int .i64 (0:Nat)))],[(.t 3 0,.var [.loc (.t 8 0) 0 V.length,.loc (.t 9 0) 0 (([]:List Sl)).length] false),(.t 8 0,.arr 1 (E sV V) false),(.t 9 0,.arr 1 (E sV (([]:List Sl))) false),(.t 2 0,.var [.v (.slice none 0 0),.v (.slice none 0 0)] false)]⟩) (fun C hC=>?_) fun ax wx Sx px q3=>?_
  ·simp -dsimp only[go_sem,h6,aHP,cTs]
   repeat' first|simp -dsimp only[go_sem,h6,aHP,cTs]|apply Br.mk<;>intro h<;>try simp -dsimp only[h]|refine aC ?_|fail
   all_goals first|(simp[Vs.LeL,Vs.look,Vs.aB];done)|exact⟨by simp[Vs.LeL,Vs.look,Vs.aB],trivial⟩|omega|(and_intros<;>first|omega|trivial|(simp[Vs.LeL,Vs.look,Vs.aB];done))
  let JV:Nat→Act→World→Prop:=fun nn a' w'=>∃(i:Nat) (W:List Sl) (S':Nat→Prop) (I':Vs.Envs) (ys:Nat→Option Nat) (cs:Nat→Nat),nn=U.length-i∧i≤U.length∧W.length=i∧Vs.Past Sx wx S' w'∧Vs.Pt I' C1 (⟨[(2,.ptr (.t 2 0) 0 0),(3,.ptr (.t 3 0) 0 0),(27,.sl 1 (E cTs U)),(28,.v (.int .i64 (U.length:Nat))),(29,.v (.int .i64 (i:Nat)))],[(.t 3 0,.var [.loc (.t 8 0) 0 V.length,.loc (.t 9 0) 0 (W).length] false),(.t 8 0,.arr 1 (E sV V) false),(.t 9 0,.arr 1 (E sV (W)) false),(.t 2 0,.var [.v (.slice none 0 0),.v (.slice none 0 0)] false)]⟩:St) a' w' S'∧Vs.pM (fun _=>False) w' 2 ((U.take i).map (E cT)) (W.map slW) ys cs∧∀j b,j<W.length→ys j=some b→S' b∧C1.w0.heap.size≤b∧¬Sx b
  refine At.block (At.loop JV (fun nn a1 w1 hI=>?_) (n:=U.length) ⟨0,[],Sx,_,fun _=>none,fun _=>0,by omega,by omega,rfl,Vs.Past.refl _ _,q3,⟨rfl,by simp,by simp⟩,by simp⟩);clear hf hu;obtain⟨i,W,Sq,I1,ys,cs,hn,hi,qn,pz,hw,hv,O⟩:=hI;refine hw.goT (Vs.pV Tryz.mixed _ _ _ _) I 1 _ (τ:=⟨[(30,.v (.bool (decide ((i:Nat)<(U.length:Nat))))),(2,.ptr (.t 2 0) 0 0),(3,.ptr (.t 3 0) 0 0),(27,.sl 1 (E cTs U)),(28,.v (.int .i64 (U.length:Nat))),(29,.v (.int .i64 (i:Nat)))],[(.t 3 0,.var [.loc (.t 8 0) 0 V.length,.loc (.t 9 0) 0 (W).length] false),(.t 8 0,.arr 1 (E sV V) false),(.t 9 0,.arr 1 (E sV (W)) false),(.t 2 0,.var [.v (.slice none 0 0),.v (.slice none 0 0)] false)]⟩) (fun C hC=>?_) fun ay wy Sy py qe=>?_
  ·simp -dsimp only[go_sem,cTs]
   repeat' first|simp -dsimp only[go_sem,cTs]|apply Br.mk<;>intro h<;>try simp -dsimp only[h]|refine aC ?_|fail
   all_goals first|(simp[Vs.LeL,Vs.look,Vs.aB];done)|exact⟨by simp[Vs.LeL,Vs.look,Vs.aB],trivial⟩|omega|(and_intros<;>first|omega|trivial|(simp[Vs.LeL,Vs.look,Vs.aB];done))
  refine At.seq (qe.cond (b:=decide ((i:Nat)<(U.length:Nat))) rfl (fun ht=>At.skip ?_) (fun hf=>At.exit ?_))
  ·have J:i<U.length:=of_decide_eq_true ht;have qh:=aH J hU.1;have hm:(E cTs U).getD i []=[.sl 2 (E cT U[i])]:=aS J;have q0:=(hU.2 _ (List.getElem_mem J)).1;refine At.seq (At.block ?_);refine qe.goT (Vs.pV Tryz.mixed _ _ _ _) I 1 _ (τ:=⟨[(7,.sl 2 (E cT U[i])),(2,.ptr (.t 2 0) 0 0),(3,.ptr (.t 3 0) 0 0),(27,.sl 1 (E cTs U)),(28,.v (.int .i64 (U.length:Nat))),(29,.v (.int .i64 (i:Nat)))],[(.t 3 0,.var [.loc (.t 8 0) 0 V.length,.loc (.t 9 0) 0 W.length] false),(.t 8 0,.arr 1 (E sV V) false),(.t 9 0,.arr 1 (E sV W) false),(.t 2 0,.var [.v (.slice none 0 0),.v (.slice none 0 0)] false)]⟩) (fun C hC=>?_) fun a3 w3 S3 p3 ha=>?_
   ·simp -dsimp only[go_sem,h6,hm,cTs]
    repeat' first|simp -dsimp only[go_sem,h6,hm,cTs]|apply Br.mk<;>intro h<;>try simp -dsimp only[h]|refine aC ?_|fail
    all_goals first|(simp[Vs.LeL,Vs.look,Vs.aB];done)|exact⟨by simp[Vs.LeL,Vs.look,Vs.aB],trivial⟩|omega|(and_intros<;>first|omega|trivial|(simp[Vs.LeL,Vs.look,Vs.aB];done))
   refine noR2 I (t:=U[i]) q0 (V:=V) (W:=W) (by rw[qn];exact Nat.le_trans hi hU.1) ha fun I4 a4 w4 S4 s x6 c6 p4 qc qq hx=>?_
   have L:=(qc.ren (n:=.t 39 0) (m:=.t 9 0) (by decide) (by rfl) (fun pp hp=>by
     have e:pp∈[(.t 3 0,.var [.loc (.t 8 0) 0 V.length,.loc (.t 9 0) 0 (W.length+1)] false),(.t 8 0,.arr 1 (E sV V) false),(.t 9 0,.arr 1 (E sV (W++[s])) false),(.t 2 0,.var [.v (.slice none 0 0),.v (.slice none 0 0)] false)]:=by simpa[Vs.mX,Vs.rnB,Vs.nmF,Vs.rn,Vs.rnL] using hp
     simp only[List.mem_cons,List.not_mem_nil,or_false] at e;rcases e with rfl|rfl|rfl|rfl
     · exact⟨rfl,rfl⟩
     · exact⟨fun r hr=>bQ r hr,rfl⟩
     · exact⟨fun r hr=>bQ r hr,rfl⟩
     · exact⟨rfl,rfl⟩)).le (τ:=⟨[(2,.ptr (.t 2 0) 0 0),(3,.ptr (.t 3 0) 0 0),(27,.sl 1 (E cTs U)),(28,.v (.int .i64 (U.length:Nat))),(29,.v (.int .i64 (i:Nat)))],[(.t 3 0,.var [.loc (.t 8 0) 0 V.length,.loc (.t 9 0) 0 (W++[s]).length] false),(.t 8 0,.arr 1 (E sV V) false),(.t 9 0,.arr 1 (E sV (W++[s])) false),(.t 2 0,.var [.v (.slice none 0 0),.v (.slice none 0 0)] false)]⟩) (by simp[Vs.LeL,Vs.look,Vs.aB,Vs.mX,Vs.rnB,Vs.nmF,Vs.rn,Vs.rnL]) (fvC ⟨rfl,rfl⟩ (fvC ⟨bQ,rfl⟩ (fvC ⟨bQ,rfl⟩ (fvC ⟨rfl,rfl⟩ fvN))))
   show Vs.At Tryz.prog Tryz.f90.ntmps (Vs.aAL Tryz.prog 8 aFj 9 aFi) (.region [⟨some 41,.bin .add (.tmp 29) (.const (.int .i64 (1))),none⟩,⟨some 29,.mv (.tmp 41),none⟩] _ []) _ a4 w4
   refine At.rg (L.rgN I 2 (τ:=⟨[(2,.ptr (.t 2 0) 0 0),(3,.ptr (.t 3 0) 0 0),(27,.sl 1 (E cTs U)),(28,.v (.int .i64 (U.length:Nat))),(29,.v (.int .i64 (i+1:Nat)))],[(.t 3 0,.var [.loc (.t 8 0) 0 V.length,.loc (.t 9 0) 0 (W++[s]).length] false),(.t 8 0,.arr 1 (E sV V) false),(.t 9 0,.arr 1 (E sV (W++[s])) false),(.t 2 0,.var [.v (.slice none 0 0),.v (.slice none 0 0)] false)]⟩) ?_ fun a9 w9 S9 p9 qd=>RgL.nil ?_)
   ·simp -dsimp only[go_sem,qh,cTs]
    first|(simp[Vs.LeL,Vs.look,Vs.aB];done)
   have pA:Vs.Past Sq w1 S4 w4:=(py.trans p3).trans p4;have qv:Vs.Past Sq w1 S3 w3:=py.trans p3;have q8:(W.map slW).length=W.length:=List.length_map _;have qb:=hv.mono (w':=w4) (fun j b H G h=>h) fun j b H G=>pA.old b (O j b (by omega) G).1;have q4:=qb.snoc qq (fun j b H G e=>(hx b e).2.2 (qv.sub b (O j b (by omega) G).1));refine⟨U.length-(i+1),by omega,i+1,W++[s],S9,_,fun j=>if j=(W.map slW).length then x6 else ys j,fun j=>if j=(W.map slW).length then c6 else cs j,rfl,by omega,by simp[qn],(pz.trans pA).trans p9,qd,?_,fun j b H G=>?_⟩
   ·have e:((U.take (i+1)).map (E cT))=(U.take i).map (E cT)++[E cT U[i]]:=by rw[bJ J,List.map_append];rfl
    rw[e,List.map_append];refine q4.mono (fun j b H G h=>h) fun j b H G=>p9.old b ?_
    try dsimp only at G
    split at G
    ·exact(hx b G).1
    ·exact pA.sub b (O j b (by simp at H;omega) G).1
   ·try dsimp only at G
    split at G
    ·exact⟨p9.sub b (hx b G).1,(hx b G).2.1,fun h=>(hx b G).2.2 (qv.sub b (pz.sub b h))⟩
    ·have g:=O j b (by simp at H;omega) G;exact⟨p9.sub b (pA.sub b g.1),g.2⟩
  ·have qa:i=U.length:=by have:=of_decide_eq_false hf;omega
   subst qa;simp only[Exit.then,Exit.inBlock,if_true];refine At.seq (At.rg (qe.rgN I 2 (τ:=⟨[(2,.ptr (.t 2 0) 0 0)],[(.t 2 0,.var [.loc (.t 8 0) 0 V.length,.loc (.t 9 0) 0 W.length] false),(.t 8 0,.arr 1 (E sV V) false),(.t 9 0,.arr 1 (E sV W) false)]⟩) ?_ fun a5 w5 S5 p5 L=>RgL.nil ?_))
   ·simp -dsimp only[go_sem,cTs]
    first|(simp[Vs.LeL,Vs.look,Vs.aB];done)|(and_intros<;>first|omega|trivial|(simp[Vs.LeL,Vs.look,Vs.aB];done))
   obtain ⟨qx,u,ρ,κ,qr,q5,qm,ql,qj⟩:=L.resX (fn:=Tryz.f90) (x:=.agg [.loc (.t 8 0) 0 V.length,.loc (.t 9 0) 0 W.length]) (by
     show Vs.rR Tryz.prog _ _ [_]
     simp -dsimp only[go_sem,cTs]
     try simp[Vs.oJ])
   obtain⟨vs,rfl,qg,qs⟩:=gL q5;have qf:=qG (vs:=vs) qg;have r0:RV S5 w5 ρ κ _ (.loc (.t 8 0) 0 V.length) (vs.getD 0 undef):=qs 0 (by simp);have r1:RV S5 w5 ρ κ _ (.loc (.t 9 0) 0 W.length) (vs.getD 1 undef):=qs 1 (by simp);generalize vs.getD 0 undef=tv at r0 qf;generalize vs.getD 1 undef=sv at r1 qf;subst qf;have q1:(E sV V).length=V.length:=aI _;have q2:(E sV W).length=W.length:=aI _;have o0:=qm (.t 8 0) 1 (E sV V) tv rfl (fun r hr=>bQ r hr) (by rw[q1];exact r0);have o1:=qm (.t 9 0) 1 (E sV W) sv rfl (fun r hr=>bQ r hr) (by rw[q2];exact r1);have n0:=fun b=>ql (.t 8 0) b rfl;have n1:=fun b=>ql (.t 9 0) b rfl;have qu:Vs.Past Sx wx S5 w5:=(pz.trans py).trans p5;have qi:Vs.Past S2 w2 Sx wx:=px;have hy:∀j b,j<V.length→(M j).D b→S5 b∧Sx b:=fun j b H G=>⟨qu.sub b (qi.sub b (hd j b H G).1),qi.sub b (hd j b H G).1⟩;have h4:∀j b,j<W.length→ys j=some b→S5 b∧¬Sx b:=fun j b H G=>⟨p5.sub b (py.sub b (O j b H G).1),(O j b H G).2.2⟩;refine At.ret ⟨.inl rfl,qx,_,qr,tv,sv,rfl,qt ▸ L.out,⟨ρ (.t 8 0),κ (.t 8 0),V,M,ρ (.t 9 0),κ (.t 9 0),W,ys,cs⟩,⟨o0,h0.symm,fun j H=>?_,qk,fun j b H G e=>(n0 b e).2.2 (hy j b H G).1,o1,?_,fun j b H G e=>(n1 b e).2.2 (h4 j b H G).1,fun b h1 h2=>?_,fun b G=>?_⟩,fun b G=>?_⟩
   ·exact(qp j H).past (fun b G=>(hd j b H G).1) (qi.trans qu)
   ·show Vs.pM _ w5 2 (U.map (E cT)) (W.map slW) ys cs
    rw[List.take_length] at hv;exact hv.mono (fun j b H G h=>h) fun j b H G=>(py.trans p5).old b (O j b (by simpa using H) G).1
   ·rcases h1 with h1|⟨j,H,h1⟩<;>rcases h2 with h2|⟨k,hk,h2⟩
    ·have:=qj (.t 8 0) (.t 9 0) b rfl rfl h1 h2;cases this
    ·exact(n0 b h1).2.2 (h4 k b hk h2).1
    ·exact(n1 b h2).2.2 (hy j b H h1).1
    ·exact(h4 k b hk h2).2 (hy j b H h1).2
   ·rcases G with(G|⟨j,H,G⟩)|(G|⟨j,H,G⟩)
    ·exact(n0 b G).2.1
    ·exact L.dom b (hy j b H G).1
    ·exact(n1 b G).2.1
    ·exact L.dom b (h4 j b H G).1
   ·rw[←qt];rcases G with(G|⟨j,H,G⟩)|(G|⟨j,H,G⟩)
    ·exact(n0 b G).1
    ·exact(hd j b H G).2
    ·exact(n1 b G).1
    ·exact(O j b H G).2.1
end
section
variable [Vs.Envs]
attribute [local irreducible] Vs.Fn flt zR u7 chOK areCh chTo chAt l03 chB rk cd3 chI stp stpTo
end
end Go.Proofs.YtkgeiaideklmoaaGreat
