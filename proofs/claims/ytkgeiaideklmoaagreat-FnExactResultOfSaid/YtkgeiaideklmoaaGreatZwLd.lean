/- The law FnExactResultOf, joined. -/
import Derived.Test.YtkgeiaideklmoaaGreatZwMb
import Derived.Test.YtkgeiaideklmoaaGreatZwRe
import Derived.Test.YtkgeiaideklmoaaGreatZuM
import Derived.Test.YtkgeiaideklmoaaGreatVtR
import Derived.Test.YtkgeiaideklmoaaGreatVuN
set_option linter.all false
set_option maxHeartbeats 8000000
namespace Go.Proofs.YtkgeiaideklmoaaGreat
open Go.Vs
section
variable [Vs.Envs]
attribute [local irreducible] Vs.Fn mkD rQ rsC rsL rsW mtx fG chOK areCh chTo chAt l03 chB rk cd3 chI stp stpTo
theorem aD6 {l:List Int}{n:Int} (G:l.length<2 ^ 63) (F:0≤n) (H:n≤1048576) (h:0≤szI l n):szI l n≤n:=(aFn G F H h).1
def aF5 (l:List (List Int)):Prop:=l.length<2 ^ 63∧∀c,c∈l→c.length<2 ^ 63
def szDk (l:List (List Int)) (n:Int):Int:=szL szI l n
theorem aBD {l:List (List Int)} (F:aF5 l) {n:Int} (H:0≤n) (J:n≤1048576) (h:0≤szDk l n):aU l:=by
 refine⟨?_,fun c I=>?_⟩
 ·have:=(aH8 (fun x G _ a b c=>aD6 (F.2 x G) a b c) F.1 H J h).2;omega
 ·obtain⟨m,L,h2,M⟩:=aLk (fun x G _ a b c=>aD6 (F.2 x G) a b c) F.1 H J h c I;have:=(aFn (F.2 c I) L h2 M).2;omega
abbrev ACard:={l:List I64 // l.length<2 ^ 63}
abbrev aGd:={l:List ACard // l.length<2 ^ 63}
def gCards (d:aGd):List (List Int):=d.1.map fun c=>c.1.map fun n=>n.1
theorem gCards_big (d:aGd):aF5 (gCards d):=by
 refine⟨by simpa[gCards] using d.2,fun c F=>?_⟩;obtain⟨x,_,rfl⟩:=List.mem_map.1 F;simpa using x.2
theorem gCards_enc (d:aGd):E cC (gCards d)=d.1.map aJp:=by
 simp only[gCards,E_map];congr 1
 funext c
 simp only[cC,E_map];rfl
theorem xX {l:List Stp}:∀r,r∈E cS l→Vs.jQ r=true:=fun r F=>by
 obtain⟨x,_,rfl⟩:=List.mem_map.1 F;rfl
theorem eqTS (l:List Tot) (G:l.length≤1048576):Fz F.iN [.sl 2 (E cT l),.sl 2 (E cT l)] (.v (.bool true)):=aJk l G
theorem aGw {F:List Stp}{l:List (List Int)} (h:rsC F l=0):(rsL F l).length≤1048576:=by
 obtain⟨J,_,I⟩:=aK2 h;obtain⟨_,_,H⟩:=aIw I;have G:=(aDw F (O0 l) (aDd J)).1;exact(G.2.2.2.2 _ (by rw[H];exact List.mem_singleton.2 rfl)).1
attribute [local go_sem] List.length_nil in
theorem roA0 (C:Ctx) (F:List Stp) (l:List (List Int)) (H:∀x,x∈F→x.text.size<2 ^ 63) (G:F.length<2 ^ 63) (O:aF5 l) (he:rsC F l=0) :
  Vs.aCq Tryz.prog C (bE Tryz.prog) 8 Cd.lawResultOf (fun σ'=>LeL σ' ⟨[(0,.sl 9 (E cS F)),(1,.sl 1 (E cC l)),(6,.sl 2 (E cT (rsL F l))),(7,.v (.int .i64 0)),(8,.loc (.t 36 0) 0 F.length)],[(.t 36 0,.arr 9 (E cS F) false)]⟩∧(∀x,x∈F→x.text.size≤1048576)∧F.length≤1048576∧aU l) (fun e σ'=>match e with|.ret=>LeL σ' ⟨[(4,.v (.bool true))],[]⟩|.exit _=>False) ⟨ini 0 [.sl 9 (E cS F),.sl 1 (E cC l)],[]⟩:=by
 unfold Cd.lawResultOf;simp -dsimp only[go_sem];refine aD.flat (aGl F 1048576 H G (by omega)) rfl ?_;simp -dsimp only[go_sem];refine Br.mk (fun J=>by simp -dsimp only[go_sem];simp[Vs.LeL,Vs.look,Vs.aB]) (fun J=>?_);simp only[decide_eq_false_iff_not] at J;have Y:F.length≤1048576:=by have:=aDm G (by omega) J;omega
 have hz:∀x,x∈F→x.text.size≤1048576:=by
  intro x I;obtain⟨m,h2,L,h4⟩:=aGm (fun x I n U hn h=>vO (H x I) U hn h) G (by omega) J x I;have:=(aFm (H x I) h2 L h4).2;omega
 obtain⟨z1,m1⟩:=aH9 (fun x I n U hn h=>vO (H x I) U hn h) G (by omega) J;generalize szL aAW F 1048576=n1 at *
 simp -dsimp only[go_sem];refine aD.flat (aGo l n1 O.2 O.1 ⟨z1,m1⟩) rfl ?_;simp -dsimp only[go_sem];refine Br.mk (fun L=>by simp -dsimp only[go_sem];simp[Vs.LeL,Vs.look,Vs.aB]) (fun L=>?_);simp only[decide_eq_false_iff_not] at L;have M:=aBD O z1 m1 (by unfold szDk;omega);have SP:=yB F hz Y l M;rw[aK1 he,he] at SP
 repeat' first|simp -dsimp only[go_sem]|apply Br.mk<;>intro h<;>try simp -dsimp only[h]|refine aD.c (by first|exact xD l M.2 M.1|exact SP) ?_|refine aD.own (by first|exact aD3 F Y) rfl ?_|refine aC ?_|fail
 all_goals first|exact⟨by simp[Vs.LeL,Vs.look,Vs.aB],hz,Y,M⟩
theorem roC0 (C:Ctx) (F:List Stp) (l:List (List Int)) (hz:∀x,x∈F→x.text.size≤1048576) (O:F.length≤1048576) (I:aU l) (Y:rsC F l=0) (J L M H:Value) (k0:∀S w,Vs.Env S w→RC S w (.sl 9 (E cS F)) J) (k1:∀S w,Vs.Env S w→RC S w (.sl 1 (E cC l)) L) (k6:∀S w,Vs.Env S w→RC S w (.sl 2 (E cT (rsL F l))) M) (k9:∀S w,Vs.Env S w→RC S w (.sl 1 (E cC l)) H) :
  Vs.aCq Tryz.prog C (bE Tryz.prog) 6 (Vs.kP 9 Cd.lawResultOf) (fun σ'=>LeL σ' ⟨[(0,.v J),(1,.v L),(6,.v M),(7,.v (.int .i64 0)),(9,.v H),(10,.loc (.t 42 0) 0 (rsL F l).length),(11,.v (.int .i64 0)),(12,.v (.int .i64 (1+9*F.length:Nat)))],[(.t 36 0,.arr 9 (E cS (mkR (mS 1) F F.length)) false),(.t 42 0,.arr 2 (E cT (rsL F l)) false)]⟩∧True) (fun _ _=>False) ⟨[(0,.v J),(1,.v L),(6,.v M),(7,.v (.int .i64 0)),(8,.loc (.t 36 0) 0 F.length),(9,.v H)],[(.t 36 0,.arr 9 (E cS F) false)]⟩:=by
 have n0:(0 != 0)=false:=by simp
 have KC:=(xD l I.2 I.1).known (ys':=[.v L]) rfl (fun j G=>by match j,G with|0,_=>exact .inr ⟨_,rfl,k1⟩);have KS:=(aBg F O).known (ys':=[.v J]) rfl (fun j G=>by match j,G with|0,_=>exact .inr ⟨_,rfl,k0⟩);have KQ:=(aGS l I.2 I.1).known (ys':=[.v H,.sl 1 (E cC l)]) rfl (fun j G=>by match j,G with|0,_=>exact .inr ⟨_,rfl,k9⟩|1,_=>exact .inl rfl);have hT:=aGw Y;have U:∀b,some b∈[some (Blk.arr 2 (E cT (rsL F l)) false)]→Vs.iF b:=aJi (aDR (fun _=>rfl));have KI:=(aB3 F hz O l I Y).known (ys':=[.sl 9 (E cS F),.v H]) rfl (fun j G=>by match j,G with|0,_=>exact .inl rfl|1,_=>exact .inr ⟨_,rfl,k9⟩);have KT:=(eqTS (rsL F l) hT).known (ys':=[.sl 2 (E cT (rsL F l)),.v M]) rfl (fun j G=>by match j,G with|0,_=>exact .inl rfl|1,_=>exact .inr ⟨_,rfl,k6⟩);generalize rsL F l=T at *
 unfold Cd.lawResultOf;simp only[Vs.kP]
 repeat' first|simp -dsimp only[go_sem,List.length_nil,n0]|apply Br.mk<;>intro h<;>try simp -dsimp only[h]|refine aD.c (by first|exact KT|exact KQ|exact KS|exact KC|exact aGR F O) ?_|refine aD.lend (by first|exact KI) rfl U rfl ?_|refine aD.bor (by first|exact aCK F 1 O (by omega) (by omega)) rfl ?_|refine aC ?_|fail
 all_goals first|(simp[Vs.LeL,Vs.look,Vs.aB];done)|exact⟨by simp[Vs.LeL,Vs.look,Vs.aB],trivial⟩
theorem roE0 (C:Ctx) (F:List Stp) (l:List (List Int)) (hz:∀x,x∈F→x.text.size≤1048576) (hl:F.length≤1048576) (U:aU l) (O:rsC F l=0) (H I J:Value) (m:Nat) (k0:∀S w,Vs.Env S w→RC S w (.sl 9 (E cS F)) H) (k1:∀S w,Vs.Env S w→RC S w (.sl 1 (E cC l)) I) (k6:∀S w,Vs.Env S w→RC S w (.sl 2 (E cT (rsL F l))) J) :
  wpc Tryz.prog C (bE Tryz.prog) (Vs.kP 16 Cd.lawResultOf) (fun _=>False) (fun e σ'=>match e with|.ret=>LeL σ' ⟨[(4,.v (.bool true))],[]⟩|.exit _=>False) ⟨[(0,.v H),(1,.v I),(6,.v J),(7,.v (.int .i64 0)),(10,.loc (.t 42 0) 0 (rsL F l).length),(11,.v (.int .i64 0)),(12,.v (.int .i64 (m:Nat)))],[(.t 42 0,.arr 2 (E cT (rsL F l)) false)]⟩:=by
 have n0:(0 != 0)=false:=by simp
 have hm:decide ((m:Int)<0)=false:=decide_eq_false (by omega);have hI:=sJ F hz hl l U;rw[aK1 O,O] at hI;have KC:=(xD l U.2 U.1).known (ys':=[.v I]) rfl (fun j G=>by match j,G with|0,_=>exact .inr ⟨_,rfl,k1⟩);have KS:=(aBg F hl).known (ys':=[.v H]) rfl (fun j G=>by match j,G with|0,_=>exact .inr ⟨_,rfl,k0⟩);have L:=aGw O;have KT:=(eqTS (rsL F l) L).known (ys':=[.sl 2 (E cT (rsL F l)),.v J]) rfl (fun j G=>by match j,G with|0,_=>exact .inl rfl|1,_=>exact .inr ⟨_,rfl,k6⟩);generalize rsL F l=T at *
 have Y:decide (((1+2*T.length:Nat):Int)<0)=false:=decide_eq_false (by omega);have ha:(((1+2*T.length:Nat):Int) != ((1+2*T.length:Nat):Int))=false:=by simp
 have M:List.take T.length (E cTt (mkR (mT 1) T T.length))=E cTt (mkR (mT 1) T T.length):=List.take_of_length_le (by rw[aI,gU _ _ (Nat.le_refl _)];exact Nat.le_refl _);unfold Cd.lawResultOf;simp only[Vs.kP]
 repeat' first|simp -dsimp only[go_sem,List.length_nil,n0,aJM,aI,List.drop_zero,M,hm,Y,ha]|apply Br.mk<;>intro h<;>try simp -dsimp only[h]|refine aD.c (by first|exact KT|exact KS|exact KC|exact hI|exact aFQ T 1 L (by omega) (by omega)) ?_|refine aD.bor (by first|exact aFE T 1 L (by omega) (by omega)) rfl ?_|refine aC ?_|fail
 all_goals first|(simp[Vs.LeL,Vs.look,Vs.aB];done)
attribute [local go_sem] List.length_nil in
theorem roA1 (C:Ctx) (F:List Stp) (l:List (List Int)) (H:∀x,x∈F→x.text.size<2 ^ 63) (G:F.length<2 ^ 63) (O:aF5 l) (he:rsC F l≠0) :
  Vs.aCq Tryz.prog C (bE Tryz.prog) 8 Cd.lawResultOf (fun σ'=>LeL σ' ⟨[(0,.sl 9 (E cS F)),(1,.sl 1 (E cC l)),(6,.v (.slice none 0 0)),(7,.v (.int .i64 (rsC F l))),(8,.loc (.t 36 0) 0 F.length)],[(.t 36 0,.arr 9 (E cS F) false)]⟩∧(∀x,x∈F→x.text.size≤1048576)∧F.length≤1048576∧aU l) (fun e σ'=>match e with|.ret=>LeL σ' ⟨[(4,.v (.bool true))],[]⟩|.exit _=>False) ⟨ini 0 [.sl 9 (E cS F),.sl 1 (E cC l)],[]⟩:=by
 unfold Cd.lawResultOf;simp -dsimp only[go_sem];refine aD.flat (aGl F 1048576 H G (by omega)) rfl ?_;simp -dsimp only[go_sem];refine Br.mk (fun J=>by simp -dsimp only[go_sem];simp[Vs.LeL,Vs.look,Vs.aB]) (fun J=>?_);simp only[decide_eq_false_iff_not] at J;have Y:F.length≤1048576:=by have:=aDm G (by omega) J;omega
 have hz:∀x,x∈F→x.text.size≤1048576:=by
  intro x I;obtain⟨m,h2,L,h4⟩:=aGm (fun x I n U hn h=>vO (H x I) U hn h) G (by omega) J x I;have:=(aFm (H x I) h2 L h4).2;omega
 obtain⟨z1,m1⟩:=aH9 (fun x I n U hn h=>vO (H x I) U hn h) G (by omega) J;generalize szL aAW F 1048576=n1 at *
 simp -dsimp only[go_sem];refine aD.flat (aGo l n1 O.2 O.1 ⟨z1,m1⟩) rfl ?_;simp -dsimp only[go_sem];refine Br.mk (fun L=>by simp -dsimp only[go_sem];simp[Vs.LeL,Vs.look,Vs.aB]) (fun L=>?_);simp only[decide_eq_false_iff_not] at L;have M:=aBD O z1 m1 (by unfold szDk;omega);have SP:=yB F hz Y l M;rw[aIv he] at SP
 repeat' first|simp -dsimp only[go_sem]|apply Br.mk<;>intro h<;>try simp -dsimp only[h]|refine aD.c (by first|exact xD l M.2 M.1|exact SP) ?_|refine aD.own (by first|exact aD3 F Y) rfl ?_|refine aC ?_|fail
 all_goals first|exact⟨by simp[Vs.LeL,Vs.look,Vs.aB],hz,Y,M⟩
theorem roC1 (C:Ctx) (F:List Stp) (l:List (List Int)) (hz:∀x,x∈F→x.text.size≤1048576) (O:F.length≤1048576) (J:aU l) (he:rsC F l≠0) (L M I:Value) (k0:∀S w,Vs.Env S w→RC S w (.sl 9 (E cS F)) L) (k1:∀S w,Vs.Env S w→RC S w (.sl 1 (E cC l)) M)  (U:∀S w,Vs.Env S w→RC S w (.sl 1 (E cC l)) I) :
  Vs.aCq Tryz.prog C (bE Tryz.prog) 6 (Vs.kP 9 Cd.lawResultOf) (fun σ'=>LeL σ' ⟨[(0,.v L),(1,.v M),(6,.v (.slice none 0 0)),(7,.v (.int .i64 (rsC F l))),(9,.v I),(10,.v (.slice none 0 0)),(11,.v (.int .i64 (rsC F l))),(12,.v (.int .i64 (1+9*F.length:Nat)))],[(.t 36 0,.arr 9 (E cS (mkR (mS 1) F F.length)) false)]⟩∧True) (fun _ _=>False) ⟨[(0,.v L),(1,.v M),(6,.v (.slice none 0 0)),(7,.v (.int .i64 (rsC F l))),(8,.loc (.t 36 0) 0 F.length),(9,.v I)],[(.t 36 0,.arr 9 (E cS F) false)]⟩:=by
 have n0:((rsC F l) != (rsC F l))=false:=by simp
 have Y:=(xD l J.2 J.1).known (ys':=[.v M]) rfl (fun j G=>by match j,G with|0,_=>exact .inr ⟨_,rfl,k1⟩);have KS:=(aBg F O).known (ys':=[.v L]) rfl (fun j G=>by match j,G with|0,_=>exact .inr ⟨_,rfl,k0⟩);have KQ:=(aGS l J.2 J.1).known (ys':=[.v I,.sl 1 (E cC l)]) rfl (fun j G=>by match j,G with|0,_=>exact .inr ⟨_,rfl,U⟩|1,_=>exact .inl rfl);have H:=sJ F hz O l J;rw[aIv he] at H;have KI:=(H).known (ys':=[.sl 9 (E cS F),.v I]) rfl (fun j G=>by match j,G with|0,_=>exact .inl rfl|1,_=>exact .inr ⟨_,rfl,U⟩);generalize rsC F l=c at *
 unfold Cd.lawResultOf;simp only[Vs.kP]
 repeat' first|simp -dsimp only[go_sem,List.length_nil,n0]|apply Br.mk<;>intro h<;>try simp -dsimp only[h]|refine aD.c (by first|exact KI|exact KQ|exact KS|exact Y|exact aGR F O|exact aFW) ?_|refine aD.bor (by first|exact aCK F 1 O (by omega) (by omega)) rfl ?_|refine aC ?_|refine aD.flat (B:=[]) (by first|exact aFW) rfl ?_|fail
 all_goals first|(simp[Vs.LeL,Vs.look,Vs.aB];done)|exact⟨by simp[Vs.LeL,Vs.look,Vs.aB],trivial⟩
theorem roE1 (C:Ctx) (F:List Stp) (l:List (List Int)) (hz:∀x,x∈F→x.text.size≤1048576) (U:F.length≤1048576) (J:aU l) (he:rsC F l≠0) (G H:Value) (m:Nat) (k0:∀S w,Vs.Env S w→RC S w (.sl 9 (E cS F)) G) (k1:∀S w,Vs.Env S w→RC S w (.sl 1 (E cC l)) H)  :
  wpc Tryz.prog C (bE Tryz.prog) (Vs.kP 16 Cd.lawResultOf) (fun _=>False) (fun e σ'=>match e with|.ret=>LeL σ' ⟨[(4,.v (.bool true))],[]⟩|.exit _=>False) ⟨[(0,.v G),(1,.v H),(6,.v (.slice none 0 0)),(7,.v (.int .i64 (rsC F l))),(10,.v (.slice none 0 0)),(11,.v (.int .i64 (rsC F l))),(12,.v (.int .i64 (m:Nat)))],[]⟩:=by
 have n0:((rsC F l) != (rsC F l))=false:=by simp
 have hm:decide ((m:Int)<0)=false:=decide_eq_false (by omega);have O:=sJ F hz U l J;rw[aIv he] at O;have Y:=(xD l J.2 J.1).known (ys':=[.v H]) rfl (fun j I=>by match j,I with|0,_=>exact .inr ⟨_,rfl,k1⟩);have KS:=(aBg F U).known (ys':=[.v G]) rfl (fun j I=>by match j,I with|0,_=>exact .inr ⟨_,rfl,k0⟩);have L:((1:Int) != 1)=false:=rfl;have M:decide ((1:Int)<0)=false:=rfl;generalize rsC F l=c at *
 unfold Cd.lawResultOf;simp only[Vs.kP]
 repeat' first|simp -dsimp only[go_sem,List.length_nil,n0,hm,L,M]|apply Br.mk<;>intro h<;>try simp -dsimp only[h]|refine aD.c (by first|exact KS|exact Y|exact O) ?_|refine aC ?_|refine aD.flat (B:=[]) (by first|exact aFW|exact aIW _|exact aJa _) rfl ?_|fail
 all_goals first|(simp[Vs.LeL,Vs.look,Vs.aB];done)
end
section
variable [Vs.Envs]
attribute [local irreducible] Vs.Fn mkD rQ rsC rsL rsW mtx fG chOK areCh chTo chAt l03 chB rk cd3 chI stp stpTo
attribute [local go_sem] List.length_nil in
theorem aKo (G:List Stp) (l:List (List Int)) (qn:∀x,x∈G→x.text.size<2 ^ 63) (qk:G.length<2 ^ 63) (gb:aF5 l) (he:rsC G l=0):Fz F.lawResultOf [.sl 9 (E cS G),.sl 1 (E cC l)] (.v (.bool true)):=by
 refine Vs.Fn.of_calls (Vs.bX.has Cd.lawResultOf_k.o) (by intro y hy;simp only[List.mem_cons,List.not_mem_nil,or_false] at hy;rcases hy with rfl|rfl<;>rfl) rfl fun S w vs hS qh qo ht=>?_;obtain⟨h1,h2,_⟩:=Cd.lawResultOf_k.o;obtain⟨qt,H,hc⟩:=Option.bind_eq_some_iff.1 h2;have qa:(Tryz.f3.body.map (zB Tryz.f3.ntmps (bE Tryz.prog)))=some true:=by kernel_rfl
 rw[H] at qa;refine Vs.Pt.calls (dr:=bE Tryz.prog) (ac:=Cd.lawResultOf) h1 H hc (by simpa using qa) (args:=[.sl 9 (E cS G),.sl 1 (E cC l)]) (by rw[Cd.lawResultOf_k.n];exact Nat.le_of_ble_eq_true rfl) hS qh qo ht fun C1 a J qp qf hp=>?_;have hM:=hp.nomut;subst qp;have MK:=fun(k0:Nat) (qj:k0≤2 ^ 60) (l:List (List Int)) (hk:aU l) (S:Nat→Prop) (w:World) (v:Value) (m:Vs.Mem) hS he hno hd=>zY (S:=S) (w:=w) (v:=v) (l:=l) (m:=m) k0 qj hk hS he hno hd;refine hp.go dM J 8 _ (τ:=⟨[(0,.sl 9 (E cS G)),(1,.sl 1 (E cC l)),(6,.sl 2 (E cT (rsL G l))),(7,.v (.int .i64 0)),(8,.loc (.t 36 0) 0 G.length)],[(.t 36 0,.arr 9 (E cS G) false)]⟩) (E:=(fun e σ'=>match e with|.ret=>LeL σ' ⟨[(4,.v (.bool true))],[]⟩|.exit _=>False)) (fvC ⟨xX,rfl⟩ fvN) (fun C hC=>roA0 C G l qn qk gb he) (fun i σ h=>h) (fun C a w hl hg=>⟨.inl rfl,Vs.aBp hl hM Cd.lawResultOf_k.r hg⟩) fun aA Y L pA U hX=>?_;obtain⟨hz,hl,hk⟩:=hX;have qi:=U.env;have h5:=U.dom;have EM:=fun(w':World) (h:∀b,L b→w'.heap[b]? = Y.heap[b]?)=>qi.mono (fun _ h=>h) h;have r0:RC L Y (.sl 9 (E cS G)) (aA.tmps.getD 0 undef):=U.val (t:=0) rfl;have r1:RC L Y (.sl 1 (E cC l)) (aA.tmps.getD 1 undef):=U.val (t:=1) rfl;have r6:RC L Y (.sl 2 (E cT (rsL G l))) (aA.tmps.getD 6 undef):=U.val (t:=6) rfl
 have hu:∃a0 O a6,a0=aA.tmps.getD 0 undef∧O=aA.tmps.getD 1 undef∧a6=aA.tmps.getD 6 undef∧Pt (Vs.keepE L Y) C1 (⟨[(0,.v a0),(1,.v O),(6,.v a6),(7,.v (.int .i64 0)),(8,.loc (.t 36 0) 0 G.length)],[(.t 36 0,.arr 9 (E cS G) false)]⟩:St) aA Y L:=
  ⟨_,_,_,rfl,rfl,rfl,U.set [(0,.v (aA.tmps.getD 0 undef)),(1,.v (aA.tmps.getD 1 undef)),(6,.v (aA.tmps.getD 6 undef)),(7,.v (.int .i64 0)),(8,.loc (.t 36 0) 0 G.length)] (fvC (.inr (.v _)) (fvC (.inr (.v _)) (fvC (.inr (.v _)) (fvC (.inl ⟨rfl,rfl⟩) (fvC (.inl ⟨rfl,rfl⟩) fvN)))))⟩
 obtain⟨a0,O,a6,e0,e1,e6,hu⟩:=hu;rw[←e0] at r0;rw[←e1] at r1;rw[←e6] at r6
 letI IS:=Vs.keepE L Y
 show Vs.At Tryz.prog Tryz.f3.ntmps (bE Tryz.prog) (.seq _ (Vs.kP 9 Cd.lawResultOf)) _ aA Y
 refine At.seq (At.rg (hu.rgN J 1 (τ:=⟨[(37,.v O),(0,.v a0),(1,.v O),(6,.v a6),(7,.v (.int .i64 0)),(8,.loc (.t 36 0) 0 G.length)],[(.t 36 0,.arr 9 (E cS G) false)]⟩) ?_ fun a2 w2 S2 p2 ha=>ha.rgc J (ts:=[37]) (ys:=[.v O]) (Vs.bX.has Cd.l_toCardS_k.o) rfl rfl fun us hv hr=>?_))
 ·simp -dsimp only[go_sem];simp[Vs.LeL,Vs.look,Vs.aB]
 obtain rfl:=Vs.us1 hv (Vs.aFy (hr 0 Nat.zero_lt_one));have hn:Vs.Past L Y S2 w2:=p2;refine(aBC l hk ha.dom ha.env (hn.rcS r1)).mono ?_;rintro e w3 ⟨v1,rfl,hg1,m1,hd1,hn1⟩;refine⟨v1,rfl,?_⟩
 have hf:=(ha.grow hg1 (D:=m1.D) (fun b H=>⟨hn1 b H,hd1.lt b H⟩) [(0,.v a0),(1,.v O),(6,.v a6),(7,.v (.int .i64 0)),(8,.loc (.t 36 0) 0 G.length)] (fun p hp=>by
     simp only[List.mem_cons,List.not_mem_nil,or_false] at hp;rcases hp with rfl|rfl|rfl|rfl|rfl<;>exact⟨rfl,.inl rfl⟩)).put (d:=38) (by rw[J,Cd.lawResultOf_k.n];omega) v1
 have ho:Vs.Past L Y (fun b=>S2 b∨m1.D b) w3:=hn.trans (Vs.Past.grow hg1 ha.dom)
 letI I3:=Vs.keepE (fun b=>S2 b∨m1.D b) w3
 refine hf.rgN J 1 (τ:=⟨[(9,.v v1),(0,.v a0),(1,.v O),(6,.v a6),(7,.v (.int .i64 0)),(8,.loc (.t 36 0) 0 G.length)],[(.t 36 0,.arr 9 (E cS G) false)]⟩) ?_ fun a4 w4 S4 p4 ql=>RgL.nil ?_
 ·simp -dsimp only[go_sem];simp[Vs.LeL,Vs.look,Vs.aB]
 have qq:Vs.Past L Y S4 w4:=ho.trans p4;have qb:∀b,m1.D b→S4 b:=fun b H=>p4.sub b (.inr H);have h0:Vs.Dk w4 (l.map (E cI)) v1 m1:=hd1.past (fun b H=>.inr H) p4;have qd:∀b,m1.D b→¬L b:=fun b H hs=>by have:=hn1 b H;have:=h5 b hs;have:=hn.size;omega
 show Vs.At Tryz.prog Tryz.f3.ntmps (bE Tryz.prog) (Vs.kP 9 Cd.lawResultOf) _ a4 w4
 refine(ql.le (τ:=⟨[(0,.v a0),(1,.v O),(6,.v a6),(7,.v (.int .i64 0)),(8,.loc (.t 36 0) 0 G.length),(9,.v v1)],[(.t 36 0,.arr 9 (E cS G) false)]⟩) (by simp[Vs.LeL,Vs.look,Vs.aB]) (fvC ⟨xX,rfl⟩ fvN)).go dM J 6 _ (τ:=⟨[(0,.v a0),(1,.v O),(6,.v a6),(7,.v (.int .i64 0)),(9,.v v1),(10,.loc (.t 42 0) 0 (rsL G l).length),(11,.v (.int .i64 0)),(12,.v (.int .i64 (1+9*G.length:Nat)))],[(.t 36 0,.arr 9 (E cS (mkR (mS 1) G G.length)) false),(.t 42 0,.arr 2 (E cT (rsL G l)) false)]⟩) (X:=True) (E:=fun _ _=>False) (fvC ⟨xX,rfl⟩ (fvC ⟨aBy,rfl⟩ fvN)) (fun C hC=>(roC0 C G l hz hl hk he a0 O a6 v1 (fun S' w' I=>Vs.dG hf.dom I (ho.rcS r0)) (fun S' w' I=>Vs.dG hf.dom I (ho.rcS r1)) (fun S' w' I=>Vs.dG hf.dom I (ho.rcS r6)) (fun S' w' I=>Vs.dG hf.dom I (by rw[←aGW];exact hd1.rd.mono (fun b H=>.inr H) fun _ _=>rfl)))) (fun i σ h=>h) (fun C a w hl hg=>hg.no.elim) fun a8 w8 S8 p8 qm _=>?_;have qr:Vs.Past L Y S8 w8:=qq.trans p8;have qc:∀b,m1.D b→S8 b:=fun b H=>p8.sub b (qb b H);have h3:Vs.Dk w8 (l.map (E cI)) v1 m1:=h0.past qb p8;have qg:∀b,C1.S0 b→L b:=fun b H=>by rw[qf] at H;exact pA.sub b H
 show Vs.At Tryz.prog Tryz.f3.ntmps (bE Tryz.prog) (.seq _ (Vs.kP 16 Cd.lawResultOf)) _ a8 w8
 refine At.seq (At.rg (qm.rgN J 2 (τ:=⟨[(67,.v v1),(68,.v (.int .i64 (1+9*G.length:Nat))),(0,.v a0),(1,.v O),(6,.v a6),(7,.v (.int .i64 0)),(10,.loc (.t 42 0) 0 (rsL G l).length),(11,.v (.int .i64 0))],[(.t 36 0,.arr 9 (E cS (mkR (mS 1) G G.length)) false),(.t 42 0,.arr 2 (E cT (rsL G l)) false)]⟩) ?_ fun a9 w9 S9 p9 hm=>hm.rgc J (ts:=[67,68]) (ys:=[.v v1,.v (.int .i64 (1+9*G.length:Nat))]) (Vs.bX.has Cd.l_markCardS_k.o) rfl rfl fun us hv hr=>?_))
 ·simp -dsimp only[go_sem];simp[Vs.LeL,Vs.look,Vs.aB]
 obtain rfl:=Vs.us2 hv (Vs.aFy (hr 0 (by show 0<2;omega))) (Vs.aFy (hr 1 (by show 1<2;omega)));have hq:Vs.Past L Y S9 w9:=qr.trans p9;have h4:Vs.Dk w9 (l.map (E cI)) v1 m1:=h3.past qc p9;have h6:∀b,L b→b<w9.heap.size:=fun b H=>Nat.lt_of_lt_of_le (h5 b H) hq.size;refine(MK (1+9*G.length) (by omega) l hk L w9 v1 m1 h6 (EM _ hq.old) qd h4).mono ?_;rintro e hw ⟨rfl,q1,q2,q3,_⟩;refine⟨_,rfl,?_⟩;have h7:∀b,m1.D b→C1.w0.heap.size≤b∧S9 b:=fun b H=>⟨by have:=hn1 b H;have:=hn.size;have:=U.size;omega,p9.sub b (qc b H)⟩;have hx:∀b,L b→S9 b:=fun b H=>hq.sub b H
 have h8:=(hm.marked q1 q2 q3 h7 (K:=L) hx qg [(0,.v a0),(1,.v O),(6,.v a6),(7,.v (.int .i64 0)),(10,.loc (.t 42 0) 0 (rsL G l).length),(11,.v (.int .i64 0))] (fun p hp=>by
     simp only[List.mem_cons,List.not_mem_nil,or_false] at hp;rcases hp with rfl|rfl|rfl|rfl|rfl|rfl<;>exact⟨rfl,rfl⟩)).put (d:=69) (by rw[J,Cd.lawResultOf_k.n];omega) (.int .i64 (1+9*G.length+rQ l:Nat))
 have hj:Vs.Past L Y L hw:=hq.mark hm.dom q1 q2 qd fun _ h=>h;have M:∀b,L b→b<hw.heap.size:=fun b H=>Nat.lt_of_lt_of_le (hm.dom b (hx b H)) q1
 letI qu:=Vs.keepE L hw
 refine h8.rgN J 1 (τ:=⟨[(0,.v a0),(1,.v O),(6,.v a6),(7,.v (.int .i64 0)),(10,.loc (.t 42 0) 0 (rsL G l).length),(11,.v (.int .i64 0)),(12,.v (.int .i64 (1+9*G.length+rQ l:Nat)))],[(.t 42 0,.arr 2 (E cT (rsL G l)) false)]⟩) ?_ fun qe qs qv qw h9=>RgL.nil ?_
 ·simp -dsimp only[go_sem];simp[Vs.LeL,Vs.look,Vs.aB]
 show Vs.At Tryz.prog Tryz.f3.ntmps (bE Tryz.prog) (Vs.kP 16 Cd.lawResultOf) _ qe qs
 exact h9.fin dM J (fun C hC=>roE0 C G l hz hl hk he a0 O a6 _ (fun S' w' I=>Vs.dG M I (hj.rcS r0)) (fun S' w' I=>Vs.dG M I (hj.rcS r1)) (fun S' w' I=>Vs.dG M I (hj.rcS r6))) (fun i σ h=>h) (fun C a w hl hg=>⟨.inl rfl,Vs.aBp hl hM Cd.lawResultOf_k.r hg⟩)
attribute [local go_sem] List.length_nil in
theorem aKn (G:List Stp) (l:List (List Int)) (qn:∀x,x∈G→x.text.size<2 ^ 63) (qk:G.length<2 ^ 63) (gb:aF5 l) (he:rsC G l≠0):Fz F.lawResultOf [.sl 9 (E cS G),.sl 1 (E cC l)] (.v (.bool true)):=by
 refine Vs.Fn.of_calls (Vs.bX.has Cd.lawResultOf_k.o) (by intro y hy;simp only[List.mem_cons,List.not_mem_nil,or_false] at hy;rcases hy with rfl|rfl<;>rfl) rfl fun S w vs hS qh qo hq=>?_;obtain⟨h1,h2,_⟩:=Cd.lawResultOf_k.o;obtain⟨qt,H,hc⟩:=Option.bind_eq_some_iff.1 h2;have qa:(Tryz.f3.body.map (zB Tryz.f3.ntmps (bE Tryz.prog)))=some true:=by kernel_rfl
 rw[H] at qa;refine Vs.Pt.calls (dr:=bE Tryz.prog) (ac:=Cd.lawResultOf) h1 H hc (by simpa using qa) (args:=[.sl 9 (E cS G),.sl 1 (E cC l)]) (by rw[Cd.lawResultOf_k.n];exact Nat.le_of_ble_eq_true rfl) hS qh qo hq fun C1 a I qp qf hp=>?_;have hM:=hp.nomut;subst qp;have MK:=fun(k0:Nat) (qj:k0≤2 ^ 60) (l:List (List Int)) (hk:aU l) (S:Nat→Prop) (w:World) (v:Value) (m:Vs.Mem) hS he hno hd=>zY (S:=S) (w:=w) (v:=v) (l:=l) (m:=m) k0 qj hk hS he hno hd;refine hp.go dM I 8 _ (τ:=⟨[(0,.sl 9 (E cS G)),(1,.sl 1 (E cC l)),(6,.v (.slice none 0 0)),(7,.v (.int .i64 (rsC G l))),(8,.loc (.t 36 0) 0 G.length)],[(.t 36 0,.arr 9 (E cS G) false)]⟩) (E:=(fun e σ'=>match e with|.ret=>LeL σ' ⟨[(4,.v (.bool true))],[]⟩|.exit _=>False)) (fvC ⟨xX,rfl⟩ fvN) (fun C hC=>roA1 C G l qn qk gb he) (fun i σ h=>h) (fun C a w hl hg=>⟨.inl rfl,Vs.aBp hl hM Cd.lawResultOf_k.r hg⟩) fun aA wA J pA Y hX=>?_;obtain⟨hz,hl,hk⟩:=hX;have qi:=Y.env;have h5:=Y.dom;have EM:=fun(w':World) (h:∀b,J b→w'.heap[b]? = wA.heap[b]?)=>qi.mono (fun _ h=>h) h;have r0:RC J wA (.sl 9 (E cS G)) (aA.tmps.getD 0 undef):=Y.val (t:=0) rfl;have r1:RC J wA (.sl 1 (E cC l)) (aA.tmps.getD 1 undef):=Y.val (t:=1) rfl
 have ht:∃U M,U=aA.tmps.getD 0 undef∧M=aA.tmps.getD 1 undef∧Pt (Vs.keepE J wA) C1 (⟨[(0,.v U),(1,.v M),(6,.v (.slice none 0 0)),(7,.v (.int .i64 (rsC G l))),(8,.loc (.t 36 0) 0 G.length)],[(.t 36 0,.arr 9 (E cS G) false)]⟩:St) aA wA J:=
  ⟨_,_,rfl,rfl,Y.set [(0,.v (aA.tmps.getD 0 undef)),(1,.v (aA.tmps.getD 1 undef)),(6,.v (.slice none 0 0)),(7,.v (.int .i64 (rsC G l))),(8,.loc (.t 36 0) 0 G.length)] (fvC (.inr (.v _)) (fvC (.inr (.v _)) (fvC (.inl ⟨rfl,rfl⟩) (fvC (.inl ⟨rfl,rfl⟩) (fvC (.inl ⟨rfl,rfl⟩) fvN)))))⟩
 obtain⟨U,M,e0,e1,ht⟩:=ht;rw[←e0] at r0;rw[←e1] at r1
 letI IS:=Vs.keepE J wA
 show Vs.At Tryz.prog Tryz.f3.ntmps (bE Tryz.prog) (.seq _ (Vs.kP 9 Cd.lawResultOf)) _ aA wA
 refine At.seq (At.rg (ht.rgN I 1 (τ:=⟨[(37,.v M),(0,.v U),(1,.v M),(6,.v (.slice none 0 0)),(7,.v (.int .i64 (rsC G l))),(8,.loc (.t 36 0) 0 G.length)],[(.t 36 0,.arr 9 (E cS G) false)]⟩) ?_ fun a2 w2 S2 p2 ha=>ha.rgc I (ts:=[37]) (ys:=[.v M]) (Vs.bX.has Cd.l_toCardS_k.o) rfl rfl fun us hu hr=>?_))
 ·simp -dsimp only[go_sem];simp[Vs.LeL,Vs.look,Vs.aB]
 obtain rfl:=Vs.us1 hu (Vs.aFy (hr 0 Nat.zero_lt_one));have hm:Vs.Past J wA S2 w2:=p2;refine(aBC l hk ha.dom ha.env (hm.rcS r1)).mono ?_;rintro e w3 ⟨v1,rfl,hg1,m1,hd1,hn1⟩;refine⟨v1,rfl,?_⟩
 have hf:=(ha.grow hg1 (D:=m1.D) (fun b H=>⟨hn1 b H,hd1.lt b H⟩) [(0,.v U),(1,.v M),(6,.v (.slice none 0 0)),(7,.v (.int .i64 (rsC G l))),(8,.loc (.t 36 0) 0 G.length)] (fun p hp=>by
     simp only[List.mem_cons,List.not_mem_nil,or_false] at hp;rcases hp with rfl|rfl|rfl|rfl|rfl<;>exact⟨rfl,.inl rfl⟩)).put (d:=38) (by rw[I,Cd.lawResultOf_k.n];omega) v1
 have hv:Vs.Past J wA (fun b=>S2 b∨m1.D b) w3:=hm.trans (Vs.Past.grow hg1 ha.dom)
 letI I3:=Vs.keepE (fun b=>S2 b∨m1.D b) w3
 refine hf.rgN I 1 (τ:=⟨[(9,.v v1),(0,.v U),(1,.v M),(6,.v (.slice none 0 0)),(7,.v (.int .i64 (rsC G l))),(8,.loc (.t 36 0) 0 G.length)],[(.t 36 0,.arr 9 (E cS G) false)]⟩) ?_ fun a4 w4 S4 p4 ql=>RgL.nil ?_
 ·simp -dsimp only[go_sem];simp[Vs.LeL,Vs.look,Vs.aB]
 have qq:Vs.Past J wA S4 w4:=hv.trans p4;have qb:∀b,m1.D b→S4 b:=fun b H=>p4.sub b (.inr H);have h0:Vs.Dk w4 (l.map (E cI)) v1 m1:=hd1.past (fun b H=>.inr H) p4;have qd:∀b,m1.D b→¬J b:=fun b H hs=>by have:=hn1 b H;have:=h5 b hs;have:=hm.size;omega
 show Vs.At Tryz.prog Tryz.f3.ntmps (bE Tryz.prog) (Vs.kP 9 Cd.lawResultOf) _ a4 w4
 refine(ql.le (τ:=⟨[(0,.v U),(1,.v M),(6,.v (.slice none 0 0)),(7,.v (.int .i64 (rsC G l))),(8,.loc (.t 36 0) 0 G.length),(9,.v v1)],[(.t 36 0,.arr 9 (E cS G) false)]⟩) (by simp[Vs.LeL,Vs.look,Vs.aB]) (fvC ⟨xX,rfl⟩ fvN)).go dM I 6 _ (τ:=⟨[(0,.v U),(1,.v M),(6,.v (.slice none 0 0)),(7,.v (.int .i64 (rsC G l))),(9,.v v1),(10,.v (.slice none 0 0)),(11,.v (.int .i64 (rsC G l))),(12,.v (.int .i64 (1+9*G.length:Nat)))],[(.t 36 0,.arr 9 (E cS (mkR (mS 1) G G.length)) false)]⟩) (X:=True) (E:=fun _ _=>False) (fvC ⟨xX,rfl⟩ fvN) (fun C hC=>(roC1 C G l hz hl hk he U M v1 (fun S' w' L=>Vs.dG hf.dom L (hv.rcS r0)) (fun S' w' L=>Vs.dG hf.dom L (hv.rcS r1)) (fun S' w' L=>Vs.dG hf.dom L (by rw[←aGW];exact hd1.rd.mono (fun b H=>.inr H) fun _ _=>rfl)))) (fun i σ h=>h) (fun C a w hl hg=>hg.no.elim) fun a8 w8 S8 p8 qm _=>?_;have qr:Vs.Past J wA S8 w8:=qq.trans p8;have qc:∀b,m1.D b→S8 b:=fun b H=>p8.sub b (qb b H);have h3:Vs.Dk w8 (l.map (E cI)) v1 m1:=h0.past qb p8;have qg:∀b,C1.S0 b→J b:=fun b H=>by rw[qf] at H;exact pA.sub b H
 show Vs.At Tryz.prog Tryz.f3.ntmps (bE Tryz.prog) (.seq _ (Vs.kP 16 Cd.lawResultOf)) _ a8 w8
 refine At.seq (At.rg (qm.rgN I 2 (τ:=⟨[(67,.v v1),(68,.v (.int .i64 (1+9*G.length:Nat))),(0,.v U),(1,.v M),(6,.v (.slice none 0 0)),(7,.v (.int .i64 (rsC G l))),(10,.v (.slice none 0 0)),(11,.v (.int .i64 (rsC G l)))],[(.t 36 0,.arr 9 (E cS (mkR (mS 1) G G.length)) false)]⟩) ?_ fun a9 w9 S9 p9 hj=>hj.rgc I (ts:=[67,68]) (ys:=[.v v1,.v (.int .i64 (1+9*G.length:Nat))]) (Vs.bX.has Cd.l_markCardS_k.o) rfl rfl fun us hu hr=>?_))
 ·simp -dsimp only[go_sem];simp[Vs.LeL,Vs.look,Vs.aB]
 obtain rfl:=Vs.us2 hu (Vs.aFy (hr 0 (by show 0<2;omega))) (Vs.aFy (hr 1 (by show 1<2;omega)));have hn:Vs.Past J wA S9 w9:=qr.trans p9;have h4:Vs.Dk w9 (l.map (E cI)) v1 m1:=h3.past qc p9;have h6:∀b,J b→b<w9.heap.size:=fun b H=>Nat.lt_of_lt_of_le (h5 b H) hn.size;refine(MK (1+9*G.length) (by omega) l hk J w9 v1 m1 h6 (EM _ hn.old) qd h4).mono ?_;rintro e hw ⟨rfl,q1,q2,q3,_⟩;refine⟨_,rfl,?_⟩;have h7:∀b,m1.D b→C1.w0.heap.size≤b∧S9 b:=fun b H=>⟨by have:=hn1 b H;have:=hm.size;have:=Y.size;omega,p9.sub b (qc b H)⟩;have hx:∀b,J b→S9 b:=fun b H=>hn.sub b H
 have h8:=(hj.marked q1 q2 q3 h7 (K:=J) hx qg [(0,.v U),(1,.v M),(6,.v (.slice none 0 0)),(7,.v (.int .i64 (rsC G l))),(10,.v (.slice none 0 0)),(11,.v (.int .i64 (rsC G l)))] (fun p hp=>by
     simp only[List.mem_cons,List.not_mem_nil,or_false] at hp;rcases hp with rfl|rfl|rfl|rfl|rfl|rfl<;>exact⟨rfl,rfl⟩)).put (d:=69) (by rw[I,Cd.lawResultOf_k.n];omega) (.int .i64 (1+9*G.length+rQ l:Nat))
 have ho:Vs.Past J wA J hw:=hn.mark hj.dom q1 q2 qd fun _ h=>h;have O:∀b,J b→b<hw.heap.size:=fun b H=>Nat.lt_of_lt_of_le (hj.dom b (hx b H)) q1
 letI qu:=Vs.keepE J hw
 refine h8.rgN I 1 (τ:=⟨[(0,.v U),(1,.v M),(6,.v (.slice none 0 0)),(7,.v (.int .i64 (rsC G l))),(10,.v (.slice none 0 0)),(11,.v (.int .i64 (rsC G l))),(12,.v (.int .i64 (1+9*G.length+rQ l:Nat)))],[]⟩) ?_ fun qe qs qv qw h9=>RgL.nil ?_
 ·simp -dsimp only[go_sem];simp[Vs.LeL,Vs.look,Vs.aB]
 show Vs.At Tryz.prog Tryz.f3.ntmps (bE Tryz.prog) (Vs.kP 16 Cd.lawResultOf) _ qe qs
 exact h9.fin dM I (fun C hC=>roE1 C G l hz hl hk he U M _ (fun S' w' L=>Vs.dG O L (ho.rcS r0)) (fun S' w' L=>Vs.dG O L (ho.rcS r1))) (fun i σ h=>h) (fun C a w hl hg=>⟨.inl rfl,Vs.aBp hl hM Cd.lawResultOf_k.r hg⟩)
theorem law_ResultOf (G:List Stp) (l:List (List Int)) (I:∀x,x∈G→x.text.size<2 ^ 63) (H:G.length<2 ^ 63) (J:aF5 l):Fz F.lawResultOf [.sl 9 (E cS G),.sl 1 (E cC l)] (.v (.bool true)):=by
 by_cases L:rsC G l=0
 ·exact aKo G l I H J L
 ·exact aKn G l I H J L
end
end Go.Proofs.YtkgeiaideklmoaaGreat
