/- The law FnExactControlsAlong, joined. -/
import Derived.Test.YtmiiohemehacjaaGreatDoorVsI
import Derived.Test.YtmiiohemehacjaaGreatDoorXwGb
import Derived.Test.YtmiiohemehacjaaGreatDoorXwGv
import Derived.Test.YtmiiohemehacjaaGreatDoorXwGk
import Derived.Test.YtmiiohemehacjaaGreatDoorXwZt
import Derived.Test.YtmiiohemehacjaaGreatDoorXuO
import Derived.Test.YtmiiohemehacjaaGreatDoorVtO
import Derived.Test.YtmiiohemehacjaaGreatDoorVuS
set_option linter.all false
set_option maxHeartbeats 8000000
namespace Go.Proofs.YtmiiohemehacjaaGreatDoor
open Go.Vs
section
variable [Vs.Tab 1 Vs.powP]
attribute [local irreducible] Vs.Fn mkD gW pW mkO mtx mE caC alg dB oJ chOK areCh chTo chAt l03 chB rk cd3 chI stp stpTo
theorem tV {S:Nat->Prop}{w:World} (F:∀b,S b->b<w.heap.size) (h:S 1∧Vs.powP w.heap[1]?):∀S' w',@Vs.Env (Vs.keepE S w) S' w'->S' 1∧Vs.powP w'.heap[1]?:=λS' w' H=>by
 have g:=H _ (Vs.aBc h.1 (F _ h.1));exact⟨g.1,by have e:w'.heap[1]? = w.heap[1]?:=g.2;rw[e];exact h.2⟩
theorem aCi {l:List Stp}:∀r,r∈E cS l->Vs.iV r=true:=λr F=>by
 obtain⟨x,_,rfl⟩:=List.mem_map.1 F;rfl
theorem aDf {l:List (Int×Int×Int)}:∀r,r∈E cCt l->Vs.iV r=true:=λr F=>by
 obtain⟨x,_,rfl⟩:=List.mem_map.1 F;rfl
theorem uM (fr to:Int):Fz F.jB [.agg (cFd fr to)] (.agg (cFd fr to)):=aHE fr to
set_option maxRecDepth 20000 in
theorem aNm (C:Ctx) (fr to:Int) (o:Off) (I:List Stp) (ho:dD o) (hz:∀x,x∈I->x.text.size<=1048576) (hl:I.length<=1048576) (J:caC fr to o I=0) (hb:aEY o) (Z:∀x,x∈I->x.text.size<2 ^ 63) (Y:I.length<2 ^ 63) (h1:¬dB o 1048576<0) (ha:dB o 1048576<=1048576) (h2:¬szL oJ I (dB o 1048576)<0) (H F:Sl) (U:Value) (ka:∀S w,Vs.Env S w->RC S w (.agg (cO o)) (.agg #[slW H,slW F])) (kf:∀S w,Vs.Env S w->RC S w (.sl 9 (E cS I)) U) :
  Vs.aDp Tryz.prog C (bG Tryz.prog) 7 Cd.lawControlsAlong (fun σ'=>LeL σ' ⟨[(3,.ptr (.t 3 0) 0 0),(5,.ptr (.t 5 0) 0 0),(1,.v U),(8,.sl 3 (E cCt (alg fr to o I).1)),(9,.v (.int .i64 0))],[(.t 3 0,.var [.v (.slice H.1 H.2.1 H.2.2),.v (.slice F.1 F.2.1 F.2.2)] false),(.t 5 0,.var (cFd fr to) false)]⟩∧True) (λ_ _=>False) ⟨[(0,.agg [.v (.slice H.1 H.2.1 H.2.2),.v (.slice F.1 F.2.1 F.2.2)]),(1,.v U),(2,.agg (cFd fr to))],[]⟩:=by
 have e1:decide (dB o 1048576<0)=false:=decide_eq_false h1;have e2:decide (szL oJ I (dB o 1048576)<0)=false:=decide_eq_false h2
 have ZO:=Vs.Fn.knownR (aAf o 1048576 hb (by omega)) (ys':=[.agg [.v (.slice H.1 H.2.1 H.2.2),.v (.slice F.1 F.2.1 F.2.2)],.v (.int .i64 1048576)]) rfl (λj L=>by
   match j,L with
   |0,_=>exact .inr ⟨rfl,λS w v J O=>by rw[gV O];exact ka S w J⟩
   |1,_=>exact .inl rfl)
 have ZF:=Vs.Fn.knownR (aEr I (dB o 1048576) Z Y (by omega)) (ys':=[.v U,.v (.int .i64 (dB o 1048576))]) rfl (λj L=>by
   match j,L with
   |0,_=>exact .inr ⟨rfl,λS w v J O=>by rw[Vs.aBO O];exact kf S w J⟩
   |1,_=>exact .inl rfl)
 have TO:=Vs.Fn.knownR (uL o ho) (ys':=[.agg [.v (.slice H.1 H.2.1 H.2.2),.v (.slice F.1 F.2.1 F.2.2)]]) rfl (λj L=>by
   match j,L with
   |0,_=>exact .inr ⟨rfl,λS w v J O=>by rw[gV O];exact ka S w J⟩)
 have TF:=Vs.Fn.knownR (aBT I hl) (ys':=[.v U]) rfl (λj L=>by
   match j,L with
   |0,_=>exact .inr ⟨rfl,λS w v J O=>by rw[Vs.aBO O];exact kf S w J⟩)
 have SP:=y9 fr to o ho I hz hl J;simp only[cO] at TO SP;unfold Cd.lawControlsAlong
 repeat' first|simp -dsimp only[go_sem,cFd,cO,List.length_nil,e1,e2]|apply Br.mk<;>intro h<;>try simp -dsimp only[h]|refine aD.c (by first|exact ZO|exact ZF|exact TO|exact TF|exact SP|exact uM fr to) ?_|refine aC ?_|fail
 all_goals first|(simp[Vs.LeL,Vs.look,Vs.aB];done)|exact⟨by simp[Vs.LeL,Vs.look,Vs.aB],trivial⟩|omega|(and_intros<;>first|trivial|omega|(simp[Vs.LeL,Vs.look,Vs.aB];done))
set_option maxRecDepth 20000 in
theorem aNk (C:Ctx) (fr to:Int) (o:Off) (F:List Stp) (ho:dD o) (hz:∀x,x∈F->x.text.size<=1048576) (hl:F.length<=1048576) (J:caC fr to o F=0) (O L:Sl) (f1 Z:Value) (ka:∀S w,Vs.Env S w->RC S w (.agg (cO o)) (.agg #[slW O,slW L])) (kf:∀S w,Vs.Env S w->RC S w (.sl 9 (E cS F)) f1) (k8:∀S w,Vs.Env S w->RC S w (.sl 3 (E cCt (alg fr to o F).1)) Z) (I H:Sl) (kx:∀S w,Vs.Env S w->RC S w (.agg (cO o)) (.agg #[slW I,slW H])) :
  Vs.aDp Tryz.prog C (bG Tryz.prog) 6 (Vs.lG 8 Cd.lawControlsAlong) (fun σ'=>LeL σ' ⟨[(3,.ptr (.t 3 0) 0 0),(5,.ptr (.t 5 0) 0 0),(1,.v f1),(8,.v Z),(9,.v (.int .i64 0)),(10,.ptr (.t 10 0) 0 0),(11,.loc (.t 42 0) 0 F.length),(12,.loc (.t 48 0) 0 (alg fr to o F).1.length),(13,.v (.int .i64 0)),(14,.v (.int .i64 1))],[(.t 42 0,.arr 9 (E cS F) false),(.t 48 0,.arr 3 (E cCt (alg fr to o F).1) false),(.t 10 0,.var [.v (.slice I.1 I.2.1 I.2.2),.v (.slice H.1 H.2.1 H.2.2)] false),(.t 3 0,.var [.v (.slice O.1 O.2.1 O.2.2),.v (.slice L.1 L.2.1 L.2.2)] false),(.t 5 0,.var (cFd fr to) false)]⟩∧True) (λ_ _=>False) ⟨[(3,.ptr (.t 3 0) 0 0),(5,.ptr (.t 5 0) 0 0),(1,.v f1),(8,.v Z),(9,.v (.int .i64 0)),(10,.ptr (.t 10 0) 0 0)],[(.t 10 0,.var [.v (.slice I.1 I.2.1 I.2.2),.v (.slice H.1 H.2.1 H.2.2)] false),(.t 3 0,.var [.v (.slice O.1 O.2.1 O.2.2),.v (.slice L.1 L.2.1 L.2.2)] false),(.t 5 0,.var (cFd fr to) false)]⟩:=by
 have n0:(0 != 0)=false:=by simp
 have EX:=Vs.Fn.knownR (aF7 o ho) (ys':=[.agg [.v (.slice I.1 I.2.1 I.2.2),.v (.slice H.1 H.2.1 H.2.2)],.agg (cO o)]) rfl (λj U=>by
   match j,U with
   |0,_=>exact .inr ⟨rfl,λS w v J Y=>by rw[gV Y];exact kx S w J⟩
   |1,_=>exact .inl rfl)
 have TO:=Vs.Fn.knownR (uL o ho) (ys':=[.agg [.v (.slice O.1 O.2.1 O.2.2),.v (.slice L.1 L.2.1 L.2.2)]]) rfl (λj U=>by
   match j,U with
   |0,_=>exact .inr ⟨rfl,λS w v J Y=>by rw[gV Y];exact ka S w J⟩)
 have ha:=Vs.Fn.knownR (aE5 F hl) (ys':=[.v f1]) rfl (λj U=>by
   match j,U with
   |0,_=>exact .inr ⟨rfl,λS w v J Y=>by rw[Vs.aBO Y];exact kf S w J⟩)
 have hT:=aIn (fr:=fr) (to:=to) (o:=o) hl;have hb:∀b,some b∈[some (Blk.arr 3 (E cCt (alg fr to o F).1) false)]->Vs.iD b:=aF2 (aCb (λ_=>rfl))
 have KI:=Vs.Fn.knownR (qE fr to o ho F hz hl J) (ys':=[.agg [.v (.slice I.1 I.2.1 I.2.2),.v (.slice H.1 H.2.1 H.2.2)],.sl 9 (E cS F),.agg (cFd fr to)]) rfl (λj U=>by
   match j,U with
   |0,_=>exact .inr ⟨rfl,λS w v J Y=>by rw[gV Y];exact kx S w J⟩
   |1,_=>exact .inl rfl
   |2,_=>exact .inl rfl)
 have KT:=Vs.Fn.knownR (aCY (alg fr to o F).1 hT) (ys':=[.sl 3 (E cCt (alg fr to o F).1),.v Z]) rfl (λj U=>by
   match j,U with
   |0,_=>exact .inl rfl
   |1,_=>exact .inr ⟨rfl,λS w v J Y=>by rw[Vs.aBO Y];exact k8 S w J⟩)
 simp only[cO] at TO EX;generalize(alg fr to o F).1=T at *
 unfold Cd.lawControlsAlong;simp only[Vs.lG]
 repeat' first|simp -dsimp only[go_sem,cFd,cO,List.length_nil,n0]|apply Br.mk<;>intro h<;>try simp -dsimp only[h]|refine aD.c (by first|exact KT|exact TO|exact EX|exact aId F hl|exact uM fr to) ?_|refine aD.own (by first|exact ha) rfl ?_|refine aD.lend (by first|exact KI) rfl hb rfl ?_|refine aC ?_|fail
 all_goals first|(simp[Vs.LeL,Vs.look,Vs.aB];done)|exact⟨by simp[Vs.LeL,Vs.look,Vs.aB],trivial⟩|omega
set_option maxRecDepth 20000 in
theorem aNi (C:Ctx) (fr to:Int) (o:Off) (F:List Stp) (ho:dD o) (hz:∀x,x∈F->x.text.size<=1048576) (U:F.length<=1048576) (H:caC fr to o F=0) (hf:1+pW o<=900000000) (J I:Sl) (Z Y:Value) (ka:∀S w,Vs.Env S w->RC S w (.agg (cO o)) (.agg #[slW J,slW I])) (kf:∀S w,Vs.Env S w->RC S w (.sl 9 (E cS F)) Z) (k8:∀S w,Vs.Env S w->RC S w (.sl 3 (E cCt (alg fr to o F).1)) Y) (tv sv:Sl) :
  wpc Tryz.prog C (bG Tryz.prog) (Vs.lG 15 Cd.lawControlsAlong) (λ_=>False) (λe σ'=>match e with|.ret=>LeL σ' ⟨[(6,.v (.bool true))],[]⟩|.exit _=>False) ⟨[(3,.ptr (.t 3 0) 0 0),(5,.ptr (.t 5 0) 0 0),(1,.v Z),(8,.v Y),(9,.v (.int .i64 0)),(11,.loc (.t 42 0) 0 F.length),(12,.loc (.t 48 0) 0 (alg fr to o F).1.length),(13,.v (.int .i64 0)),(14,.v (.int .i64 (1+pW o:Nat)))],[(.t 42 0,.arr 9 (E cS F) false),(.t 48 0,.arr 3 (E cCt (alg fr to o F).1) false),(.t 10 0,.var [.v (.slice tv.1 tv.2.1 tv.2.2),.v (.slice sv.1 sv.2.1 sv.2.2)] false),(.t 3 0,.var [.v (.slice J.1 J.2.1 J.2.2),.v (.slice I.1 I.2.1 I.2.2)] false),(.t 5 0,.var (cFd fr to) false)]⟩:=by
 have n0:(0 != 0)=false:=by simp
 have hm:decide (((1+pW o+9*F.length:Nat):Int)<0)=false:=decide_eq_false (by omega)
 have TO:=Vs.Fn.knownR (uL o ho) (ys':=[.agg [.v (.slice J.1 J.2.1 J.2.2),.v (.slice I.1 I.2.1 I.2.2)]]) rfl (λj L=>by
   match j,L with
   |0,_=>exact .inr ⟨rfl,λS w v H O=>by rw[gV O];exact ka S w H⟩)
 have TF:=Vs.Fn.knownR (aBT F U) (ys':=[.v Z]) rfl (λj L=>by
   match j,L with
   |0,_=>exact .inr ⟨rfl,λS w v H O=>by rw[Vs.aBO O];exact kf S w H⟩)
 have hT:=aIn (fr:=fr) (to:=to) (o:=o) U;have hb:∀b,some b∈[some (Blk.arr 3 (E cCt (alg fr to o F).1) false)]->Vs.iD b:=aF2 (aCb (λ_=>rfl));have hI:=qE fr to o ho F hz U H
 have KT:=Vs.Fn.knownR (aCY (alg fr to o F).1 hT) (ys':=[.sl 3 (E cCt (alg fr to o F).1),.v Y]) rfl (λj L=>by
   match j,L with
   |0,_=>exact .inl rfl
   |1,_=>exact .inr ⟨rfl,λS w v H O=>by rw[Vs.aBO O];exact k8 S w H⟩)
 simp only[cO] at TO hI;generalize(alg fr to o F).1=T at *
 have hc:decide (((1+3*T.length:Nat):Int)<0)=false:=decide_eq_false (by omega);have hd:(((1+3*T.length:Nat):Int) != ((1+3*T.length:Nat):Int))=false:=by simp
 have ha:List.take T.length (E cCt (mkR (mC 1) T T.length))=E cCt (mkR (mC 1) T T.length):=List.take_of_length_le (by rw[aI,fI _ _ (Nat.le_refl _)];exact Nat.le_refl _);unfold Cd.lawControlsAlong;simp only[Vs.lG]
 repeat' first|simp -dsimp only[go_sem,cFd,cO,List.length_nil,n0,aLi,aI,List.drop_zero,ha,hm,hc,hd]|apply Br.mk<;>intro h<;>try simp -dsimp only[h]|refine aD.c (by first|exact KT|exact TO|exact TF|exact uM fr to|exact aEP T 1 hT (by omega) (by omega)) ?_|refine aD.own (by first|exact hI) rfl ?_|refine aD.lend (by first|exact hI) rfl hb rfl ?_|refine aD.bor (by first|exact aDQ F (1+pW o) U (by omega) hf|exact aEI T 1 hT (by omega) (by omega)) rfl ?_|refine aC ?_|fail
 all_goals first|(simp[Vs.LeL,Vs.look,Vs.aB];done)|omega
set_option maxRecDepth 20000 in
theorem aNl (C:Ctx) (fr to:Int) (o:Off) (I:List Stp) (ho:dD o) (hz:∀x,x∈I->x.text.size<=1048576) (hl:I.length<=1048576) (J:caC fr to o I≠0) (hb:aEY o) (Z:∀x,x∈I->x.text.size<2 ^ 63) (Y:I.length<2 ^ 63) (h1:¬dB o 1048576<0) (ha:dB o 1048576<=1048576) (h2:¬szL oJ I (dB o 1048576)<0) (H F:Sl) (U:Value) (ka:∀S w,Vs.Env S w->RC S w (.agg (cO o)) (.agg #[slW H,slW F])) (kf:∀S w,Vs.Env S w->RC S w (.sl 9 (E cS I)) U) :
  Vs.aDp Tryz.prog C (bG Tryz.prog) 7 Cd.lawControlsAlong (fun σ'=>LeL σ' ⟨[(3,.ptr (.t 3 0) 0 0),(5,.ptr (.t 5 0) 0 0),(1,.v U),(8,.v (.slice none 0 0)),(9,.v (.int .i64 (caC fr to o I)))],[(.t 3 0,.var [.v (.slice H.1 H.2.1 H.2.2),.v (.slice F.1 F.2.1 F.2.2)] false),(.t 5 0,.var (cFd fr to) false)]⟩∧True) (λ_ _=>False) ⟨[(0,.agg [.v (.slice H.1 H.2.1 H.2.2),.v (.slice F.1 F.2.1 F.2.2)]),(1,.v U),(2,.agg (cFd fr to))],[]⟩:=by
 have e1:decide (dB o 1048576<0)=false:=decide_eq_false h1;have e2:decide (szL oJ I (dB o 1048576)<0)=false:=decide_eq_false h2
 have ZO:=Vs.Fn.knownR (aAf o 1048576 hb (by omega)) (ys':=[.agg [.v (.slice H.1 H.2.1 H.2.2),.v (.slice F.1 F.2.1 F.2.2)],.v (.int .i64 1048576)]) rfl (λj L=>by
   match j,L with
   |0,_=>exact .inr ⟨rfl,λS w v J O=>by rw[gV O];exact ka S w J⟩
   |1,_=>exact .inl rfl)
 have ZF:=Vs.Fn.knownR (aEr I (dB o 1048576) Z Y (by omega)) (ys':=[.v U,.v (.int .i64 (dB o 1048576))]) rfl (λj L=>by
   match j,L with
   |0,_=>exact .inr ⟨rfl,λS w v J O=>by rw[Vs.aBO O];exact kf S w J⟩
   |1,_=>exact .inl rfl)
 have TO:=Vs.Fn.knownR (uL o ho) (ys':=[.agg [.v (.slice H.1 H.2.1 H.2.2),.v (.slice F.1 F.2.1 F.2.2)]]) rfl (λj L=>by
   match j,L with
   |0,_=>exact .inr ⟨rfl,λS w v J O=>by rw[gV O];exact ka S w J⟩)
 have TF:=Vs.Fn.knownR (aBT I hl) (ys':=[.v U]) rfl (λj L=>by
   match j,L with
   |0,_=>exact .inr ⟨rfl,λS w v J O=>by rw[Vs.aBO O];exact kf S w J⟩)
 have SP:=zA fr to o ho I hz hl J;simp only[cO] at TO SP;unfold Cd.lawControlsAlong
 repeat' first|simp -dsimp only[go_sem,cFd,cO,List.length_nil,e1,e2]|apply Br.mk<;>intro h<;>try simp -dsimp only[h]|refine aD.c (by first|exact ZO|exact ZF|exact TO|exact TF|exact SP|exact uM fr to) ?_|refine aC ?_|fail
 all_goals first|(simp[Vs.LeL,Vs.look,Vs.aB];done)|exact⟨by simp[Vs.LeL,Vs.look,Vs.aB],trivial⟩|omega|(and_intros<;>first|trivial|omega|(simp[Vs.LeL,Vs.look,Vs.aB];done))
set_option maxRecDepth 20000 in
theorem aNj (C:Ctx) (fr to:Int) (o:Off) (F:List Stp) (ho:dD o) (hz:∀x,x∈F->x.text.size<=1048576) (hl:F.length<=1048576) (O:caC fr to o F≠0) (L J:Sl) (Z:Value) (ka:∀S w,Vs.Env S w->RC S w (.agg (cO o)) (.agg #[slW L,slW J])) (kf:∀S w,Vs.Env S w->RC S w (.sl 9 (E cS F)) Z)  (I H:Sl) (kx:∀S w,Vs.Env S w->RC S w (.agg (cO o)) (.agg #[slW I,slW H])) :
  Vs.aDp Tryz.prog C (bG Tryz.prog) 6 (Vs.lG 8 Cd.lawControlsAlong) (fun σ'=>LeL σ' ⟨[(3,.ptr (.t 3 0) 0 0),(5,.ptr (.t 5 0) 0 0),(1,.v Z),(8,.v (.slice none 0 0)),(9,.v (.int .i64 (caC fr to o F))),(10,.ptr (.t 10 0) 0 0),(11,.loc (.t 42 0) 0 F.length),(12,.v (.slice none 0 0)),(13,.v (.int .i64 (caC fr to o F))),(14,.v (.int .i64 1))],[(.t 42 0,.arr 9 (E cS F) false),(.t 10 0,.var [.v (.slice I.1 I.2.1 I.2.2),.v (.slice H.1 H.2.1 H.2.2)] false),(.t 3 0,.var [.v (.slice L.1 L.2.1 L.2.2),.v (.slice J.1 J.2.1 J.2.2)] false),(.t 5 0,.var (cFd fr to) false)]⟩∧True) (λ_ _=>False) ⟨[(3,.ptr (.t 3 0) 0 0),(5,.ptr (.t 5 0) 0 0),(1,.v Z),(8,.v (.slice none 0 0)),(9,.v (.int .i64 (caC fr to o F))),(10,.ptr (.t 10 0) 0 0)],[(.t 10 0,.var [.v (.slice I.1 I.2.1 I.2.2),.v (.slice H.1 H.2.1 H.2.2)] false),(.t 3 0,.var [.v (.slice L.1 L.2.1 L.2.2),.v (.slice J.1 J.2.1 J.2.2)] false),(.t 5 0,.var (cFd fr to) false)]⟩:=by
 have n0:((caC fr to o F) != (caC fr to o F))=false:=by simp
 have EX:=Vs.Fn.knownR (aF7 o ho) (ys':=[.agg [.v (.slice I.1 I.2.1 I.2.2),.v (.slice H.1 H.2.1 H.2.2)],.agg (cO o)]) rfl (λj U=>by
   match j,U with
   |0,_=>exact .inr ⟨rfl,λS w v O Y=>by rw[gV Y];exact kx S w O⟩
   |1,_=>exact .inl rfl)
 have TO:=Vs.Fn.knownR (uL o ho) (ys':=[.agg [.v (.slice L.1 L.2.1 L.2.2),.v (.slice J.1 J.2.1 J.2.2)]]) rfl (λj U=>by
   match j,U with
   |0,_=>exact .inr ⟨rfl,λS w v O Y=>by rw[gV Y];exact ka S w O⟩)
 have ha:=Vs.Fn.knownR (aE5 F hl) (ys':=[.v Z]) rfl (λj U=>by
   match j,U with
   |0,_=>exact .inr ⟨rfl,λS w v O Y=>by rw[Vs.aBO Y];exact kf S w O⟩)
 have KI:=Vs.Fn.knownR (qF fr to o ho F hz hl O) (ys':=[.agg [.v (.slice I.1 I.2.1 I.2.2),.v (.slice H.1 H.2.1 H.2.2)],.sl 9 (E cS F),.agg (cFd fr to)]) rfl (λj U=>by
   match j,U with
   |0,_=>exact .inr ⟨rfl,λS w v O Y=>by rw[gV Y];exact kx S w O⟩
   |1,_=>exact .inl rfl
   |2,_=>exact .inl rfl)
 simp only[cO] at TO EX;generalize caC fr to o F=c at *
 unfold Cd.lawControlsAlong;simp only[Vs.lG]
 repeat' first|simp -dsimp only[go_sem,cFd,cO,List.length_nil,n0]|apply Br.mk<;>intro h<;>try simp -dsimp only[h]|refine aD.c (by first|exact KI|exact TO|exact EX|exact aId F hl|exact uM fr to|exact aHe) ?_|refine aD.own (by first|exact ha) rfl ?_|refine aC ?_|refine aD.flat (B:=[]) (by first|exact aHe) rfl ?_|fail
 all_goals first|(simp[Vs.LeL,Vs.look,Vs.aB];done)|exact⟨by simp[Vs.LeL,Vs.look,Vs.aB],trivial⟩|omega
set_option maxRecDepth 20000 in
theorem aNh (C:Ctx) (fr to:Int) (o:Off) (F:List Stp) (ho:dD o) (hz:∀x,x∈F->x.text.size<=1048576) (U:F.length<=1048576) (J:caC fr to o F≠0) (ha:1+pW o<=900000000) (I H:Sl) (L:Value) (ka:∀S w,Vs.Env S w->RC S w (.agg (cO o)) (.agg #[slW I,slW H])) (kf:∀S w,Vs.Env S w->RC S w (.sl 9 (E cS F)) L)  (tv sv:Sl) :
  wpc Tryz.prog C (bG Tryz.prog) (Vs.lG 15 Cd.lawControlsAlong) (λ_=>False) (λe σ'=>match e with|.ret=>LeL σ' ⟨[(6,.v (.bool true))],[]⟩|.exit _=>False) ⟨[(3,.ptr (.t 3 0) 0 0),(5,.ptr (.t 5 0) 0 0),(1,.v L),(8,.v (.slice none 0 0)),(9,.v (.int .i64 (caC fr to o F))),(11,.loc (.t 42 0) 0 F.length),(12,.v (.slice none 0 0)),(13,.v (.int .i64 (caC fr to o F))),(14,.v (.int .i64 (1+pW o:Nat)))],[(.t 42 0,.arr 9 (E cS F) false),(.t 10 0,.var [.v (.slice tv.1 tv.2.1 tv.2.2),.v (.slice sv.1 sv.2.1 sv.2.2)] false),(.t 3 0,.var [.v (.slice I.1 I.2.1 I.2.2),.v (.slice H.1 H.2.1 H.2.2)] false),(.t 5 0,.var (cFd fr to) false)]⟩:=by
 have n0:((caC fr to o F) != (caC fr to o F))=false:=by simp
 have hm:decide (((1+pW o+9*F.length:Nat):Int)<0)=false:=decide_eq_false (by omega)
 have TO:=Vs.Fn.knownR (uL o ho) (ys':=[.agg [.v (.slice I.1 I.2.1 I.2.2),.v (.slice H.1 H.2.1 H.2.2)]]) rfl (λj O=>by
   match j,O with
   |0,_=>exact .inr ⟨rfl,λS w v J hv=>by rw[gV hv];exact ka S w J⟩)
 have TF:=Vs.Fn.knownR (aBT F U) (ys':=[.v L]) rfl (λj O=>by
   match j,O with
   |0,_=>exact .inr ⟨rfl,λS w v J hv=>by rw[Vs.aBO hv];exact kf S w J⟩)
 have hI:=qF fr to o ho F hz U J;simp only[cO] at TO hI;have Y:((1:Int) != 1)=false:=rfl;have Z:decide ((1:Int)<0)=false:=rfl;generalize caC fr to o F=c at *
 unfold Cd.lawControlsAlong;simp only[Vs.lG]
 repeat' first|simp -dsimp only[go_sem,cFd,cO,List.length_nil,n0,hm,Y,Z]|apply Br.mk<;>intro h<;>try simp -dsimp only[h]|refine aD.c (by first|exact TO|exact TF|exact hI|exact uM fr to) ?_|refine aD.bor (by first|exact aDQ F (1+pW o) U (by omega) ha) rfl ?_|refine aC ?_|refine aD.flat (B:=[]) (by first|exact aHe|exact aKp _|exact aKD _) rfl ?_|fail
 all_goals first|(simp[Vs.LeL,Vs.look,Vs.aB];done)|omega
end
section
variable [Vs.Tab 1 Vs.powP]
attribute [local irreducible] Vs.Fn mkD gW pW mkO mtx mE caC alg dB oJ chOK areCh chTo chAt l03 chB rk cd3 chI stp stpTo
theorem aGp {S:Nat->Prop}{w:World}{k I:Nat}{r J:List (List AV)}{u:Value} (h:RC S w (.agg [.sl k r,.sl I J]) u):∃t s:Sl,u=.agg #[slW t,slW s]:=by
 cases h with
 | agg _ us hl hr =>
  obtain⟨t,H⟩:=aA5 (hr 0 (by simp));obtain⟨s,F⟩:=aA5 (hr 1 (by simp));exact⟨t,s,Vs.us2 (by simpa using hl.symm) H F ▸ rfl⟩
attribute [local go_sem] List.take_succ_cons List.take_zero List.length_nil in
set_option maxRecDepth 20000 in
theorem aL1 (fr to:Int) (o:Off) (J:List Stp) (ho:dD o) (hz:∀x,x∈J->x.text.size<=1048576) (hl:J.length<=1048576) (he:caC fr to o J=0) (L:aEY o) (q0:∀x,x∈J->x.text.size<2 ^ 63) (qx:J.length<2 ^ 63) (h1:¬dB o 1048576<0) (qu:dB o 1048576<=1048576) (h2:¬szL oJ J (dB o 1048576)<0):Fz F.lawControlsAlong [.agg (cO o),.sl 9 (E cS J),.agg (cFd fr to)] (.v (.bool true)):=by
 have qi:=aDE L (by omega) (by omega) (by omega:0<=dB o 1048576);refine Vs.Fn.of_calls (aAL Cd.lawControlsAlong_k.o) (by intro y hy;simp only[List.mem_cons,List.not_mem_nil,or_false] at hy;rcases hy with rfl|rfl|rfl<;>rfl) rfl λS w vs hS h9 q4 hx=>?_;obtain⟨g1,g2,_⟩:=Cd.lawControlsAlong_k.o;obtain⟨q8,h8,hc⟩:=Option.bind_eq_some_iff.1 g2;have qk:(Tryz.f3.body.map (zB Tryz.f3.ntmps (bG Tryz.prog)))=some true:=by kernel_rfl
 rw[h8] at qk;refine Vs.Pt.calls (dr:=bG Tryz.prog) (ac:=Cd.lawControlsAlong) g1 h8 hc (by simpa using qk) (args:=[.agg (cO o),.sl 9 (E cS J),.agg (cFd fr to)]) (by rw[Cd.lawControlsAlong_k.n];exact Nat.le_of_ble_eq_true rfl) hS h9 q4 hx λC1 a U q5 qv Y=>?_;have hM:=Y.nomut;subst q5;have hv:S 1∧Vs.powP C1.w0.heap[1]?:=Vs.Tab.has S C1.w0 h9;have r0:RC S C1.w0 (.agg (cO o)) (a.tmps.getD 0 undef):=Y.val (t:=0) rfl;have rf:RC S C1.w0 (.sl 9 (E cS J)) (a.tmps.getD 1 undef):=Y.val (t:=1) rfl;obtain⟨I,H,qj⟩:=aGp r0;obtain⟨f1,qa⟩:∃v,v=a.tmps.getD 1 undef:=⟨_,rfl⟩
 have qh:=Y.set [(0,.agg [.v (.slice I.1 I.2.1 I.2.2),.v (.slice H.1 H.2.1 H.2.2)]),(1,.v f1),(2,.agg (cFd fr to))] (λp Y=>by
   simp only[List.mem_cons,List.not_mem_nil,or_false] at Y;rcases Y with rfl|rfl|rfl
   . right
     show RC S C1.w0 _ (a.tmps.getD 0 undef)
     rw[qj];exact aFw _ _
   . right
     show RC S C1.w0 _ (a.tmps.getD 1 undef)
     rw[←qa];exact .v _
   . exact .inl ⟨rfl,rfl⟩)
 rw[qj] at r0;rw[←qa] at rf;have h0:=qh.dom;have h5:∀{S':Nat->Prop}{w':World},Vs.Past S C1.w0 S' w'->S' 1∧Vs.powP w'.heap[1]?:=λ{S' w'} p=>⟨p.sub 1 hv.1,by rw[p.old 1 hv.1];exact hv.2⟩
 letI IA:Vs.Tab 1 Vs.powP:=@Vs.Tab.mk 1 Vs.powP (Vs.keepE S C1.w0) (tV h0 hv)
 refine qh.go dM U 7 _ (τ:=⟨[(3,.ptr (.t 3 0) 0 0),(5,.ptr (.t 5 0) 0 0),(1,.v f1),(8,.sl 3 (E cCt (alg fr to o J).1)),(9,.v (.int .i64 0))],[(.t 3 0,.var [.v (.slice I.1 I.2.1 I.2.2),.v (.slice H.1 H.2.1 H.2.2)] false),(.t 5 0,.var (cFd fr to) false)]⟩) (X:=True) (E:=λ_ _=>False) (λp Y=>by
     simp only[List.mem_cons,List.not_mem_nil,or_false] at Y;rcases Y with rfl|rfl<;>exact⟨rfl,rfl⟩) (λC hC=>aNm C fr to o J ho hz hl he L q0 qx h1 qu h2 I H f1 (λS' w he=>Vs.bO h0 he r0) (λS' w he=>Vs.bO h0 he rf)) (λi σ h=>h) (λC a w hl hg=>hg.no.elim) λaA wA SA pA hn _=>?_
 have rA:=pA.rcS r0;have rF:=pA.rcS rf;have qw:∀b,C1.S0 b->SA b:=λb L=>by rw[qv] at L;exact pA.sub b L
 have hm:=hn.dom;have hu:∀{S':Nat->Prop}{w':World},Vs.Past SA wA S' w'->S' 1∧Vs.powP w'.heap[1]?:=λ{S' w'} p=>h5 (pA.trans p);obtain⟨a8,h7⟩:∃v,v=aA.tmps.getD 8 undef:=⟨_,rfl⟩;have r8:RC SA wA (.sl 3 (E cCt (alg fr to o J).1)) (aA.tmps.getD 8 undef):=hn.val (t:=8) rfl;rw[←h7] at r8
 have qd:=hn.set [(3,.ptr (.t 3 0) 0 0),(5,.ptr (.t 5 0) 0 0),(1,.v f1),(8,.v a8),(9,.v (.int .i64 0))] (λp Y=>by
   simp only[List.mem_cons,List.not_mem_nil,or_false] at Y;rcases Y with rfl|rfl|rfl|rfl|rfl
   . exact .inl ⟨rfl,rfl⟩
   . exact .inl ⟨rfl,rfl⟩
   . exact .inl ⟨rfl,rfl⟩
   . right
     show RC SA wA _ (aA.tmps.getD 8 undef)
     rw[←h7];exact .v _
   . exact .inl ⟨rfl,rfl⟩)
 have je:=qd.size
 letI I1:Vs.Tab 1 Vs.powP:=@Vs.Tab.mk 1 Vs.powP (Vs.keepE SA wA) (tV hm (hu (Vs.Past.refl _ _)))
 show Vs.At Tryz.prog Tryz.f3.ntmps (bG Tryz.prog) (.seq _ (Vs.lG 8 Cd.lawControlsAlong)) _ aA wA
 refine At.seq (At.rg (qd.rgN U 1 (τ:=⟨[(39,.agg [.v (.slice I.1 I.2.1 I.2.2),.v (.slice H.1 H.2.1 H.2.2)]),(3,.ptr (.t 3 0) 0 0),(5,.ptr (.t 5 0) 0 0),(1,.v f1),(8,.v a8),(9,.v (.int .i64 0))],[(.t 3 0,.var [.v (.slice I.1 I.2.1 I.2.2),.v (.slice H.1 H.2.1 H.2.2)] false),(.t 5 0,.var (cFd fr to) false)]⟩) ?_ λa2 w2 S2 p2 hk=>hk.rgc U (ts:=[39]) (ys:=[.agg [.v (.slice I.1 I.2.1 I.2.2),.v (.slice H.1 H.2.1 H.2.2)]]) (aAL Cd.l_toOffice_k.o) rfl rfl λus h4 hr=>?_))
 .simp -dsimp only[go_sem,cFd,cO]
  first|(simp[Vs.LeL,Vs.look,Vs.aB];done)|(and_intros<;>first|omega|rfl|(simp[Vs.LeL,Vs.look,Vs.aB];done))
 have hw:Vs.Past SA wA S2 w2:=p2
 refine (aBx o ho hk.dom hk.env h4 (λj hj=>by
   match j,hj with
   | 0,_ =>
     show RC S2 w2 _ (us.getD 0 undef)
     rw[gV (hr 0 (by simp))];exact hw.rcS rA)).mono ?_
 rintro e w3 ⟨tv,sv,rfl,hg3,m1,hom3,hn1⟩;refine⟨_,rfl,?_⟩
 have qy:=(hk.grow hg3 (D:=m1.D) (λb L=>⟨hn1 b L,hom3.lt b L⟩) [(3,.ptr (.t 3 0) 0 0),(5,.ptr (.t 5 0) 0 0),(1,.v f1),(8,.v a8),(9,.v (.int .i64 0))] (λp Y=>by
     simp only[List.mem_cons,List.not_mem_nil,or_false] at Y;rcases Y with rfl|rfl|rfl|rfl|rfl<;>exact⟨rfl,.inl rfl⟩)).putR (d:=40) (by rw[U,Cd.lawControlsAlong_k.n];omega) (r:=.agg [.v (.slice tv.1 tv.2.1 tv.2.2),.v (.slice sv.1 sv.2.1 sv.2.2)]) (aFw _ _)
 have ht:Vs.Past SA wA (λb=>S2 b∨m1.D b) w3:=hw.trans (Vs.Past.grow hg3 hk.dom);have ha:∀b,(S2 b∨m1.D b)->b<w3.heap.size:=λb L=>L.elim (λh=>Nat.lt_of_lt_of_le (hk.dom b h) hg3.size) (hom3.lt b)
 letI I3:Vs.Tab 1 Vs.powP:=@Vs.Tab.mk 1 Vs.powP (Vs.keepE (λb=>S2 b∨m1.D b) w3) (tV ha (hu ht))
 refine qy.rgN U 2 (τ:=⟨[(3,.ptr (.t 3 0) 0 0),(5,.ptr (.t 5 0) 0 0),(1,.v f1),(8,.v a8),(9,.v (.int .i64 0)),(10,.ptr (.t 10 0) 0 0)],[(.t 10 0,.var [.v (.slice tv.1 tv.2.1 tv.2.2),.v (.slice sv.1 sv.2.1 sv.2.2)] false),(.t 3 0,.var [.v (.slice I.1 I.2.1 I.2.2),.v (.slice H.1 H.2.1 H.2.2)] false),(.t 5 0,.var (cFd fr to) false)]⟩) ?_ λa4 w4 S4 p4 qz=>RgL.nil ?_
 .simp only[slW];simp -dsimp only[go_sem,cFd,cO]
  first|(simp[Vs.LeL,Vs.look,Vs.aB];done)|(and_intros<;>first|omega|rfl|(simp[Vs.LeL,Vs.look,Vs.aB];done))
 have qp:=ht.trans p4;have ql:∀b,m1.D b->S4 b:=λb L=>p4.sub b (.inr L);have qc:=hom3.past (S:=λb=>S2 b∨m1.D b) (λb L=>.inr L) p4;have qm:∀b,m1.D b->¬SA b:=λb L hs=>by have:=hn1 b L;have:=hm b hs;have:=hw.size;omega
 show Vs.At Tryz.prog Tryz.f3.ntmps (bG Tryz.prog) (Vs.lG 8 Cd.lawControlsAlong) _ a4 w4
 refine qz.go dM U 6 _ (τ:=⟨[(3,.ptr (.t 3 0) 0 0),(5,.ptr (.t 5 0) 0 0),(1,.v f1),(8,.v a8),(9,.v (.int .i64 0)),(10,.ptr (.t 10 0) 0 0),(11,.loc (.t 42 0) 0 J.length),(12,.loc (.t 48 0) 0 (alg fr to o J).1.length),(13,.v (.int .i64 0)),(14,.v (.int .i64 1))],[(.t 42 0,.arr 9 (E cS J) false),(.t 48 0,.arr 3 (E cCt (alg fr to o J).1) false),(.t 10 0,.var [.v (.slice tv.1 tv.2.1 tv.2.2),.v (.slice sv.1 sv.2.1 sv.2.2)] false),(.t 3 0,.var [.v (.slice I.1 I.2.1 I.2.2),.v (.slice H.1 H.2.1 H.2.2)] false),(.t 5 0,.var (cFd fr to) false)]⟩) (X:=True) (E:=λ_ _=>False) (fvC ⟨aCi,rfl⟩ (fvC ⟨aDf,rfl⟩ (fvC ⟨rfl,rfl⟩ (fvC ⟨rfl,rfl⟩ (fvC ⟨rfl,rfl⟩ fvN))))) (λC hC=>aNk C fr to o J ho hz hl he I H f1 a8 (λS' w' O=>Vs.bO ha O (ht.rcS rA)) (λS' w' O=>Vs.bO ha O (ht.rcS rF)) (λS' w' O=>Vs.bO ha O (ht.rcS r8)) tv sv (λS' w' O=>Vs.bO ha O (hom3.rd.mono (λb L=>.inr L) λ_ _=>rfl))) (λi σ h=>h) (λC a w hl hg=>hg.no.elim) λqs q6 jb qn qe _=>?_;have q9:=qp.trans qn;show Vs.At Tryz.prog Tryz.f3.ntmps (bG Tryz.prog) (.seq _ (Vs.lG 15 Cd.lawControlsAlong)) _ qs q6
 refine At.seq (At.rg (qe.rgN U 2 (τ:=⟨[(70,.agg [.v (.slice tv.1 tv.2.1 tv.2.2),.v (.slice sv.1 sv.2.1 sv.2.2)]),(71,.v (.int .i64 ((1:Nat):Int))),(3,.ptr (.t 3 0) 0 0),(5,.ptr (.t 5 0) 0 0),(1,.v f1),(8,.v a8),(9,.v (.int .i64 0)),(11,.loc (.t 42 0) 0 J.length),(12,.loc (.t 48 0) 0 (alg fr to o J).1.length),(13,.v (.int .i64 0))],[(.t 42 0,.arr 9 (E cS J) false),(.t 48 0,.arr 3 (E cCt (alg fr to o J).1) false),(.t 10 0,.var [.v (.slice tv.1 tv.2.1 tv.2.2),.v (.slice sv.1 sv.2.1 sv.2.2)] false),(.t 3 0,.var [.v (.slice I.1 I.2.1 I.2.2),.v (.slice H.1 H.2.1 H.2.2)] false),(.t 5 0,.var (cFd fr to) false)]⟩) (hτ:=(fvC ⟨aCi,rfl⟩ (fvC ⟨aDf,rfl⟩ (fvC ⟨rfl,rfl⟩ (fvC ⟨rfl,rfl⟩ (fvC ⟨rfl,rfl⟩ fvN)))))) ?_ λjd qq qr qo hd=>hd.rgc U (ts:=[70,71]) (ys:=[.agg [.v (.slice tv.1 tv.2.1 tv.2.2),.v (.slice sv.1 sv.2.1 sv.2.2)],.v (.int .i64 ((1:Nat):Int))]) (aAL Cd.l_markOffice_k.o) rfl rfl λus h4 hr=>?_))
 .simp -dsimp only[go_sem,cFd,cO]
  first|(simp[Vs.LeL,Vs.look,Vs.aB];done)|(and_intros<;>first|omega|rfl|(simp[Vs.LeL,Vs.look,Vs.aB];done))
 obtain rfl:=Vs.us2 h4 (gV (hr 0 (by show 0<2;omega))) (Vs.aBO (hr 1 (by show 1<2;omega)));have hq:=qn.trans qo;have hf:=qp.trans hq;have h3:OfM qq o (slW tv) (slW sv) m1:=qc.past ql hq;refine(@zH ⟨[]⟩ o ho tv sv m1 1 (by omega) qi SA qq (λb L=>Nat.lt_of_lt_of_le (hm b L) hf.size) (λp Y=>by cases Y) qm h3).mono ?_;rintro e h6 ⟨rfl,q1,q2,q3,_⟩;refine⟨_,rfl,?_⟩;have qb:∀b,m1.D b->C1.w0.heap.size<=b∧qr b:=λb L=>⟨by have:=hn1 b L;have:=hw.size;omega,hq.sub b (ql b L)⟩
 have qf:=(hd.marked q1 q2 q3 qb (K:=SA) (λb L=>hf.sub b L) qw [(3,.ptr (.t 3 0) 0 0),(5,.ptr (.t 5 0) 0 0),(1,.v f1),(8,.v a8),(9,.v (.int .i64 0)),(11,.loc (.t 42 0) 0 J.length),(12,.loc (.t 48 0) 0 (alg fr to o J).1.length),(13,.v (.int .i64 0))] (λp Y=>by
     simp only[List.mem_cons,List.not_mem_nil,or_false] at Y;rcases Y with rfl|rfl|rfl|rfl|rfl|rfl|rfl|rfl<;>exact⟨rfl,rfl⟩)).put (d:=72) (by rw[U,Cd.lawControlsAlong_k.n];omega) (.int .i64 (1+pW o:Nat))
 have hh:Vs.Past SA wA SA h6:=hf.mark hd.dom q1 q2 qm λ_ h=>h;have Z:∀b,SA b->b<h6.heap.size:=λb L=>Nat.lt_of_lt_of_le (hd.dom b (hf.sub b L)) q1
 letI ja:Vs.Tab 1 Vs.powP:=@Vs.Tab.mk 1 Vs.powP (Vs.keepE SA h6) (tV Z (hu hh))
 refine qf.rgN U 1 (τ:=⟨[(3,.ptr (.t 3 0) 0 0),(5,.ptr (.t 5 0) 0 0),(1,.v f1),(8,.v a8),(9,.v (.int .i64 0)),(11,.loc (.t 42 0) 0 J.length),(12,.loc (.t 48 0) 0 (alg fr to o J).1.length),(13,.v (.int .i64 0)),(14,.v (.int .i64 (1+pW o:Nat)))],[(.t 42 0,.arr 9 (E cS J) false),(.t 48 0,.arr 3 (E cCt (alg fr to o J).1) false),(.t 10 0,.var [.v (.slice tv.1 tv.2.1 tv.2.2),.v (.slice sv.1 sv.2.1 sv.2.2)] false),(.t 3 0,.var [.v (.slice I.1 I.2.1 I.2.2),.v (.slice H.1 H.2.1 H.2.2)] false),(.t 5 0,.var (cFd fr to) false)]⟩) (hτ:=(fvC ⟨aCi,rfl⟩ (fvC ⟨aDf,rfl⟩ (fvC ⟨rfl,rfl⟩ (fvC ⟨rfl,rfl⟩ (fvC ⟨rfl,rfl⟩ fvN)))))) ?_ λqt q7 jc jf qg=>RgL.nil ?_
 .simp -dsimp only[go_sem,cFd,cO]
  first|(simp[Vs.LeL,Vs.look,Vs.aB];done)|(and_intros<;>first|omega|rfl|(simp[Vs.LeL,Vs.look,Vs.aB];done))
 show Vs.At Tryz.prog Tryz.f3.ntmps (bG Tryz.prog) (Vs.lG 15 Cd.lawControlsAlong) _ qt q7
 exact qg.fin dM U (λC hC=>aNi C fr to o J ho hz hl he qi I H f1 a8 (λS' w' O=>Vs.bO Z O (hh.rcS rA)) (λS' w' O=>Vs.bO Z O (hh.rcS rF)) (λS' w' O=>Vs.bO Z O (hh.rcS r8)) tv sv) (λi σ h=>h) (λC a w hl hg=>⟨.inl rfl,Vs.aH2 hl hM Cd.lawControlsAlong_k.r hg⟩)
attribute [local go_sem] List.take_succ_cons List.take_zero List.length_nil in
set_option maxRecDepth 20000 in
theorem aL0 (fr to:Int) (o:Off) (H:List Stp) (ho:dD o) (hz:∀x,x∈H->x.text.size<=1048576) (hl:H.length<=1048576) (he:caC fr to o H≠0) (L:aEY o) (qz:∀x,x∈H->x.text.size<2 ^ 63) (qw:H.length<2 ^ 63) (h1:¬dB o 1048576<0) (qt:dB o 1048576<=1048576) (h2:¬szL oJ H (dB o 1048576)<0):Fz F.lawControlsAlong [.agg (cO o),.sl 9 (E cS H),.agg (cFd fr to)] (.v (.bool true)):=by
 have qh:=aDE L (by omega) (by omega) (by omega:0<=dB o 1048576);refine Vs.Fn.of_calls (aAL Cd.lawControlsAlong_k.o) (by intro y hy;simp only[List.mem_cons,List.not_mem_nil,or_false] at hy;rcases hy with rfl|rfl|rfl<;>rfl) rfl λS w vs hS h8 q0 hx=>?_;obtain⟨g1,g2,_⟩:=Cd.lawControlsAlong_k.o;obtain⟨q7,h7,hc⟩:=Option.bind_eq_some_iff.1 g2;have qj:(Tryz.f3.body.map (zB Tryz.f3.ntmps (bG Tryz.prog)))=some true:=by kernel_rfl
 rw[h7] at qj;refine Vs.Pt.calls (dr:=bG Tryz.prog) (ac:=Cd.lawControlsAlong) g1 h7 hc (by simpa using qj) (args:=[.agg (cO o),.sl 9 (E cS H),.agg (cFd fr to)]) (by rw[Cd.lawControlsAlong_k.n];exact Nat.le_of_ble_eq_true rfl) hS h8 q0 hx λC1 a O q4 qu Y=>?_;have hM:=Y.nomut;subst q4;have ht:S 1∧Vs.powP C1.w0.heap[1]?:=Vs.Tab.has S C1.w0 h8;have r0:RC S C1.w0 (.agg (cO o)) (a.tmps.getD 0 undef):=Y.val (t:=0) rfl;have rf:RC S C1.w0 (.sl 9 (E cS H)) (a.tmps.getD 1 undef):=Y.val (t:=1) rfl;obtain⟨J,I,qi⟩:=aGp r0;obtain⟨f1,h9⟩:∃v,v=a.tmps.getD 1 undef:=⟨_,rfl⟩
 have qg:=Y.set [(0,.agg [.v (.slice J.1 J.2.1 J.2.2),.v (.slice I.1 I.2.1 I.2.2)]),(1,.v f1),(2,.agg (cFd fr to))] (λp Y=>by
   simp only[List.mem_cons,List.not_mem_nil,or_false] at Y;rcases Y with rfl|rfl|rfl
   . right
     show RC S C1.w0 _ (a.tmps.getD 0 undef)
     rw[qi];exact aFw _ _
   . right
     show RC S C1.w0 _ (a.tmps.getD 1 undef)
     rw[←h9];exact .v _
   . exact .inl ⟨rfl,rfl⟩)
 rw[qi] at r0;rw[←h9] at rf;have h0:=qg.dom;have h5:∀{S':Nat->Prop}{w':World},Vs.Past S C1.w0 S' w'->S' 1∧Vs.powP w'.heap[1]?:=λ{S' w'} p=>⟨p.sub 1 ht.1,by rw[p.old 1 ht.1];exact ht.2⟩
 letI IA:Vs.Tab 1 Vs.powP:=@Vs.Tab.mk 1 Vs.powP (Vs.keepE S C1.w0) (tV h0 ht)
 refine qg.go dM O 7 _ (τ:=⟨[(3,.ptr (.t 3 0) 0 0),(5,.ptr (.t 5 0) 0 0),(1,.v f1),(8,.v (.slice none 0 0)),(9,.v (.int .i64 (caC fr to o H)))],[(.t 3 0,.var [.v (.slice J.1 J.2.1 J.2.2),.v (.slice I.1 I.2.1 I.2.2)] false),(.t 5 0,.var (cFd fr to) false)]⟩) (X:=True) (E:=λ_ _=>False) (λp Y=>by
     simp only[List.mem_cons,List.not_mem_nil,or_false] at Y;rcases Y with rfl|rfl<;>exact⟨rfl,rfl⟩) (λC hC=>aNl C fr to o H ho hz hl he L qz qw h1 qt h2 J I f1 (λS' w he=>Vs.bO h0 he r0) (λS' w he=>Vs.bO h0 he rf)) (λi σ h=>h) (λC a w hl hg=>hg.no.elim) λaA wA SA pA hw _=>?_
 have rA:=pA.rcS r0;have rF:=pA.rcS rf;have qv:∀b,C1.S0 b->SA b:=λb L=>by rw[qu] at L;exact pA.sub b L
 have hk:=hw.dom;have hq:∀{S':Nat->Prop}{w':World},Vs.Past SA wA S' w'->S' 1∧Vs.powP w'.heap[1]?:=λ{S' w'} p=>h5 (pA.trans p);have qc:=hw.set [(3,.ptr (.t 3 0) 0 0),(5,.ptr (.t 5 0) 0 0),(1,.v f1),(8,.v (.slice none 0 0)),(9,.v (.int .i64 (caC fr to o H)))] (fvC (.inl ⟨rfl,rfl⟩) (fvC (.inl ⟨rfl,rfl⟩) (fvC (.inl ⟨rfl,rfl⟩) (fvC (.inl ⟨rfl,rfl⟩) (fvC (.inl ⟨rfl,rfl⟩) fvN)))));have jd:=qc.size
 letI I1:Vs.Tab 1 Vs.powP:=@Vs.Tab.mk 1 Vs.powP (Vs.keepE SA wA) (tV hk (hq (Vs.Past.refl _ _)))
 show Vs.At Tryz.prog Tryz.f3.ntmps (bG Tryz.prog) (.seq _ (Vs.lG 8 Cd.lawControlsAlong)) _ aA wA
 refine At.seq (At.rg (qc.rgN O 1 (τ:=⟨[(39,.agg [.v (.slice J.1 J.2.1 J.2.2),.v (.slice I.1 I.2.1 I.2.2)]),(3,.ptr (.t 3 0) 0 0),(5,.ptr (.t 5 0) 0 0),(1,.v f1),(8,.v (.slice none 0 0)),(9,.v (.int .i64 (caC fr to o H)))],[(.t 3 0,.var [.v (.slice J.1 J.2.1 J.2.2),.v (.slice I.1 I.2.1 I.2.2)] false),(.t 5 0,.var (cFd fr to) false)]⟩) ?_ λa2 w2 S2 p2 hh=>hh.rgc O (ts:=[39]) (ys:=[.agg [.v (.slice J.1 J.2.1 J.2.2),.v (.slice I.1 I.2.1 I.2.2)]]) (aAL Cd.l_toOffice_k.o) rfl rfl λus h4 hr=>?_))
 .simp -dsimp only[go_sem,cFd,cO]
  first|(simp[Vs.LeL,Vs.look,Vs.aB];done)|(and_intros<;>first|omega|rfl|(simp[Vs.LeL,Vs.look,Vs.aB];done))
 have hu:Vs.Past SA wA S2 w2:=p2
 refine (aBx o ho hh.dom hh.env h4 (λj hj=>by
   match j,hj with
   | 0,_ =>
     show RC S2 w2 _ (us.getD 0 undef)
     rw[gV (hr 0 (by simp))];exact hu.rcS rA)).mono ?_
 rintro e w3 ⟨tv,sv,rfl,hg3,m1,hom3,hn1⟩;refine⟨_,rfl,?_⟩
 have qx:=(hh.grow hg3 (D:=m1.D) (λb L=>⟨hn1 b L,hom3.lt b L⟩) [(3,.ptr (.t 3 0) 0 0),(5,.ptr (.t 5 0) 0 0),(1,.v f1),(8,.v (.slice none 0 0)),(9,.v (.int .i64 (caC fr to o H)))] (λp Y=>by
     simp only[List.mem_cons,List.not_mem_nil,or_false] at Y;rcases Y with rfl|rfl|rfl|rfl|rfl<;>exact⟨rfl,.inl rfl⟩)).putR (d:=40) (by rw[O,Cd.lawControlsAlong_k.n];omega) (r:=.agg [.v (.slice tv.1 tv.2.1 tv.2.2),.v (.slice sv.1 sv.2.1 sv.2.2)]) (aFw _ _)
 have hv:Vs.Past SA wA (λb=>S2 b∨m1.D b) w3:=hu.trans (Vs.Past.grow hg3 hh.dom);have ha:∀b,(S2 b∨m1.D b)->b<w3.heap.size:=λb L=>L.elim (λh=>Nat.lt_of_lt_of_le (hh.dom b h) hg3.size) (hom3.lt b)
 letI I3:Vs.Tab 1 Vs.powP:=@Vs.Tab.mk 1 Vs.powP (Vs.keepE (λb=>S2 b∨m1.D b) w3) (tV ha (hq hv))
 refine qx.rgN O 2 (τ:=⟨[(3,.ptr (.t 3 0) 0 0),(5,.ptr (.t 5 0) 0 0),(1,.v f1),(8,.v (.slice none 0 0)),(9,.v (.int .i64 (caC fr to o H))),(10,.ptr (.t 10 0) 0 0)],[(.t 10 0,.var [.v (.slice tv.1 tv.2.1 tv.2.2),.v (.slice sv.1 sv.2.1 sv.2.2)] false),(.t 3 0,.var [.v (.slice J.1 J.2.1 J.2.2),.v (.slice I.1 I.2.1 I.2.2)] false),(.t 5 0,.var (cFd fr to) false)]⟩) ?_ λa4 w4 S4 p4 qy=>RgL.nil ?_
 .simp only[slW];simp -dsimp only[go_sem,cFd,cO]
  first|(simp[Vs.LeL,Vs.look,Vs.aB];done)|(and_intros<;>first|omega|rfl|(simp[Vs.LeL,Vs.look,Vs.aB];done))
 have qo:=hv.trans p4;have qk:∀b,m1.D b->S4 b:=λb L=>p4.sub b (.inr L);have qb:=hom3.past (S:=λb=>S2 b∨m1.D b) (λb L=>.inr L) p4;have ql:∀b,m1.D b->¬SA b:=λb L hs=>by have:=hn1 b L;have:=hk b hs;have:=hu.size;omega
 show Vs.At Tryz.prog Tryz.f3.ntmps (bG Tryz.prog) (Vs.lG 8 Cd.lawControlsAlong) _ a4 w4
 refine qy.go dM O 6 _ (τ:=⟨[(3,.ptr (.t 3 0) 0 0),(5,.ptr (.t 5 0) 0 0),(1,.v f1),(8,.v (.slice none 0 0)),(9,.v (.int .i64 (caC fr to o H))),(10,.ptr (.t 10 0) 0 0),(11,.loc (.t 42 0) 0 H.length),(12,.v (.slice none 0 0)),(13,.v (.int .i64 (caC fr to o H))),(14,.v (.int .i64 1))],[(.t 42 0,.arr 9 (E cS H) false),(.t 10 0,.var [.v (.slice tv.1 tv.2.1 tv.2.2),.v (.slice sv.1 sv.2.1 sv.2.2)] false),(.t 3 0,.var [.v (.slice J.1 J.2.1 J.2.2),.v (.slice I.1 I.2.1 I.2.2)] false),(.t 5 0,.var (cFd fr to) false)]⟩) (X:=True) (E:=λ_ _=>False) (fvC ⟨aCi,rfl⟩ (fvC ⟨rfl,rfl⟩ (fvC ⟨rfl,rfl⟩ (fvC ⟨rfl,rfl⟩ fvN)))) (λC hC=>aNj C fr to o H ho hz hl he J I f1 (λS' w' U=>Vs.bO ha U (hv.rcS rA)) (λS' w' U=>Vs.bO ha U (hv.rcS rF)) tv sv (λS' w' U=>Vs.bO ha U (hom3.rd.mono (λb L=>.inr L) λ_ _=>rfl))) (λi σ h=>h) (λC a w hl hg=>hg.no.elim) λqr q5 ja qm qd _=>?_;have q8:=qo.trans qm;show Vs.At Tryz.prog Tryz.f3.ntmps (bG Tryz.prog) (.seq _ (Vs.lG 15 Cd.lawControlsAlong)) _ qr q5
 refine At.seq (At.rg (qd.rgN O 2 (τ:=⟨[(70,.agg [.v (.slice tv.1 tv.2.1 tv.2.2),.v (.slice sv.1 sv.2.1 sv.2.2)]),(71,.v (.int .i64 ((1:Nat):Int))),(3,.ptr (.t 3 0) 0 0),(5,.ptr (.t 5 0) 0 0),(1,.v f1),(8,.v (.slice none 0 0)),(9,.v (.int .i64 (caC fr to o H))),(11,.loc (.t 42 0) 0 H.length),(12,.v (.slice none 0 0)),(13,.v (.int .i64 (caC fr to o H)))],[(.t 42 0,.arr 9 (E cS H) false),(.t 10 0,.var [.v (.slice tv.1 tv.2.1 tv.2.2),.v (.slice sv.1 sv.2.1 sv.2.2)] false),(.t 3 0,.var [.v (.slice J.1 J.2.1 J.2.2),.v (.slice I.1 I.2.1 I.2.2)] false),(.t 5 0,.var (cFd fr to) false)]⟩) ?_ λjc qp qq qn hd=>hd.rgc O (ts:=[70,71]) (ys:=[.agg [.v (.slice tv.1 tv.2.1 tv.2.2),.v (.slice sv.1 sv.2.1 sv.2.2)],.v (.int .i64 ((1:Nat):Int))]) (aAL Cd.l_markOffice_k.o) rfl rfl λus h4 hr=>?_))
 .simp -dsimp only[go_sem,cFd,cO]
  first|(simp[Vs.LeL,Vs.look,Vs.aB];done)|(and_intros<;>first|omega|rfl|(simp[Vs.LeL,Vs.look,Vs.aB];done))
 obtain rfl:=Vs.us2 h4 (gV (hr 0 (by show 0<2;omega))) (Vs.aBO (hr 1 (by show 1<2;omega)));have hm:=qm.trans qn;have hf:=qo.trans hm;have h3:OfM qp o (slW tv) (slW sv) m1:=qb.past qk hm;refine(@zH ⟨[]⟩ o ho tv sv m1 1 (by omega) qh SA qp (λb L=>Nat.lt_of_lt_of_le (hk b L) hf.size) (λp Y=>by cases Y) ql h3).mono ?_;rintro e h6 ⟨rfl,q1,q2,q3,_⟩;refine⟨_,rfl,?_⟩;have qa:∀b,m1.D b->C1.w0.heap.size<=b∧qq b:=λb L=>⟨by have:=hn1 b L;have:=hu.size;omega,hm.sub b (qk b L)⟩
 have qe:=(hd.marked q1 q2 q3 qa (K:=SA) (λb L=>hf.sub b L) qv [(3,.ptr (.t 3 0) 0 0),(5,.ptr (.t 5 0) 0 0),(1,.v f1),(8,.v (.slice none 0 0)),(9,.v (.int .i64 (caC fr to o H))),(11,.loc (.t 42 0) 0 H.length),(12,.v (.slice none 0 0)),(13,.v (.int .i64 (caC fr to o H)))] (λp Y=>by
     simp only[List.mem_cons,List.not_mem_nil,or_false] at Y;rcases Y with rfl|rfl|rfl|rfl|rfl|rfl|rfl|rfl<;>exact⟨rfl,rfl⟩)).put (d:=72) (by rw[O,Cd.lawControlsAlong_k.n];omega) (.int .i64 (1+pW o:Nat))
 have hn:Vs.Past SA wA SA h6:=hf.mark hd.dom q1 q2 ql λ_ h=>h;have Z:∀b,SA b->b<h6.heap.size:=λb L=>Nat.lt_of_lt_of_le (hd.dom b (hf.sub b L)) q1
 letI q9:Vs.Tab 1 Vs.powP:=@Vs.Tab.mk 1 Vs.powP (Vs.keepE SA h6) (tV Z (hq hn))
 refine qe.rgN O 1 (τ:=⟨[(3,.ptr (.t 3 0) 0 0),(5,.ptr (.t 5 0) 0 0),(1,.v f1),(8,.v (.slice none 0 0)),(9,.v (.int .i64 (caC fr to o H))),(11,.loc (.t 42 0) 0 H.length),(12,.v (.slice none 0 0)),(13,.v (.int .i64 (caC fr to o H))),(14,.v (.int .i64 (1+pW o:Nat)))],[(.t 42 0,.arr 9 (E cS H) false),(.t 10 0,.var [.v (.slice tv.1 tv.2.1 tv.2.2),.v (.slice sv.1 sv.2.1 sv.2.2)] false),(.t 3 0,.var [.v (.slice J.1 J.2.1 J.2.2),.v (.slice I.1 I.2.1 I.2.2)] false),(.t 5 0,.var (cFd fr to) false)]⟩) ?_ λqs q6 jb je qf=>RgL.nil ?_
 .simp -dsimp only[go_sem,cFd,cO]
  first|(simp[Vs.LeL,Vs.look,Vs.aB];done)|(and_intros<;>first|omega|rfl|(simp[Vs.LeL,Vs.look,Vs.aB];done))
 show Vs.At Tryz.prog Tryz.f3.ntmps (bG Tryz.prog) (Vs.lG 15 Cd.lawControlsAlong) _ qs q6
 exact qf.fin dM O (λC hC=>aNh C fr to o H ho hz hl he qh J I f1 (λS' w' U=>Vs.bO Z U (hn.rcS rA)) (λS' w' U=>Vs.bO Z U (hn.rcS rF)) tv sv) (λi σ h=>h) (λC a w hl hg=>⟨.inl rfl,Vs.aH2 hl hM Cd.lawControlsAlong_k.r hg⟩)
theorem law_ControlsAlong (fr to:Int) (o:Off) (H:List Stp) (O:aEY o) (J:∀x,x∈H->x.text.size<2 ^ 63) (I:H.length<2 ^ 63):Fz F.lawControlsAlong [.agg (cO o),.sl 9 (E cS H),.agg (cFd fr to)] (.v (.bool true)):=by
 by_cases U:dB o 1048576<0
 .have L:decide (dB o 1048576<0)=true:=decide_eq_true U;refine fn0 Cd.lawControlsAlong_k λX=>?_;simp -dsimp only[go_sem,cFd,cO,L];refine aD.flat (aAf o 1048576 O (by omega)) rfl ?_;simp -dsimp only[go_sem,cFd,cO,L]
  first|done|simp
 obtain⟨Y,ho⟩:=aGC O (by omega) (by omega) (by omega:0<=dB o 1048576);have L:decide (dB o 1048576<0)=false:=decide_eq_false U;by_cases h2:szL oJ H (dB o 1048576)<0
 .have e2:decide (szL oJ H (dB o 1048576)<0)=true:=decide_eq_true h2;refine fn0 Cd.lawControlsAlong_k λX=>?_;simp -dsimp only[go_sem,cFd,cO,L];refine aD.flat (aAf o 1048576 O (by omega)) rfl ?_;simp -dsimp only[go_sem,cFd,cO,L];refine aD.flat (aEr H _ J I (by omega)) rfl ?_;simp -dsimp only[go_sem,cFd,cO,L,e2]
  first|done|simp
 have hl:H.length<=1048576:=by have:=aHF I (by omega) h2;omega
 have hz:∀x,x∈H->x.text.size<=1048576:=by
  intro x Z;obtain⟨m,h3,h4,h5⟩:=aLs (λx Z n h0 Y h=>aE9 (J x Z) h0 Y h) I (by omega) h2 x Z;have:=(aEq (J x Z) h3 h4 (by unfold oJ at h5;exact h5)).2;omega
 by_cases he:caC fr to o H=0
 .exact aL1 fr to o H ho hz hl he O J I U Y h2
 .exact aL0 fr to o H ho hz hl he O J I U Y h2
end
end Go.Proofs.YtmiiohemehacjaaGreatDoor
