/- What the reference tells of a sample, its decks and a flow's result. -/
import Derived.Test.YtonkjfiffcfaoaaGreatUwVx
import Derived.Test.YtonkjfiffcfaoaaGreatUwNa
import Derived.Test.YtonkjfiffcfaoaaGreatUuM
import Derived.Test.YtonkjfiffcfaoaaGreatUwNn
import Derived.Test.YtonkjfiffcfaoaaGreatUwC
import Derived.Test.YtonkjfiffcfaoaaGreatUwZs
set_option linter.all false
set_option maxHeartbeats 8000000
namespace Go.Proofs.YtonkjfiffcfaoaaGreat
open Go.Vs
section
variable [Vs.Envs]
attribute [local irreducible] Vs.Fn dV wO stC run rsB rsL aX atD gK geo gJ cZ aW dA dB l03 chB rk cd3 chI stp aY
attribute [local go_sem] Int.reduceBEq Int.reduceBNe cO cFd aG List.replicate_succ List.replicate_zero List.flatten_cons List.flatten_nil List.cons_append List.nil_append List.set_cons_zero List.set_cons_succ List.length_cons List.length_nil List.length_set List.mem_singleton List.mem_cons List.not_mem_nil or_false false_or Vs.Name.t.injEq List.getD_cons_zero List.getD_cons_succ Vs.Name.b.injEq List.getElem?_cons_zero List.getElem?_cons_succ
def fD (p:Nat→Bool):Nat→List Int
 |0=>[]
 |i+1=>fD p i++(if p i then[(i:Int)] else[])
theorem zW (p:Nat→Bool):∀i,(fD p i).length≤i
 |0=>Nat.le_refl _
 | i+1=>by
  have:=zW p i;simp only[fD,List.length_append];cases p i
  ·simp;omega
  ·simp;omega
theorem aGY {l:List (List Int)}{n:Int} (h:uN l n=0):aX l=true∧0<l.length∧l.length≤5∧∃k:Nat,n=k∧k≤3:=by
 unfold uN at h;split at h
 ·rename_i h1;split at h
  ·rename_i h2;simp[aCZ,inB] at h1 h2;exact⟨h1.1,by omega,by omega,n.toNat,by omega,by omega⟩
  ·cases h
 ·cases h
attribute [local go_sem] cS cP in
theorem aLh (l:List (List Int)) (hk:bE l) (h1:0<l.length) (h5:l.length≤5) (i q:Nat) (hi:i≤3) (hq:q<l.length ^ i):Fz F.xQ [.sl 1 (E cC l),.v (.int .i64 (gJ l.length i+q:Nat))] (.sl 1 (E cC (atD l i q))):=by
 have hp:∀j,j≤i→l.length ^ j≤625:=fun j hj=>aDK _ _ h5 (by omega);have hg:=aGO l.length h5 i (by omega);refine fn0 Cd.s_l17At_k fun X=>?_;simp -dsimp only[go_sem,cC];refine aN.at dM (X:={j:Nat // j≤i}) (fun j=>[(1,.v (.int .i64 (gJ l.length i+q-gJ l.length j.1:Nat))),(6,.v (.int .i64 j.1)),(7,.v (.int .i64 (l.length ^ j.1:Nat)))]) (fun j=>[]) (fun j=>i-j.1) ⟨0,by omega⟩ ?_ ?_
 ·simp[Vs.LeL,Vs.look,Vs.aB,Vs.aP,Vs.aK,Vs.hset,Vs.aL,gJ]
 ·rintro⟨j,hj⟩;have hgj:=aA0 l.length hj;have hpj:=hp j hj;have hs:=yF l.length j;simp -dsimp only[go_sem,cC];refine Br.mk (fun hc=>?_) fun hc=>?_
  ·have hc2:l.length ^ j≤gJ l.length i+q-gJ l.length j:=by have:=of_decide_eq_true hc;omega
   have hlt:j<i:=by
    rcases Nat.lt_or_ge j i with h|h
    ·exact h
    ·have e:j=i:=by omega
     subst e;omega
   have hgj2:=aA0 l.length (show j+1≤i from hlt);have hw6:IntKind.i64.wrap ((j:Int)+1)=((j+1:Nat):Int):=by rw[aO (by omega) (by omega)];omega
   have hw1:IntKind.i64.wrap (((gJ l.length i+q-gJ l.length j:Nat):Int)-((l.length ^ j:Nat):Int))=((gJ l.length i+q-gJ l.length (j+1):Nat):Int):=by
    have hq':=hp i (Nat.le_refl _);rw[aO (by omega) (by omega)];omega
   have hw7:IntKind.i64.wrap (((l.length ^ j:Nat):Int)*(l.length:Int))=((l.length ^ (j+1):Nat):Int):=by
    have e:((l.length ^ j:Nat):Int)*(l.length:Int)=((l.length ^ j*l.length:Nat):Int):=by rw[Int.natCast_mul]
    have:=hp (j+1) hlt;rw[Nat.pow_succ] at this;rw[e,aO (by omega) (by omega),Nat.pow_succ]
   simp -dsimp only[go_sem,hw6,hw1,hw7,cC];exact⟨⟨j+1,hlt⟩,by simp[Vs.LeL,Vs.look,Vs.aB,Vs.aP,Vs.aK,Vs.hset,Vs.aL],by simp only;omega⟩
  ·have hge:j=i:=by
    rcases Nat.lt_or_ge j i with h|h
    ·have hgj2:=aA0 l.length (show j+1≤i from h);have:=of_decide_eq_false hc;omega
    ·omega
   subst hge;have hsub:gJ l.length j+q-gJ l.length j=q:=by omega
   simp -dsimp only[go_sem,hsub,cC];refine⟨?_,fun h=>h rfl⟩;refine⟨⟨by omega,by omega⟩,?_⟩;refine aN.at dM (X:={m:Nat // m≤j}) (fun m=>[(1,.v (.int .i64 (q%l.length ^ (j-m.1):Nat))),(7,.v (.int .i64 (l.length ^ (j-m.1):Nat))),(8,.loc (.t 8 0) 0 (atD l m.1 (q/l.length ^ (j-m.1))).length),(9,.v (.int .i64 m.1))]) (fun m=>[(.t 8 0,.arr 1 (E cC (atD l m.1 (q/l.length ^ (j-m.1)))) false)]) (fun m=>j-m.1) ⟨0,by omega⟩ ?_ ?_
   ·simp[Vs.LeL,Vs.look,Vs.aB,Vs.aP,Vs.aK,Vs.hset,Vs.aL,atD,Vs.E,Nat.mod_eq_of_lt hq]
   ·rintro⟨m,hm⟩;simp -dsimp only[go_sem,cC];refine Br.mk (fun hc=>?_) fun hc=>?_
    ·have hlt:m<j:=by have:=of_decide_eq_true hc;omega
     obtain⟨u,hu⟩:∃u,j-m=u+1:=⟨j-m-1,by omega⟩;have hu2:j-(m+1)=u:=by omega
     have hb1:=hp (u+1) (by omega);have hb2:=hp u (by omega);have hp0:0<l.length ^ u:=Nat.pow_pos h1;have hn0:¬((l.length:Int)=0):=by omega
     have hm0:¬(((l.length ^ u:Nat):Int)=0):=by omega
     have hw9:IntKind.i64.wrap ((m:Int)+1)=((m+1:Nat):Int):=by rw[aO (by omega) (by omega)];omega
     have e7:IntKind.i64.wrap (((l.length ^ (u+1):Nat):Int).tdiv (l.length:Int))=((l.length ^ u:Nat):Int):=by
      rw[←Int.ofNat_tdiv,dig4 u h1,aO (by omega) (by omega)]
     have hr:q%l.length ^ (u+1)<l.length ^ (u+1):=Nat.mod_lt _ (Nat.pow_pos h1);have hdl:q/l.length ^ u%l.length<l.length:=Nat.mod_lt _ h1
     have ei:IntKind.i64.wrap (((q%l.length ^ (u+1):Nat):Int).tdiv ((l.length ^ u:Nat):Int))=((q/l.length ^ u%l.length:Nat):Int):=by
      rw[←Int.ofNat_tdiv,dig,aO (by omega) (by omega)]
     have e1:((q%l.length ^ (u+1):Nat):Int).tmod ((l.length ^ u:Nat):Int)=((q%l.length ^ u:Nat):Int):=by
      rw[←Int.ofNat_tmod,dig2]
     have hm2:(E cC l).getD (q/l.length ^ u%l.length) []=[.sl 1 (E cI (l.getD (q/l.length ^ u%l.length) []))]:=by rw[aT hdl];simp[cC,hdl]
     have hsm:(l.getD (q/l.length ^ u%l.length) []).length≤1048576:=by
      rw[List.getD_eq_getElem?_getD,List.getElem?_eq_getElem hdl];exact hk.2 _ (List.getElem_mem hdl)
     have ha:E cC (atD l m (q/l.length ^ (u+1)))++[[.sl 1 (E cI (l.getD (q/l.length ^ u%l.length) []))]]=E cC (atD l (m+1) (q/l.length ^ u)):=by
      rw[atD,dig3,aR];rfl
     have hlen:=(yM l h1 m (q/l.length ^ (u+1))).1;have hlen2:=(yM l h1 (m+1) (q/l.length ^ u)).1;have hO:=vD (l.getD (q/l.length ^ u%l.length) []) hsm;generalize hdd:q/l.length ^ u%l.length=dd at *
     simp only[hu]
     repeat' first|simp -dsimp only[go_sem,hw9,e7,ei,e1,hm2,hlen,ha,cC]|apply Br.mk<;>intro h<;>try simp -dsimp only[h]|refine aA.c (by first|exact hO) ?_|refine aC ?_|fail
     all_goals first|omega|(exact⟨⟨m+1,hlt⟩,by simp[Vs.LeL,Vs.look,Vs.aB,Vs.aP,Vs.aK,Vs.hset,Vs.aL,hu2,hlen,hlen2,ha],by simp only;omega⟩)
    ·have hge:m=j:=by have:=of_decide_eq_false hc;omega
     subst hge;have hlen:=(yM l h1 m q).1;simp -dsimp only[go_sem,Nat.sub_self,Nat.pow_zero,Nat.div_one,hlen,cC];have k1:(E cC (atD l m q)).take m=E cC (atD l m q):=List.take_of_length_le (by simp[aG,hlen]);simp only[k1]
     first|exact⟨⟨_,_,rfl,rfl⟩,fun h=>h rfl⟩
theorem aJr {l:List (List Int)} (hk:bE l) (hd:aX l=true) (h1:0<l.length) {n:Nat} (hn:n≤3) {k:Nat} (h:k<geo l.length n):∃i q,i≤3∧q<l.length ^ i∧k=gJ l.length i+q∧(gK l n).getD k []=atD l i q∧aX (atD l i q)=true∧bE (atD l i q):=by
 obtain⟨i,q,g1,g2,g3⟩:=yE l.length n k h;obtain⟨d1,d2⟩:=aCF hd hk h1 i q (by omega);refine⟨i,q,by omega,g2,g3,?_,d1,d2⟩;rw[List.getD_eq_getElem?_getD,g3,aBQ l h1 n i q g1 g2];rfl
theorem aFh {l:List (List Int)} (hk:bE l) (hd:aX l=true) (h1:0<l.length) {n:Nat} (hn:n≤3):∀d,d∈gK l n→aX d=true∧bE d:=fun d hm=>by
 obtain⟨k,hk',rfl⟩:=List.mem_iff_getElem.1 hm;obtain⟨i,q,_,_,_,g4,g5,g6⟩:=aJr hk hd h1 hn (by rw[←iC l n];exact hk':k<geo l.length n);have e:(gK l n)[k]=atD l i q:=by rw[←g4];simp[List.getD,hk']
 rw[e];exact⟨g5,g6⟩
def vJ (fl:List Stp) (w:Int):Bool:=fl.all (fun x=>dV x w)&&decide ((fl.length:Int)≤20)
def lsS (fl:List Stp) (i:Nat):List Stp:=fl.take i++fl.drop (i+1)
theorem x8 {fl:List Stp}{i:Nat}{x:Stp} (h:x∈lsS fl i):x∈fl:=by
 rcases List.mem_append.1 h with h|h
 ·exact List.mem_of_mem_take h
 ·exact List.mem_of_mem_drop h
theorem x9 (fl:List Stp) (i:Nat):(lsS fl i).length≤fl.length:=by simp[lsS];omega
def eqR (fl fm:List Stp) (d:List (List Int)):Bool:=(rsB fl d==rsB fm d)&&(if rsB fl d then p9 qT (rsL fl d) (rsL fm d) else true)
def ndB (fl:List Stp) (l:List (List Int)) (n i:Nat):Bool:=(gK l n).all fun d=>eqR fl (lsS fl i) d
def ndL (fl:List Stp) (l:List (List Int)) (n:Nat):List Int:=fD (ndB fl l n) fl.length
def ndC (fl:List Stp) (l:List (List Int)) (n:Int):Int:=if uN l n=0 then(if vJ fl (bD l) then 0 else 2) else uN l n
theorem aLf {fl:List Stp}{l:List (List Int)}{n:Int} (h:ndC fl l n=0):uN l n=0∧vJ fl (bD l)=true:=by
 unfold ndC at h;split at h
 ·rename_i h0;split at h
  ·rename_i h1;exact⟨h0,h1⟩
  ·cases h
 ·rename_i h0;exact absurd h h0
theorem aFV {fl:List Stp}{w:Int} (h:vJ fl w=true):fl.length≤20:=by
 have:=(Bool.and_eq_true _ _ ▸ h:_∧_).2;have:=of_decide_eq_true this;omega
theorem iK {fl:List Stp}{l:List (List Int)} (h:rsB fl l=true):rsV fl l=.sl 2 (E cT (rsL fl l)):=by unfold rsV;rw[if_pos h]
theorem jY {fl:List Stp}{l:List (List Int)} (h:rsB fl l=false):rsV fl l=.v (.slice none 0 0):=by unfold rsV;rw[h];rfl
theorem qF {fl:List Stp}{l:List (List Int)} (hd:aX l=true) (h:rsB fl l=true):(rsL fl l).length≤1048576:=by
 have hok:=(aDF fl (O0 l) (aFm hd)).1;unfold rsB at h;unfold rsL;have h1:((run (O0 l) fl).1.totals.length=1):=of_decide_eq_true (Bool.and_eq_true _ _ ▸ h:_∧_).2;generalize(run (O0 l) fl).1=o at *
 have h0:0<o.totals.length:=by omega
 rw[show o.totals.getD 0 []=o.totals[0] by simp[List.getD,h0]];exact(hok.2.2.2.2 _ (List.getElem_mem h0)).1
theorem aIr:Fz F.kW [.v (.slice none 0 0),.v (.slice none 0 0)] (.v (.bool true)):=by
 refine yI (args':=[.sl 2 (E cT []),.sl 2 (E cT [])]) rfl (fun S w j v hj ρ κ hh hv=>?_) (pO [] [] (by simp))
 match j,hj with
 |0,_=>cases hv with|clo h=>exact .clo (qY h)
 |1,_=>cases hv with|clo h=>exact .clo (qY h)
theorem aGo:Fz F.kK [.v (.slice none 0 0),.v (.slice none 0 0)] (.v (.bool true)):=by
 refine yI (args':=[.sl 2 (E cT []),.sl 2 (E cT [])]) rfl (fun S w j v hj ρ κ hh hv=>?_) (tQ [] [] (by simp))
 match j,hj with
 |0,_=>cases hv with|clo h=>exact .clo (qY h)
 |1,_=>cases hv with|clo h=>exact .clo (qY h)
attribute [local go_sem] Bool.true_beq Bool.false_beq Bool.not_false Bool.not_true bne_self_eq_false in
theorem nd11 (fl:List Stp) (hz:∀x,x∈fl→x.text.size≤1048576) (hl:fl.length≤1048576) (fm:List Stp) (hz2:∀x,x∈fm→x.text.size≤1048576) (hl2:fm.length≤1048576) (l:List (List Int)) (hk:bE l) (hd:aX l=true):Fz F.dN [.sl 1 (E cC l),.ro [.sl 9 (E cS fl)],.ro [.sl 9 (E cS fm)]] (.v (.bool (!eqR fl fm l))):=by
 have RA:=yS fl hz hl l hk hd;have RB:=yS fm hz2 hl2 l hk hd;have SN:=aIr;by_cases hcff:rsB fl l=false∧rsB fm l=false
 ·obtain⟨ha,hb⟩:=hcff;rw[jY ha,ha] at RA;rw[jY hb,hb] at RB;have e:eqR fl fm l=true:=by unfold eqR;rw[ha,hb];rfl
  rw[e];refine fn0 Cd.i_NeedlessSteps_1_1_k fun X=>?_
  repeat' first|simp -dsimp only[go_sem,cC,cS]|apply Br.mk<;>intro h<;>try simp -dsimp only[h]|refine aA.c (by first|exact RA|exact RB|exact SN) ?_|refine aC ?_|fail
  all_goals first|omega|exact⟨_,_,rfl,rfl⟩|(refine aS ?_;simp;done)
 by_cases hcft:rsB fl l=false∧rsB fm l=true
 ·obtain⟨ha,hb⟩:=hcft;rw[jY ha,ha] at RA;rw[iK hb,hb] at RB;have e:eqR fl fm l=false:=by unfold eqR;rw[ha,hb];rfl
  rw[e];refine fn0 Cd.i_NeedlessSteps_1_1_k fun X=>?_
  repeat' first|simp -dsimp only[go_sem,cC,cS]|apply Br.mk<;>intro h<;>try simp -dsimp only[h]|refine aA.c (by first|exact RA|exact RB|exact SN) ?_|refine aC ?_|fail
  all_goals first|omega|exact⟨_,_,rfl,rfl⟩|(refine aS ?_;simp;done)
 by_cases hctf:rsB fl l=true∧rsB fm l=false
 ·obtain⟨ha,hb⟩:=hctf;rw[iK ha,ha] at RA;rw[jY hb,hb] at RB;have ST:=pO (rsL fl l) (rsL fm l) (qF hd ha);have e:eqR fl fm l=false:=by unfold eqR;rw[ha,hb];rfl
  rw[e];refine fn0 Cd.i_NeedlessSteps_1_1_k fun X=>?_
  repeat' first|simp -dsimp only[go_sem,cC,cS]|apply Br.mk<;>intro h<;>try simp -dsimp only[h]|refine aA.c (by first|exact RA|exact RB|exact ST) ?_|refine aC ?_|fail
  all_goals first|omega|exact⟨_,_,rfl,rfl⟩|(refine aS ?_;simp;done)
 by_cases hctt:rsB fl l=true∧rsB fm l=true
 ·obtain⟨ha,hb⟩:=hctt;rw[iK ha,ha] at RA;rw[iK hb,hb] at RB;have ST:=pO (rsL fl l) (rsL fm l) (qF hd ha);have e:eqR fl fm l=p9 qT (rsL fl l) (rsL fm l):=by unfold eqR;rw[ha,hb];rfl
  rw[e];refine fn0 Cd.i_NeedlessSteps_1_1_k fun X=>?_
  repeat' first|simp -dsimp only[go_sem,cC,cS]|apply Br.mk<;>intro h<;>try simp -dsimp only[h]|refine aA.c (by first|exact RA|exact RB|exact ST) ?_|refine aC ?_|fail
  all_goals first|omega|exact⟨_,_,rfl,rfl⟩|(refine aS ?_;simp;done)
 exfalso;cases h1:rsB fl l<;>cases h2:rsB fm l<;>simp[h1,h2] at *
theorem idxDk (p:List (List Int)→Bool) (g:FuncId) (caps:List AV) (hcaps:iG caps=true) {l:List (List (List Int))} (hg:∀x,x∈l→Vs.Fn Tryz.prog g [] (.sl 1 (E cC x)::caps) (.v (.bool (p x))) []) (hl:l.length≤1048576) :
  Fz F.dG [.sl 1 (E cD l),.fn g caps] (.v (.int .i64 (rG p l))):=by
 refine fn0 Cd.ixf__i_Card__i_Card__k fun X=>?_;simp -dsimp only[go_sem,aF hcaps _ 6];refine aN.intro dM (fun i:{i:Nat // i≤l.length∧(l.take i).all (fun x=>!p x)=true}=>⟨[(0,.sl 1 (E cD l)),(1,.fn g caps),(7,.v (.int .i64 l.length)),(8,.v (.int .i64 i.1))],[]⟩) (fun i=>l.length-i.1) ⟨0,by simp⟩ ?_ ?_
 ·simp[Vs.LeL,Vs.look]
 ·rintro⟨i,hi,hall⟩;simp -dsimp only[go_sem];refine Br.mk (fun h1=>?_) fun h1=>?_
  ·have hlt:i<l.length:=by simpa using h1
   have hw:=aH hlt hl;simp -dsimp only[go_sem,aT hlt,cD,aF hcaps _ 7];refine⟨⟨by omega,by omega⟩,?_⟩;refine aA.flat (hg _ (List.getElem_mem hlt)) rfl ?_;simp -dsimp only[go_sem];refine Br.mk (fun h2=>?_) fun h2=>?_
   ·simp -dsimp only[go_sem];simp[aAW hlt hall h2]
   ·simp -dsimp only[go_sem,hw];exact⟨⟨i+1,by omega,bB hlt hall (by simpa using h2)⟩,by simp[Vs.LeL,Vs.look],by simp only;omega⟩
  ·have hge:i=l.length:=by
    have:¬i<l.length:=by simpa using h1
    omega
   subst hge;simp -dsimp only[go_sem];have:l.all (fun x=>!p x)=true:=by simpa using hall
   simp[aAX this]
theorem aL0 (p:List (List Int)→Bool) (g:FuncId) (caps:List AV) (hcaps:iG caps=true) {l:List (List (List Int))} (hg:∀x,x∈l→Vs.Fn Tryz.prog g [] (.sl 1 (E cC x)::caps) (.v (.bool (p x))) []) (hl:l.length≤1048576) :
  Fz F.eT [.sl 1 (E cD l),.fn g caps] (.v (.bool (l.any p))):=
 aCt Tryz.mixed (g:=F.dG) Cd.ctf__i_Card__i_Card__k.o Cd.ctf__i_Card__i_Card__k.n Cd.ctf__i_Card__i_Card__k.r rfl p g caps hcaps (idxDk p g caps hcaps hg hl)
theorem aEz (p:List (List Int)→Bool) (l:List (List (List Int))):(!l.any fun d=>!p d)=l.all p:=by
 induction l with
 |nil=>rfl
 |cons x r ih=>simp only[List.any_cons,List.all_cons,Bool.not_or,Bool.not_not,ih]
theorem nd1 (fl:List Stp) (hz:∀x,x∈fl→x.text.size≤1048576) (hl:fl.length≤1048576) (l:List (List Int)) (hk:bE l) (hd:aX l=true) (h1:0<l.length) (h5:l.length≤5) (n:Nat) (hn:n≤3) (i:Nat) (hi:i<fl.length):Fz F.eZ [.v (.int .i64 i),.ro [.sl 9 (E cS fl)],.ro [.sl 1 (E cD (gK l n))]] (.v (.bool (ndB fl l n i))):=by
 have CL:=aL2 fl (by omega) hl;have DL:=delS fl i hi;have hw:=aH hi hl;have hg4:geo l.length n≤4000:=by have:=zJ l.length h5 n hn;omega
 have CT:=aL0 (fun d=>!eqR fl (lsS fl i) d) F.dN [.ro [.sl 9 (E cS fl)],.ro [.sl 9 (E cS (lsS fl i))]] rfl (l:=gK l n) (fun d hm=>nd11 fl hz hl (lsS fl i) (fun x hx=>hz x (x8 hx)) (Nat.le_trans (x9 fl i) hl) d (aFh hk hd h1 hn d hm).2 (aFh hk hd h1 hn d hm).1) (by rw[iC];omega);have hna:=aEz (fun d=>eqR fl (lsS fl i) d) (gK l n);rw[show fl.take i++fl.drop (i+1)=lsS fl i from rfl] at DL;unfold ndB;rw[←hna];refine fn0 Cd.i_NeedlessSteps_1_k fun X=>?_
 repeat' first|simp -dsimp only[go_sem,hw,List.flatMap_cons,List.flatMap_nil,bA,bN,aZ,cC,cS]|apply Br.mk<;>intro h<;>try simp -dsimp only[h]|refine aA.own (by first|exact CL) rfl ?_|refine aA.bor (by first|exact DL) rfl ?_|refine aA.c (by first|exact CT) ?_|refine aC ?_|fail
 all_goals first|omega|exact⟨_,_,rfl,rfl⟩|(refine aS ?_;simp;done)
attribute [local go_sem] cC cS in
theorem colsO (p:Nat→Bool) (N:Nat) (hN:N≤4000) (g:FuncId) (c1 c2:List AV) (hp:∀i:Nat,i<N→Vs.Fn Tryz.prog g [] [.v (.int .i64 i),.ro c1,.ro c2] (.v (.bool (p i))) []) :
  Vs.Fn Tryz.prog F.iR [] [.v (.int .i64 N),.fn g [.ro c1,.ro c2]] (.loc (.b 0) 0 (fD p N).length) [some (.arr 1 (E cI (fD p N)) false)]:=by
 refine fn1 Cd.i_columnsWhere_k [.t 5 0] [.arr 1 (E cI (fD p N)) false] fun X=>?_;unfold Cd.iR;simp -dsimp only[go_sem];refine⟨⟨by omega,by omega⟩,?_⟩;refine aN.at dM (X:={zz:Nat×(Unit) // zz.1≤N∧True}) (fun zz=>[(5,.loc (.t 5 0) 0 (fD p zz.1.1).length),(9,.v (.int .i64 zz.1.1))]) (fun zz=>[(.t 5 0,.arr 1 (E cI (fD p zz.1.1)) false)]) (fun zz=>N-zz.1.1) ⟨(0,()),by omega,trivial⟩ ?_ ?_
 ·simp[Vs.LeL,Vs.look,Vs.aB,Vs.aP,Vs.aK,Vs.hset,Vs.aL,fD,Vs.E]
 ·rintro⟨⟨i,_⟩,hi,hg⟩;dsimp only at hi hg;simp -dsimp only[go_sem];refine Br.mk (fun hc=>?_) fun hc=>?_
  ·have hlt:i<N:=Dq;have hw:IntKind.i64.wrap ((i:Int)+1)=((i+1:Nat):Int):=by rw[aO (by omega) (by omega)];omega
   have hsl:=zW p i;have PI:=hp i hlt;have hap:E cI (fD p i)++[[.v (.int .i64 (i:Int))]]=E cI (fD p i++[(i:Int)]):=by rw[aR];rfl
   cases hb:p i
   ·rw[hb] at PI;have hs:fD p (i+1)=fD p i:=by simp[fD,hb]
    repeat' first|simp -dsimp only[go_sem,hw,hap]|apply Br.mk<;>intro h<;>try simp -dsimp only[h]|refine aA.c (by first|exact PI) ?_|refine aC ?_|fail
    all_goals first|omega|(exact nx (i+1,()) trivial (h2:=by simp[Vs.LeL,Vs.look,Vs.aB,Vs.aP,Vs.aK,Vs.hset,Vs.aL,hs]))
   ·rw[hb] at PI;have hs:fD p (i+1)=fD p i++[(i:Int)]:=by simp[fD,hb]
    repeat' first|simp -dsimp only[go_sem,hw,hap]|apply Br.mk<;>intro h<;>try simp -dsimp only[h]|refine aA.c (by first|exact PI) ?_|refine aC ?_|fail
    all_goals first|omega|(exact nx (i+1,()) trivial (h2:=by simp[Vs.LeL,Vs.look,Vs.aB,Vs.aP,Vs.aK,Vs.hset,Vs.aL,hs]))
  ·have hge:i=N:=by
    have:¬i<N:=Dq;omega
   subst hge;simp -dsimp only[go_sem];have k1:(E cI (fD p i)).take (fD p i).length=E cI (fD p i):=List.take_of_length_le (by rw[aG];exact Nat.le_refl _)
   try simp only[k1]
   first|exact⟨⟨_,_,rfl,rfl⟩,fun h=>h rfl⟩
theorem aI7 (fl:List Stp) (hz:∀x,x∈fl→x.text.size≤1048576) (hl:fl.length≤1048576) (l:List (List Int)) (hk:bE l) (n:Int) (h0:ndC fl l n=0):Vs.Fn Tryz.prog F.gQ [] [.sl 9 (E cS fl),.sl 1 (E cC l),.v (.int .i64 n)] (.tup [.loc (.b 0) 0 (ndL fl l n.toNat).length,.v (.int .i64 0)]) [some (.arr 1 (E cI (ndL fl l n.toNat)) false)]:=by
 obtain⟨hc0,hf⟩:=aLf h0;have SC:=aFw l n hk.2 hk.1;have WD:=iW l;have VF:=aCj fl (bD l) hz hl;obtain⟨hd,h1,h5,k,rfl,h3⟩:=aGY hc0;rw[aHZ hd,Bool.true_and,show(fl.all (fun x=>dV x (bD l))&&decide ((fl.length:Int)≤20))=vJ fl (bD l) from rfl,hf] at VF;rw[hc0] at SC;have DO:=aKM l k hk.2 h5 h3;have SZ:=aFv fl;have h20:=aFV hf;have CW:=colsO (ndB fl l k) fl.length (by omega) F.eZ [.sl 9 (E cS fl)] [.sl 1 (E cD (gK l k))] (fun i hi=>nd1 fl hz hl l hk hd h1 h5 k h3 i hi);rw[show fD (ndB fl l k) fl.length=ndL fl l k from rfl] at CW;simp only[Int.toNat_natCast];have hfl:∀b,some b∈[some (Blk.arr 1 (E cI (ndL fl l k)) false)]→Vs.vR b:=aJi (aD2 (fun _=>rfl));refine fn1 Cd.i_NeedlessSteps_k [.t 27 0] [.arr 1 (E cI (ndL fl l k)) false] fun X=>?_;unfold Cd.gQ
 repeat' first|simp -dsimp only[go_sem,cC,cS]|apply Br.mk<;>intro h<;>try simp -dsimp only[h]|refine aA.lend CW rfl hfl rfl ?_|refine aA.c (by first|exact SC|exact WD|exact VF|exact DO|exact SZ) ?_|refine aC ?_|fail
 all_goals first|omega|exact⟨_,_,rfl,rfl⟩|(refine aS ?_;simp;done)
end
section
variable [Vs.Envs]
attribute [local irreducible] Vs.Fn dV wO stC run rsB rsL aX atD gK geo gJ eqR ndB ndC ndL cZ aW dA dB l03 chB rk cd3 chI stp aY
attribute [local go_sem] Int.reduceBEq Int.reduceBNe cO cFd aG List.replicate_succ List.replicate_zero List.flatten_cons List.flatten_nil List.cons_append List.nil_append List.set_cons_zero List.set_cons_succ List.length_cons List.length_nil List.length_set List.mem_singleton List.mem_cons List.not_mem_nil or_false false_or Vs.Name.t.injEq List.getD_cons_zero List.getD_cons_succ Vs.Name.b.injEq List.getElem?_cons_zero List.getElem?_cons_succ in
theorem aIU (fl:List Stp) (hz:∀x,x∈fl→x.text.size≤1048576) (hl:fl.length≤1048576) (l:List (List Int)) (hk:bE l) (fm:List Stp) (hz2:∀x,x∈fm→x.text.size≤1048576) (hl2:fm.length≤1048576) (hd:aX l=true) (h1:0<l.length) (h5:l.length≤5) (n:Nat) (hn:n≤3):Fz F.qO [.sl 9 (E cS fl),.sl 9 (E cS fm),.sl 1 (E cC l),.v (.int .i64 n)] (.v (.bool ((gK l n).all fun d=>eqR fl fm d))):=by
 have CN:=aCd l.length n h5 hn;have hg4:geo l.length n≤4000:=by have:=zJ l.length h5 n hn;omega
 have SN:=aGo;refine fn0 Cd.s_l17Equal_k fun X=>?_;simp -dsimp only[go_sem,cC,cS];refine aA.flat CN rfl ?_;simp -dsimp only[go_sem,cC,cS];refine aN.at dM (X:={zz:Nat×(Unit) // zz.1≤geo l.length n∧((gK l n).take zz.1).all (fun d=>eqR fl fm d)=true}) (fun zz=>[(10,.v (.int .i64 zz.1.1))]) (fun zz=>[]) (fun zz=>geo l.length n-zz.1.1) ⟨(0,()),by omega,by simp⟩ ?_ ?_
 ·exact le0
 ·rintro⟨⟨i,_⟩,hi,hg⟩;dsimp only at hi hg;simp -dsimp only[go_sem,cC,cS];refine Br.mk (fun hc=>?_) fun hc=>?_
  ·have hlt:i<geo l.length n:=Dq;have hltA:i<(gK l n).length:=by rw[iC];exact hlt
   have hw:IntKind.i64.wrap ((i:Int)+1)=((i+1:Nat):Int):=by rw[aO (by omega) (by omega)];omega
   obtain⟨a,q,g1,g2,g3,g4,d1,d2⟩:=aJr hk hd h1 hn hlt;have AT:=aLh l hk h1 h5 a q g1 g2;rw[←g3] at AT;have hD:(gK l n)[i]=atD l a q:=by rw[←g4];simp[List.getD,hltA]
   have RA:=aAT fl hz hl (atD l a q) d2 d1;have RB:=aAT fm hz2 hl2 (atD l a q) d2 d1;cases ha:rsB fl (atD l a q)
   ·cases hb:rsB fm (atD l a q)
    ·rw[jY ha,ha] at RA;rw[jY hb,hb] at RB;have he:eqR fl fm (gK l n)[i]=true:=by rw[hD];unfold eqR;rw[ha,hb];rfl
     repeat' first|simp -dsimp only[go_sem,hw,cC,cS,Bool.true_beq,Bool.false_beq,Bool.not_false,Bool.not_true,bne_self_eq_false]|apply Br.mk<;>intro h<;>try simp -dsimp only[h]|refine aA.c (by first|exact AT|exact RA|exact RB|exact SN) ?_|refine aC ?_|fail
     all_goals first|omega|(exact nx (i+1,()) (bB (p:=fun d=>eqR fl fm d) hltA hg he))
    ·rw[jY ha,ha] at RA;rw[iK hb,hb] at RB;have he:eqR fl fm (gK l n)[i]=false:=by rw[hD];unfold eqR;rw[ha,hb];rfl
     have hall:((gK l n).all fun d=>eqR fl fm d)=false:=dX (p:=fun d=>eqR fl fm d) hltA he
     repeat' first|simp -dsimp only[go_sem,hw,cC,cS,Bool.true_beq,Bool.false_beq,Bool.not_false,Bool.not_true,bne_self_eq_false]|apply Br.mk<;>intro h<;>try simp -dsimp only[h]|refine aA.c (by first|exact AT|exact RA|exact RB|exact SN) ?_|refine aC ?_|fail
     all_goals first|omega|(refine aS ?_;rw[hall];done)|(simp[hall];done)|exact⟨_,_,rfl,rfl⟩
   ·cases hb:rsB fm (atD l a q)
    ·rw[iK ha,ha] at RA;rw[jY hb,hb] at RB;have he:eqR fl fm (gK l n)[i]=false:=by rw[hD];unfold eqR;rw[ha,hb];rfl
     have hall:((gK l n).all fun d=>eqR fl fm d)=false:=dX (p:=fun d=>eqR fl fm d) hltA he
     repeat' first|simp -dsimp only[go_sem,hw,cC,cS,Bool.true_beq,Bool.false_beq,Bool.not_false,Bool.not_true,bne_self_eq_false]|apply Br.mk<;>intro h<;>try simp -dsimp only[h]|refine aA.c (by first|exact AT|exact RA|exact RB|exact SN) ?_|refine aC ?_|fail
     all_goals first|omega|(refine aS ?_;rw[hall];done)|(simp[hall];done)|exact⟨_,_,rfl,rfl⟩
    ·cases hv:p9 qT (rsL fl (atD l a q)) (rsL fm (atD l a q))
     ·rw[iK ha,ha] at RA;rw[iK hb,hb] at RB;have ST:=tQ (rsL fl (atD l a q)) (rsL fm (atD l a q)) (qF d1 ha);rw[hv] at ST;have he:eqR fl fm (gK l n)[i]=false:=by rw[hD];unfold eqR;rw[ha,hb];exact hv
      have hall:((gK l n).all fun d=>eqR fl fm d)=false:=dX (p:=fun d=>eqR fl fm d) hltA he
      repeat' first|simp -dsimp only[go_sem,hw,cC,cS,Bool.true_beq,Bool.false_beq,Bool.not_false,Bool.not_true,bne_self_eq_false]|apply Br.mk<;>intro h<;>try simp -dsimp only[h]|refine aA.c (by first|exact AT|exact RA|exact RB|exact ST) ?_|refine aC ?_|fail
      all_goals first|omega|(refine aS ?_;rw[hall];done)|(simp[hall];done)|exact⟨_,_,rfl,rfl⟩
     ·rw[iK ha,ha] at RA;rw[iK hb,hb] at RB;have ST:=tQ (rsL fl (atD l a q)) (rsL fm (atD l a q)) (qF d1 ha);rw[hv] at ST;have he:eqR fl fm (gK l n)[i]=true:=by rw[hD];unfold eqR;rw[ha,hb];exact hv
      repeat' first|simp -dsimp only[go_sem,hw,cC,cS,Bool.true_beq,Bool.false_beq,Bool.not_false,Bool.not_true,bne_self_eq_false]|apply Br.mk<;>intro h<;>try simp -dsimp only[h]|refine aA.c (by first|exact AT|exact RA|exact RB|exact ST) ?_|refine aC ?_|fail
      all_goals first|omega|(exact nx (i+1,()) (bB (p:=fun d=>eqR fl fm d) hltA hg he))
  ·have hge:i=geo l.length n:=by
    have:¬i<geo l.length n:=Dq;omega
   subst hge;rw[←iC,List.take_length] at hg;simp -dsimp only[go_sem,cC,cS]
   first|(refine⟨aS ?_,fun h=>h rfl⟩;rw[hg];done)|(simp[hg];done)
attribute [local go_sem] Int.reduceBEq Int.reduceBNe cO cFd aG List.replicate_succ List.replicate_zero List.flatten_cons List.flatten_nil List.cons_append List.nil_append List.set_cons_zero List.set_cons_succ List.length_cons List.length_nil List.length_set List.mem_singleton List.mem_cons List.not_mem_nil or_false false_or Vs.Name.t.injEq List.getD_cons_zero List.getD_cons_succ Vs.Name.b.injEq List.getElem?_cons_zero List.getElem?_cons_succ in
theorem aIe (fl:List Stp) (hz:∀x,x∈fl→x.text.size≤1048576) (hl:fl.length≤1048576) (l:List (List Int)) (hk:bE l) (n:Int) (h0:ndC fl l n=0):Fz F.jC [.sl 9 (E cS fl),.sl 1 (E cC l),.v (.int .i64 n)] (.tup [.sl 1 (E cI (ndL fl l n.toNat)),.v (.int .i64 0)]):=by
 obtain⟨hc0,hf⟩:=aLf h0;have SC:=aDP l n hk.2 hk.1;have WD:=dL l;have VF:=aDR fl (bD l) hz hl;obtain⟨hd,h1,h5,k,rfl,h3⟩:=aGY hc0;rw[show(fl.all (fun x=>dV x (bD l))&&decide ((fl.length:Int)≤20))=vJ fl (bD l) from rfl,hf] at VF;rw[hc0] at SC;have h20:=aFV hf;simp only[Int.toNat_natCast];refine fn0 Cd.s_NeedlessSteps_k fun X=>?_
 repeat' first|simp -dsimp only[go_sem,cC,cS]|apply Br.mk<;>intro h<;>try simp -dsimp only[h]|refine aA.c (by first|exact SC|exact WD|exact VF) ?_|refine aC ?_|fail
 refine aN.at dM (X:={zz:Nat×(Unit) // zz.1≤fl.length∧True}) (fun zz=>[(9,.loc (.t 9 0) 0 (fD (ndB fl l k) zz.1.1).length),(10,.v (.int .i64 zz.1.1))]) (fun zz=>[(.t 9 0,.arr 1 (E cI (fD (ndB fl l k) zz.1.1)) false)]) (fun zz=>fl.length-zz.1.1) ⟨(0,()),by omega,trivial⟩ ?_ ?_
 ·simp[Vs.LeL,Vs.look,Vs.aB,Vs.aP,Vs.aK,Vs.hset,Vs.aL,fD,Vs.E]
 ·rintro⟨⟨i,_⟩,hi,hg⟩;dsimp only at hi hg;simp -dsimp only[go_sem,cC,cS];refine Br.mk (fun hc=>?_) fun hc=>?_
  ·have hlt:i<fl.length:=Dq;have hw:IntKind.i64.wrap ((i:Int)+1)=((i+1:Nat):Int):=by rw[aO (by omega) (by omega)];omega
   have hsl:=zW (ndB fl l k) i;have EQ:=aIU fl hz hl l hk (lsS fl i) (fun x hx=>hz x (x8 hx)) (Nat.le_trans (x9 fl i) hl) hd h1 h5 k h3;rw[show((gK l k).all fun d=>eqR fl (lsS fl i) d)=ndB fl l k i from by unfold ndB;rfl] at EQ;have hap:E cI (fD (ndB fl l k) i)++[[.v (.int .i64 (i:Int))]]=E cI (fD (ndB fl l k) i++[(i:Int)]):=by rw[aR];rfl
   have ht:(E cS fl).take i=E cS (fl.take i):=by simp[E,List.map_take]
   have hdr:(E cS fl).drop (i+1)=E cS (fl.drop (i+1)):=by simp[E,List.map_drop]
   have hli:(fl.take i).length=i:=by simp;omega
   have hld:(fl.drop (i+1)).length=fl.length-(i+1):=by simp
   have hjn:E cS (fl.take i)++E cS (fl.drop (i+1))=E cS (lsS fl i):=by rw[←aR];rfl
   have hll:(lsS fl i).length=i+(fl.length-(i+1)):=by simp[lsS,hli]
   have htk2:(E cS fl).take fl.length=E cS fl:=List.take_of_length_le (by rw[aG];exact Nat.le_refl _);have htk3:(E cS (lsS fl i)).take (i+(fl.length-(i+1)))=E cS (lsS fl i):=List.take_of_length_le (by rw[aG,hll];exact Nat.le_refl _);cases hb:ndB fl l k i
   ·rw[hb] at EQ;have hs:fD (ndB fl l k) (i+1)=fD (ndB fl l k) i:=by simp[fD,hb]
    repeat' first|simp -dsimp only[go_sem,hw,hap,ht,hdr,hli,hld,hjn,hll,htk2,htk3,cC,cS]|apply Br.mk<;>intro h<;>try simp -dsimp only[h]|refine aA.c (by first|exact EQ) ?_|refine aC ?_|fail
    all_goals first|omega|(exact nx (i+1,()) trivial (h2:=by simp[Vs.LeL,Vs.look,Vs.aB,Vs.aP,Vs.aK,Vs.hset,Vs.aL,hs]))
   ·rw[hb] at EQ;have hs:fD (ndB fl l k) (i+1)=fD (ndB fl l k) i++[(i:Int)]:=by simp[fD,hb]
    repeat' first|simp -dsimp only[go_sem,hw,hap,ht,hdr,hli,hld,hjn,hll,htk2,htk3,cC,cS]|apply Br.mk<;>intro h<;>try simp -dsimp only[h]|refine aA.c (by first|exact EQ) ?_|refine aC ?_|fail
    all_goals first|omega|(exact nx (i+1,()) trivial (h2:=by simp[Vs.LeL,Vs.look,Vs.aB,Vs.aP,Vs.aK,Vs.hset,Vs.aL,hs]))
  ·have hge:i=fl.length:=by
    have:¬i<fl.length:=Dq;omega
   subst hge;rw[show ndL fl l k=fD (ndB fl l k) fl.length from by unfold ndL;rfl];simp -dsimp only[go_sem,cC,cS];have k1:(E cI (fD (ndB fl l k) fl.length)).take (fD (ndB fl l k) fl.length).length=E cI (fD (ndB fl l k) fl.length):=List.take_of_length_le (by rw[aG];exact Nat.le_refl _)
   try simp only[k1]
   first|exact⟨⟨_,_,rfl,rfl⟩,fun h=>h rfl⟩|(refine⟨aS ?_,fun h=>h rfl⟩;simp;done)
end
section
variable [Vs.Envs]
attribute [local irreducible] Vs.Fn dV wO stC run rsB rsL aX atD gK geo gJ eqR ndB ndC ndL cZ aW dA dB l03 chB rk cd3 chI stp aY
theorem aLt {x:Stp}{v w:Int} (h:v≤w) (hv:dV x v=true):dV x w=true:=by
 unfold dV at *
 simp only[Bool.and_eq_true] at hv⊢;obtain⟨a,b,c,d,e,f,g⟩:=hv;refine⟨a,b,c,d,vK h e,f,?_⟩;split at g
 ·rename_i h7;rw[if_pos h7];simp only[Bool.and_eq_true] at g⊢;exact⟨g.1,aAS h g.2.1,g.2.2⟩
 ·rename_i h7;rw[if_neg h7];exact g
theorem aD1 {fl:List Stp}{v w:Int} (h:v≤w) (hf:vJ fl v=true):vJ fl w=true:=by
 unfold vJ at *
 rw[Bool.and_eq_true,List.all_eq_true] at hf⊢;exact⟨fun x hx=>aLt h (hf.1 x hx),hf.2⟩
theorem aE2 {fl:List Stp}{w:Int} (i:Nat) (hf:vJ fl w=true):vJ (lsS fl i) w=true:=by
 unfold vJ at *
 rw[Bool.and_eq_true,List.all_eq_true,decide_eq_true_eq] at hf⊢;have:=x9 fl i;exact⟨fun x hx=>hf.1 x (x8 hx),by omega⟩
def rsC (fl:List Stp) (d:List (List Int)):Int:=if rsB fl d then 0 else 3
theorem aJX (l:List (List Int)) (hk:bE l) (h1:0<l.length) (h5:l.length≤5) (n:Nat) (hn:n≤3) (h0:uN l (n:Int)=0):Fz F.mP [.sl 1 (E cC l),.v (.int .i64 n)] (.tup [.v (.int .i64 (geo l.length n:Nat)),.v (.int .i64 0)]):=by
 have SC:=aDP l n hk.2 hk.1;have CN:=aCd l.length n h5 hn;rw[h0] at SC;refine fn0 Cd.s_CountDecks_k fun X=>?_
 repeat' first|simp -dsimp only[go_sem,Int.reduceBEq,Int.reduceBNe,cC,cO,cS,cFd,aG,List.replicate_succ,List.replicate_zero,List.flatten_cons,List.flatten_nil,List.cons_append,List.nil_append,List.set_cons_zero,List.set_cons_succ,List.length_cons,List.length_nil,List.length_set,List.mem_singleton,List.mem_cons,List.not_mem_nil,or_false,false_or,Vs.Name.t.injEq,List.getD_cons_zero,List.getD_cons_succ,Vs.Name.b.injEq,List.getElem?_cons_zero,List.getElem?_cons_succ,Bool.not_false,Bool.not_true]|apply Br.mk<;>intro h<;>try simp -dsimp only[h]|refine aA.c (by first|exact SC|exact CN) ?_|refine aC ?_|fail
 all_goals first|omega|exact⟨_,_,rfl,rfl⟩|(refine aS ?_;simp;done)
theorem aGk (l:List (List Int)) (hk:bE l) (h1:0<l.length) (h5:l.length≤5) (n:Nat) (hn:n≤3) (h0:uN l (n:Int)=0) (i q:Nat) (hi:i≤n) (hq:q<l.length ^ i):Fz F.wJ [.sl 1 (E cC l),.v (.int .i64 n),.v (.int .i64 (gJ l.length i+q:Nat))] (.tup [.sl 1 (E cC (atD l i q)),.v (.int .i64 0)]):=by
 have SC:=aDP l n hk.2 hk.1;have CN:=aCd l.length n h5 hn;have AT:=aLh l hk h1 h5 i q (by omega) hq
 have hlt:gJ l.length i+q<geo l.length n:=by
  have h2:=yF l.length i;have h3:gJ l.length (i+1)=geo l.length i:=by simp only[gJ]
  have h4:=aAB l.length n i hi;omega
 have hg4:geo l.length n≤4000:=by have:=zJ l.length h5 n hn;omega
 have hw:IntKind.i64.wrap (((geo l.length n:Nat):Int)-1)=((geo l.length n:Nat):Int)-1:=aO (by omega) (by omega);have IN:=tT (gJ l.length i+q:Nat) 0 (((geo l.length n:Nat):Int)-1)
 have hin:inB (gJ l.length i+q:Nat) 0 (((geo l.length n:Nat):Int)-1)=true:=by
  simp only[inB,Bool.and_eq_true,decide_eq_true_eq];omega
 rw[hin] at IN;rw[h0] at SC;generalize gJ l.length i+q=m at *
 refine fn0 Cd.s_DeckAt_k fun X=>?_
 repeat' first|simp -dsimp only[go_sem,hw,Int.reduceBEq,Int.reduceBNe,cC,cO,cS,cFd,aG,List.replicate_succ,List.replicate_zero,List.flatten_cons,List.flatten_nil,List.cons_append,List.nil_append,List.set_cons_zero,List.set_cons_succ,List.length_cons,List.length_nil,List.length_set,List.mem_singleton,List.mem_cons,List.not_mem_nil,or_false,false_or,Vs.Name.t.injEq,List.getD_cons_zero,List.getD_cons_succ,Vs.Name.b.injEq,List.getElem?_cons_zero,List.getElem?_cons_succ,Bool.not_false,Bool.not_true]|apply Br.mk<;>intro h<;>try simp -dsimp only[h]|refine aA.c (by first|exact SC|exact CN|exact IN|exact AT) ?_|refine aC ?_|fail
 all_goals first|omega|exact⟨_,_,rfl,rfl⟩|(refine aS ?_;simp;done)
attribute [local go_sem] Int.reduceBEq Int.reduceBNe cO cFd aG List.replicate_succ List.replicate_zero List.flatten_cons List.flatten_nil List.cons_append List.nil_append List.set_cons_zero List.set_cons_succ List.length_cons List.length_nil List.length_set List.mem_singleton List.mem_cons List.not_mem_nil or_false false_or Vs.Name.t.injEq List.getD_cons_zero List.getD_cons_succ Vs.Name.b.injEq List.getElem?_cons_zero List.getElem?_cons_succ Bool.not_false Bool.not_true in
theorem aBA (fl:List Stp) (hz:∀x,x∈fl→x.text.size≤1048576) (hl:fl.length≤1048576) (d:List (List Int)) (hk:bE d) (hd:aX d=true) (hf:vJ fl (bD d)=true):Fz F.nZ [.sl 9 (E cS fl),.sl 1 (E cC d)] (.tup [rsV fl d,.v (.int .i64 (rsC fl d))]):=by
 have VD:=dH d hk.2 hk.1;have WD:=dL d;have VF:=aDR fl (bD d) hz hl;have RS:=aAT fl hz hl d hk hd;rw[show(fl.all (fun x=>dV x (bD d))&&decide ((fl.length:Int)≤20))=vJ fl (bD d) from rfl,hf] at VF;rw[hd] at VD;unfold rsC;cases hr:rsB fl d
 ·rw[jY hr,hr] at RS;rw[jY hr,show(if(false:Bool)=true then(0:Int) else 3)=3 from rfl];refine fn0 Cd.s_ResultOf_k fun X=>?_
  repeat' first|simp -dsimp only[go_sem,cC,cS]|apply Br.mk<;>intro h<;>try simp -dsimp only[h]|refine aA.c (by first|exact VD|exact WD|exact VF|exact RS) ?_|refine aC ?_|fail
  all_goals first|omega|exact⟨_,_,rfl,rfl⟩|(refine aS ?_;simp;done)
 ·rw[iK hr,hr] at RS;rw[iK hr,show(if(true:Bool)=true then(0:Int) else 3)=0 from rfl];refine fn0 Cd.s_ResultOf_k fun X=>?_
  repeat' first|simp -dsimp only[go_sem,cC,cS]|apply Br.mk<;>intro h<;>try simp -dsimp only[h]|refine aA.c (by first|exact VD|exact WD|exact VF|exact RS) ?_|refine aC ?_|fail
  all_goals first|omega|exact⟨_,_,rfl,rfl⟩|(refine aS ?_;simp;done)
theorem aGj (l m:List Tot) (hl:l.length≤1048576):Fz F.iX [.sl 2 (E cT l),.sl 2 (E cT m)] (.v (.bool (p9 qT l m))):=by
 have LT:=tQ l m hl;refine fn0 Cd.s_SameTotals_k fun X=>?_
 repeat' first|simp -dsimp only[go_sem,Int.reduceBEq,Int.reduceBNe,cC,cO,cS,cFd,aG,List.replicate_succ,List.replicate_zero,List.flatten_cons,List.flatten_nil,List.cons_append,List.nil_append,List.set_cons_zero,List.set_cons_succ,List.length_cons,List.length_nil,List.length_set,List.mem_singleton,List.mem_cons,List.not_mem_nil,or_false,false_or,Vs.Name.t.injEq,List.getD_cons_zero,List.getD_cons_succ,Vs.Name.b.injEq,List.getElem?_cons_zero,List.getElem?_cons_succ,Bool.not_false,Bool.not_true]|apply Br.mk<;>intro h<;>try simp -dsimp only[h]|refine aA.c (by first|exact LT) ?_|refine aC ?_|fail
 all_goals first|omega|exact⟨_,_,rfl,rfl⟩|(refine aS ?_;simp;done)
theorem aEi:Fz F.iX [.v (.slice none 0 0),.v (.slice none 0 0)] (.v (.bool true)):=by
 have LT:=aGo;refine fn0 Cd.s_SameTotals_k fun X=>?_
 repeat' first|simp -dsimp only[go_sem,Int.reduceBEq,Int.reduceBNe,cC,cO,cS,cFd,aG,List.replicate_succ,List.replicate_zero,List.flatten_cons,List.flatten_nil,List.cons_append,List.nil_append,List.set_cons_zero,List.set_cons_succ,List.length_cons,List.length_nil,List.length_set,List.mem_singleton,List.mem_cons,List.not_mem_nil,or_false,false_or,Vs.Name.t.injEq,List.getD_cons_zero,List.getD_cons_succ,Vs.Name.b.injEq,List.getElem?_cons_zero,List.getElem?_cons_succ,Bool.not_false,Bool.not_true]|apply Br.mk<;>intro h<;>try simp -dsimp only[h]|refine aA.c (by first|exact LT) ?_|refine aC ?_|fail
 all_goals first|omega|exact⟨_,_,rfl,rfl⟩|(refine aS ?_;simp;done)
end
end Go.Proofs.YtonkjfiffcfaoaaGreat
