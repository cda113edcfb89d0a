/- Steps that are needless: the reference. -/
import Derived.Test.YthfnpdhpefialaaGreatYwVx
import Derived.Test.YthfnpdhpefialaaGreatYwNa
import Derived.Test.YthfnpdhpefialaaGreatYuM
import Derived.Test.YthfnpdhpefialaaGreatYwNn
import Derived.Test.YthfnpdhpefialaaGreatYwC
import Derived.Test.YthfnpdhpefialaaGreatYwZs
set_option linter.all false
set_option maxHeartbeats 8000000
namespace Go.Proofs.YthfnpdhpefialaaGreat
open Go.Vs
section
variable [Vs.Envs]
attribute [local irreducible] Vs.Fn stpB wO stC run rsB rsL deckB atD allD geo geo0 chOK areCh chTo chAt l03 chB rk cd3 chI stp stpTo
attribute [local go_sem] Int.reduceBEq Int.reduceBNe cO cFd E_len List.replicate_succ List.replicate_zero List.flatten_cons List.flatten_nil List.cons_append List.nil_append List.set_cons_zero List.set_cons_succ List.length_cons List.length_nil List.length_set List.mem_singleton List.mem_cons List.not_mem_nil or_false false_or Vs.Name.t.injEq List.getD_cons_zero List.getD_cons_succ Vs.Name.b.injEq List.getElem?_cons_zero List.getElem?_cons_succ
def selN (p:Nat→Bool):Nat→List Int
 |0=>[]
 |i+1=>selN p i++(if p i then[(i:Int)] else[])
theorem selN_len (p:Nat→Bool):∀i,(selN p i).length≤i
 |0=>Nat.le_refl _
 | i+1=>by
  have:=selN_len p i
  simp only[selN,List.length_append]
  cases p i
  ·simp;omega
  ·simp;omega
theorem codeI_0 {l:List (List Int)}{n:Int} (h:codeI l n=0):deckB l=true∧0<l.length∧l.length≤5∧∃k:Nat,n=k∧k≤3:=by
 unfold codeI at h
 split at h
 ·rename_i h1
  split at h
  ·rename_i h2
   simp[sampB,inB] at h1 h2
   exact⟨h1.1,by omega,by omega,n.toNat,by omega,by omega⟩
  ·cases h
 ·cases h
attribute [local go_sem] cS cP in
theorem l17At (l:List (List Int)) (hk:smallC l) (h1:0<l.length) (h5:l.length≤5) (i q:Nat) (hi:i≤3) (hq:q<l.length ^ i):Fz F.s_l17At [.sl 1 (E cC l),.v (.int .i64 (geo0 l.length i+q:Nat))] (.sl 1 (E cC (atD l i q))):=by
 have hp:∀j,j≤i→l.length ^ j≤625:=fun j hj=>pow_le _ _ h5 (by omega)
 have hg:=geo0_le l.length h5 i (by omega)
 refine fn0 Cd.s_l17At_k fun X=>?_
 simp -dsimp only[go_sem,cC]
 refine LoopK.at dM (X:={j:Nat // j≤i}) (fun j=>[(1,.v (.int .i64 (geo0 l.length i+q-geo0 l.length j.1:Nat))),(6,.v (.int .i64 j.1)),(7,.v (.int .i64 (l.length ^ j.1:Nat)))]) (fun j=>[]) (fun j=>i-j.1) ⟨0,by omega⟩ ?_ ?_
 ·simp[Vs.LeL,Vs.look,Vs.hlook,Vs.sput,Vs.sputs,Vs.hset,Vs.hputs,geo0]
 ·rintro⟨j,hj⟩
  have hgj:=geo0_mono l.length hj
  have hpj:=hp j hj
  have hs:=geo0_succ l.length j
  simp -dsimp only[go_sem,cC]
  refine Br.mk (fun hc=>?_) fun hc=>?_
  ·have hc2:l.length ^ j≤geo0 l.length i+q-geo0 l.length j:=by have:=of_decide_eq_true hc;omega
   have hlt:j<i:=by
    rcases Nat.lt_or_ge j i with h|h
    ·exact h
    ·have e:j=i:=by omega
     subst e
     omega
   have hgj2:=geo0_mono l.length (show j+1≤i from hlt)
   have hw6:IntKind.i64.wrap ((j:Int)+1)=((j+1:Nat):Int):=by rw[wrap_in (by omega) (by omega)];omega
   have hw1:IntKind.i64.wrap (((geo0 l.length i+q-geo0 l.length j:Nat):Int)-((l.length ^ j:Nat):Int))=((geo0 l.length i+q-geo0 l.length (j+1):Nat):Int):=by
    have hq':=hp i (Nat.le_refl _)
    rw[wrap_in (by omega) (by omega)];omega
   have hw7:IntKind.i64.wrap (((l.length ^ j:Nat):Int)*(l.length:Int))=((l.length ^ (j+1):Nat):Int):=by
    have e:((l.length ^ j:Nat):Int)*(l.length:Int)=((l.length ^ j*l.length:Nat):Int):=by rw[Int.natCast_mul]
    have:=hp (j+1) hlt
    rw[Nat.pow_succ] at this
    rw[e,wrap_in (by omega) (by omega),Nat.pow_succ]
   simp -dsimp only[go_sem,hw6,hw1,hw7,cC]
   exact⟨⟨j+1,hlt⟩,by simp[Vs.LeL,Vs.look,Vs.hlook,Vs.sput,Vs.sputs,Vs.hset,Vs.hputs],by simp only;omega⟩
  ·have hge:j=i:=by
    rcases Nat.lt_or_ge j i with h|h
    ·have hgj2:=geo0_mono l.length (show j+1≤i from h)
     have:=of_decide_eq_false hc;omega
    ·omega
   subst hge
   have hsub:geo0 l.length j+q-geo0 l.length j=q:=by omega
   simp -dsimp only[go_sem,hsub,cC]
   refine⟨?_,fun h=>h rfl⟩
   refine⟨⟨by omega,by omega⟩,?_⟩
   refine LoopK.at dM (X:={m:Nat // m≤j}) (fun m=>[(1,.v (.int .i64 (q%l.length ^ (j-m.1):Nat))),(7,.v (.int .i64 (l.length ^ (j-m.1):Nat))),(8,.loc (.t 8 0) 0 (atD l m.1 (q/l.length ^ (j-m.1))).length),(9,.v (.int .i64 m.1))]) (fun m=>[(.t 8 0,.arr 1 (E cC (atD l m.1 (q/l.length ^ (j-m.1)))) false)]) (fun m=>j-m.1) ⟨0,by omega⟩ ?_ ?_
   ·simp[Vs.LeL,Vs.look,Vs.hlook,Vs.sput,Vs.sputs,Vs.hset,Vs.hputs,atD,Vs.E,Nat.mod_eq_of_lt hq]
   ·rintro⟨m,hm⟩
    simp -dsimp only[go_sem,cC]
    refine Br.mk (fun hc=>?_) fun hc=>?_
    ·have hlt:m<j:=by have:=of_decide_eq_true hc;omega
     obtain⟨u,hu⟩:∃u,j-m=u+1:=⟨j-m-1,by omega⟩
     have hu2:j-(m+1)=u:=by omega
     have hb1:=hp (u+1) (by omega)
     have hb2:=hp u (by omega)
     have hp0:0<l.length ^ u:=Nat.pow_pos h1
     have hn0:¬((l.length:Int)=0):=by omega
     have hm0:¬(((l.length ^ u:Nat):Int)=0):=by omega
     have hw9:IntKind.i64.wrap ((m:Int)+1)=((m+1:Nat):Int):=by rw[wrap_in (by omega) (by omega)];omega
     have e7:IntKind.i64.wrap (((l.length ^ (u+1):Nat):Int).tdiv (l.length:Int))=((l.length ^ u:Nat):Int):=by
      rw[←Int.ofNat_tdiv,dig4 u h1,wrap_in (by omega) (by omega)]
     have hr:q%l.length ^ (u+1)<l.length ^ (u+1):=Nat.mod_lt _ (Nat.pow_pos h1)
     have hdl:q/l.length ^ u%l.length<l.length:=Nat.mod_lt _ h1
     have ei:IntKind.i64.wrap (((q%l.length ^ (u+1):Nat):Int).tdiv ((l.length ^ u:Nat):Int))=((q/l.length ^ u%l.length:Nat):Int):=by
      rw[←Int.ofNat_tdiv,dig,wrap_in (by omega) (by omega)]
     have e1:((q%l.length ^ (u+1):Nat):Int).tmod ((l.length ^ u:Nat):Int)=((q%l.length ^ u:Nat):Int):=by
      rw[←Int.ofNat_tmod,dig2]
     have hm2:(E cC l).getD (q/l.length ^ u%l.length) []=[.sl 1 (E cI (l.getD (q/l.length ^ u%l.length) []))]:=by rw[E_get hdl];simp[cC,hdl]
     have hsm:(l.getD (q/l.length ^ u%l.length) []).length≤1048576:=by
      rw[List.getD_eq_getElem?_getD,List.getElem?_eq_getElem hdl]
      exact hk.2 _ (List.getElem_mem hdl)
     have ha:E cC (atD l m (q/l.length ^ (u+1)))++[[.sl 1 (E cI (l.getD (q/l.length ^ u%l.length) []))]]=E cC (atD l (m+1) (q/l.length ^ u)):=by
      rw[atD,dig3,E_append];rfl
     have hlen:=(atD_mem l h1 m (q/l.length ^ (u+1))).1
     have hlen2:=(atD_mem l h1 (m+1) (q/l.length ^ u)).1
     have hO:=l02Own (l.getD (q/l.length ^ u%l.length) []) hsm
     generalize hdd:q/l.length ^ u%l.length=dd at *
     simp only[hu]
     repeat' first|simp -dsimp only[go_sem,hw9,e7,ei,e1,hm2,hlen,ha,cC]|apply Br.mk<;>intro h<;>try simp -dsimp only[h]|refine CallK.c (by first|exact hO) ?_|refine aC ?_|fail
     all_goals first|omega|(exact⟨⟨m+1,hlt⟩,by simp[Vs.LeL,Vs.look,Vs.hlook,Vs.sput,Vs.sputs,Vs.hset,Vs.hputs,hu2,hlen,hlen2,ha],by simp only;omega⟩)
    ·have hge:m=j:=by have:=of_decide_eq_false hc;omega
     subst hge
     have hlen:=(atD_mem l h1 m q).1
     simp -dsimp only[go_sem,Nat.sub_self,Nat.pow_zero,Nat.div_one,hlen,cC]
     have k1:(E cC (atD l m q)).take m=E cC (atD l m q):=List.take_of_length_le (by simp[E_len,hlen])
     simp only[k1]
     first|exact⟨⟨_,_,rfl,rfl⟩,fun h=>h rfl⟩
theorem dec_at {l:List (List Int)} (hk:smallC l) (hd:deckB l=true) (h1:0<l.length) {n:Nat} (hn:n≤3) {k:Nat} (h:k<geo l.length n):∃i q,i≤3∧q<l.length ^ i∧k=geo0 l.length i+q∧(allD l n).getD k []=atD l i q∧deckB (atD l i q)=true∧smallC (atD l i q):=by
 obtain⟨i,q,g1,g2,g3⟩:=geo_split l.length n k h
 obtain⟨d1,d2⟩:=atD_deck hd hk h1 i q (by omega)
 refine⟨i,q,by omega,g2,g3,?_,d1,d2⟩
 rw[List.getD_eq_getElem?_getD,g3,allD_at l h1 n i q g1 g2]
 rfl
theorem all_deck {l:List (List Int)} (hk:smallC l) (hd:deckB l=true) (h1:0<l.length) {n:Nat} (hn:n≤3):∀d,d∈allD l n→deckB d=true∧smallC d:=fun d hm=>by
 obtain⟨k,hk',rfl⟩:=List.mem_iff_getElem.1 hm
 obtain⟨i,q,_,_,_,g4,g5,g6⟩:=dec_at hk hd h1 hn (by rw[←allD_length l n];exact hk':k<geo l.length n)
 have e:(allD l n)[k]=atD l i q:=by rw[←g4];simp[List.getD,hk']
 rw[e]
 exact⟨g5,g6⟩
def flwB (fl:List Stp) (w:Int):Bool:=fl.all (fun x=>stpB x w)&&decide ((fl.length:Int)≤20)
def lsS (fl:List Stp) (i:Nat):List Stp:=fl.take i++fl.drop (i+1)
theorem lsS_mem {fl:List Stp}{i:Nat}{x:Stp} (h:x∈lsS fl i):x∈fl:=by
 rcases List.mem_append.1 h with h|h
 ·exact List.mem_of_mem_take h
 ·exact List.mem_of_mem_drop h
theorem lsS_len (fl:List Stp) (i:Nat):(lsS fl i).length≤fl.length:=by simp[lsS];omega
def eqR (fl fm:List Stp) (d:List (List Int)):Bool:=(rsB fl d==rsB fm d)&&(if rsB fl d then eqLB qT (rsL fl d) (rsL fm d) else true)
def ndB (fl:List Stp) (l:List (List Int)) (n i:Nat):Bool:=(allD l n).all fun d=>eqR fl (lsS fl i) d
def ndL (fl:List Stp) (l:List (List Int)) (n:Nat):List Int:=selN (ndB fl l n) fl.length
def ndC (fl:List Stp) (l:List (List Int)) (n:Int):Int:=if codeI l n=0 then(if flwB fl (widB l) then 0 else 2) else codeI l n
theorem ndC_0 {fl:List Stp}{l:List (List Int)}{n:Int} (h:ndC fl l n=0):codeI l n=0∧flwB fl (widB l)=true:=by
 unfold ndC at h
 split at h
 ·rename_i h0
  split at h
  ·rename_i h1;exact⟨h0,h1⟩
  ·cases h
 ·rename_i h0;exact absurd h h0
theorem flw_20 {fl:List Stp}{w:Int} (h:flwB fl w=true):fl.length≤20:=by
 have:=(Bool.and_eq_true _ _ ▸ h:_∧_).2
 have:=of_decide_eq_true this
 omega
theorem rsV_yes {fl:List Stp}{l:List (List Int)} (h:rsB fl l=true):rsV fl l=.sl 2 (E cT (rsL fl l)):=by unfold rsV;rw[if_pos h]
theorem rsV_not {fl:List Stp}{l:List (List Int)} (h:rsB fl l=false):rsV fl l=.v (.slice none 0 0):=by unfold rsV;rw[h];rfl
theorem rsL_small {fl:List Stp}{l:List (List Int)} (hd:deckB l=true) (h:rsB fl l=true):(rsL fl l).length≤1048576:=by
 have hok:=(run_ok fl (O0 l) (O0_ok hd)).1
 unfold rsB at h
 unfold rsL
 have h1:((run (O0 l) fl).1.totals.length=1):=of_decide_eq_true (Bool.and_eq_true _ _ ▸ h:_∧_).2
 generalize(run (O0 l) fl).1=o at *
 have h0:0<o.totals.length:=by omega
 rw[show o.totals.getD 0 []=o.totals[0] by simp[List.getD,h0]]
 exact(hok.2.2.2.2 _ (List.getElem_mem h0)).1
theorem same_two:Fz F.i_SameTotals [.v (.slice none 0 0),.v (.slice none 0 0)] (.v (.bool true)):=by
 refine fn_args (args':=[.sl 2 (E cT []),.sl 2 (E cT [])]) rfl (fun S w j v hj ρ κ hh hv=>?_) (impl_SameTotals [] [] (by simp))
 match j,hj with
 |0,_=>cases hv with|clo h=>exact .clo (rc_nil h)
 |1,_=>cases hv with|clo h=>exact .clo (rc_nil h)
theorem same_sp:Fz F.s_l15Totals [.v (.slice none 0 0),.v (.slice none 0 0)] (.v (.bool true)):=by
 refine fn_args (args':=[.sl 2 (E cT []),.sl 2 (E cT [])]) rfl (fun S w j v hj ρ κ hh hv=>?_) (l15Totals [] [] (by simp))
 match j,hj with
 |0,_=>cases hv with|clo h=>exact .clo (rc_nil h)
 |1,_=>cases hv with|clo h=>exact .clo (rc_nil h)
attribute [local go_sem] Bool.true_beq Bool.false_beq Bool.not_false Bool.not_true bne_self_eq_false in
theorem nd11 (fl:List Stp) (hz:∀x,x∈fl→x.text.size≤1048576) (hl:fl.length≤1048576) (fm:List Stp) (hz2:∀x,x∈fm→x.text.size≤1048576) (hl2:fm.length≤1048576) (l:List (List Int)) (hk:smallC l) (hd:deckB l=true):Fz F.i_NeedlessSteps_1_1 [.sl 1 (E cC l),.ro [.sl 9 (E cS fl)],.ro [.sl 9 (E cS fm)]] (.v (.bool (!eqR fl fm l))):=by
 have RA:=impl_resultOf fl hz hl l hk hd
 have RB:=impl_resultOf fm hz2 hl2 l hk hd
 have SN:=same_two
 by_cases hcff:rsB fl l=false∧rsB fm l=false
 ·obtain⟨ha,hb⟩:=hcff
  rw[rsV_not ha,ha] at RA
  rw[rsV_not hb,hb] at RB
  have e:eqR fl fm l=true:=by unfold eqR;rw[ha,hb];rfl
  rw[e]
  refine fn0 Cd.i_NeedlessSteps_1_1_k fun X=>?_
  repeat' first|simp -dsimp only[go_sem,cC,cS]|apply Br.mk<;>intro h<;>try simp -dsimp only[h]|refine CallK.c (by first|exact RA|exact RB|exact SN) ?_|refine aC ?_|fail
  all_goals first|omega|exact⟨_,_,rfl,rfl⟩|(refine ret_eq ?_;simp;done)
 by_cases hcft:rsB fl l=false∧rsB fm l=true
 ·obtain⟨ha,hb⟩:=hcft
  rw[rsV_not ha,ha] at RA
  rw[rsV_yes hb,hb] at RB
  have e:eqR fl fm l=false:=by unfold eqR;rw[ha,hb];rfl
  rw[e]
  refine fn0 Cd.i_NeedlessSteps_1_1_k fun X=>?_
  repeat' first|simp -dsimp only[go_sem,cC,cS]|apply Br.mk<;>intro h<;>try simp -dsimp only[h]|refine CallK.c (by first|exact RA|exact RB|exact SN) ?_|refine aC ?_|fail
  all_goals first|omega|exact⟨_,_,rfl,rfl⟩|(refine ret_eq ?_;simp;done)
 by_cases hctf:rsB fl l=true∧rsB fm l=false
 ·obtain⟨ha,hb⟩:=hctf
  rw[rsV_yes ha,ha] at RA
  rw[rsV_not hb,hb] at RB
  have ST:=impl_SameTotals (rsL fl l) (rsL fm l) (rsL_small hd ha)
  have e:eqR fl fm l=false:=by unfold eqR;rw[ha,hb];rfl
  rw[e]
  refine fn0 Cd.i_NeedlessSteps_1_1_k fun X=>?_
  repeat' first|simp -dsimp only[go_sem,cC,cS]|apply Br.mk<;>intro h<;>try simp -dsimp only[h]|refine CallK.c (by first|exact RA|exact RB|exact ST) ?_|refine aC ?_|fail
  all_goals first|omega|exact⟨_,_,rfl,rfl⟩|(refine ret_eq ?_;simp;done)
 by_cases hctt:rsB fl l=true∧rsB fm l=true
 ·obtain⟨ha,hb⟩:=hctt
  rw[rsV_yes ha,ha] at RA
  rw[rsV_yes hb,hb] at RB
  have ST:=impl_SameTotals (rsL fl l) (rsL fm l) (rsL_small hd ha)
  have e:eqR fl fm l=eqLB qT (rsL fl l) (rsL fm l):=by unfold eqR;rw[ha,hb];rfl
  rw[e]
  refine fn0 Cd.i_NeedlessSteps_1_1_k fun X=>?_
  repeat' first|simp -dsimp only[go_sem,cC,cS]|apply Br.mk<;>intro h<;>try simp -dsimp only[h]|refine CallK.c (by first|exact RA|exact RB|exact ST) ?_|refine aC ?_|fail
  all_goals first|omega|exact⟨_,_,rfl,rfl⟩|(refine ret_eq ?_;simp;done)
 exfalso
 cases h1:rsB fl l<;>cases h2:rsB fm l<;>simp[h1,h2] at *
theorem idxDk (p:List (List Int)→Bool) (g:FuncId) (caps:List AV) (hcaps:cellsB caps=true) {l:List (List (List Int))} (hg:∀x,x∈l→Vs.Fn Tryz.prog g [] (.sl 1 (E cC x)::caps) (.v (.bool (p x))) []) (hl:l.length≤1048576) :
  Fz F.ixf__i_Card__i_Card_ [.sl 1 (E cD l),.fn g caps] (.v (.int .i64 (idxP p l))):=by
 refine fn0 Cd.ixf__i_Card__i_Card__k fun X=>?_
 simp -dsimp only[go_sem,conv_cells hcaps _ 6]
 refine LoopK.intro dM (fun i:{i:Nat // i≤l.length∧(l.take i).all (fun x=>!p x)=true}=>⟨[(0,.sl 1 (E cD l)),(1,.fn g caps),(7,.v (.int .i64 l.length)),(8,.v (.int .i64 i.1))],[]⟩) (fun i=>l.length-i.1) ⟨0,by simp⟩ ?_ ?_
 ·simp[Vs.LeL,Vs.look]
 ·rintro⟨i,hi,hall⟩
  simp -dsimp only[go_sem]
  refine Br.mk (fun h1=>?_) fun h1=>?_
  ·have hlt:i<l.length:=by simpa using h1
   have hw:=wrap_succ hlt hl
   simp -dsimp only[go_sem,E_get hlt,cD,conv_cells hcaps _ 7]
   refine⟨⟨by omega,by omega⟩,?_⟩
   refine CallK.flat (hg _ (List.getElem_mem hlt)) rfl ?_
   simp -dsimp only[go_sem]
   refine Br.mk (fun h2=>?_) fun h2=>?_
   ·simp -dsimp only[go_sem]
    simp[idxP_some hlt hall h2]
   ·simp -dsimp only[go_sem,hw]
    exact⟨⟨i+1,by omega,take_succ_all hlt hall (by simpa using h2)⟩,by simp[Vs.LeL,Vs.look],by simp only;omega⟩
  ·have hge:i=l.length:=by
    have:¬i<l.length:=by simpa using h1
    omega
   subst hge
   simp -dsimp only[go_sem]
   have:l.all (fun x=>!p x)=true:=by simpa using hall
   simp[idxP_none this]
theorem contDk (p:List (List Int)→Bool) (g:FuncId) (caps:List AV) (hcaps:cellsB caps=true) {l:List (List (List Int))} (hg:∀x,x∈l→Vs.Fn Tryz.prog g [] (.sl 1 (E cC x)::caps) (.v (.bool (p x))) []) (hl:l.length≤1048576) :
  Fz F.ctf__i_Card__i_Card_ [.sl 1 (E cD l),.fn g caps] (.v (.bool (l.any p))):=
 ct_fn Tryz.mixed (g:=F.ixf__i_Card__i_Card_) Cd.ctf__i_Card__i_Card__k.o Cd.ctf__i_Card__i_Card__k.n Cd.ctf__i_Card__i_Card__k.r rfl p g caps hcaps (idxDk p g caps hcaps hg hl)
theorem not_any_not (p:List (List Int)→Bool) (l:List (List (List Int))):(!l.any fun d=>!p d)=l.all p:=by
 induction l with
 |nil=>rfl
 |cons x r ih=>simp only[List.any_cons,List.all_cons,Bool.not_or,Bool.not_not,ih]
theorem nd1 (fl:List Stp) (hz:∀x,x∈fl→x.text.size≤1048576) (hl:fl.length≤1048576) (l:List (List Int)) (hk:smallC l) (hd:deckB l=true) (h1:0<l.length) (h5:l.length≤5) (n:Nat) (hn:n≤3) (i:Nat) (hi:i<fl.length):Fz F.i_NeedlessSteps_1 [.v (.int .i64 i),.ro [.sl 9 (E cS fl)],.ro [.sl 1 (E cD (allD l n))]] (.v (.bool (ndB fl l n i))):=by
 have CL:=cloneF fl (by omega) hl
 have DL:=delS fl i hi
 have hw:=wrap_succ hi hl
 have hg4:geo l.length n≤4000:=by have:=geo_le l.length h5 n hn;omega
 have CT:=contDk (fun d=>!eqR fl (lsS fl i) d) F.i_NeedlessSteps_1_1 [.ro [.sl 9 (E cS fl)],.ro [.sl 9 (E cS (lsS fl i))]] rfl (l:=allD l n) (fun d hm=>nd11 fl hz hl (lsS fl i) (fun x hx=>hz x (lsS_mem hx)) (Nat.le_trans (lsS_len fl i) hl) d (all_deck hk hd h1 hn d hm).2 (all_deck hk hd h1 hn d hm).1) (by rw[allD_length];omega)
 have hna:=not_any_not (fun d=>eqR fl (lsS fl i) d) (allD l n)
 rw[show fl.take i++fl.drop (i+1)=lsS fl i from rfl] at DL
 unfold ndB
 rw[←hna]
 refine fn0 Cd.i_NeedlessSteps_1_k fun X=>?_
 repeat' first|simp -dsimp only[go_sem,hw,List.flatMap_cons,List.flatMap_nil,cellN,topN,nestN,cC,cS]|apply Br.mk<;>intro h<;>try simp -dsimp only[h]|refine CallK.own (by first|exact CL) rfl ?_|refine CallK.bor (by first|exact DL) rfl ?_|refine CallK.c (by first|exact CT) ?_|refine aC ?_|fail
 all_goals first|omega|exact⟨_,_,rfl,rfl⟩|(refine ret_eq ?_;simp;done)
attribute [local go_sem] cC cS in
theorem colsO (p:Nat→Bool) (N:Nat) (hN:N≤4000) (g:FuncId) (c1 c2:List AV) (hp:∀i:Nat,i<N→Vs.Fn Tryz.prog g [] [.v (.int .i64 i),.ro c1,.ro c2] (.v (.bool (p i))) []) :
  Vs.Fn Tryz.prog F.i_columnsWhere [] [.v (.int .i64 N),.fn g [.ro c1,.ro c2]] (.loc (.b 0) 0 (selN p N).length) [some (.arr 1 (E cI (selN p N)) false)]:=by
 refine fn1 Cd.i_columnsWhere_k [.t 5 0] [.arr 1 (E cI (selN p N)) false] fun X=>?_
 unfold Cd.i_columnsWhere
 simp -dsimp only[go_sem]
 refine⟨⟨by omega,by omega⟩,?_⟩
 refine LoopK.at dM (X:={zz:Nat×(Unit) // zz.1≤N∧True}) (fun zz=>[(5,.loc (.t 5 0) 0 (selN p zz.1.1).length),(9,.v (.int .i64 zz.1.1))]) (fun zz=>[(.t 5 0,.arr 1 (E cI (selN p zz.1.1)) false)]) (fun zz=>N-zz.1.1) ⟨(0,()),by omega,trivial⟩ ?_ ?_
 ·simp[Vs.LeL,Vs.look,Vs.hlook,Vs.sput,Vs.sputs,Vs.hset,Vs.hputs,selN,Vs.E]
 ·rintro⟨⟨i,_⟩,hi,hg⟩
  dsimp only at hi hg
  simp -dsimp only[go_sem]
  refine Br.mk (fun hc=>?_) fun hc=>?_
  ·have hlt:i<N:=Dq
   have hw:IntKind.i64.wrap ((i:Int)+1)=((i+1:Nat):Int):=by rw[wrap_in (by omega) (by omega)];omega
   have hsl:=selN_len p i
   have PI:=hp i hlt
   have hap:E cI (selN p i)++[[.v (.int .i64 (i:Int))]]=E cI (selN p i++[(i:Int)]):=by rw[E_append];rfl
   cases hb:p i
   ·rw[hb] at PI
    have hs:selN p (i+1)=selN p i:=by simp[selN,hb]
    repeat' first|simp -dsimp only[go_sem,hw,hap]|apply Br.mk<;>intro h<;>try simp -dsimp only[h]|refine CallK.c (by first|exact PI) ?_|refine aC ?_|fail
    all_goals first|omega|(exact nx (i+1,()) trivial (h2:=by simp[Vs.LeL,Vs.look,Vs.hlook,Vs.sput,Vs.sputs,Vs.hset,Vs.hputs,hs]))
   ·rw[hb] at PI
    have hs:selN p (i+1)=selN p i++[(i:Int)]:=by simp[selN,hb]
    repeat' first|simp -dsimp only[go_sem,hw,hap]|apply Br.mk<;>intro h<;>try simp -dsimp only[h]|refine CallK.c (by first|exact PI) ?_|refine aC ?_|fail
    all_goals first|omega|(exact nx (i+1,()) trivial (h2:=by simp[Vs.LeL,Vs.look,Vs.hlook,Vs.sput,Vs.sputs,Vs.hset,Vs.hputs,hs]))
  ·have hge:i=N:=by
    have:¬i<N:=Dq
    omega
   subst hge
   simp -dsimp only[go_sem]
   have k1:(E cI (selN p i)).take (selN p i).length=E cI (selN p i):=List.take_of_length_le (by rw[E_len];exact Nat.le_refl _)
   try simp only[k1]
   first|exact⟨⟨_,_,rfl,rfl⟩,fun h=>h rfl⟩
theorem impl_ND0 (fl:List Stp) (hz:∀x,x∈fl→x.text.size≤1048576) (hl:fl.length≤1048576) (l:List (List Int)) (hk:smallC l) (n:Int) (h0:ndC fl l n=0):Vs.Fn Tryz.prog F.i_NeedlessSteps [] [.sl 9 (E cS fl),.sl 1 (E cC l),.v (.int .i64 n)] (.tup [.loc (.b 0) 0 (ndL fl l n.toNat).length,.v (.int .i64 0)]) [some (.arr 1 (E cI (ndL fl l n.toNat)) false)]:=by
 obtain⟨hc0,hf⟩:=ndC_0 h0
 have SC:=sampleCode l n hk.2 hk.1
 have WD:=deckColumns l
 have VF:=impl_ValidFlow fl (widB l) hz hl
 obtain⟨hd,h1,h5,k,rfl,h3⟩:=codeI_0 hc0
 rw[wid_in hd,Bool.true_and,show(fl.all (fun x=>stpB x (widB l))&&decide ((fl.length:Int)≤20))=flwB fl (widB l) from rfl,hf] at VF
 rw[hc0] at SC
 have DO:=decksOf l k hk.2 h5 h3
 have SZ:=sizeSt fl
 have h20:=flw_20 hf
 have CW:=colsO (ndB fl l k) fl.length (by omega) F.i_NeedlessSteps_1 [.sl 9 (E cS fl)] [.sl 1 (E cD (allD l k))] (fun i hi=>nd1 fl hz hl l hk hd h1 h5 k h3 i hi)
 rw[show selN (ndB fl l k) fl.length=ndL fl l k from rfl] at CW
 simp only[Int.toNat_natCast]
 have hfl:∀b,some b∈[some (Blk.arr 1 (E cI (ndL fl l k)) false)]→Vs.flatB b:=flat_one (flatB_E (fun _=>rfl))
 refine fn1 Cd.i_NeedlessSteps_k [.t 27 0] [.arr 1 (E cI (ndL fl l k)) false] fun X=>?_
 unfold Cd.i_NeedlessSteps
 repeat' first|simp -dsimp only[go_sem,cC,cS]|apply Br.mk<;>intro h<;>try simp -dsimp only[h]|refine CallK.lend CW rfl hfl rfl ?_|refine CallK.c (by first|exact SC|exact WD|exact VF|exact DO|exact SZ) ?_|refine aC ?_|fail
 all_goals first|omega|exact⟨_,_,rfl,rfl⟩|(refine ret_eq ?_;simp;done)
theorem impl_ND1 (fl:List Stp) (hz:∀x,x∈fl→x.text.size≤1048576) (hl:fl.length≤1048576) (l:List (List Int)) (hk:smallC l) (n:Int) (h0:ndC fl l n≠0):Fz F.i_NeedlessSteps [.sl 9 (E cS fl),.sl 1 (E cC l),.v (.int .i64 n)] (.tup [.v (.slice none 0 0),.v (.int .i64 (ndC fl l n))]):=by
 have SC:=sampleCode l n hk.2 hk.1
 have WD:=deckColumns l
 have VF:=impl_ValidFlow fl (widB l) hz hl
 unfold ndC at *
 by_cases hc0:codeI l n=0
 ·obtain⟨hd,h1,h5,k,rfl,h3⟩:=codeI_0 hc0
  rw[if_pos hc0] at h0⊢
  rw[wid_in hd,Bool.true_and,show(fl.all (fun x=>stpB x (widB l))&&decide ((fl.length:Int)≤20))=flwB fl (widB l) from rfl] at VF
  have hf:flwB fl (widB l)=false:=by
   cases hf:flwB fl (widB l)
   ·rfl
   ·rw[hf] at h0;exact absurd rfl h0
  rw[hf] at VF⊢
  rw[hc0] at SC
  rw[show(if(false:Bool)=true then(0:Int) else 2)=2 from rfl]
  refine fn0 Cd.i_NeedlessSteps_k fun X=>?_
  repeat' first|simp -dsimp only[go_sem,cC,cS]|apply Br.mk<;>intro h<;>try simp -dsimp only[h]|refine CallK.c (by first|exact SC|exact WD|exact VF) ?_|refine aC ?_|fail
  all_goals first|omega|exact⟨_,_,rfl,rfl⟩|(refine ret_eq ?_;simp;done)
 ·have e1:(codeI l n != 0)=true:=by simp[hc0]
  rw[if_neg hc0] at h0⊢
  refine fn0 Cd.i_NeedlessSteps_k fun X=>?_
  repeat' first|simp -dsimp only[go_sem,e1,cC,cS]|apply Br.mk<;>intro h<;>try simp -dsimp only[h]|refine CallK.c (by first|exact SC) ?_|refine aC ?_|fail
  all_goals first|omega|exact⟨_,_,rfl,rfl⟩|(refine ret_eq ?_;simp;done)
end
section
variable [Vs.Envs]
attribute [local irreducible] Vs.Fn stpB wO stC run rsB rsL deckB atD allD geo geo0 eqR ndB ndC ndL chOK areCh chTo chAt l03 chB rk cd3 chI stp stpTo
attribute [local go_sem] Int.reduceBEq Int.reduceBNe cO cFd E_len List.replicate_succ List.replicate_zero List.flatten_cons List.flatten_nil List.cons_append List.nil_append List.set_cons_zero List.set_cons_succ List.length_cons List.length_nil List.length_set List.mem_singleton List.mem_cons List.not_mem_nil or_false false_or Vs.Name.t.injEq List.getD_cons_zero List.getD_cons_succ Vs.Name.b.injEq List.getElem?_cons_zero List.getElem?_cons_succ
theorem l17Equal (fl:List Stp) (hz:∀x,x∈fl→x.text.size≤1048576) (hl:fl.length≤1048576) (l:List (List Int)) (hk:smallC l) (fm:List Stp) (hz2:∀x,x∈fm→x.text.size≤1048576) (hl2:fm.length≤1048576) (hd:deckB l=true) (h1:0<l.length) (h5:l.length≤5) (n:Nat) (hn:n≤3):Fz F.s_l17Equal [.sl 9 (E cS fl),.sl 9 (E cS fm),.sl 1 (E cC l),.v (.int .i64 n)] (.v (.bool ((allD l n).all fun d=>eqR fl fm d))):=by
 have CN:=l17Count l.length n h5 hn
 have hg4:geo l.length n≤4000:=by have:=geo_le l.length h5 n hn;omega
 have SN:=same_sp
 refine fn0 Cd.s_l17Equal_k fun X=>?_
 simp -dsimp only[go_sem,cC,cS]
 refine CallK.flat CN rfl ?_
 simp -dsimp only[go_sem,cC,cS]
 refine LoopK.at dM (X:={zz:Nat×(Unit) // zz.1≤geo l.length n∧((allD l n).take zz.1).all (fun d=>eqR fl fm d)=true}) (fun zz=>[(10,.v (.int .i64 zz.1.1))]) (fun zz=>[]) (fun zz=>geo l.length n-zz.1.1) ⟨(0,()),by omega,by simp⟩ ?_ ?_
 ·exact le0
 ·rintro⟨⟨i,_⟩,hi,hg⟩
  dsimp only at hi hg
  simp -dsimp only[go_sem,cC,cS]
  refine Br.mk (fun hc=>?_) fun hc=>?_
  ·have hlt:i<geo l.length n:=Dq
   have hltA:i<(allD l n).length:=by rw[allD_length];exact hlt
   have hw:IntKind.i64.wrap ((i:Int)+1)=((i+1:Nat):Int):=by rw[wrap_in (by omega) (by omega)];omega
   obtain⟨a,q,g1,g2,g3,g4,d1,d2⟩:=dec_at hk hd h1 hn hlt
   have AT:=l17At l hk h1 h5 a q g1 g2
   rw[←g3] at AT
   have hD:(allD l n)[i]=atD l a q:=by rw[←g4];simp[List.getD,hltA]
   have RA:=l17Result fl hz hl (atD l a q) d2 d1
   have RB:=l17Result fm hz2 hl2 (atD l a q) d2 d1
   cases ha:rsB fl (atD l a q)
   ·cases hb:rsB fm (atD l a q)
    ·rw[rsV_not ha,ha] at RA
     rw[rsV_not hb,hb] at RB
     have he:eqR fl fm (allD l n)[i]=true:=by rw[hD];unfold eqR;rw[ha,hb];rfl
     repeat' first|simp -dsimp only[go_sem,hw,cC,cS,Bool.true_beq,Bool.false_beq,Bool.not_false,Bool.not_true,bne_self_eq_false]|apply Br.mk<;>intro h<;>try simp -dsimp only[h]|refine CallK.c (by first|exact AT|exact RA|exact RB|exact SN) ?_|refine aC ?_|fail
     all_goals first|omega|(exact nx (i+1,()) (take_succ_all (p:=fun d=>eqR fl fm d) hltA hg he))
    ·rw[rsV_not ha,ha] at RA
     rw[rsV_yes hb,hb] at RB
     have he:eqR fl fm (allD l n)[i]=false:=by rw[hD];unfold eqR;rw[ha,hb];rfl
     have hall:((allD l n).all fun d=>eqR fl fm d)=false:=not_all (p:=fun d=>eqR fl fm d) hltA he
     repeat' first|simp -dsimp only[go_sem,hw,cC,cS,Bool.true_beq,Bool.false_beq,Bool.not_false,Bool.not_true,bne_self_eq_false]|apply Br.mk<;>intro h<;>try simp -dsimp only[h]|refine CallK.c (by first|exact AT|exact RA|exact RB|exact SN) ?_|refine aC ?_|fail
     all_goals first|omega|(refine ret_eq ?_;rw[hall];done)|(simp[hall];done)|exact⟨_,_,rfl,rfl⟩
   ·cases hb:rsB fm (atD l a q)
    ·rw[rsV_yes ha,ha] at RA
     rw[rsV_not hb,hb] at RB
     have he:eqR fl fm (allD l n)[i]=false:=by rw[hD];unfold eqR;rw[ha,hb];rfl
     have hall:((allD l n).all fun d=>eqR fl fm d)=false:=not_all (p:=fun d=>eqR fl fm d) hltA he
     repeat' first|simp -dsimp only[go_sem,hw,cC,cS,Bool.true_beq,Bool.false_beq,Bool.not_false,Bool.not_true,bne_self_eq_false]|apply Br.mk<;>intro h<;>try simp -dsimp only[h]|refine CallK.c (by first|exact AT|exact RA|exact RB|exact SN) ?_|refine aC ?_|fail
     all_goals first|omega|(refine ret_eq ?_;rw[hall];done)|(simp[hall];done)|exact⟨_,_,rfl,rfl⟩
    ·cases hv:eqLB qT (rsL fl (atD l a q)) (rsL fm (atD l a q))
     ·rw[rsV_yes ha,ha] at RA
      rw[rsV_yes hb,hb] at RB
      have ST:=l15Totals (rsL fl (atD l a q)) (rsL fm (atD l a q)) (rsL_small d1 ha)
      rw[hv] at ST
      have he:eqR fl fm (allD l n)[i]=false:=by rw[hD];unfold eqR;rw[ha,hb];exact hv
      have hall:((allD l n).all fun d=>eqR fl fm d)=false:=not_all (p:=fun d=>eqR fl fm d) hltA he
      repeat' first|simp -dsimp only[go_sem,hw,cC,cS,Bool.true_beq,Bool.false_beq,Bool.not_false,Bool.not_true,bne_self_eq_false]|apply Br.mk<;>intro h<;>try simp -dsimp only[h]|refine CallK.c (by first|exact AT|exact RA|exact RB|exact ST) ?_|refine aC ?_|fail
      all_goals first|omega|(refine ret_eq ?_;rw[hall];done)|(simp[hall];done)|exact⟨_,_,rfl,rfl⟩
     ·rw[rsV_yes ha,ha] at RA
      rw[rsV_yes hb,hb] at RB
      have ST:=l15Totals (rsL fl (atD l a q)) (rsL fm (atD l a q)) (rsL_small d1 ha)
      rw[hv] at ST
      have he:eqR fl fm (allD l n)[i]=true:=by rw[hD];unfold eqR;rw[ha,hb];exact hv
      repeat' first|simp -dsimp only[go_sem,hw,cC,cS,Bool.true_beq,Bool.false_beq,Bool.not_false,Bool.not_true,bne_self_eq_false]|apply Br.mk<;>intro h<;>try simp -dsimp only[h]|refine CallK.c (by first|exact AT|exact RA|exact RB|exact ST) ?_|refine aC ?_|fail
      all_goals first|omega|(exact nx (i+1,()) (take_succ_all (p:=fun d=>eqR fl fm d) hltA hg he))
  ·have hge:i=geo l.length n:=by
    have:¬i<geo l.length n:=Dq
    omega
   subst hge
   rw[←allD_length,List.take_length] at hg
   simp -dsimp only[go_sem,cC,cS]
   first|(refine⟨ret_eq ?_,fun h=>h rfl⟩;rw[hg];done)|(simp[hg];done)
theorem spec_ND0 (fl:List Stp) (hz:∀x,x∈fl→x.text.size≤1048576) (hl:fl.length≤1048576) (l:List (List Int)) (hk:smallC l) (n:Int) (h0:ndC fl l n=0):Fz F.s_NeedlessSteps [.sl 9 (E cS fl),.sl 1 (E cC l),.v (.int .i64 n)] (.tup [.sl 1 (E cI (ndL fl l n.toNat)),.v (.int .i64 0)]):=by
 obtain⟨hc0,hf⟩:=ndC_0 h0
 have SC:=l17Code l n hk.2 hk.1
 have WD:=l07Width l
 have VF:=l15Flow fl (widB l) hz hl
 obtain⟨hd,h1,h5,k,rfl,h3⟩:=codeI_0 hc0
 rw[show(fl.all (fun x=>stpB x (widB l))&&decide ((fl.length:Int)≤20))=flwB fl (widB l) from rfl,hf] at VF
 rw[hc0] at SC
 have h20:=flw_20 hf
 simp only[Int.toNat_natCast]
 refine fn0 Cd.s_NeedlessSteps_k fun X=>?_
 repeat' first|simp -dsimp only[go_sem,cC,cS]|apply Br.mk<;>intro h<;>try simp -dsimp only[h]|refine CallK.c (by first|exact SC|exact WD|exact VF) ?_|refine aC ?_|fail
 refine LoopK.at dM (X:={zz:Nat×(Unit) // zz.1≤fl.length∧True}) (fun zz=>[(9,.loc (.t 9 0) 0 (selN (ndB fl l k) zz.1.1).length),(10,.v (.int .i64 zz.1.1))]) (fun zz=>[(.t 9 0,.arr 1 (E cI (selN (ndB fl l k) zz.1.1)) false)]) (fun zz=>fl.length-zz.1.1) ⟨(0,()),by omega,trivial⟩ ?_ ?_
 ·simp[Vs.LeL,Vs.look,Vs.hlook,Vs.sput,Vs.sputs,Vs.hset,Vs.hputs,selN,Vs.E]
 ·rintro⟨⟨i,_⟩,hi,hg⟩
  dsimp only at hi hg
  simp -dsimp only[go_sem,cC,cS]
  refine Br.mk (fun hc=>?_) fun hc=>?_
  ·have hlt:i<fl.length:=Dq
   have hw:IntKind.i64.wrap ((i:Int)+1)=((i+1:Nat):Int):=by rw[wrap_in (by omega) (by omega)];omega
   have hsl:=selN_len (ndB fl l k) i
   have EQ:=l17Equal fl hz hl l hk (lsS fl i) (fun x hx=>hz x (lsS_mem hx)) (Nat.le_trans (lsS_len fl i) hl) hd h1 h5 k h3
   rw[show((allD l k).all fun d=>eqR fl (lsS fl i) d)=ndB fl l k i from by unfold ndB;rfl] at EQ
   have hap:E cI (selN (ndB fl l k) i)++[[.v (.int .i64 (i:Int))]]=E cI (selN (ndB fl l k) i++[(i:Int)]):=by rw[E_append];rfl
   have ht:(E cS fl).take i=E cS (fl.take i):=by simp[E,List.map_take]
   have hdr:(E cS fl).drop (i+1)=E cS (fl.drop (i+1)):=by simp[E,List.map_drop]
   have hli:(fl.take i).length=i:=by simp;omega
   have hld:(fl.drop (i+1)).length=fl.length-(i+1):=by simp
   have hjn:E cS (fl.take i)++E cS (fl.drop (i+1))=E cS (lsS fl i):=by rw[←E_append];rfl
   have hll:(lsS fl i).length=i+(fl.length-(i+1)):=by simp[lsS,hli]
   have htk2:(E cS fl).take fl.length=E cS fl:=List.take_of_length_le (by rw[E_len];exact Nat.le_refl _)
   have htk3:(E cS (lsS fl i)).take (i+(fl.length-(i+1)))=E cS (lsS fl i):=List.take_of_length_le (by rw[E_len,hll];exact Nat.le_refl _)
   cases hb:ndB fl l k i
   ·rw[hb] at EQ
    have hs:selN (ndB fl l k) (i+1)=selN (ndB fl l k) i:=by simp[selN,hb]
    repeat' first|simp -dsimp only[go_sem,hw,hap,ht,hdr,hli,hld,hjn,hll,htk2,htk3,cC,cS]|apply Br.mk<;>intro h<;>try simp -dsimp only[h]|refine CallK.c (by first|exact EQ) ?_|refine aC ?_|fail
    all_goals first|omega|(exact nx (i+1,()) trivial (h2:=by simp[Vs.LeL,Vs.look,Vs.hlook,Vs.sput,Vs.sputs,Vs.hset,Vs.hputs,hs]))
   ·rw[hb] at EQ
    have hs:selN (ndB fl l k) (i+1)=selN (ndB fl l k) i++[(i:Int)]:=by simp[selN,hb]
    repeat' first|simp -dsimp only[go_sem,hw,hap,ht,hdr,hli,hld,hjn,hll,htk2,htk3,cC,cS]|apply Br.mk<;>intro h<;>try simp -dsimp only[h]|refine CallK.c (by first|exact EQ) ?_|refine aC ?_|fail
    all_goals first|omega|(exact nx (i+1,()) trivial (h2:=by simp[Vs.LeL,Vs.look,Vs.hlook,Vs.sput,Vs.sputs,Vs.hset,Vs.hputs,hs]))
  ·have hge:i=fl.length:=by
    have:¬i<fl.length:=Dq
    omega
   subst hge
   rw[show ndL fl l k=selN (ndB fl l k) fl.length from by unfold ndL;rfl]
   simp -dsimp only[go_sem,cC,cS]
   have k1:(E cI (selN (ndB fl l k) fl.length)).take (selN (ndB fl l k) fl.length).length=E cI (selN (ndB fl l k) fl.length):=List.take_of_length_le (by rw[E_len];exact Nat.le_refl _)
   try simp only[k1]
   first|exact⟨⟨_,_,rfl,rfl⟩,fun h=>h rfl⟩|(refine⟨ret_eq ?_,fun h=>h rfl⟩;simp;done)
theorem spec_ND1 (fl:List Stp) (hz:∀x,x∈fl→x.text.size≤1048576) (hl:fl.length≤1048576) (l:List (List Int)) (hk:smallC l) (n:Int) (h0:ndC fl l n≠0):Fz F.s_NeedlessSteps [.sl 9 (E cS fl),.sl 1 (E cC l),.v (.int .i64 n)] (.tup [.v (.slice none 0 0),.v (.int .i64 (ndC fl l n))]):=by
 have SC:=l17Code l n hk.2 hk.1
 have WD:=l07Width l
 have VF:=l15Flow fl (widB l) hz hl
 unfold ndC at *
 by_cases hc0:codeI l n=0
 ·obtain⟨hd,h1,h5,k,rfl,h3⟩:=codeI_0 hc0
  rw[if_pos hc0] at h0⊢
  rw[show(fl.all (fun x=>stpB x (widB l))&&decide ((fl.length:Int)≤20))=flwB fl (widB l) from rfl] at VF
  have hf:flwB fl (widB l)=false:=by
   cases hf:flwB fl (widB l)
   ·rfl
   ·rw[hf] at h0;exact absurd rfl h0
  rw[hf] at VF⊢
  rw[hc0] at SC
  rw[show(if(false:Bool)=true then(0:Int) else 2)=2 from rfl]
  refine fn0 Cd.s_NeedlessSteps_k fun X=>?_
  repeat' first|simp -dsimp only[go_sem,cC,cS]|apply Br.mk<;>intro h<;>try simp -dsimp only[h]|refine CallK.c (by first|exact SC|exact WD|exact VF) ?_|refine aC ?_|fail
  all_goals first|omega|exact⟨_,_,rfl,rfl⟩|(refine ret_eq ?_;simp;done)
 ·have e1:(codeI l n != 0)=true:=by simp[hc0]
  have e2:(codeI l n==0)=false:=beq_eq_false_iff_ne.2 hc0
  rw[if_neg hc0] at h0⊢
  generalize codeI l n=c at *
  refine fn0 Cd.s_NeedlessSteps_k fun X=>?_
  repeat' first|simp -dsimp only[go_sem,e1,e2,cC,cS]|apply Br.mk<;>intro h<;>try simp -dsimp only[h]|refine CallK.c (by first|exact SC) ?_|refine aC ?_|fail
  all_goals first|omega|exact⟨_,_,rfl,rfl⟩|(refine ret_eq ?_;simp;done)
end
end Go.Proofs.YthfnpdhpefialaaGreat
