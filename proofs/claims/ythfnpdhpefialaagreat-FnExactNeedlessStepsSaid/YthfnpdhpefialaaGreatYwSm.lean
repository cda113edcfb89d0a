/- SortedBy: the program and the reference. -/
import Derived.Test.YthfnpdhpefialaaGreatYwSh
import Derived.Test.YthfnpdhpefialaaGreatVtR
import Derived.Test.YthfnpdhpefialaaGreatYwSf
set_option linter.all false
set_option maxHeartbeats 8000000
namespace Go.Proofs.YthfnpdhpefialaaGreat
open Go.Vs
section
variable [Vs.Envs]
attribute [local irreducible] Vs.Fn chOK areCh chTo chAt l03 chB rk cd3 chI stp stpTo flt idxP zR clrL mat colC ascB stF
attribute [local go_sem] List.replicate_succ List.replicate_zero List.flatten_cons List.flatten_nil List.cons_append List.nil_append List.set_cons_zero List.set_cons_succ List.length_cons List.length_nil List.length_set
theorem cmpR_eq:∀{a b:List Int},a.length=b.length→hasCh a=true→hasCh b=true→(cmpR a b=0↔a=b)
 | [],[],_,_,_=>by simp[cmpR]
 | [],y::b,h,_,_=>by simp at h
 |x::a,[],h,_,_=>by simp at h
 | x::a,y::b,h,ha,hb=>by
  simp only[hasCh,List.all_cons,Bool.and_eq_true,decide_eq_true_eq] at ha hb
  have ih:=cmpR_eq (a:=a) (b:=b) (by simpa using h) (by simpa[hasCh] using ha.2) (by simpa[hasCh] using hb.2)
  rw[cmpR]
  by_cases h1:rk x<rk y
  ·rw[if_pos h1]
   refine⟨fun h=>by simp at h,fun h=>?_⟩
   simp only[List.cons.injEq] at h
   rw[h.1] at h1;omega
  ·rw[if_neg h1]
   by_cases h2:rk x>rk y
   ·rw[if_pos h2]
    refine⟨fun h=>by simp at h,fun h=>?_⟩
    simp only[List.cons.injEq] at h
    rw[h.1] at h2;omega
   ·rw[if_neg h2,ih]
    have hxy:x=y:=rk_inj ha.1 (by omega)
    simp[hxy]
theorem txt_inj {a b:List Int} (hl:a.length=b.length) (ha:hasCh a=true) (hb:hasCh b=true) (h:(txt a).data.toList=(txt b).data.toList):a=b:=by
 apply List.ext_getElem hl
 intro i h1 h2
 have e1:=txt_at ha h1
 have e2:=txt_at hb h2
 rw[h,e2] at e1
 have r1:=rk_in a[i]
 have r2:=rk_in b[i]
 have g1:=hasCh_get ha h1
 have g2:=hasCh_get hb h2
 have:=chB_inj (rk b[i]).toNat (by omega) (rk a[i]).toNat (by omega) e1
 exact rk_inj g1 (by omega)
theorem txt_beq {a b:List Int} (hl:a.length=b.length) (ha:hasCh a=true) (hb:hasCh b=true):((txt a).toList==(txt b).toList)=(cmpR a b==0):=by
 rw[ByteArray.toList_eq,ByteArray.toList_eq]
 have h:=cmpR_eq hl ha hb
 by_cases e:a=b
 ·subst e
  have:cmpR a a=0:=h.2 rfl
  simp[this]
 ·have h1:¬cmpR a b=0:=fun h'=>e (h.1 h')
  have h2:¬(txt a).data.toList=(txt b).data.toList:=fun h'=>e (txt_inj hl ha hb h')
  have e1:((txt a).data.toList==(txt b).data.toList)=false:=beq_eq_false_iff_ne.2 h2
  have e2:(cmpR a b==0)=false:=beq_eq_false_iff_ne.2 h1
  rw[e1,e2]
theorem l00Own (l:List Int) (hl:l.length≤1048576):Fz F.s_l00Own [.sl 1 (E cI l)] (.sl 1 (E cI l)):=by
 refine fn0 Cd.s_l00Own_k fun X=>?_
 simp -dsimp only[go_sem]
 first
  |exact⟨by omega,rfl,⟨rfl,by omega,by omega⟩,_,_,rfl,rfl⟩
  |exact⟨by omega,rfl,⟨by omega,by omega⟩,_,_,rfl,rfl⟩
  |exact⟨⟨by omega,by omega⟩,⟨by omega,by omega⟩,_,_,rfl,rfl⟩
theorem l02Own (c:List Int) (hc:c.length≤1048576):Fz F.s_l02Own [.ro (cC c)] (.agg (cC c)):=by
 refine fn0 Cd.s_l02Own_k fun X=>?_
 repeat' first|simp -dsimp only[go_sem,cC,cFd]|apply Br.mk<;>intro h<;>try simp -dsimp only[h]|refine CallK.c (by first|exact l00Own c hc) ?_|refine aC ?_|fail
 all_goals(exact⟨_,_,rfl,rfl⟩)
theorem keyL_len (fr to:Int) (l:List (List Int)):(keyL fr to l).length=l.length:=by simp[keyL]
attribute [local go_sem] E_len cFd in
theorem l09Has (o:List (List Int)) (x:List Int) (fr to:Int) (ho:∀c,c∈o→okF fr to c) (hh:allCh fr to o=true) (hx:okF fr to x) (hxh:hasCh (fH fr to x)=true) (hl:o.length≤1048576) :
  Fz F.s_l09Has [.sl 1 (E cSt (keyL fr to o)),.v (.string (txt (fH fr to x)))] (.v (.bool (hasE fr to o x))):=by
 have hkl:=keyL_len fr to o
 refine fn0 Cd.s_l09Has_k fun X=>?_
 simp -dsimp only[go_sem,hkl]
 refine LoopK.at dM (X:={zz:Nat×(Unit) // zz.1≤o.length∧(o.take zz.1).all (fun c=>!(cmF fr to c x==0))=true}) (fun zz=>[(5,.v (.int .i64 zz.1.1))]) (fun zz=>[]) (fun zz=>o.length-zz.1.1) ⟨(0,()),by omega,by simp⟩ ?_ ?_
 ·exact le0
 ·rintro⟨⟨i,_⟩,hi,hg⟩
  dsimp only at hi hg
  simp -dsimp only[go_sem,hkl]
  refine Br.mk (fun hc=>?_) fun hc=>?_
  ·have hlt:i<o.length:=Dq
   have hw:=wrap_succ hlt hl
   have hk:=ho _ (List.getElem_mem hlt)
   have hc:=(List.all_eq_true.1 hh) _ (List.getElem_mem hlt)
   have hm:(E cSt (keyL fr to o)).getD i []=[.v (.string (txt (fH fr to o[i])))]:=by rw[E_get (by omega)];simp[keyL,cSt]
   have he:=txt_beq ((fH_len hk).trans (fH_len hx).symm) hc hxh
   cases hz:cmpR (fH fr to o[i]) (fH fr to x)==0
   ·have hp:(cmF fr to o[i] x==0)=false:=hz
    repeat' first|simp -dsimp only[go_sem,hw,hm,he,hz,hkl]|apply Br.mk<;>intro h<;>try simp -dsimp only[h]|refine aC ?_|fail
    all_goals first|omega|(exact nx (i+1,()) (take_succ_all (p:=fun c=>!(cmF fr to c x==0)) hlt hg (by simp[hp])))
   ·have hp:(cmF fr to o[i] x==0)=true:=hz
    have hany:hasE fr to o x=true:=List.any_eq_true.2 ⟨o[i],List.getElem_mem hlt,hp⟩
    repeat' first|simp -dsimp only[go_sem,hw,hm,he,hz,hkl]|apply Br.mk<;>intro h<;>try simp -dsimp only[h]|refine aC ?_|fail
    all_goals first|omega|(refine ret_eq ?_;simp[hany];done)|(simp[hany];done)
  ·have hge:i=o.length:=by
    have:¬i<o.length:=Dq
    omega
   subst hge
   simp -dsimp only[go_sem,hkl]
   have hany:hasE fr to o x=false:=by
    unfold hasE
    rw[List.any_eq_false]
    intro c hc
    rw[List.take_length] at hg
    have:=(List.all_eq_true.1 hg) c hc
    simpa using this
   simp[hany]
theorem mat_succ {fr to:Int}{l o:List (List Int)}{e:Bool}{i:Nat} (h:i<l.length):mat fr to (l.take (i+1)) o e=mat fr to (l.take i) o e++(if hasE fr to o l[i]==e then[l[i]] else[]):=by
 unfold mat
 rw[flt_succ h]
 cases hasE fr to o l[i]==e<;>simp
theorem mat_len (fr to:Int) (l o:List (List Int)) (e:Bool):(mat fr to l o e).length≤l.length:=by unfold mat;exact flt_len ..
theorem mat_zero (fr to:Int) (o:List (List Int)) (e:Bool):mat fr to [] o e=[]:=by unfold mat flt;rfl
theorem mat_row {fr to:Int}{l o:List (List Int)}{e:Bool}{i:Nat} (h:i<l.length) (hh:hasE fr to o l[i]=e):E cC (mat fr to (l.take i) o e)++[[.sl 1 (E cI l[i])]]=E cC (mat fr to (l.take (i+1)) o e):=by
 rw[mat_succ h,hh,E_append];simp[E,cC]
theorem mat_lens {fr to:Int}{l o:List (List Int)}{e:Bool}{i:Nat} (h:i<l.length) (hh:hasE fr to o l[i]=e):(mat fr to (l.take (i+1)) o e).length=(mat fr to (l.take i) o e).length+1:=by
 rw[mat_succ h,hh];simp
theorem mat_same {fr to:Int}{l o:List (List Int)}{e:Bool}{i:Nat} (h:i<l.length) (hh:hasE fr to o l[i] = !e):mat fr to (l.take (i+1)) o e=mat fr to (l.take i) o e:=by
 rw[mat_succ h,hh];cases e<;>simp
attribute [local go_sem] E_len cFd in
theorem l09Match (l o:List (List Int)) (fr to:Int) (hl:smallC l) (hol:o.length≤1048576) (oa:∀c,c∈l→okF fr to c) (ob:∀c,c∈o→okF fr to c) (ca:allCh fr to l=true) (cb:allCh fr to o=true) :
  Fz F.s_l09Match [.sl 1 (E cC l),.sl 1 (E cSt (keyL fr to l)),.sl 1 (E cSt (keyL fr to o))] (.tup [.sl 1 (E cC (mat fr to l o true)),.sl 1 (E cC (mat fr to l o false))]):=by
 have hkl:=keyL_len fr to l
 have hkm:=keyL_len fr to o
 refine fn0 Cd.s_l09Match_k fun X=>?_
 simp -dsimp only[go_sem,hkl,hkm]
 refine⟨⟨by omega,by omega⟩,⟨by omega,by omega⟩,?_⟩
 refine LoopK.at dM (X:={zz:Nat×(Unit) // zz.1≤l.length∧True}) (fun zz=>[(8,.loc (.t 8 0) 0 (mat fr to (l.take zz.1.1) o true).length),(9,.loc (.t 9 0) 0 (mat fr to (l.take zz.1.1) o false).length),(10,.v (.int .i64 zz.1.1))]) (fun zz=>[(.t 8 0,.arr 1 (E cC (mat fr to (l.take zz.1.1) o true)) false),(.t 9 0,.arr 1 (E cC (mat fr to (l.take zz.1.1) o false)) false)]) (fun zz=>l.length-zz.1.1) ⟨(0,()),by omega,trivial⟩ ?_ ?_
 ·simp[Vs.LeL,Vs.look,Vs.hlook,Vs.sput,Vs.sputs,Vs.hset,Vs.hputs,mat_zero,Vs.E]
 ·rintro⟨⟨i,_⟩,hi,hg⟩
  dsimp only at hi hg
  simp -dsimp only[go_sem,hkl]
  refine Br.mk (fun hc=>?_) fun hc=>?_
  ·have hlt:i<l.length:=Dq
   have hw:=wrap_succ hlt hl.1
   have hk:=oa _ (List.getElem_mem hlt)
   have hc:=(List.all_eq_true.1 ca) _ (List.getElem_mem hlt)
   have hs:=hl.2 _ (List.getElem_mem hlt)
   have hm:(E cSt (keyL fr to l)).getD i []=[.v (.string (txt (fH fr to l[i])))]:=by rw[E_get (by omega)];simp[keyL,cSt]
   have hm2:(E cC l).getD i []=[.sl 1 (E cI l[i])]:=E_get hlt
   have hb1:=mat_len fr to (l.take i) o true
   have hb2:=mat_len fr to (l.take i) o false
   have ht:(l.take i).length=i:=by simp;omega
   have hl1:=hl.1
   cases hz:hasE fr to o l[i]
   ·have g1:=mat_row (e:=false) hlt hz
    have g2:=mat_lens (e:=false) hlt hz
    have g3:=mat_same (e:=true) hlt hz
    repeat' first|simp -dsimp only[go_sem,hw,hm,hm2,hz,g1,hkl,cC]|apply Br.mk<;>intro h<;>try simp -dsimp only[h]|refine CallK.c (by first|exact l09Has o l[i] fr to ob cb hk hc hol|exact l02Own l[i] hs) ?_|refine aC ?_|fail
    all_goals first|omega|(exact nx (i+1,()) trivial (h2:=by simp[Vs.LeL,Vs.look,Vs.hlook,Vs.sput,Vs.sputs,Vs.hset,Vs.hputs,g2,g3]))
   ·have g1:=mat_row (e:=true) hlt hz
    have g2:=mat_lens (e:=true) hlt hz
    have g3:=mat_same (e:=false) hlt hz
    repeat' first|simp -dsimp only[go_sem,hw,hm,hm2,hz,g1,hkl,cC]|apply Br.mk<;>intro h<;>try simp -dsimp only[h]|refine CallK.c (by first|exact l09Has o l[i] fr to ob cb hk hc hol|exact l02Own l[i] hs) ?_|refine aC ?_|fail
    all_goals first|omega|(exact nx (i+1,()) trivial (h2:=by simp[Vs.LeL,Vs.look,Vs.hlook,Vs.sput,Vs.sputs,Vs.hset,Vs.hputs,g2,g3]))
  ·have hge:i=l.length:=by
    have:¬i<l.length:=Dq
    omega
   subst hge
   simp -dsimp only[go_sem,hkl]
   rw[List.take_length]
   have k1:(E cC (mat fr to l o true)).take (mat fr to l o true).length=E cC (mat fr to l o true):=E_takeall _
   have k2:(E cC (mat fr to l o false)).take (mat fr to l o false).length=E cC (mat fr to l o false):=E_takeall _
   exact⟨⟨_,_,rfl,rfl⟩,fun h=>h rfl⟩
def twV (fr to:Int) (a b d:List (List Int)):AV:=if colC fr to [a,b]=0 then .sl 1 (E cSt (keyL fr to d)) else .v (.slice none 0 0)
theorem colC_cases (fr to:Int) (a b:List (List Int)):colC fr to [a,b]=if deckB a&&deckB b then(if fldB fr to (widB a)&&fldB fr to (widB b) then(if allCh fr to a&&allCh fr to b then 0 else 8) else 2) else 1:=by
 unfold colC
 simp only[List.all_cons,List.all_nil,Bool.and_true]
theorem l09Two (a b:List (List Int)) (fr to:Int) (ha:smallC a) (hb:smallC b):Fz F.s_l09Two [.sl 1 (E cC a),.sl 1 (E cC b),.agg (cFd fr to)] (.tup [twV fr to a b a,twV fr to a b b,.v (.int .i64 (colC fr to [a,b]))]):=by
 have hcc:=colC_cases fr to a b
 cases da:deckB a
 ·refine fn0 Cd.s_l09Two_k fun X=>?_
  repeat' first|simp -dsimp only[go_sem,cFd,da]|apply Br.mk<;>intro h<;>try simp -dsimp only[h]|refine CallK.c (by first|exact l02Deck a ha.2 ha.1|exact l02Deck b hb.2 hb.1) ?_|refine aC ?_|fail
  all_goals simp_all [twV]
 cases db:deckB b
 ·refine fn0 Cd.s_l09Two_k fun X=>?_
  repeat' first|simp -dsimp only[go_sem,cFd,da,db]|apply Br.mk<;>intro h<;>try simp -dsimp only[h]|refine CallK.c (by first|exact l02Deck a ha.2 ha.1|exact l02Deck b hb.2 hb.1) ?_|refine aC ?_|fail
  all_goals simp_all [twV]
 cases fa:fldB fr to (widB a)
 ·refine fn0 Cd.s_l09Two_k fun X=>?_
  repeat' first|simp -dsimp only[go_sem,cFd,da,db,fa]|apply Br.mk<;>intro h<;>try simp -dsimp only[h]|refine CallK.c (by first|exact l02Deck a ha.2 ha.1|exact l02Deck b hb.2 hb.1|exact l07Width a|exact l07Width b|exact l02Field fr to (widB a)|exact l02Field fr to (widB b)) ?_|refine aC ?_|fail
  all_goals simp_all [twV]
 cases fb:fldB fr to (widB b)
 ·refine fn0 Cd.s_l09Two_k fun X=>?_
  repeat' first|simp -dsimp only[go_sem,cFd,da,db,fa,fb]|apply Br.mk<;>intro h<;>try simp -dsimp only[h]|refine CallK.c (by first|exact l02Deck a ha.2 ha.1|exact l02Deck b hb.2 hb.1|exact l07Width a|exact l07Width b|exact l02Field fr to (widB a)|exact l02Field fr to (widB b)) ?_|refine aC ?_|fail
  all_goals simp_all [twV]
 have ka:keyC fr to a=if allCh fr to a then 0 else 8:=by unfold keyC;rw[da,fa];rfl
 have kb:keyC fr to b=if allCh fr to b then 0 else 8:=by unfold keyC;rw[db,fb];rfl
 cases ca:allCh fr to a<;>cases cb:allCh fr to b
 ·have ka2:keyC fr to a=_:=ka
  have kb2:keyC fr to b=_:=kb
  rw[ca] at ka2
  rw[cb] at kb2
  simp only[if_true,if_false,Bool.false_eq_true] at ka2 kb2
  have KA:=l07Keys a fr to ha.2 ha.1
  have KB:=l07Keys b fr to hb.2 hb.1
  simp only[keyV,ka2,kb2,if_true,if_false,Int.reduceEq] at KA KB
  refine fn0 Cd.s_l09Two_k fun X=>?_
  simp -dsimp only[go_sem,cFd,da,db,fa,fb]
  repeat' first|simp -dsimp only[go_sem,cFd,da,db,fa,fb,ka2,kb2]|apply Br.mk<;>intro h<;>try simp -dsimp only[h]|refine CallK.c (by first|exact l02Deck a ha.2 ha.1|exact l02Deck b hb.2 hb.1|exact l07Width a|exact l07Width b|exact l02Field fr to (widB a)|exact l02Field fr to (widB b)|exact KA|exact KB) ?_|refine aC ?_|fail
  all_goals simp_all [twV,keyV]
 ·have ka2:keyC fr to a=_:=ka
  have kb2:keyC fr to b=_:=kb
  rw[ca] at ka2
  rw[cb] at kb2
  simp only[if_true,if_false,Bool.false_eq_true] at ka2 kb2
  have KA:=l07Keys a fr to ha.2 ha.1
  have KB:=l07Keys b fr to hb.2 hb.1
  simp only[keyV,ka2,kb2,if_true,if_false,Int.reduceEq] at KA KB
  refine fn0 Cd.s_l09Two_k fun X=>?_
  simp -dsimp only[go_sem,cFd,da,db,fa,fb]
  repeat' first|simp -dsimp only[go_sem,cFd,da,db,fa,fb,ka2,kb2]|apply Br.mk<;>intro h<;>try simp -dsimp only[h]|refine CallK.c (by first|exact l02Deck a ha.2 ha.1|exact l02Deck b hb.2 hb.1|exact l07Width a|exact l07Width b|exact l02Field fr to (widB a)|exact l02Field fr to (widB b)|exact KA|exact KB) ?_|refine aC ?_|fail
  all_goals simp_all [twV,keyV]
 ·have ka2:keyC fr to a=_:=ka
  have kb2:keyC fr to b=_:=kb
  rw[ca] at ka2
  rw[cb] at kb2
  simp only[if_true,if_false,Bool.false_eq_true] at ka2 kb2
  have KA:=l07Keys a fr to ha.2 ha.1
  have KB:=l07Keys b fr to hb.2 hb.1
  simp only[keyV,ka2,kb2,if_true,if_false,Int.reduceEq] at KA KB
  refine fn0 Cd.s_l09Two_k fun X=>?_
  simp -dsimp only[go_sem,cFd,da,db,fa,fb]
  repeat' first|simp -dsimp only[go_sem,cFd,da,db,fa,fb,ka2,kb2]|apply Br.mk<;>intro h<;>try simp -dsimp only[h]|refine CallK.c (by first|exact l02Deck a ha.2 ha.1|exact l02Deck b hb.2 hb.1|exact l07Width a|exact l07Width b|exact l02Field fr to (widB a)|exact l02Field fr to (widB b)|exact KA|exact KB) ?_|refine aC ?_|fail
  all_goals simp_all [twV,keyV]
 ·have ka2:keyC fr to a=_:=ka
  have kb2:keyC fr to b=_:=kb
  rw[ca] at ka2
  rw[cb] at kb2
  simp only[if_true,if_false,Bool.false_eq_true] at ka2 kb2
  have KA:=l07Keys a fr to ha.2 ha.1
  have KB:=l07Keys b fr to hb.2 hb.1
  simp only[keyV,ka2,kb2,if_true,if_false,Int.reduceEq] at KA KB
  refine fn0 Cd.s_l09Two_k fun X=>?_
  simp -dsimp only[go_sem,cFd,da,db,fa,fb]
  repeat' first|simp -dsimp only[go_sem,cFd,da,db,fa,fb,ka2,kb2]|apply Br.mk<;>intro h<;>try simp -dsimp only[h]|refine CallK.c (by first|exact l02Deck a ha.2 ha.1|exact l02Deck b hb.2 hb.1|exact l07Width a|exact l07Width b|exact l02Field fr to (widB a)|exact l02Field fr to (widB b)|exact KA|exact KB) ?_|refine aC ?_|fail
  all_goals simp_all [twV,keyV]
theorem spec_MatchDecks (a b:List (List Int)) (fr to:Int) (ha:smallC a) (hb:smallC b):Fz F.s_MatchDecks [.sl 1 (E cC a),.sl 1 (E cC b),.agg (cFd fr to)] (.tup [mtV fr to a b,.v (.int .i64 (mtC fr to a b))]):=by
 by_cases hc:colC fr to [a,b]=0
 rotate_left
 ·have e1:(colC fr to [a,b] != 0)=true:=by simp[hc]
  refine fn0 Cd.s_MatchDecks_k fun X=>?_
  repeat' first|simp -dsimp only[go_sem,cFd,e1]|apply Br.mk<;>intro h<;>try simp -dsimp only[h]|refine CallK.c (by first|exact l09Two a b fr to ha hb) ?_|refine aC ?_|fail
  all_goals simp[mtV,mtC,hc]
 obtain⟨⟨da,db⟩,⟨fa,fb⟩,ca,cb⟩:=colC_ok hc
 have oa:=okF_of da fa
 have ob:=okF_of db fb
 have va:twV fr to a b a=.sl 1 (E cSt (keyL fr to a)):=by simp[twV,hc]
 have vb:twV fr to a b b=.sl 1 (E cSt (keyL fr to b)):=by simp[twV,hc]
 have sa:=stF_asc fr to a
 have sb:=stF_asc fr to b
 have CC:Fz F.s_l09Two [.sl 1 (E cC a),.sl 1 (E cC b),.agg (cFd fr to)] (.tup [.sl 1 (E cSt (keyL fr to a)),.sl 1 (E cSt (keyL fr to b)),.v (.int .i64 0)]):=by
  have h:=l09Two a b fr to ha hb
  rw[va,vb,hc] at h;exact h
 cases hs:ascB fr to a&&ascB fr to b
 ·refine fn0 Cd.s_MatchDecks_k fun X=>?_
  repeat' first|simp -dsimp only[go_sem,cFd,sa,sb]|apply Br.mk<;>intro h<;>try simp -dsimp only[h]|refine CallK.c (by first|exact CC|exact l07Step a fr to oa ca ha.1|exact l07Step b fr to ob cb hb.1) ?_|refine aC ?_|fail
  all_goals first|(simp_all [mtV,mtC];done)|(refine ret_eq ?_;simp_all [mtV,mtC];done)
 have h1:ascB fr to a=true:=by simp only[Bool.and_eq_true] at hs;exact hs.1
 have h2:ascB fr to b=true:=by simp only[Bool.and_eq_true] at hs;exact hs.2
 rw[h1] at sa
 rw[h2] at sb
 refine fn0 Cd.s_MatchDecks_k fun X=>?_
 simp -dsimp only[go_sem,cFd,sa,sb]
 repeat' first|simp -dsimp only[go_sem,cFd,sa,sb,Bool.not_true,Bool.or_false,Bool.false_or,List.take_succ_cons,List.take_zero,List.drop_succ_cons,List.drop_zero]|apply Br.mk<;>intro h<;>try simp -dsimp only[h]|refine CallK.c (by first|exact CC|exact l07Step a fr to oa ca ha.1|exact l07Step b fr to ob cb hb.1|exact l09Match a b fr to ha hb.1 oa ob ca cb|exact l09Match b a fr to hb ha.1 ob oa cb ca) ?_|refine aC ?_|fail
 all_goals (have hz:mtC fr to a b=0:=by simp[mtC,hc,hs]
            have hv:mtV fr to a b=.sl 1 (E cD (mtL fr to a b)):=by simp[mtV,hz]
            rw[hz,hv]
            first|exact⟨_,_,rfl,rfl⟩|(refine ret_eq rfl)|trace_state)
end
section
variable [Vs.Envs]
attribute [local irreducible] Vs.Fn chOK areCh chTo chAt l03 chB rk cd3 chI stp stpTo stb ordL
theorem l00OwnO (l:List Int) (hl:l.length≤1048576):Vs.Fn Tryz.prog F.s_l00Own [] [.sl 1 (E cI l)] (.loc (.b 0) 0 l.length) [some (.arr 1 (E cI l) false)]:=by
 refine fn1 Cd.s_l00Own_k [.t 5 0] [.arr 1 (E cI l) false] fun X=>?_
 unfold Cd.s_l00Own
 repeat' first|simp -dsimp only[go_sem,E_len,List.flatMap_cons,List.flatMap_nil,cellN,topN,nestN,List.getD_cons_zero,List.append_nil,List.nil_append,List.cons_append]|apply Br.mk<;>intro h<;>try simp -dsimp only[h]|refine aC ?_|fail
 all_goals first|exact⟨_,_,rfl,rfl⟩
def dwnK (cf:Int→Int→Int) (i:Int) (o:List Int):Nat→Nat
 |0=>0
 |k+1=>if cf i (o.getD k 0)<0 then dwnK cf i o k else k+1
theorem dwnK_zero (cf:Int→Int→Int) (i:Int) (o:List Int):dwnK cf i o 0=0:=rfl
theorem dwnK_succ (cf:Int→Int→Int) (i:Int) (o:List Int) (k:Nat):dwnK cf i o (k+1)=if cf i (o.getD k 0)<0 then dwnK cf i o k else k+1:=rfl
theorem dwnK_le (cf:Int→Int→Int) (i:Int) (o:List Int):∀k,dwnK cf i o k≤k
 |0=>Nat.le_refl _
 | k+1=>by
  rw[dwnK]
  split
  ·exact Nat.le_succ_of_le (dwnK_le cf i o k)
  ·exact Nat.le_refl _
def plcL (cf:Int→Int→Int):Nat→List Int
 |0=>[]
 |n+1=>(plcL cf n).take (dwnK cf n (plcL cf n) (plcL cf n).length)++[(n:Int)]++(plcL cf n).drop (dwnK cf n (plcL cf n) (plcL cf n).length)
theorem plcL_perm (cf:Int→Int→Int):∀n,(plcL cf n).Perm (iota n)
 |0=>List.Perm.refl _
 | n+1=>by
  rw[plcL,iota_succ]
  generalize dwnK cf n (plcL cf n) (plcL cf n).length=k
  have h1:((plcL cf n).take k++[(n:Int)]++(plcL cf n).drop k).Perm ((plcL cf n).take k++(plcL cf n).drop k++[(n:Int)]):=by
   rw[List.append_assoc,List.append_assoc]
   exact List.Perm.append_left _ List.perm_append_comm
  rw[List.take_append_drop] at h1
  exact h1.trans (List.Perm.append_right _ (plcL_perm cf n))
theorem plcL_len (cf:Int→Int→Int) (n:Nat):(plcL cf n).length=n:=by rw[(plcL_perm cf n).length_eq,iota_len]
end
section
variable [Vs.Envs]
attribute [local irreducible] Vs.Fn chOK areCh chTo chAt l03 chB rk cd3 chI stp stpTo stb ordL plcL dwnK
theorem key_at {fr to:Int}{l:List (List Int)}{x:Int} (h:inO l.length x):(E cSt (keyL fr to l)).getD x.toNat []=[.v (.string (txt (fH fr to (l.getD x.toNat []))))]:=by
 have hlt:x.toNat<l.length:=by have:=h.1;have:=h.2;omega
 rw[E_get (by simpa[keyL] using hlt)]
 simp[cSt,keyL,List.getD,hlt]
attribute [local go_sem] E_len List.mem_singleton List.mem_cons List.not_mem_nil or_false false_or Vs.Name.t.injEq List.flatMap_cons List.flatMap_nil cellN topN nestN List.getD_cons_zero List.append_nil List.nil_append List.cons_append in
theorem l07Places (l:List (List Int)) (fr to:Int) (ho:∀c,c∈l→okF fr to c) (hall:allCh fr to l=true) (hl:l.length≤40):Fz F.s_l07Places [.sl 1 (E cSt (keyL fr to l))] (.sl 1 (E cI (plcL (cfO fr to l) l.length))):=by
 have hkl:(E cSt (keyL fr to l)).length=l.length:=by rw[E_len];simp[keyL]
 have hch:∀x,inO l.length x→hasCh (fH fr to (l.getD x.toNat []))=true:=fun x hx=>List.all_eq_true.1 hall _ (mem_get hx)
 have hcp:∀x y,inO l.length x→inO l.length y→Fz F.s_l03Compare [.v (.string (txt (fH fr to (l.getD x.toNat [])))),.v (.string (txt (fH fr to (l.getD y.toNat []))))] (.v (.int .i64 (cfO fr to l x y))):=fun x y hx hy =>
  l03Compare _ _ (fH_le (ho _ (mem_get hx))) (by rw[cf_len ho hx,cf_len ho hy]) (hch x hx) (hch y hy)
 have hke:∀x,inO l.length x→(E cSt (keyL fr to l)).getD x.toNat []=[.v (.string (txt (fH fr to (l.getD x.toNat []))))]:=fun x hx=>key_at hx
 generalize E cSt (keyL fr to l)=K at *
 generalize cfO fr to l=cf at *
 refine fn0 Cd.s_l07Places_k fun X=>?_
 repeat' first|simp -dsimp only[go_sem,List.length_take,List.length_drop,hkl]|apply Br.mk<;>intro h<;>try simp -dsimp only[h]|refine aC ?_|fail
 refine LoopK.at dM (X:={zz:Nat×(Unit) // zz.1≤l.length∧True}) (fun zz=>[(3,.loc (.t 3 0) 0 zz.1.1),(4,.v (.int .i64 zz.1.1))]) (fun zz=>[(.t 3 0,.arr 1 (E cI (plcL cf zz.1.1)) false)]) (fun zz=>l.length-zz.1.1) ⟨(0,()),by omega,trivial⟩ ?_ ?_
 ·simp[Vs.LeL,Vs.look,Vs.hlook,Vs.sput,Vs.sputs,Vs.hset,Vs.hputs,Vs.E,plcL]
 ·rintro⟨⟨i,_⟩,hi,hg⟩
  dsimp only at hi hg
  simp -dsimp only[go_sem,List.length_take,List.length_drop,hkl]
  refine Br.mk (fun hc=>?_) fun hc=>?_
  ·have hlt:i<l.length:=Dq
   have hw:=wrap_succ hlt (by omega)
   have hpl:=plcL_len cf i
   have hpi:∀k,k<i→inO l.length ((plcL cf i).getD k 0):=fun k hk=>by
    have h1:=iota_in _ ((plcL_perm cf i).mem_iff.1 (mem_getD (by omega:k<(plcL cf i).length)))
    exact⟨h1.1,by have:=h1.2;omega⟩
   have hii:inO l.length (i:Int):=⟨by omega,by omega⟩
   have hki:=hke _ hii
   rw[Int.toNat_natCast] at hki
   have hps:plcL cf (i+1)=(plcL cf i).take (dwnK cf i (plcL cf i) (plcL cf i).length)++[(i:Int)]++(plcL cf i).drop (dwnK cf i (plcL cf i) (plcL cf i).length):=by rw[plcL]
   rw[hpl] at hps
   have hdl:=dwnK_le cf i (plcL cf i) i
   generalize plcL cf i=o at *
   generalize hd:dwnK cf i o i=d at *
   simp -dsimp only[go_sem,hkl,hw,List.length_take,List.length_drop]
   refine LoopK.at dM (X:={k:Nat // k≤i∧dwnK cf i o k=d}) (fun k=>[(5,.v (.int .i64 (k.1:Nat)))]) (fun k=>[]) (fun k=>k.1) ⟨i,Nat.le_refl _,hd⟩ ?_ ?_
   ·exact le0
   ·rintro⟨k,hk,hkd⟩
    try dsimp only at hk hkd
    match k,hk,hkd with
    | 0,hk,hkd =>
     have e1:decide (((0:Nat):Int)>0)=false:=rfl
     obtain rfl:d=0:=by rw[←hkd,dwnK_zero]
     simp -dsimp only[go_sem,e1,List.length_take,List.length_drop]
     have htk:(E cI o).take (0)=E cI (o.take (0)):=by simp[E,List.map_take]
     have hdk:((E cI o).drop (0)).take (i-(0))=E cI (o.drop (0)):=by rw[List.take_of_length_le (by rw[List.length_drop,E_len];omega)];simp[E,List.map_drop]
     have hlt2:(o.take (0)).length=0:=by first|(simp;done)|(simp;omega)
     have hdl2:(o.drop (0)).length=i-(0):=by rw[List.length_drop,hpl]
     have OW:=l00OwnO (o.take (0)) (by omega)
     rw[hlt2] at OW
     have hap:E cI (o.take (0))++[[.v (.int .i64 (i:Int))]]=E cI (o.take (0)++[(i:Int)]):=by rw[E_append];rfl
     have hfin:E cI (o.take (0)++[(i:Int)])++E cI (o.drop (0))=E cI (plcL cf (i+1)):=by simp only[hps,E_append]
     have hz:((((0:Nat):Int))-0).toNat=0:=by omega
     have hz2:((i:Int)-((0:Nat):Int)).toNat=i-(0):=by omega
     have hz3:(((0:Nat):Int)).toNat=0:=by omega
     have hfb:∀b,some b∈[some (Blk.arr 1 (E cI (o.take (0))) false)]→Vs.flatB b:=by
      intro b hb
      simp only[List.mem_singleton,Option.some.injEq] at hb
      subst hb
      exact flatB_E (fun x=>rfl)
     refine RgK.mk rfl ?_
     simp -dsimp only[go_sem,htk,hdk,hap,hfin,hw,hpl,hkl,e1,List.length_take,List.length_drop]
     refine⟨⟨⟨by omega,by omega,by omega⟩,?_⟩,fun h=>absurd rfl h⟩
     simp only[hz,List.take_zero]
     refine CallK.lend OW rfl hfb rfl ?_
     have hf0:[AV.v (.int .i64 (i:Int))]::E cI o=E cI (plcL cf (i+1)):=by simp only[hps];rfl
     have hnil:E cI []=[]:=rfl
     have hta:(E cI o).take i=E cI o:=List.take_of_length_le (by rw[E_len];omega)
     clear htk hdk hap hfin
     simp -dsimp only[go_sem,hz,hz2,hz3,Nat.sub_zero,List.take_zero,List.replicate_succ,List.replicate_zero,List.flatten_cons,List.flatten_nil,List.set_cons_zero,List.length_cons,List.length_nil,List.length_append,hf0,hnil,hta,hw,hpl,hkl,e1,List.length_take,List.length_drop]
     repeat' (refine aC ?_)
     have hsum:1+i=i+1:=by omega
     first
      |exact⟨⟨(i+1,()),by first|omega|exact⟨by omega,trivial⟩,trivial⟩,by simp[Vs.LeL,Vs.look,Vs.hlook,Vs.sput,Vs.sputs,Vs.hset,Vs.hputs,hsum],by simp only;omega⟩

    | k+1,hk,hkd =>
     have e1:decide (((k+1:Nat):Int)>0)=true:=by first|(simp;done)|(simp;omega)
     have w1:IntKind.i64.wrap (((k+1:Nat):Int)-1)=(k:Int):=by rw[wrap_in (by omega) (by omega)];omega
     have hj:=hpi k (by omega)
     have hj0:=hj.1
     have hj1:=hj.2
     have hkj:=hke _ hj
     have hoj:(E cI o).getD k []=[.v (.int .i64 (o.getD k 0))]:=cI_getD (by omega)
     have HC:=hcp _ _ hii hj
     rw[Int.toNat_natCast] at HC
     rw[dwnK_succ] at hkd
     by_cases hneg:cf i (o.getD k 0)<0
     ·have e2:decide (cf i (o.getD k 0)<0)=true:=decide_eq_true hneg
      rw[if_pos hneg] at hkd
      simp -dsimp only[go_sem,e1,e2,List.length_take,List.length_drop]
      repeat' first|simp -dsimp only[go_sem,e1,e2,w1,hkj,hki,hoj,hkl,hpl,List.length_take,List.length_drop]|apply Br.mk<;>intro h<;>try simp -dsimp only[h]|refine CallK.c (by first|exact HC) ?_|refine aC ?_|fail
      all_goals first|(exact⟨⟨k,by omega,hkd⟩,by simp[Vs.LeL,Vs.look,Vs.hlook,Vs.sput,Vs.sputs,Vs.hset,Vs.hputs],by simp only;omega⟩)|omega
     ·have e2:decide (cf i (o.getD k 0)<0)=false:=decide_eq_false hneg
      rw[if_neg hneg] at hkd
      obtain rfl:d=k+1:=hkd.symm
      simp -dsimp only[go_sem,e1,e2,List.length_take,List.length_drop]
      have htk:(E cI o).take (k+1)=E cI (o.take (k+1)):=by simp[E,List.map_take]
      have hdk:((E cI o).drop (k+1)).take (i-(k+1))=E cI (o.drop (k+1)):=by rw[List.take_of_length_le (by rw[List.length_drop,E_len];omega)];simp[E,List.map_drop]
      have hlt2:(o.take (k+1)).length=k+1:=by first|(simp;done)|(simp;omega)
      have hdl2:(o.drop (k+1)).length=i-(k+1):=by rw[List.length_drop,hpl]
      have OW:=l00OwnO (o.take (k+1)) (by omega)
      rw[hlt2] at OW
      have hap:E cI (o.take (k+1))++[[.v (.int .i64 (i:Int))]]=E cI (o.take (k+1)++[(i:Int)]):=by rw[E_append];rfl
      have hfin:E cI (o.take (k+1)++[(i:Int)])++E cI (o.drop (k+1))=E cI (plcL cf (i+1)):=by simp only[hps,E_append]
      have hz:((((k+1:Nat):Int))-0).toNat=k+1:=by omega
      have hz2:((i:Int)-((k+1:Nat):Int)).toNat=i-(k+1):=by omega
      have hz3:(((k+1:Nat):Int)).toNat=k+1:=by omega
      have hfb:∀b,some b∈[some (Blk.arr 1 (E cI (o.take (k+1))) false)]→Vs.flatB b:=by
       intro b hb
       simp only[List.mem_singleton,Option.some.injEq] at hb
       subst hb
       exact flatB_E (fun x=>rfl)
      refine RgK.mk rfl ?_
      simp -dsimp only[go_sem,htk,hdk,hap,hfin,hw,hpl,hkl,e1,e2,w1,hj0,hj1,hkj,hki,hoj,List.length_take,List.length_drop]
      refine⟨⟨by omega,by omega⟩,⟨by omega,by omega⟩,CallK.flat HC rfl ?_⟩
      simp -dsimp only[go_sem,htk,hdk,hap,hfin,hw,hpl,hkl,e1,e2,w1,hj0,hj1,hkj,hki,hoj,List.length_take,List.length_drop]
      refine⟨⟨⟨by omega,by omega,by omega⟩,?_⟩,fun h=>absurd rfl h⟩
      simp only[hz,htk]
      refine CallK.lend OW rfl hfb rfl ?_
      simp -dsimp only[go_sem,hz,hz2,hz3,Nat.sub_zero,List.take_zero,List.replicate_succ,List.replicate_zero,List.flatten_cons,List.flatten_nil,List.set_cons_zero,List.length_cons,List.length_nil,List.length_append,htk,hdk,hap,hfin,hlt2,hdl2,hw,hpl,hkl]
      repeat' (refine aC ?_)
      have hsum:k+1+1+(i-(k+1))=i+1:=by omega
      first
       |exact⟨⟨(i+1,()),by first|omega|exact⟨by omega,trivial⟩,trivial⟩,by simp[Vs.LeL,Vs.look,Vs.hlook,Vs.sput,Vs.sputs,Vs.hset,Vs.hputs,hsum],by simp only;omega⟩

  ·have hge:i=l.length:=by
    have:¬i<l.length:=Dq
    omega
   subst hge
   simp -dsimp only[go_sem,List.length_take,List.length_drop,hkl]
   have hpl:=plcL_len cf l.length
   have htk:(E cI (plcL cf l.length)).take l.length=E cI (plcL cf l.length):=List.take_of_length_le (by rw[E_len];omega)
   first|exact⟨⟨_,_,rfl,rfl⟩,fun h=>h rfl⟩|(rw[htk];exact⟨⟨_,_,rfl,rfl⟩,fun h=>h rfl⟩)|(simp[htk];done)
end
section
variable [Vs.Envs]
attribute [local irreducible] Vs.Fn chOK areCh chTo chAt l03 chB rk cd3 chI stp stpTo
theorem dwnK_hi (cf:Int→Int→Int) (i:Int) (o:List Int):∀K k,dwnK cf i o K≤k→k<K→cf i (o.getD k 0)<0
 |0,k,_,h=>by omega
 | K+1,k,h1,h2=>by
  rw[dwnK_succ] at h1
  split at h1
  ·rename_i hn
   by_cases hk:k=K
   ·subst hk;exact hn
   ·exact dwnK_hi cf i o K k h1 (by omega)
  ·omega
theorem dwnK_lo (cf:Int→Int→Int) (i:Int) (o:List Int):∀K,0<dwnK cf i o K→¬cf i (o.getD (dwnK cf i o K-1) 0)<0
 |0,h=>by simp[dwnK] at h
 | K+1,h=>by
  rw[dwnK_succ] at h⊢
  split
  ·rename_i hn
   rw[if_pos hn] at h
   exact dwnK_lo cf i o K h
  ·rename_i hn
   exact hn
theorem plcL_srt {fr to:Int}{l:List (List Int)} (ho:∀c,c∈l→okF fr to c):∀n,n≤l.length→(plcL (cfO fr to l) n).Pairwise (ordR fr to l)
 |0,_=>List.Pairwise.nil
 | n+1,h=>by
  have ih:=plcL_srt ho n (by omega)
  have hin:∀x,x∈plcL (cfO fr to l) n→inO n x:=fun x hx=>iota_in x ((plcL_perm _ n).mem_iff.1 hx)
  have hlen:=plcL_len (cfO fr to l) n
  rw[plcL]
  have hhi:=dwnK_hi (cfO fr to l) n (plcL (cfO fr to l) n) (plcL (cfO fr to l) n).length
  have hlo:=dwnK_lo (cfO fr to l) n (plcL (cfO fr to l) n) (plcL (cfO fr to l) n).length
  have hle:=dwnK_le (cfO fr to l) n (plcL (cfO fr to l) n) (plcL (cfO fr to l) n).length
  generalize dwnK (cfO fr to l) n (plcL (cfO fr to l) n) (plcL (cfO fr to l) n).length=d at *
  generalize plcL (cfO fr to l) n=o at *
  have hn:inO l.length (n:Int):=⟨by omega,by omega⟩
  have hup:∀x,inO n x→inO l.length x:=fun x hx=>⟨hx.1,by have:=hx.2;omega⟩
  have hgt:∀y,y∈o.drop d→ordR fr to l n y:=by
   intro y hy
   obtain⟨j,hj,rfl⟩:=List.mem_iff_getElem.1 hy
   rw[List.length_drop] at hj
   rw[List.getElem_drop]
   have hm:o[d+j]∈o:=List.getElem_mem _
   have h1:=hhi (d+j) (by omega) (by omega)
   have e:o.getD (d+j) 0=o[d+j]:=by simp[List.getD,(by omega:d+j<o.length)]
   rw[e] at h1
   exact⟨⟨hn,hup _ (hin _ hm)⟩,.inl h1⟩
  have hlt:∀x,x∈o.take d→ordR fr to l x n:=by
   intro x hx
   obtain⟨j,hj,rfl⟩:=List.mem_take_iff_getElem.1 hx
   have hjd:j<d:=by omega
   have hdl:d-1<o.length:=by omega
   have h1:=hlo (by omega)
   have e:o.getD (d-1) 0=o[d-1]:=by simp[List.getD,hdl]
   rw[e] at h1
   have hm:o[d-1]∈o:=List.getElem_mem _
   have hmi:=hin _ hm
   have ha:=cf_anti ho hn (hup _ hmi)
   have hlast:ordR fr to l o[d-1] n:=by
    refine⟨⟨hup _ hmi,hn⟩,?_⟩
    by_cases h0:cfO fr to l o[d-1] n=0
    ·exact .inr ⟨h0,hmi.2⟩
    ·exact .inl (by omega)
   by_cases hj1:j=d-1
   ·subst hj1;exact hlast
   ·exact ordR_trans ho _ _ _ (List.pairwise_iff_getElem.1 ih j (d-1) (by omega) hdl (by omega)) hlast
  have hsp:(o.take d++o.drop d).Pairwise (ordR fr to l):=by rw[List.take_append_drop];exact ih
  obtain⟨p1,p2,p3⟩:=List.pairwise_append.1 hsp
  rw[List.append_assoc,List.pairwise_append]
  refine⟨p1,?_,?_⟩
  ·rw[List.singleton_append,List.pairwise_cons]
   exact⟨hgt,p2⟩
  ·intro a ha b hb
   rw[List.singleton_append,List.mem_cons] at hb
   rcases hb with rfl|hb
   ·exact hlt a ha
   ·exact p3 a ha b hb
theorem plc_ord {fr to:Int}{l:List (List Int)} (ho:∀c,c∈l→okF fr to c) (hl:l.length≤40):plcL (cfO fr to l) l.length=ordL fr to l:=by
 obtain⟨h1,h2⟩:=ordL_srt ho hl
 exact srt_one (ordR_trans ho) (ordR_asym ho) ((plcL_perm _ _).trans h1.symm) (plcL_srt ho _ (Nat.le_refl _)) h2
end
section
variable [Vs.Envs]
attribute [local irreducible] Vs.Fn chOK areCh chTo chAt l03 chB rk cd3 chI stp stpTo stb ordL plcL dwnK
attribute [local go_sem] E_len List.replicate_succ List.replicate_zero List.flatten_cons List.flatten_nil List.cons_append List.nil_append List.set_cons_zero List.set_cons_succ List.length_cons List.length_nil List.length_set
theorem sortCode (l:List (List Int)) (fr to:Int) (hs:∀x,x∈l→x.length≤1048576) (hl:l.length≤1048576):Fz F.i_sortCode [.sl 1 (E cC l),.agg (cFd fr to)] (.v (.int .i64 (keyC fr to l))):=by
 have VD:=validDeck l hs hl
 have DC:=deckColumns l
 have IF:=isField fr to (widB l)
 cases hd:deckB l
 ·rw[hd] at VD
  rw[show keyC fr to l=1 by simp[keyC,hd]]
  refine fn0 Cd.i_sortCode_k fun X=>?_
  repeat' first|simp -dsimp only[go_sem,cC,cFd]|apply Br.mk<;>intro h<;>try simp -dsimp only[h]|refine CallK.c (by first|exact VD|exact DC|exact IF) ?_|refine aC ?_|fail
  all_goals first|exact⟨_,_,rfl,rfl⟩|simp
 rw[hd] at VD
 cases hf:fldB fr to (widB l)
 ·rw[hf] at IF
  rw[show keyC fr to l=2 by simp[keyC,hd,hf]]
  refine fn0 Cd.i_sortCode_k fun X=>?_
  repeat' first|simp -dsimp only[go_sem,cC,cFd]|apply Br.mk<;>intro h<;>try simp -dsimp only[h]|refine CallK.c (by first|exact VD|exact DC|exact IF) ?_|refine aC ?_|fail
  all_goals first|exact⟨_,_,rfl,rfl⟩|simp
 rw[hf] at IF
 have HF:=haveField l fr to (okF_of hd hf) hl
 cases ha:allCh fr to l
 ·rw[ha] at HF
  rw[show keyC fr to l=8 by simp[keyC,hd,hf,ha]]
  refine fn0 Cd.i_sortCode_k fun X=>?_
  repeat' first|simp -dsimp only[go_sem,cC,cFd]|apply Br.mk<;>intro h<;>try simp -dsimp only[h]|refine CallK.c (by first|exact VD|exact DC|exact IF|exact HF) ?_|refine aC ?_|fail
  all_goals first|exact⟨_,_,rfl,rfl⟩|simp
 rw[ha] at HF
 rw[show keyC fr to l=0 by simp[keyC,hd,hf,ha]]
 refine fn0 Cd.i_sortCode_k fun X=>?_
 repeat' first|simp -dsimp only[go_sem,cC,cFd]|apply Br.mk<;>intro h<;>try simp -dsimp only[h]|refine CallK.c (by first|exact VD|exact DC|exact IF|exact HF) ?_|refine aC ?_|fail
 all_goals first|exact⟨_,_,rfl,rfl⟩|simp
def srtV (fr to:Int) (l:List (List Int)):AV:=if keyC fr to l=0 then .sl 1 (E cC (srtL fr to l)) else .v (.slice none 0 0)
theorem keyC_ok {fr to:Int}{l:List (List Int)} (h:keyC fr to l=0):deckB l=true∧fldB fr to (widB l)=true∧allCh fr to l=true:=by
 unfold keyC at h
 cases hd:deckB l<;>cases hf:fldB fr to (widB l)<;>cases ha:allCh fr to l<;>simp[hd,hf,ha] at h⊢
theorem deck_40 {l:List (List Int)} (h:deckB l=true):l.length≤40:=by
 simp only[deckB,Bool.and_eq_true,decide_eq_true_eq] at h
 exact h.2
theorem impl_SortedBy (l:List (List Int)) (fr to:Int) (hs:∀x,x∈l→x.length≤1048576) (hl:l.length≤1048576):Fz F.i_SortedBy [.sl 1 (E cC l),.agg (cFd fr to)] (.tup [srtV fr to l,.v (.int .i64 (keyC fr to l))]):=by
 have SC:=sortCode l fr to hs hl
 by_cases h0:keyC fr to l=0
 ·obtain⟨hd,hf,ha⟩:=keyC_ok h0
  have SB:=sortedBy l fr to (okF_of hd hf) (deck_40 hd)
  rw[show srtV fr to l=.sl 1 (E cC (srtL fr to l)) by simp[srtV,h0],h0]
  rw[h0] at SC
  refine fn0 Cd.i_SortedBy_k fun X=>?_
  repeat' first|simp -dsimp only[go_sem,cC,cFd]|apply Br.mk<;>intro h<;>try simp -dsimp only[h]|refine CallK.c (by first|exact SC|exact SB) ?_|refine aC ?_|fail
  all_goals first|exact⟨_,_,rfl,rfl⟩|simp
 ·have e0:(keyC fr to l != 0)=true:=by simp[h0]
  rw[show srtV fr to l=.v (.slice none 0 0) by simp[srtV,h0]]
  generalize keyC fr to l=c at *
  refine fn0 Cd.i_SortedBy_k fun X=>?_
  repeat' first|simp -dsimp only[go_sem,cC,cFd,e0]|apply Br.mk<;>intro h<;>try simp -dsimp only[h]|refine CallK.c (by first|exact SC) ?_|refine aC ?_|fail
  all_goals first|exact⟨_,_,rfl,rfl⟩|simp
theorem spec_SortedBy (l:List (List Int)) (fr to:Int) (hs:∀x,x∈l→x.length≤1048576) (hl:l.length≤1048576):Fz F.s_SortedBy [.sl 1 (E cC l),.agg (cFd fr to)] (.tup [srtV fr to l,.v (.int .i64 (keyC fr to l))]):=by
 have KS:=l07Keys l fr to hs hl
 by_cases h0:keyC fr to l=0
 ·obtain⟨hd,hf,ha⟩:=keyC_ok h0
  have ho:=okF_of hd hf
  have h40:=deck_40 hd
  have PL:=l07Places l fr to ho ha h40
  rw[plc_ord ho h40] at PL
  rw[show srtV fr to l=.sl 1 (E cC (srtL fr to l)) by simp[srtV,h0],h0]
  rw[show keyV fr to l=.sl 1 (E cSt (keyL fr to l)) by simp[keyV,h0],h0] at KS
  have hol:=ordL_len fr to l
  have hoi:=ordL_in ho h40
  rw[show srtL fr to l=(ordL fr to l).map (fun i=>l.getD i.toNat []) from rfl]
  generalize ordL fr to l=o at *
  refine fn0 Cd.s_SortedBy_k fun X=>?_
  repeat' first|simp -dsimp only[go_sem,cC,cFd]|apply Br.mk<;>intro h<;>try simp -dsimp only[h]|refine CallK.c (by first|exact KS|exact PL) ?_|refine aC ?_|fail
  refine LoopK.at dM (X:={zz:Nat×(Unit) // zz.1≤o.length∧True}) (fun zz=>[(9,.loc (.t 9 0) 0 zz.1.1),(10,.v (.int .i64 zz.1.1))]) (fun zz=>[(.t 9 0,.arr 1 (E cC ((o.take zz.1.1).map fun i=>l.getD i.toNat [])) false)]) (fun zz=>o.length-zz.1.1) ⟨(0,()),by omega,trivial⟩ ?_ ?_
  ·simp[Vs.LeL,Vs.look,Vs.hlook,Vs.sput,Vs.sputs,Vs.hset,Vs.hputs,Vs.E]
  ·rintro⟨⟨i,_⟩,hi,hg⟩
   dsimp only at hi hg
   simp -dsimp only[go_sem,cC,cFd]
   refine Br.mk (fun hc=>?_) fun hc=>?_
   ·have hlt:i<o.length:=Dq
    have hw:=wrap_succ hlt (by omega)
    have hx:=hoi _ (List.getElem_mem hlt)
    have gx:=cC_get hx
    have hm:=mem_get hx
    have hc20:(l.getD o[i].toNat []).length≤20:=(ho _ hm).2.2.2
    have NC:=l02Own (l.getD o[i].toNat []) (by omega)
    have x0:=hx.1
    have x1:=hx.2
    have hap:E cC ((o.take i).map fun i=>l.getD i.toNat [])++[[.sl 1 (E cI (l.getD o[i].toNat []))]]=E cC ((o.take (i+1)).map fun i=>l.getD i.toNat []):=by
     rw[take_succ hlt,List.map_append,E_append];rfl
    have hal:(E cC ((o.take i).map fun i=>l.getD i.toNat [])).length=i:=by rw[E_len];simp;omega
    repeat' first|simp -dsimp only[go_sem,cI_get hlt,hw,hap,hal,gx,cC,cFd]|apply Br.mk<;>intro h<;>try simp -dsimp only[h]|refine CallK.c (by first|exact NC) ?_|refine aC ?_|fail
    all_goals first|omega|(exact nx (i+1,()) trivial (h2:=by simp[Vs.LeL,Vs.look,Vs.hlook,Vs.sput,Vs.sputs,Vs.hset,Vs.hputs,hap]))
   ·have hge:i=o.length:=by
     have:¬i<o.length:=Dq
     omega
    subst hge
    simp -dsimp only[go_sem,cC,cFd]
    have htk:(E cC ((o.take o.length).map fun i=>l.getD i.toNat [])).take o.length=E cC (o.map fun i=>l.getD i.toNat []):=by
     rw[List.take_of_length_le (Nat.le_refl o.length)];exact List.take_of_length_le (by rw[E_len];simp)
    first|exact⟨⟨_,_,rfl,rfl⟩,fun h=>h rfl⟩|(rw[htk];exact⟨⟨_,_,rfl,rfl⟩,fun h=>h rfl⟩)|(simp[htk];done)
 ·have e0:(keyC fr to l != 0)=true:=by simp[h0]
  rw[show srtV fr to l=.v (.slice none 0 0) by simp[srtV,h0]]
  rw[show keyV fr to l=.v (.slice none 0 0) by simp[keyV,h0]] at KS
  generalize keyC fr to l=c at *
  refine fn0 Cd.s_SortedBy_k fun X=>?_
  repeat' first|simp -dsimp only[go_sem,cC,cFd,e0]|apply Br.mk<;>intro h<;>try simp -dsimp only[h]|refine CallK.c (by first|exact KS) ?_|refine aC ?_|fail
  all_goals first|exact⟨_,_,rfl,rfl⟩|simp
end
end Go.Proofs.YthfnpdhpefialaaGreat
