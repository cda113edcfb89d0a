/- Offices: sizes, copies, comparisons. -/
import Derived.Test.YthfnpdhpefialaaGreatYwK
import Derived.Test.YthfnpdhpefialaaGreatYuS
import Derived.Test.YthfnpdhpefialaaGreatYuR
import Derived.Test.YthfnpdhpefialaaGreatVtR
set_option linter.all false
set_option maxHeartbeats 8000000
namespace Go.Proofs.YthfnpdhpefialaaGreat
open Go.Vs
section
variable [Vs.Envs]
attribute [local irreducible] Vs.Fn
def cFd (fr to:Int):List AV:=[.v (.int .i64 fr),.v (.int .i64 to)]
def widB (l:List (List Int)):Int:=if l.length=0 then 20 else((l.getD 0 []).length:Int)
theorem l07Width (l:List (List Int)):Fz F.s_l07Width [.sl 1 (E cC l)] (.v (.int .i64 (widB l))):=by
 refine fn0 Cd.s_l07Width_k fun X=>?_
 simp -dsimp only[go_sem,cC]
 by_cases h0:l.length=0
 ·have e1:((l.length:Int)==0)=true:=beq_iff_eq.2 (by omega)
  repeat' first|simp -dsimp only[go_sem,e1,cC]|apply Br.mk<;>intro h<;>try simp -dsimp only[h]|refine aC ?_|fail
  all_goals simp[widB,h0]
 ·have e1:((l.length:Int)==0)=false:=beq_eq_false_iff_ne.2 (by omega)
  have h1:0<l.length:=by omega
  have g0:(E cC l).getD 0 []=[.sl 1 (E cI l[0])]:=E_get h1
  have g1:l.getD 0 []=l[0]:=by simp[List.getD,h1]
  repeat' first|simp -dsimp only[go_sem,e1,g0,cC]|apply Br.mk<;>intro h<;>try simp -dsimp only[h]|refine aC ?_|fail
  all_goals simp_all [widB]
theorem deckColumns (l:List (List Int)):Fz F.i_deckColumns [.sl 1 (E cC l)] (.v (.int .i64 (widB l))):=by
 refine fn0 Cd.i_deckColumns_k fun X=>?_
 simp -dsimp only[go_sem,cC]
 by_cases h0:l.length=0
 ·have e1:((l.length:Int)==0)=true:=beq_iff_eq.2 (by omega)
  repeat' first|simp -dsimp only[go_sem,e1,cC]|apply Br.mk<;>intro h<;>try simp -dsimp only[h]|refine CallK.c (by first|exact columns l[0]) ?_|refine aC ?_|fail
  all_goals simp[widB,h0]
 ·have e1:((l.length:Int)==0)=false:=beq_eq_false_iff_ne.2 (by omega)
  have h1:0<l.length:=by omega
  have g0:(E cC l).getD 0 []=[.sl 1 (E cI l[0])]:=E_get h1
  have g1:l.getD 0 []=l[0]:=by simp[List.getD,h1]
  repeat' first|simp -dsimp only[go_sem,e1,g0,cC]|apply Br.mk<;>intro h<;>try simp -dsimp only[h]|refine CallK.c (by first|exact columns l[0]) ?_|refine aC ?_|fail
  all_goals simp_all [widB]
def numC (fr to:Int) (c:List Int):Int×Bool:=numF ((c.take to.toNat).drop fr.toNat).dropLast (((c.take to.toNat).drop fr.toNat).getLastD 0)
def okP (fr to:Int) (c:List Int):Prop:=0≤fr∧fr<to∧to≤c.length∧to-fr≤12∧c.length≤20∧∀x,x∈c→0≤x∧x≤4095
theorem okP_part {fr to:Int}{c:List Int} (h:okP fr to c):∃u x,(c.take to.toNat).drop fr.toNat=u++[x]∧u.length+1≤12∧0≤x∧x≤4095∧numC fr to c=numF u x:=by
 obtain⟨h0,h1,h2,h3,h4,h5⟩:=h
 have hlen:((c.take to.toNat).drop fr.toNat).length=to.toNat-fr.toNat:=by simp;omega
 have hne:(c.take to.toNat).drop fr.toNat≠[]:=by intro e;rw[e] at hlen;simp at hlen;omega
 have hd:=List.dropLast_concat_getLast hne
 have hx:=h5 (((c.take to.toNat).drop fr.toNat).getLast hne) (List.mem_of_mem_take (List.mem_of_mem_drop (List.getLast_mem hne)))
 refine⟨_,_,hd.symm,?_,hx.1,hx.2,?_⟩
 ·rw[List.length_dropLast,hlen];omega
 ·unfold numC
  rw[List.getLastD_eq_getLast?,List.getLast?_eq_some_getLast hne]
  rfl
theorem numberInC {fr to:Int}{c:List Int} (h:okP fr to c):Fz F.i_numberIn [.agg (cC c),.agg (cFd fr to)] (.tup [.v (.int .i64 (numC fr to c).1),.v (.bool (numC fr to c).2)]):=by
 obtain⟨u,x,hp,hu,_,_,hn⟩:=okP_part h
 obtain⟨h0,h1,h2,h3,h4,h5⟩:=h
 rw[hn]
 exact numberIn c fr to u x h0 (by omega) h2 hp hu
theorem l03NumberC {fr to:Int}{c:List Int} (h:okP fr to c):Fz F.s_l03Number [.sl 1 (E cI ((c.take to.toNat).drop fr.toNat))] (.tup [.v (.int .i64 (numC fr to c).1),.v (.bool (numC fr to c).2)]):=by
 obtain⟨u,x,hp,hu,hx0,hx1,hn⟩:=okP_part h
 rw[hn,hp]
 exact l03Number u x hx0 hx1 hu
theorem partC {fr to:Int}{c:List Int} (h:okP fr to c):Fz F.s_l02Part [.ro (cC c),.agg (cFd fr to)] (.sl 1 (E cI ((c.take to.toNat).drop fr.toNat))):=by
 obtain⟨h0,h1,h2,h3,h4,h5⟩:=h
 exact part c fr to h0 (by omega) h2
end
section
variable [Vs.Envs]
attribute [local irreducible] Vs.Fn chOK areCh chTo chAt l03 chB rk cd3
attribute [local go_sem] List.replicate_succ List.replicate_zero List.flatten_cons List.flatten_nil List.cons_append List.nil_append List.set_cons_zero List.set_cons_succ List.length_cons List.length_nil List.length_set
theorem hasCh_get {l:List Int} (h:hasCh l=true) {i:Nat} (hi:i<l.length):0≤rk l[i]:=by
 simp only[hasCh,List.all_eq_true,decide_eq_true_eq] at h
 exact h _ (List.getElem_mem hi)
theorem txt_row {l:List Int}{i:Nat} (hi:i<l.length):E cU ((l.map chI).take i)++[[.v (.int .u8 (chI l[i]))]]=E cU ((l.map chI).take (i+1)):=by
 have h2:i<(l.map chI).length:=by simpa using hi
 rw[take_succ h2,E_append];simp[E,cU]
theorem txt_len {l:List Int}{i:Nat} (hi:i≤l.length):((l.map chI).take i).length=i:=by simp;omega
theorem chI_eq (m:Int):(chB (rk m).toNat:Int)=chI m:=rfl
theorem txt_all (l:List Int):strB ((l.map chI).take l.length)=txt l:=by unfold txt;rw[List.take_of_length_le (by simp)]
attribute [local irreducible] chI
theorem textOf (l:List Int) (hl:l.length≤1048576) (hh:hasCh l=true):Fz F.i_textOf [.sl 1 (E cI l)] (.v (.string (txt l))):=by
 refine fn0 Cd.i_textOf_k fun X=>?_
 simp -dsimp only[go_sem]
 refine⟨⟨by omega,by omega⟩,?_⟩
 refine LoopK.at dM (X:={zz:Nat×(Unit) // zz.1≤l.length∧True}) (fun zz=>[(3,.loc (.t 3 0) 0 zz.1.1),(9,.v (.int .i64 zz.1.1))]) (fun zz=>[(.t 3 0,.arr 1 (E cU ((l.map chI).take zz.1.1)) false)]) (fun zz=>l.length-zz.1.1) ⟨(0,()),by omega,trivial⟩ ?_ ?_
 ·simp[Vs.LeL,Vs.look,Vs.hlook,Vs.sput,Vs.sputs,Vs.hset,Vs.hputs,Vs.E]
 ·rintro⟨⟨i,_⟩,hi,hg⟩
  dsimp only at hi hg
  simp -dsimp only[go_sem,numsO_cU,txt_all]
  refine Br.mk (fun hc=>?_) fun hc=>?_
  ·have hlt:i<l.length:=Dq
   have hw:=wrap_succ hlt hl
   have hr:=hasCh_get hh hlt
   have hr2:=(rk_in l[i]).2
   have hap:=txt_row hlt
   have htl:=txt_len (l:=l) (i:=i) (by omega)
   repeat' first|simp -dsimp only[go_sem,hw,cI_get hlt,chL,chS,chI_eq,hap,htl,E_len]|apply Br.mk<;>intro h<;>try simp -dsimp only[h]|refine CallK.c (by first|exact rankOf _) ?_|refine aC ?_|fail
   all_goals first|omega|(exact nx (i+1,()) trivial)
  ·have hge:i=l.length:=by
    have:¬i<l.length:=Dq
    omega
   subst hge
   simp -dsimp only[go_sem,numsO_cU,txt_all]
   have ht:(E cU ((l.map chI).take l.length)).take l.length=E cU ((l.map chI).take l.length):=List.take_of_length_le (by simp[Vs.E])
   simp[ht,numsO_cU,txt_all]
def l03T (l:List Int):ByteArray×Bool:=if hasCh l then(txt l,true) else(⟨#[]⟩,false)
theorem hasCh_step {l:List Int}{i:Nat} (hi:i<l.length) (h:hasCh (l.take i)=true) (h2:0≤rk l[i]):hasCh (l.take (i+1))=true:=by
 unfold hasCh at h⊢
 exact take_succ_all (p:=fun m=>decide (0≤rk m)) hi h (by simpa using h2)
theorem hasCh_not {l:List Int}{i:Nat} (hi:i<l.length) (h2:¬0≤rk l[i]):hasCh l=false:=by
 unfold hasCh
 exact not_all (p:=fun m=>decide (0≤rk m)) hi (by simpa using h2)
theorem l03Text (l:List Int) (hl:l.length≤1048576):Fz F.s_l03Text [.sl 1 (E cI l)] (.tup [.v (.string (l03T l).1),.v (.bool (l03T l).2)]):=by
 refine fn0 Cd.s_l03Text_k fun X=>?_
 simp -dsimp only[go_sem]
 refine⟨⟨by omega,by omega⟩,?_⟩
 refine LoopK.at dM (X:={zz:Nat×(Unit) // zz.1≤l.length∧hasCh (l.take zz.1)=true}) (fun zz=>[(4,.loc (.t 4 0) 0 zz.1.1),(5,.v (.int .i64 zz.1.1))]) (fun zz=>[(.t 4 0,.arr 1 (E cU ((l.map chI).take zz.1.1)) false)]) (fun zz=>l.length-zz.1.1) ⟨(0,()),by omega,by simp[hasCh]⟩ ?_ ?_
 ·simp[Vs.LeL,Vs.look,Vs.hlook,Vs.sput,Vs.sputs,Vs.hset,Vs.hputs,Vs.E]
 ·rintro⟨⟨i,_⟩,hi,hg⟩
  dsimp only at hi hg
  simp -dsimp only[go_sem,numsO_cU,txt_all]
  refine Br.mk (fun hc=>?_) fun hc=>?_
  ·have hlt:i<l.length:=Dq
   have hw:=wrap_succ hlt hl
   have hr2:=(rk_in l[i]).2
   have hap:=txt_row hlt
   have htl:=txt_len (l:=l) (i:=i) (by omega)
   by_cases hz:0≤rk l[i]
   ·have e1:l03C l[i]=(chI l[i],true):=by simp[l03C,hz]
    repeat' first|simp -dsimp only[go_sem,hw,cI_get hlt,e1,hap,htl,E_len]|apply Br.mk<;>intro h<;>try simp -dsimp only[h]|refine CallK.c (by first|exact l03Char _) ?_|refine aC ?_|fail
    all_goals first|omega|(exact nx (i+1,()) (hasCh_step hlt hg hz))
   ·have e1:l03C l[i]=(0,false):=by simp[l03C,hz]
    repeat' first|simp -dsimp only[go_sem,hw,cI_get hlt,e1]|apply Br.mk<;>intro h<;>try simp -dsimp only[h]|refine CallK.c (by first|exact l03Char _) ?_|refine aC ?_|fail
    all_goals first|omega|(refine ret_eq ?_;simp[l03T,hasCh_not hlt hz];done)|(simp[l03T,hasCh_not hlt hz];done)
  ·have hge:i=l.length:=by
    have:¬i<l.length:=Dq
    omega
   subst hge
   simp -dsimp only[go_sem,numsO_cU,txt_all]
   have hh:hasCh l=true:=by simpa using hg
   have ht:(E cU ((l.map chI).take l.length)).take l.length=E cU ((l.map chI).take l.length):=List.take_of_length_le (by simp[Vs.E])
   simp[ht,numsO_cU,txt_all,l03T,hh]
def cmpR:List Int→List Int→Int
 |x::a,y::b=>if rk x<rk y then -1 else if rk x>rk y then 1 else cmpR a b
 |_,_=>0
theorem cmpR_step {a b:List Int}{i:Nat} (ha:i<a.length) (hb:i<b.length):cmpR (a.drop i) (b.drop i)=if rk a[i]<rk b[i] then -1 else if rk a[i]>rk b[i] then 1 else cmpR (a.drop (i+1)) (b.drop (i+1)):=by
 rw[List.drop_eq_getElem_cons ha,List.drop_eq_getElem_cons hb,cmpR]
theorem compareHoles (a b:List Int) (hl:a.length≤1048576) (hab:a.length=b.length):Fz F.i_compareHoles [.sl 1 (E cI a),.sl 1 (E cI b)] (.v (.int .i64 (cmpR a b))):=by
 refine fn0 Cd.i_compareHoles_k fun X=>?_
 simp -dsimp only[go_sem]
 refine LoopK.at dM (X:={zz:Nat×(Unit) // zz.1≤a.length∧cmpR (a.drop zz.1) (b.drop zz.1)=cmpR a b}) (fun zz=>[(10,.v (.int .i64 zz.1.1))]) (fun zz=>[]) (fun zz=>a.length-zz.1.1) ⟨(0,()),by omega,by simp⟩ ?_ ?_
 ·exact le0
 ·rintro⟨⟨i,_⟩,hi,hg⟩
  dsimp only at hi hg
  simp -dsimp only[go_sem]
  refine Br.mk (fun hc=>?_) fun hc=>?_
  ·have hlt:i<a.length:=Dq
   have hw:=wrap_succ hlt hl
   have hlb:i<b.length:=by omega
   rw[cmpR_step hlt hlb] at hg
   by_cases h1:rk a[i]<rk b[i]
   ·have e1:decide (rk a[i]<rk b[i])=true:=decide_eq_true h1
    rw[if_pos h1] at hg
    repeat' first|simp -dsimp only[go_sem,hw,cI_get hlt,cI_get hlb,e1]|apply Br.mk<;>intro h<;>try simp -dsimp only[h]|refine CallK.c (by first|exact rankOf _) ?_|refine aC ?_|fail
    all_goals first|omega|(refine ret_eq ?_;simp[←hg];done)|(simp[←hg];done)
   ·have e1:decide (rk a[i]<rk b[i])=false:=decide_eq_false h1
    rw[if_neg h1] at hg
    by_cases h2:rk a[i]>rk b[i]
    ·have e2:decide (rk a[i]>rk b[i])=true:=decide_eq_true h2
     rw[if_pos h2] at hg
     repeat' first|simp -dsimp only[go_sem,hw,cI_get hlt,cI_get hlb,e1,e2]|apply Br.mk<;>intro h<;>try simp -dsimp only[h]|refine CallK.c (by first|exact rankOf _) ?_|refine aC ?_|fail
     all_goals first|omega|(refine ret_eq ?_;simp[←hg];done)|(simp[←hg];done)
    ·have e2:decide (rk a[i]>rk b[i])=false:=decide_eq_false h2
     rw[if_neg h2] at hg
     repeat' first|simp -dsimp only[go_sem,hw,cI_get hlt,cI_get hlb,e1,e2]|apply Br.mk<;>intro h<;>try simp -dsimp only[h]|refine CallK.c (by first|exact rankOf _) ?_|refine aC ?_|fail
     all_goals first|omega|(exact nx (i+1,()) hg)
  ·have hge:i=a.length:=by
    have:¬i<a.length:=Dq
    omega
   subst hge
   simp -dsimp only[go_sem]
   have hg2:cmpR a b=0:=by
    rw[←hg,List.drop_length]
    cases b.drop a.length<;>rfl
   simp[hg2]
theorem txt_size (l:List Int):(txt l).size=l.length:=by simp[txt,strB,ByteArray.size]
theorem txt_at {l:List Int} (h:hasCh l=true) {i:Nat} (hi:i<l.length):((txt l).data.toList.getD i 0).toNat=chB (rk l[i]).toNat:=by
 have h2:=chB_lt (rk l[i]).toNat (by have:=(rk_in l[i]).2;omega)
 have h3:=chI_eq l[i]
 simp only[txt,strB,List.getD_eq_getElem?_getD,List.getElem?_map,List.getElem?_eq_getElem hi,Option.map_some,Option.getD_some,←h3,Int.toNat_natCast]
 rw[UInt8.toNat_ofNat',Nat.mod_eq_of_lt (by simpa using h2)]
theorem l03Compare (a b:List Int) (hl:a.length≤1048576) (hab:a.length=b.length) (ha:hasCh a=true) (hb:hasCh b=true):Fz F.s_l03Compare [.v (.string (txt a)),.v (.string (txt b))] (.v (.int .i64 (cmpR a b))):=by
 have hsa:=txt_size a
 have hsb:=txt_size b
 refine fn0 Cd.s_l03Compare_k fun X=>?_
 simp -dsimp only[go_sem]
 refine LoopK.at dM (X:={zz:Nat×(Unit) // zz.1≤a.length∧cmpR (a.drop zz.1) (b.drop zz.1)=cmpR a b}) (fun zz=>[(5,.v (.int .i64 zz.1.1))]) (fun zz=>[]) (fun zz=>a.length-zz.1.1) ⟨(0,()),by omega,by simp⟩ ?_ ?_
 ·exact le0
 ·rintro⟨⟨i,_⟩,hi,hg⟩
  dsimp only at hi hg
  simp -dsimp only[go_sem,hsa,hsb]
  refine Br.mk (fun hc=>?_) fun hc=>?_
  ·have hlt:i<a.length:=Dq
   have hw:=wrap_succ hlt hl
   have hlb:i<b.length:=by omega
   rw[cmpR_step hlt hlb] at hg
   have ra:=hasCh_get ha hlt
   have rb:=hasCh_get hb hlb
   have ra2:=(rk_in a[i]).2
   have rb2:=(rk_in b[i]).2
   have ta:=txt_at ha hlt
   have tb:=txt_at hb hlb
   have na:((rk a[i]).toNat:Int)=rk a[i]:=by omega
   have nb:((rk b[i]).toNat:Int)=rk b[i]:=by omega
   by_cases h1:rk a[i]<rk b[i]
   ·have e1:decide (rk a[i]<rk b[i])=true:=decide_eq_true h1
    rw[if_pos h1] at hg
    repeat' first|simp -dsimp only[go_sem,hw,cI_get hlt,cI_get hlb,e1,hsa,hsb,ta,tb,na,nb]|apply Br.mk<;>intro h<;>try simp -dsimp only[h]|refine CallK.c (by first|exact l03Rank _ (by omega)) ?_|refine aC ?_|fail
    all_goals first|omega|(refine ret_eq ?_;simp[←hg];done)|(simp[←hg];done)
   ·have e1:decide (rk a[i]<rk b[i])=false:=decide_eq_false h1
    rw[if_neg h1] at hg
    by_cases h2:rk a[i]>rk b[i]
    ·have e2:decide (rk a[i]>rk b[i])=true:=decide_eq_true h2
     rw[if_pos h2] at hg
     repeat' first|simp -dsimp only[go_sem,hw,cI_get hlt,cI_get hlb,e1,e2,hsa,hsb,ta,tb,na,nb]|apply Br.mk<;>intro h<;>try simp -dsimp only[h]|refine CallK.c (by first|exact l03Rank _ (by omega)) ?_|refine aC ?_|fail
     all_goals first|omega|(refine ret_eq ?_;simp[←hg];done)|(simp[←hg];done)
    ·have e2:decide (rk a[i]>rk b[i])=false:=decide_eq_false h2
     rw[if_neg h2] at hg
     repeat' first|simp -dsimp only[go_sem,hw,cI_get hlt,cI_get hlb,e1,e2,hsa,hsb,ta,tb,na,nb]|apply Br.mk<;>intro h<;>try simp -dsimp only[h]|refine CallK.c (by first|exact l03Rank _ (by omega)) ?_|refine aC ?_|fail
     all_goals first|omega|(exact nx (i+1,()) hg)
  ·have hge:i=a.length:=by
    have:¬i<a.length:=Dq
    omega
   subst hge
   simp -dsimp only[go_sem,hsa,hsb]
   have hg2:cmpR a b=0:=by
    rw[←hg,List.drop_length]
    cases b.drop a.length<;>rfl
   simp[hg2]
end
section
variable [Vs.Envs]
attribute [local irreducible] Vs.Fn chOK areCh chTo chAt l03 chB rk cd3 chI
def fH (fr to:Int) (c:List Int):List Int:=(c.take to.toNat).drop fr.toNat
def okF (fr to:Int) (c:List Int):Prop:=0≤fr∧fr<to∧to≤c.length∧c.length≤20
theorem fH_len {fr to:Int}{c:List Int} (h:okF fr to c):(fH fr to c).length=to.toNat-fr.toNat:=by
 obtain⟨h0,h1,h2,h3⟩:=h
 simp[fH];omega
theorem fH_le {fr to:Int}{c:List Int} (h:okF fr to c):(fH fr to c).length≤1048576:=by
 have:=fH_len h
 obtain⟨h0,h1,h2,h3⟩:=h
 omega
theorem okF_b {fr to:Int}{c:List Int} (h:okF fr to c):0≤fr∧fr≤to∧to≤((E cI c).length:Int):=by
 obtain⟨h0,h1,h2,h3⟩:=h
 rw[E_len];omega
theorem okF_b2 {fr to:Int}{c:List Int} (h:okF fr to c):0≤fr∧fr≤to∧to≤(c.length:Int):=by
 obtain⟨h0,h1,h2,h3⟩:=h
 omega
theorem fH_E (fr to:Int) (c:List Int):((E cI c).take to.toNat).drop fr.toNat=E cI (fH fr to c):=by simp[fH,E,List.map_take,List.map_drop]
def cmF (fr to:Int) (a b:List Int):Int:=cmpR (fH fr to a) (fH fr to b)
def allCh (fr to:Int) (l:List (List Int)):Bool:=l.all fun c=>hasCh (fH fr to c)
theorem compareFields (a b:List Int) (fr to:Int) (ha:okF fr to a) (hb:okF fr to b):Fz F.i_compareFields [.agg (cC a),.agg (cC b),.agg (cFd fr to)] (.v (.int .i64 (cmF fr to a b))):=by
 refine fn0 Cd.i_compareFields_k fun X=>?_
 repeat' first|simp -dsimp only[go_sem,fH_E,E_len,cC,cFd,List.replicate_succ,List.replicate_zero,List.flatten_cons,List.flatten_nil,List.cons_append,List.nil_append,List.set_cons_zero,List.set_cons_succ,List.length_cons,List.length_nil,List.length_set]|apply Br.mk<;>intro h<;>try simp -dsimp only[h]|refine RgK.mk rfl ?_|refine CallK.c (by first|exact compareHoles _ _ (fH_le ha) ((fH_len ha).trans (fH_len hb).symm)) ?_|refine And.intro (by first|rfl|omega|decide|exact okF_b ha|exact okF_b hb|exact⟨rfl,okF_b ha⟩|exact⟨rfl,okF_b hb⟩|exact okF_b2 ha|exact okF_b2 hb|exact⟨rfl,okF_b2 ha⟩|exact⟨rfl,okF_b2 hb⟩|(refine⟨?_,?_⟩<;>(first|rfl|omega|decide|exact okF_b ha|exact okF_b hb|exact⟨rfl,okF_b ha⟩|exact⟨rfl,okF_b hb⟩|exact okF_b2 ha|exact okF_b2 hb|exact⟨rfl,okF_b2 ha⟩|exact⟨rfl,okF_b2 hb⟩))|(refine⟨?_,?_,?_⟩<;>(first|rfl|omega|decide|exact okF_b ha|exact okF_b hb|exact⟨rfl,okF_b ha⟩|exact⟨rfl,okF_b hb⟩|exact okF_b2 ha|exact okF_b2 hb|exact⟨rfl,okF_b2 ha⟩|exact⟨rfl,okF_b2 hb⟩))|(refine⟨?_,?_,?_,?_⟩<;>(first|rfl|omega|decide|exact okF_b ha|exact okF_b hb|exact⟨rfl,okF_b ha⟩|exact⟨rfl,okF_b hb⟩|exact okF_b2 ha|exact okF_b2 hb|exact⟨rfl,okF_b2 ha⟩|exact⟨rfl,okF_b2 hb⟩))) ?_|fail
 all_goals(simp_all [cmF])
theorem hasField (a:List Int) (fr to:Int) (ha:okF fr to a):Fz F.i_hasField [.agg (cC a),.agg (cFd fr to)] (.v (.bool (hasCh (fH fr to a)))):=by
 refine fn0 Cd.i_hasField_k fun X=>?_
 repeat' first|simp -dsimp only[go_sem,fH_E,E_len,cC,cFd,List.replicate_succ,List.replicate_zero,List.flatten_cons,List.flatten_nil,List.cons_append,List.nil_append,List.set_cons_zero,List.set_cons_succ,List.length_cons,List.length_nil,List.length_set]|apply Br.mk<;>intro h<;>try simp -dsimp only[h]|refine RgK.mk rfl ?_|refine CallK.c (by first|exact hasCharacters _ (fH_le ha)) ?_|refine And.intro (by first|rfl|omega|decide|exact okF_b ha|exact⟨rfl,okF_b ha⟩|exact okF_b2 ha|exact⟨rfl,okF_b2 ha⟩|(refine⟨?_,?_⟩<;>(first|rfl|omega|decide|exact okF_b ha|exact⟨rfl,okF_b ha⟩|exact okF_b2 ha|exact⟨rfl,okF_b2 ha⟩))|(refine⟨?_,?_,?_⟩<;>(first|rfl|omega|decide|exact okF_b ha|exact⟨rfl,okF_b ha⟩|exact okF_b2 ha|exact⟨rfl,okF_b2 ha⟩))|(refine⟨?_,?_,?_,?_⟩<;>(first|rfl|omega|decide|exact okF_b ha|exact⟨rfl,okF_b ha⟩|exact okF_b2 ha|exact⟨rfl,okF_b2 ha⟩))) ?_|fail
 all_goals(simp_all)
theorem haveField1 (a:List Int) (fr to:Int) (ha:okF fr to a):Fz F.i_haveField_1 [.agg (cC a),.ro (cFd fr to)] (.v (.bool (!hasCh (fH fr to a)))):=by
 refine fn0 Cd.i_haveField_1_k fun X=>?_
 repeat' first|simp -dsimp only[go_sem,cC,cFd,List.replicate_succ,List.replicate_zero,List.flatten_cons,List.flatten_nil,List.cons_append,List.nil_append,List.set_cons_zero,List.set_cons_succ,List.length_cons,List.length_nil,List.length_set]|apply Br.mk<;>intro h<;>try simp -dsimp only[h]|refine CallK.c (by first|exact hasField a fr to ha) ?_|refine aC ?_|fail
 all_goals(simp_all)
theorem idxHF (l:List (List Int)) (fr to:Int) (ho:∀c,c∈l→okF fr to c) (hl:l.length≤1048576):Fz F.ixf_Card [.sl 1 (E cC l),.fn F.i_haveField_1 [.ro (cFd fr to)]] (.v (.int .i64 (idxP (fun c=>!hasCh (fH fr to c)) l))):=
 ixA_fn Tryz.mixed (k:=1) Cd.ixf_Card_k.o Cd.ixf_Card_k.n Cd.ixf_Card_k.r rfl (fun c=>!hasCh (fH fr to c)) F.i_haveField_1 [.ro (cFd fr to)] rfl (fun _=>rfl) (fun _=>rfl) (fun x hx=>haveField1 x fr to (ho x hx)) hl
theorem conHF (l:List (List Int)) (fr to:Int) (ho:∀c,c∈l→okF fr to c) (hl:l.length≤1048576):Fz F.ctf_Card [.sl 1 (E cC l),.fn F.i_haveField_1 [.ro (cFd fr to)]] (.v (.bool (l.any (fun c=>!hasCh (fH fr to c))))):=
 ct_fn Tryz.mixed (g:=F.ixf_Card) Cd.ctf_Card_k.o Cd.ctf_Card_k.n Cd.ctf_Card_k.r rfl (fun c=>!hasCh (fH fr to c)) F.i_haveField_1 [.ro (cFd fr to)] rfl (idxHF l fr to ho hl)
theorem any_allCh (fr to:Int) (l:List (List Int)):(!l.any fun c=>!hasCh (fH fr to c))=allCh fr to l:=by
 unfold allCh
 induction l with
 |nil=>rfl
 |cons x r ih=>simp only[List.any_cons,List.all_cons,Bool.not_or,Bool.not_not,ih]
theorem haveField (l:List (List Int)) (fr to:Int) (ho:∀c,c∈l→okF fr to c) (hl:l.length≤1048576):Fz F.i_haveField [.sl 1 (E cC l),.agg (cFd fr to)] (.v (.bool (allCh fr to l))):=by
 refine fn0 Cd.i_haveField_k fun X=>?_
 repeat' first|simp -dsimp only[go_sem,cFd]|apply Br.mk<;>intro h<;>try simp -dsimp only[h]|refine CallK.c (by first|exact conHF l fr to ho hl) ?_|refine aC ?_|fail
 all_goals(first|(simp_all [any_allCh];done)|(refine ret_eq ?_;have e:=any_allCh fr to l;simp_all))
theorem hasEqual1 (a d:List Int) (fr to:Int) (ha:okF fr to a) (hd:okF fr to d):Fz F.i_hasEqual_1 [.agg (cC a),.ro (cC d),.ro (cFd fr to)] (.v (.bool (cmF fr to a d==0))):=by
 refine fn0 Cd.i_hasEqual_1_k fun X=>?_
 repeat' first|simp -dsimp only[go_sem,cC,cFd,List.replicate_succ,List.replicate_zero,List.flatten_cons,List.flatten_nil,List.cons_append,List.nil_append,List.set_cons_zero,List.set_cons_succ,List.length_cons,List.length_nil,List.length_set]|apply Br.mk<;>intro h<;>try simp -dsimp only[h]|refine CallK.c (by first|exact compareFields a d fr to ha hd) ?_|refine aC ?_|fail
 all_goals(simp_all)
theorem idxHE (l:List (List Int)) (fr to:Int) (d:List Int) (hd:okF fr to d) (ho:∀c,c∈l→okF fr to c) (hl:l.length≤1048576):Fz F.ixf_Card [.sl 1 (E cC l),.fn F.i_hasEqual_1 [.ro (cC d),.ro (cFd fr to)]] (.v (.int .i64 (idxP (fun c=>cmF fr to c d==0) l))):=
 ixA_fn Tryz.mixed (k:=1) Cd.ixf_Card_k.o Cd.ixf_Card_k.n Cd.ixf_Card_k.r rfl (fun c=>cmF fr to c d==0) F.i_hasEqual_1 [.ro (cC d),.ro (cFd fr to)] rfl (fun _=>rfl) (fun _=>rfl) (fun x hx=>hasEqual1 x d fr to (ho x hx) hd) hl
theorem conHE (l:List (List Int)) (fr to:Int) (d:List Int) (hd:okF fr to d) (ho:∀c,c∈l→okF fr to c) (hl:l.length≤1048576):Fz F.ctf_Card [.sl 1 (E cC l),.fn F.i_hasEqual_1 [.ro (cC d),.ro (cFd fr to)]] (.v (.bool (l.any (fun c=>cmF fr to c d==0)))):=
 ct_fn Tryz.mixed (g:=F.ixf_Card) Cd.ctf_Card_k.o Cd.ctf_Card_k.n Cd.ctf_Card_k.r rfl (fun c=>cmF fr to c d==0) F.i_hasEqual_1 [.ro (cC d),.ro (cFd fr to)] rfl (idxHE l fr to d hd ho hl)
theorem hasEqual (l:List (List Int)) (d:List Int) (fr to:Int) (hd:okF fr to d) (ho:∀c,c∈l→okF fr to c) (hl:l.length≤1048576):Fz F.i_hasEqual [.sl 1 (E cC l),.agg (cC d),.agg (cFd fr to)] (.v (.bool (l.any (fun c=>cmF fr to c d==0)))):=by
 refine fn0 Cd.i_hasEqual_k fun X=>?_
 repeat' first|simp -dsimp only[go_sem,cFd,cC]|apply Br.mk<;>intro h<;>try simp -dsimp only[h]|refine CallK.c (by first|exact conHE l fr to d hd ho hl) ?_|refine aC ?_|fail
 all_goals(simp_all)
theorem l03Key (a:List Int) (fr to:Int) (ha:okF fr to a):Fz F.s_l03Key [.ro (cC a),.agg (cFd fr to)] (.tup [.v (.string (l03T (fH fr to a)).1),.v (.bool (l03T (fH fr to a)).2)]):=by
 refine fn0 Cd.s_l03Key_k fun X=>?_
 repeat' first|simp -dsimp only[go_sem,cFd]|apply Br.mk<;>intro h<;>try simp -dsimp only[h]|refine CallK.c (by first|exact part a fr to (okF_b2 ha).1 (okF_b2 ha).2.1 (okF_b2 ha).2.2|exact l03Text (fH fr to a) (fH_le ha)) ?_|refine aC ?_|fail
 all_goals(simp_all)
def cSt (s:ByteArray):List AV:=[.v (.string s)]
def keyL (fr to:Int) (l:List (List Int)):List ByteArray:=l.map fun c=>txt (fH fr to c)
def keyC (fr to:Int) (l:List (List Int)):Int:=if deckB l then(if fldB fr to (widB l) then(if allCh fr to l then 0 else 8) else 2) else 1
def keyV (fr to:Int) (l:List (List Int)):AV:=if keyC fr to l=0 then .sl 1 (E cSt (keyL fr to l)) else .v (.slice none 0 0)
theorem okF_of {l:List (List Int)}{fr to:Int} (hd:deckB l=true) (hn:fldB fr to (widB l)=true):∀c,c∈l→okF fr to c:=by
 intro c hc
 simp only[deckB,Bool.and_eq_true,List.all_eq_true,decide_eq_true_eq] at hd
 simp only[fldB,Bool.and_eq_true,decide_eq_true_eq] at hn
 obtain⟨hcb,hcl⟩:=hd.1 c hc
 simp only[cardB,inB,Bool.and_eq_true,List.all_eq_true,decide_eq_true_eq] at hcb
 have h0:l.length≠0:=by intro e;rw[List.eq_nil_of_length_eq_zero e] at hc;cases hc
 rw[widB,if_neg h0,←hcl] at hn
 obtain⟨h1,h2,h3⟩:=hn
 obtain⟨h5,h6,_⟩:=hcb
 exact⟨h1,h2,h3,by omega⟩
theorem key_row {fr to:Int}{l:List (List Int)}{i:Nat} (hi:i<l.length):E cSt ((keyL fr to l).take i)++[[.v (.string (txt (fH fr to l[i])))]]=E cSt ((keyL fr to l).take (i+1)):=by
 have h2:i<(keyL fr to l).length:=by simpa[keyL] using hi
 rw[take_succ h2,E_append];simp[E,cSt,keyL]
theorem key_len {fr to:Int}{l:List (List Int)}{i:Nat} (hi:i≤l.length):((keyL fr to l).take i).length=i:=by simp[keyL];omega
theorem key_all (fr to:Int) (l:List (List Int)):(keyL fr to l).take l.length=keyL fr to l:=List.take_of_length_le (by simp[keyL])
attribute [local go_sem] List.replicate_succ List.replicate_zero List.flatten_cons List.flatten_nil List.cons_append List.nil_append List.set_cons_zero List.set_cons_succ List.length_cons List.length_nil List.length_set in
theorem l07Keys (l:List (List Int)) (fr to:Int) (hs:∀x,x∈l→x.length≤1048576) (hl:l.length≤1048576):Fz F.s_l07Keys [.sl 1 (E cC l),.agg (cFd fr to)] (.tup [keyV fr to l,.v (.int .i64 (keyC fr to l))]):=by
 cases hd:deckB l
 ·refine fn0 Cd.s_l07Keys_k fun X=>?_
  repeat' first|simp -dsimp only[go_sem,cC,cFd,hd]|apply Br.mk<;>intro h<;>try simp -dsimp only[h]|refine CallK.c (by first|exact l02Deck l hs hl) ?_|refine aC ?_|fail
  all_goals simp[keyV,keyC,hd]
 cases hf:fldB fr to (widB l)
 ·refine fn0 Cd.s_l07Keys_k fun X=>?_
  repeat' first|simp -dsimp only[go_sem,cC,cFd,hd,hf]|apply Br.mk<;>intro h<;>try simp -dsimp only[h]|refine CallK.c (by first|exact l02Deck l hs hl|exact l07Width l|exact l02Field fr to _) ?_|refine aC ?_|fail
  all_goals simp[keyV,keyC,hd,hf]
 have ho:=okF_of hd hf
 refine fn0 Cd.s_l07Keys_k fun X=>?_
 repeat' first|simp -dsimp only[go_sem,cC,cFd,hd,hf]|apply Br.mk<;>intro h<;>try simp -dsimp only[h]|refine CallK.c (by first|exact l02Deck l hs hl|exact l07Width l|exact l02Field fr to _) ?_|refine aC ?_|fail
 refine LoopK.at dM (X:={zz:Nat×(Unit) // zz.1≤l.length∧(l.take zz.1).all (fun c=>hasCh (fH fr to c))=true}) (fun zz=>[(6,.loc (.t 6 0) 0 zz.1.1),(7,.v (.int .i64 zz.1.1))]) (fun zz=>[(.t 6 0,.arr 1 (E cSt ((keyL fr to l).take zz.1.1)) false)]) (fun zz=>l.length-zz.1.1) ⟨(0,()),by omega,by simp⟩ ?_ ?_
 ·simp[Vs.LeL,Vs.look,Vs.hlook,Vs.sput,Vs.sputs,Vs.hset,Vs.hputs,Vs.E]
 ·rintro⟨⟨i,_⟩,hi,hg⟩
  dsimp only at hi hg
  simp -dsimp only[go_sem,cC,cFd]
  refine Br.mk (fun hc=>?_) fun hc=>?_
  ·have hlt:i<l.length:=Dq
   have hw:=wrap_succ hlt hl
   have hk:=ho _ (List.getElem_mem hlt)
   have hap:=key_row (fr:=fr) (to:=to) hlt
   have hkl:=key_len (fr:=fr) (to:=to) (l:=l) (i:=i) (by omega)
   have hm:(E cC l).getD i []=[.sl 1 (E cI l[i])]:=E_get hlt
   cases hb:hasCh (fH fr to l[i])
   ·have e1:l03T (fH fr to l[i])=(⟨#[]⟩,false):=by simp[l03T,hb]
    have e2:allCh fr to l=false:=not_all (p:=fun c=>hasCh (fH fr to c)) hlt hb
    repeat' first|simp -dsimp only[go_sem,hw,hm,e1,cC,cFd]|apply Br.mk<;>intro h<;>try simp -dsimp only[h]|refine CallK.c (by first|exact l03Key _ fr to hk) ?_|refine aC ?_|fail
    all_goals first|omega|(refine ret_eq ?_;simp[keyV,keyC,hd,hf,e2];done)|(simp[keyV,keyC,hd,hf,e2];done)
   ·have e1:l03T (fH fr to l[i])=(txt (fH fr to l[i]),true):=by simp[l03T,hb]
    repeat' first|simp -dsimp only[go_sem,hw,hm,e1,hap,hkl,E_len,cC,cFd]|apply Br.mk<;>intro h<;>try simp -dsimp only[h]|refine CallK.c (by first|exact l03Key _ fr to hk) ?_|refine aC ?_|fail
    all_goals first|omega|(exact nx (i+1,()) (take_succ_all (p:=fun c=>hasCh (fH fr to c)) hlt hg hb))
  ·have hge:i=l.length:=by
    have:¬i<l.length:=Dq
    omega
   subst hge
   simp -dsimp only[go_sem,cC,cFd]
   have hall:allCh fr to l=true:=by simpa[allCh] using hg
   have hkl:(E cSt ((keyL fr to l).take l.length)).take l.length=E cSt (keyL fr to l):=by rw[key_all];exact List.take_of_length_le (by simp[Vs.E,keyL])
   have hk2:(E cSt (keyL fr to l)).take l.length=E cSt (keyL fr to l):=List.take_of_length_le (by simp[Vs.E,keyL])
   simp[keyV,keyC,hd,hf,hall,hkl,hk2,key_all]
def stpTo (fr to:Int) (l:List (List Int)):Nat→List Int
 |0=>[]
 |i+1=>stpTo fr to l i++(if cmF fr to (l.getD (i+1) []) (l.getD i [])<0 then[((i+1:Nat):Int)] else[])
def stp (fr to:Int) (l:List (List Int)):List Int:=stpTo fr to l (l.length-1)
def ascB (fr to:Int) (l:List (List Int)):Bool:=((stp fr to l).length:Int)==0
theorem stpTo_len (fr to:Int) (l:List (List Int)):∀i,(stpTo fr to l i).length≤i
 |0=>by simp[stpTo]
 | i+1=>by
  have:=stpTo_len fr to l i
  rw[stpTo,List.length_append]
  split<;>simp<;>omega
theorem wrap2 {i n:Nat} (h:i<n-1) (hn:n≤1048576):IntKind.i64.wrap (((i+1:Nat):Int)+1)=((i+1+1:Nat):Int):=by rw[wrap_in (by omega) (by omega)];omega
theorem wrap3 {i n:Nat} (h:i<n-1) (hn:n≤1048576):IntKind.i64.wrap (((i+1:Nat):Int)-1)=(i:Int):=by rw[wrap_in (by omega) (by omega)];omega
attribute [local go_sem] List.replicate_succ List.replicate_zero List.flatten_cons List.flatten_nil List.cons_append List.nil_append List.set_cons_zero List.set_cons_succ List.length_cons List.length_nil List.length_set in
theorem steps (l:List (List Int)) (fr to:Int) (ho:∀c,c∈l→okF fr to c) (hl:l.length≤1048576):Fz F.i_steps [.sl 1 (E cC l),.agg (cFd fr to)] (.sl 1 (E cI (stp fr to l))):=by
 refine fn0 Cd.i_steps_k fun X=>?_
 simp -dsimp only[go_sem,cC,cFd]
 refine⟨⟨by omega,by omega⟩,?_⟩
 refine LoopK.at dM (X:={zz:Nat×(Unit) // zz.1≤l.length-1∧True}) (fun zz=>[(5,.loc (.t 5 0) 0 (stpTo fr to l zz.1.1).length),(6,.v (.int .i64 ((zz.1.1+1:Nat):Int)))]) (fun zz=>[(.t 5 0,.arr 1 (E cI (stpTo fr to l zz.1.1)) false)]) (fun zz=>l.length-1-zz.1.1) ⟨(0,()),by omega,trivial⟩ ?_ ?_
 ·simp[Vs.LeL,Vs.look,Vs.hlook,Vs.sput,Vs.sputs,Vs.hset,Vs.hputs,Vs.E,stpTo]
 ·rintro⟨⟨i,_⟩,hi,hg⟩
  dsimp only at hi hg
  simp -dsimp only[go_sem,cC,cFd]
  refine Br.mk (fun hc=>?_) fun hc=>?_
  ·have hlt:i<l.length-1:=Dq
   have hw:=wrap_succ hlt (by omega)
   have hl1:i+1<l.length:=by omega
   have hl0:i<l.length:=by omega
   have hk1:=ho _ (List.getElem_mem hl1)
   have hk0:=ho _ (List.getElem_mem hl0)
   have hm1:(E cC l).getD (i+1) []=[.sl 1 (E cI l[i+1])]:=E_get hl1
   have hm0:(E cC l).getD i []=[.sl 1 (E cI l[i])]:=E_get hl0
   have hw2:=wrap2 hlt hl
   have hw3:=wrap3 hlt hl
   have hsl:=stpTo_len fr to l i
   have g1:l.getD (i+1) []=l[i+1]:=by simp[List.getD,hl1]
   have g0:l.getD i []=l[i]:=by simp[List.getD,hl0]
   by_cases hz:cmF fr to l[i+1] l[i]<0
   ·have e1:decide (cmF fr to l[i+1] l[i]<0)=true:=decide_eq_true hz
    have hs:stpTo fr to l (i+1)=stpTo fr to l i++[((i+1:Nat):Int)]:=by rw[stpTo,g1,g0,if_pos hz]
    have hap:E cI (stpTo fr to l i)++[[.v (.int .i64 ((i+1:Nat):Int))]]=E cI (stpTo fr to l (i+1)):=by rw[hs,E_append];rfl
    have hln:(stpTo fr to l (i+1)).length=(stpTo fr to l i).length+1:=by rw[hs];simp
    repeat' first|simp -dsimp only[go_sem,hw2,hw3,hm1,hm0,e1,hap,E_len,cC,cFd]|apply Br.mk<;>intro h<;>try simp -dsimp only[h]|refine CallK.c (by first|exact compareFields _ _ fr to hk1 hk0) ?_|refine aC ?_|fail
    all_goals first|omega|(exact nx (i+1,()) trivial (h2:=by simp[Vs.LeL,Vs.look,Vs.hlook,Vs.sput,Vs.sputs,Vs.hset,Vs.hputs,hln]))
   ·have e1:decide (cmF fr to l[i+1] l[i]<0)=false:=decide_eq_false hz
    have hs:stpTo fr to l (i+1)=stpTo fr to l i:=by rw[stpTo,g1,g0,if_neg hz];simp
    repeat' first|simp -dsimp only[go_sem,hw2,hw3,hm1,hm0,e1,E_len,cC,cFd]|apply Br.mk<;>intro h<;>try simp -dsimp only[h]|refine CallK.c (by first|exact compareFields _ _ fr to hk1 hk0) ?_|refine aC ?_|fail
    all_goals first|omega|(exact nx (i+1,()) trivial (h2:=by simp[Vs.LeL,Vs.look,Vs.hlook,Vs.sput,Vs.sputs,Vs.hset,Vs.hputs,hs]))
  ·have hge:i=l.length-1:=by
    have:¬i<l.length-1:=Dq
    omega
   subst hge
   simp -dsimp only[go_sem,cC,cFd]
   exact⟨⟨_,_,rfl,rfl⟩,by simp⟩
theorem isAscending (l:List (List Int)) (fr to:Int) (ho:∀c,c∈l→okF fr to c) (hl:l.length≤1048576):Fz F.i_isAscending [.sl 1 (E cC l),.agg (cFd fr to)] (.v (.bool (ascB fr to l))):=by
 refine fn0 Cd.i_isAscending_k fun X=>?_
 repeat' first|simp -dsimp only[go_sem,cFd,E_len]|apply Br.mk<;>intro h<;>try simp -dsimp only[h]|refine CallK.c (by first|exact steps l fr to ho hl) ?_|refine aC ?_|fail
 all_goals(simp_all [ascB])
end
section
variable [Vs.Envs]
attribute [local irreducible] Vs.Fn
theorem getD_lt {α:Type}{l:List α}{i:Nat} (h:i<l.length) (d:α):l.getD i d=l[i]:=by simp[List.getD,h]
def cTs (t:List Tot):List AV:=[.sl 2 (E cT t)]
structure Off where
 trays:List (List (List Int))
 totals:List (List Tot)
def cO (o:Off):List AV:=[.sl 1 (E cD o.trays),.sl 1 (E cTs o.totals)]
def smallC (l:List (List Int)):Prop:=l.length≤1048576∧∀c,c∈l→c.length≤1048576
def smallD (l:List (List (List Int))):Prop:=l.length≤1048576∧∀d,d∈l→smallC d
def smallT (l:List Tot):Prop:=l.length≤1048576∧∀t,t∈l→t.1.size≤1048576
def smallTs (l:List (List Tot)):Prop:=l.length≤1048576∧∀t,t∈l→smallT t
def smallO (o:Off):Prop:=smallD o.trays∧smallTs o.totals
end
end Go.Proofs.YthfnpdhpefialaaGreat
