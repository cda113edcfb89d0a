/- Cards of a text are selected: the reference's way. -/
import Derived.Test.YthfnpdhpefialaaGreatYwSq
import Derived.Test.YthfnpdhpefialaaGreatYwSm
import Derived.Test.YthfnpdhpefialaaGreatYwSh
import Derived.Test.YthfnpdhpefialaaGreatYwVf
import Derived.Test.YthfnpdhpefialaaGreatYwC
set_option linter.all false
set_option maxHeartbeats 8000000
namespace Go.Proofs.YthfnpdhpefialaaGreat
open Go.Vs
section
variable [Vs.Envs]
attribute [local irreducible] Vs.Fn grpTo chOK areCh chTo chAt l03 chB rk cd3 chI stp stpTo
attribute [local go_sem] E_len List.replicate_succ List.replicate_zero List.flatten_cons List.flatten_nil List.cons_append List.nil_append List.set_cons_zero List.set_cons_succ List.length_cons List.length_nil List.length_set in
theorem l09Groups (l:List (List Int)) (fr to:Int) (ho:∀c,c∈l→okF fr to c) (hall:allCh fr to l=true) (hl:l.length≤1048576):Fz F.s_l09Groups [.sl 1 (E cSt (keyL fr to l))] (.sl 1 (E cI (grpTo fr to l l.length))):=by
 have hkl:(E cSt (keyL fr to l)).length=l.length:=by rw[E_len];simp[keyL]
 have hke:∀i:Nat,i<l.length→(E cSt (keyL fr to l)).getD i []=[.v (.string (txt (fH fr to (l.getD i []))))]:=fun i hi=>by
  have h:=key_at (fr:=fr) (to:=to) (l:=l) (x:=(i:Int)) ⟨by omega,by omega⟩
  rw[Int.toNat_natCast] at h;exact h
 have hin:∀i:Nat,i<l.length→l.getD i []∈l:=fun i hi=>by rw[show l.getD i []=l[i] by simp[List.getD,hi]];exact List.getElem_mem hi
 have hne:∀i j:Nat,i<l.length→j<l.length→(!((txt (fH fr to (l.getD i []))).toList==(txt (fH fr to (l.getD j []))).toList))=(cmF fr to (l.getD j []) (l.getD i []) != 0):=fun i j hi hj=>by
  have hli:=fH_len (ho _ (hin i hi))
  have hlj:=fH_len (ho _ (hin j hj))
  have hci:=List.all_eq_true.1 hall _ (hin i hi)
  have hcj:=List.all_eq_true.1 hall _ (hin j hj)
  rw[txt_beq (by rw[hli,hlj]) hci hcj]
  unfold cmF
  rw[cmpR_anti (fH fr to (l.getD i [])) (fH fr to (l.getD j [])) (by rw[hli,hlj])]
  generalize cmpR (fH fr to (l.getD i [])) (fH fr to (l.getD j []))=c
  by_cases h0:c=0
  ·subst h0;rfl
  ·have h1:(c==0)=false:=by simp[h0]
   have h2:(-c != 0)=true:=by simp;omega
   rw[h1,h2];rfl
 generalize E cSt (keyL fr to l)=K at *
 refine fn0 Cd.s_l09Groups_k fun X=>?_
 repeat' first|simp -dsimp only[go_sem,hkl]|apply Br.mk<;>intro h<;>try simp -dsimp only[h]|refine aC ?_|fail
 refine LoopK.at dM (X:={zz:Nat×(Unit) // zz.1≤l.length∧True}) (fun zz=>[(3,.loc (.t 3 0) 0 (grpTo fr to l zz.1.1).length),(4,.v (.int .i64 zz.1.1))]) (fun zz=>[(.t 3 0,.arr 1 (E cI (grpTo fr to l zz.1.1)) false)]) (fun zz=>l.length-zz.1.1) ⟨(0,()),by omega,trivial⟩ ?_ ?_
 ·simp[Vs.LeL,Vs.look,Vs.hlook,Vs.sput,Vs.sputs,Vs.hset,Vs.hputs,Vs.E,grpTo_zero]
 ·rintro⟨⟨i,_⟩,hi,hg⟩
  dsimp only at hi hg
  simp -dsimp only[go_sem,hkl]
  refine Br.mk (fun hc=>?_) fun hc=>?_
  ·have hlt:i<l.length:=Dq
   have hw:=wrap_succ hlt (by omega)
   have hgl:=grpTo_len fr to l i
   have gi:=hke i hlt
   have hap:E cI (grpTo fr to l i)++[[.v (.int .i64 (i:Int))]]=E cI (grpTo fr to l i++[(i:Int)]):=by rw[E_append];rfl
   have hal:(E cI (grpTo fr to l i)).length=(grpTo fr to l i).length:=E_len ..
   have hgs:=grpTo_succ fr to l i
   by_cases h0:i=0
   ·subst h0
    rw[if_pos (.inl rfl)] at hgs
    have e0:(((0:Nat):Int)==0)=true:=rfl
    repeat' first|simp -dsimp only[go_sem,e0,hw,hap,hal,gi]|apply Br.mk<;>intro h<;>try simp -dsimp only[h]|refine aC ?_|fail
    all_goals first|omega|(exact nx (0+1,()) trivial (h2:=by simp[Vs.LeL,Vs.look,Vs.hlook,Vs.sput,Vs.sputs,Vs.hset,Vs.hputs,hgs]))
   ·have e0:((i:Int)==0)=false:=by simp[h0]
    have w0:IntKind.i64.wrap ((i:Int)-1)=((i-1:Nat):Int):=by rw[wrap_in (by omega) (by omega)];omega
    have hl1:i-1<l.length:=by omega
    have gj:=hke (i-1) hl1
    have hn:=hne i (i-1) hlt hl1
    by_cases hc0:cmF fr to (l.getD (i-1) []) (l.getD i [])=0
    ·have e1:(cmF fr to (l.getD (i-1) []) (l.getD i []) != 0)=false:=by rw[hc0];rfl
     rw[e1] at hn
     rw[if_neg (by rintro(h|h)<;>contradiction),List.append_nil] at hgs
     repeat' first|simp -dsimp only[go_sem,e0,hn,hkl,w0,hw,hap,hal,gi,gj]|apply Br.mk<;>intro h<;>try simp -dsimp only[h]|refine aC ?_|fail
     all_goals first|omega|(exact nx (i+1,()) trivial (h2:=by simp[Vs.LeL,Vs.look,Vs.hlook,Vs.sput,Vs.sputs,Vs.hset,Vs.hputs,hgs]))
    ·have e1:(cmF fr to (l.getD (i-1) []) (l.getD i []) != 0)=true:=bne_iff_ne.2 hc0
     rw[e1] at hn
     rw[if_pos (.inr hc0)] at hgs
     repeat' first|simp -dsimp only[go_sem,e0,hn,hkl,w0,hw,hap,hal,gi,gj]|apply Br.mk<;>intro h<;>try simp -dsimp only[h]|refine aC ?_|fail
     all_goals first|omega|(exact nx (i+1,()) trivial (h2:=by simp[Vs.LeL,Vs.look,Vs.hlook,Vs.sput,Vs.sputs,Vs.hset,Vs.hputs,hgs]))
  ·have hge:i=l.length:=by
    have:¬i<l.length:=Dq
    omega
   subst hge
   simp -dsimp only[go_sem,hkl]
   have htk:(E cI (grpTo fr to l l.length)).take (grpTo fr to l l.length).length=E cI (grpTo fr to l l.length):=List.take_of_length_le (by rw[E_len];exact Nat.le_refl _)
   first|exact⟨⟨_,_,rfl,rfl⟩,fun h=>h rfl⟩|(rw[htk];exact⟨⟨_,_,rfl,rfl⟩,fun h=>h rfl⟩)|(simp[htk];done)
end
section
variable [Vs.Envs]
attribute [local irreducible] Vs.Fn grpTo keyC colC chOK areCh chTo chAt l03 chB rk cd3 chI stp stpTo
def fogL (fr to:Int) (l:List (List Int)):List (List Int):=(grpTo fr to l l.length).map fun i=>l.getD i.toNat []
def fogV (fr to:Int) (l:List (List Int)):AV:=if keyC fr to l=0 then .sl 1 (E cC (fogL fr to l)) else .v (.slice none 0 0)
theorem colC_one (fr to:Int) (l:List (List Int)):colC fr to [l]=keyC fr to l:=by
 unfold colC keyC
 simp only[List.all_cons,List.all_nil,Bool.and_true]
theorem grpTo_inO {fr to:Int}{l:List (List Int)}:∀x,x∈grpTo fr to l l.length→inO l.length x:=fun x hx=>grpTo_in l.length x hx
attribute [local go_sem] cD E_len List.replicate_succ List.replicate_zero List.flatten_cons List.flatten_nil List.cons_append List.nil_append List.set_cons_zero List.set_cons_succ List.length_cons List.length_nil List.length_set in
theorem impl_FirstOfGroups (l:List (List Int)) (fr to:Int) (hk:smallC l):Fz F.i_FirstOfGroups [.sl 1 (E cC l),.agg (cFd fr to)] (.tup [fogV fr to l,.v (.int .i64 (keyC fr to l))]):=by
 have CC:=collate0 fr to [l] ⟨by simp,fun d hd=>by simp at hd;subst hd;exact hk⟩
 rw[colC_one] at CC
 by_cases h0:keyC fr to l=0
 ·obtain⟨hd,hf,ha⟩:=keyC_ok h0
  have ho:=okF_of hd hf
  have h40:=deck_40 hd
  rw[show fogV fr to l=.sl 1 (E cC (fogL fr to l)) by simp[fogV,h0],h0]
  have hol:=grpTo_len fr to l l.length
  have hoi:=grpTo_inO (fr:=fr) (to:=to) (l:=l)
  rw[show fogL fr to l=(grpTo fr to l l.length).map (fun i=>l.getD i.toNat []) from rfl]
  have GO:=groupsOf l fr to ho (by omega)
  rw[h0] at CC
  generalize grpTo fr to l l.length=o at *
  refine fn0 Cd.i_FirstOfGroups_k fun X=>?_
  repeat' first|simp -dsimp only[go_sem,cC,cFd]|apply Br.mk<;>intro h<;>try simp -dsimp only[h]|refine CallK.c (by first|exact CC|exact GO) ?_|refine aC ?_|fail
  refine LoopK.at dM (X:={zz:Nat×(Unit) // zz.1≤o.length∧True}) (fun zz=>[(7,.loc (.t 7 0) 0 zz.1.1),(22,.v (.int .i64 zz.1.1))]) (fun zz=>[(.t 7 0,.arr 1 (E cC ((o.take zz.1.1).map fun i=>l.getD i.toNat [])) false)]) (fun zz=>o.length-zz.1.1) ⟨(0,()),by omega,trivial⟩ ?_ ?_
  ·simp[Vs.LeL,Vs.look,Vs.hlook,Vs.sput,Vs.sputs,Vs.hset,Vs.hputs,Vs.E]
  ·rintro⟨⟨i,_⟩,hi,hg⟩
   dsimp only at hi hg
   simp -dsimp only[go_sem,cC,cFd]
   refine Br.mk (fun hc=>?_) fun hc=>?_
   ·have hlt:i<o.length:=Dq
    have hw:=wrap_succ hlt (by omega)
    have hx:=hoi _ (List.getElem_mem hlt)
    have gx:=cC_get hx
    have hm:=mem_get hx
    have hc20:(l.getD o[i].toNat []).length≤20:=(ho _ hm).2.2.2
    have NC:=newCard (l.getD o[i].toNat []) (by omega)
    have x0:=hx.1
    have x1:=hx.2
    have hap:E cC ((o.take i).map fun i=>l.getD i.toNat [])++[[.sl 1 (E cI (l.getD o[i].toNat []))]]=E cC ((o.take (i+1)).map fun i=>l.getD i.toNat []):=by
     rw[take_succ hlt,List.map_append,E_append];rfl
    have hal:(E cC ((o.take i).map fun i=>l.getD i.toNat [])).length=i:=by rw[E_len];simp;omega
    repeat' first|simp -dsimp only[go_sem,cI_get hlt,hw,hap,hal,gx,cC,cFd]|apply Br.mk<;>intro h<;>try simp -dsimp only[h]|refine CallK.c (by first|exact NC) ?_|refine aC ?_|fail
    all_goals first|omega|(exact nx (i+1,()) trivial (h2:=by simp[Vs.LeL,Vs.look,Vs.hlook,Vs.sput,Vs.sputs,Vs.hset,Vs.hputs,hap]))
   ·have hge:i=o.length:=by
     have:¬i<o.length:=Dq
     omega
    subst hge
    simp -dsimp only[go_sem,cC,cFd]
    have htk:(E cC ((o.take o.length).map fun i=>l.getD i.toNat [])).take o.length=E cC (o.map fun i=>l.getD i.toNat []):=by
     rw[List.take_of_length_le (Nat.le_refl o.length)];exact List.take_of_length_le (by rw[E_len];simp)
    first|exact⟨⟨_,_,rfl,rfl⟩,fun h=>h rfl⟩|(rw[htk];exact⟨⟨_,_,rfl,rfl⟩,fun h=>h rfl⟩)|(simp[htk];done)
 ·have e0:(keyC fr to l != 0)=true:=by simp[h0]
  rw[show fogV fr to l=.v (.slice none 0 0) by simp[fogV,h0]]
  generalize keyC fr to l=c at *
  refine fn0 Cd.i_FirstOfGroups_k fun X=>?_
  repeat' first|simp -dsimp only[go_sem,cC,cFd,e0]|apply Br.mk<;>intro h<;>try simp -dsimp only[h]|refine CallK.c (by first|exact CC) ?_|refine aC ?_|fail
  all_goals first|exact⟨_,_,rfl,rfl⟩
attribute [local go_sem] cD E_len List.replicate_succ List.replicate_zero List.flatten_cons List.flatten_nil List.cons_append List.nil_append List.set_cons_zero List.set_cons_succ List.length_cons List.length_nil List.length_set in
theorem spec_FirstOfGroups (l:List (List Int)) (fr to:Int) (hk:smallC l):Fz F.s_FirstOfGroups [.sl 1 (E cC l),.agg (cFd fr to)] (.tup [fogV fr to l,.v (.int .i64 (keyC fr to l))]):=by
 have KS:=l07Keys l fr to hk.2 hk.1
 by_cases h0:keyC fr to l=0
 ·obtain⟨hd,hf,ha⟩:=keyC_ok h0
  have ho:=okF_of hd hf
  have h40:=deck_40 hd
  rw[show fogV fr to l=.sl 1 (E cC (fogL fr to l)) by simp[fogV,h0],h0]
  have hol:=grpTo_len fr to l l.length
  have hoi:=grpTo_inO (fr:=fr) (to:=to) (l:=l)
  rw[show fogL fr to l=(grpTo fr to l l.length).map (fun i=>l.getD i.toNat []) from rfl]
  have GO:=l09Groups l fr to ho ha (by omega)
  rw[show keyV fr to l=.sl 1 (E cSt (keyL fr to l)) by simp[keyV,h0],h0] at KS
  generalize grpTo fr to l l.length=o at *
  refine fn0 Cd.s_FirstOfGroups_k fun X=>?_
  repeat' first|simp -dsimp only[go_sem,cC,cFd]|apply Br.mk<;>intro h<;>try simp -dsimp only[h]|refine CallK.c (by first|exact KS|exact GO) ?_|refine aC ?_|fail
  refine LoopK.at dM (X:={zz:Nat×(Unit) // zz.1≤o.length∧True}) (fun zz=>[(9,.loc (.t 9 0) 0 zz.1.1),(10,.v (.int .i64 zz.1.1))]) (fun zz=>[(.t 9 0,.arr 1 (E cC ((o.take zz.1.1).map fun i=>l.getD i.toNat [])) false)]) (fun zz=>o.length-zz.1.1) ⟨(0,()),by omega,trivial⟩ ?_ ?_
  ·simp[Vs.LeL,Vs.look,Vs.hlook,Vs.sput,Vs.sputs,Vs.hset,Vs.hputs,Vs.E]
  ·rintro⟨⟨i,_⟩,hi,hg⟩
   dsimp only at hi hg
   simp -dsimp only[go_sem,cC,cFd]
   refine Br.mk (fun hc=>?_) fun hc=>?_
   ·have hlt:i<o.length:=Dq
    have hw:=wrap_succ hlt (by omega)
    have hx:=hoi _ (List.getElem_mem hlt)
    have gx:=cC_get hx
    have hm:=mem_get hx
    have hc20:(l.getD o[i].toNat []).length≤20:=(ho _ hm).2.2.2
    have NC:=l02Own (l.getD o[i].toNat []) (by omega)
    have x0:=hx.1
    have x1:=hx.2
    have hap:E cC ((o.take i).map fun i=>l.getD i.toNat [])++[[.sl 1 (E cI (l.getD o[i].toNat []))]]=E cC ((o.take (i+1)).map fun i=>l.getD i.toNat []):=by
     rw[take_succ hlt,List.map_append,E_append];rfl
    have hal:(E cC ((o.take i).map fun i=>l.getD i.toNat [])).length=i:=by rw[E_len];simp;omega
    repeat' first|simp -dsimp only[go_sem,cI_get hlt,hw,hap,hal,gx,cC,cFd]|apply Br.mk<;>intro h<;>try simp -dsimp only[h]|refine CallK.c (by first|exact NC) ?_|refine aC ?_|fail
    all_goals first|omega|(exact nx (i+1,()) trivial (h2:=by simp[Vs.LeL,Vs.look,Vs.hlook,Vs.sput,Vs.sputs,Vs.hset,Vs.hputs,hap]))
   ·have hge:i=o.length:=by
     have:¬i<o.length:=Dq
     omega
    subst hge
    simp -dsimp only[go_sem,cC,cFd]
    have htk:(E cC ((o.take o.length).map fun i=>l.getD i.toNat [])).take o.length=E cC (o.map fun i=>l.getD i.toNat []):=by
     rw[List.take_of_length_le (Nat.le_refl o.length)];exact List.take_of_length_le (by rw[E_len];simp)
    first|exact⟨⟨_,_,rfl,rfl⟩,fun h=>h rfl⟩|(rw[htk];exact⟨⟨_,_,rfl,rfl⟩,fun h=>h rfl⟩)|(simp[htk];done)
 ·have e0:(keyC fr to l != 0)=true:=by simp[h0]
  rw[show fogV fr to l=.v (.slice none 0 0) by simp[fogV,h0]]
  rw[show keyV fr to l=.v (.slice none 0 0) by simp[keyV,h0]] at KS
  generalize keyC fr to l=c at *
  refine fn0 Cd.s_FirstOfGroups_k fun X=>?_
  repeat' first|simp -dsimp only[go_sem,cC,cFd,e0]|apply Br.mk<;>intro h<;>try simp -dsimp only[h]|refine CallK.c (by first|exact KS) ?_|refine aC ?_|fail
  all_goals first|exact⟨_,_,rfl,rfl⟩
end
section
variable [Vs.Envs]
attribute [local irreducible] Vs.Fn flt zR areCh chTo chAt stp stpTo
set_option maxRecDepth 100000 in
theorem cd3_chr:∀n:Nat,n<256→chOK (n:Int)=true→0≤rk (cd3 (n:Int))∧chI (cd3 (n:Int))=(n:Int):=by decide +kernel
attribute [local irreducible] chOK rk cd3 chI
theorem areCh_mem {s:ByteArray} (h:areCh s=true):∀b,b∈s.data.toList→chOK (b.toNat:Int)=true:=by
 unfold areCh at h
 exact List.all_eq_true.1 h
theorem hasCh_bcd {s:ByteArray} (h:areCh s=true):hasCh (bcd s)=true:=by
 unfold hasCh bcd
 rw[List.all_eq_true]
 intro x hx
 obtain⟨b,hb,rfl⟩:=List.mem_map.1 hx
 exact decide_eq_true (cd3_chr b.toNat (UInt8.toNat_lt _) (areCh_mem h b hb)).1
theorem txt_bcd {s:ByteArray} (h:areCh s=true):txt (bcd s)=s:=by
 have e:(bcd s).map chI=s.data.toList.map fun b=>(b.toNat:Int):=by
  unfold bcd
  rw[List.map_map]
  refine List.map_congr_left fun b hb=>?_
  exact(cd3_chr b.toNat (UInt8.toNat_lt _) (areCh_mem h b hb)).2
 unfold txt strB
 rw[e,List.map_map]
 have e2:(s.data.toList.map ((fun n:Int=>UInt8.ofNat n.toNat)∘fun b:UInt8=>(b.toNat:Int)))=s.data.toList:=by
  rw[show((fun n:Int=>UInt8.ofNat n.toNat)∘fun b:UInt8=>(b.toNat:Int))=id from funext fun b=>by simp]
  simp
 rw[e2]
theorem pun_bcd {s:ByteArray}{w:Nat} (h:s.size=w):pun s w=bcd s:=by
 unfold pun
 rw[h,Nat.sub_self]
 simp
theorem key_off {fr to:Int}{c:List Int}{s:ByteArray} (hc:okF fr to c) (hh:hasCh (fH fr to c)=true) (hs:s.size=to.toNat-fr.toNat) (ha:areCh s=true) :
  ((txt (fH fr to c)).toList==s.toList) = !offT fr to s c:=by
 have h1:=txt_beq (a:=fH fr to c) (b:=bcd s) (by rw[fH_len hc,bcd_len,hs]) hh (hasCh_bcd ha)
 rw[txt_bcd ha] at h1
 rw[h1]
 unfold offT cmT
 rw[pun_bcd hs]
 generalize cmpR (fH fr to c) (bcd s)=v
 by_cases h0:v=0
 ·subst h0;rfl
 ·have e:(v==0)=false:=beq_eq_false_iff_ne.2 h0
  rw[e]
  rcases Int.lt_or_gt_of_ne h0 with h|h<;>simp[h]
theorem selC_eq {fr to:Int}{s:ByteArray}{l:List (List Int)}:selC fr to s l=if keyC fr to l=0∨keyC fr to l=8 then(if l09 s fr to=0 then keyC fr to l else l09 s fr to) else keyC fr to l:=by
 unfold selC colT keyC l09
 cases h1:deckB l<;>cases h2:fldB fr to (widB l)<;>cases h5:allCh fr to l<;>by_cases h3:(s.size:Int)=W (to-fr)<;>cases h4:areCh s<;>simp[h1,h2,h3,h4,h5]
end
section
variable [Vs.Envs]
attribute [local irreducible] Vs.Fn pun cmT flt zR offT chOK areCh chTo chAt l03 chB rk cd3 chI stp stpTo
def askV (fr to:Int) (s:ByteArray) (l:List (List Int)):AV:=if selC fr to s l=0 then .sl 1 (E cSt (keyL fr to l)) else .v (.slice none 0 0)
theorem l09_in (s:ByteArray) (a b:Int):l09 s a b=2∨l09 s a b=0∨l09 s a b=7:=by
 unfold l09
 split
 ·exact .inl rfl
 ·split
  ·exact .inr (.inl rfl)
  ·exact .inr (.inr rfl)
theorem keyC_in (fr to:Int) (l:List (List Int)):keyC fr to l=0∨keyC fr to l=8∨keyC fr to l=1∨keyC fr to l=2:=by
 unfold keyC
 split
 ·split
  ·split<;>simp
  ·simp
 ·simp
attribute [local go_sem] Int.reduceBEq Int.reduceBNe List.replicate_succ List.replicate_zero List.flatten_cons List.flatten_nil List.cons_append List.nil_append List.set_cons_zero List.set_cons_succ List.length_cons List.length_nil List.length_set in
theorem l09Ask (l:List (List Int)) (fr to:Int) (s:ByteArray) (hk:smallC l) (hz:s.size≤1048576):Fz F.s_l09Ask [.sl 1 (E cC l),.agg (cFd fr to),.sl 1 [[.v (.string s)]]] (.tup [askV fr to s l,.v (.int .i64 (selC fr to s l))]):=by
 have KS:=l07Keys l fr to hk.2 hk.1
 have TX:=l09Text s fr to hz
 have hsc:=selC_eq (fr:=fr) (to:=to) (s:=s) (l:=l)
 unfold askV
 rcases keyC_in fr to l with hc|hc|hc|hc
 ·rcases l09_in s fr to with hb|hb|hb
  ·rw[show keyV fr to l=.sl 1 (E cSt (keyL fr to l)) by simp[keyV,hc],hc] at KS
   have hs0:selC fr to s l=2:=by rw[hsc];simp[hc,hb]
   rw[hb] at TX
   rw[hs0]
   simp only[if_true,if_false,Int.reduceEq]
   refine fn0 Cd.s_l09Ask_k fun X=>?_
   repeat' first|simp -dsimp only[go_sem,cC,cFd]|apply Br.mk<;>intro h<;>try simp -dsimp only[h]|refine CallK.c (by first|exact KS|exact TX) ?_|refine aC ?_|fail
   refine LoopK.at dM (X:={zz:Nat×(Unit) // zz.1≤1∧True}) (fun zz=>[(10,.v (.int .i64 (if zz.1.1=0 then 0 else 2))),(11,.v (.int .i64 zz.1.1))]) (fun zz=>[]) (fun zz=>1-zz.1.1) ⟨(0,()),by omega,trivial⟩ ?_ ?_
   ·exact le0
   ·rintro⟨⟨i,_⟩,hi,hg⟩
    dsimp only at hi hg
    simp -dsimp only[go_sem,cC,cFd]
    refine Br.mk (fun hc=>?_) fun hc=>?_
    ·have hlt:i<1:=Dq
     have hw:=wrap_succ hlt (by omega)
     obtain rfl:i=0:=by omega
     repeat' first|simp -dsimp only[go_sem,cC,cFd,hw]|apply Br.mk<;>intro h<;>try simp -dsimp only[h]|refine CallK.c (by first|exact TX) ?_|refine aC ?_|fail
     all_goals first|exact fun _=>⟨⟨_,_,rfl,rfl⟩,fun h=>h rfl⟩|omega|exact⟨_,_,rfl,rfl⟩|exact⟨⟨_,_,rfl,rfl⟩,fun h=>h rfl⟩|exact⟨fun _=>⟨_,_,rfl,rfl⟩,fun h=>absurd rfl h⟩|(exact nx (1,()) trivial)
    ·have hge:i=1:=by
      have:¬i<1:=Dq
      omega
     subst hge
     simp -dsimp only[go_sem,cC,cFd]
     first|exact⟨⟨_,_,rfl,rfl⟩,fun h=>h rfl⟩|omega|exact⟨_,_,rfl,rfl⟩|exact⟨⟨_,_,rfl,rfl⟩,fun h=>h rfl⟩|exact⟨fun _=>⟨_,_,rfl,rfl⟩,fun h=>absurd rfl h⟩
  ·rw[show keyV fr to l=.sl 1 (E cSt (keyL fr to l)) by simp[keyV,hc],hc] at KS
   have hs0:selC fr to s l=0:=by rw[hsc];simp[hc,hb]
   rw[hb] at TX
   rw[hs0]
   simp only[if_true,if_false,Int.reduceEq]
   refine fn0 Cd.s_l09Ask_k fun X=>?_
   repeat' first|simp -dsimp only[go_sem,cC,cFd]|apply Br.mk<;>intro h<;>try simp -dsimp only[h]|refine CallK.c (by first|exact KS|exact TX) ?_|refine aC ?_|fail
   refine LoopK.at dM (X:={zz:Nat×(Unit) // zz.1≤1∧True}) (fun zz=>[(10,.v (.int .i64 (if zz.1.1=0 then 0 else 0))),(11,.v (.int .i64 zz.1.1))]) (fun zz=>[]) (fun zz=>1-zz.1.1) ⟨(0,()),by omega,trivial⟩ ?_ ?_
   ·exact le0
   ·rintro⟨⟨i,_⟩,hi,hg⟩
    dsimp only at hi hg
    simp -dsimp only[go_sem,cC,cFd]
    refine Br.mk (fun hc=>?_) fun hc=>?_
    ·have hlt:i<1:=Dq
     have hw:=wrap_succ hlt (by omega)
     obtain rfl:i=0:=by omega
     repeat' first|simp -dsimp only[go_sem,cC,cFd,hw]|apply Br.mk<;>intro h<;>try simp -dsimp only[h]|refine CallK.c (by first|exact TX) ?_|refine aC ?_|fail
     all_goals first|exact fun _=>⟨⟨_,_,rfl,rfl⟩,fun h=>h rfl⟩|omega|exact⟨_,_,rfl,rfl⟩|exact⟨⟨_,_,rfl,rfl⟩,fun h=>h rfl⟩|exact⟨fun _=>⟨_,_,rfl,rfl⟩,fun h=>absurd rfl h⟩|(exact nx (1,()) trivial)
    ·have hge:i=1:=by
      have:¬i<1:=Dq
      omega
     subst hge
     simp -dsimp only[go_sem,cC,cFd]
     first|exact⟨⟨_,_,rfl,rfl⟩,fun h=>h rfl⟩|omega|exact⟨_,_,rfl,rfl⟩|exact⟨⟨_,_,rfl,rfl⟩,fun h=>h rfl⟩|exact⟨fun _=>⟨_,_,rfl,rfl⟩,fun h=>absurd rfl h⟩
  ·rw[show keyV fr to l=.sl 1 (E cSt (keyL fr to l)) by simp[keyV,hc],hc] at KS
   have hs0:selC fr to s l=7:=by rw[hsc];simp[hc,hb]
   rw[hb] at TX
   rw[hs0]
   simp only[if_true,if_false,Int.reduceEq]
   refine fn0 Cd.s_l09Ask_k fun X=>?_
   repeat' first|simp -dsimp only[go_sem,cC,cFd]|apply Br.mk<;>intro h<;>try simp -dsimp only[h]|refine CallK.c (by first|exact KS|exact TX) ?_|refine aC ?_|fail
   refine LoopK.at dM (X:={zz:Nat×(Unit) // zz.1≤1∧True}) (fun zz=>[(10,.v (.int .i64 (if zz.1.1=0 then 0 else 7))),(11,.v (.int .i64 zz.1.1))]) (fun zz=>[]) (fun zz=>1-zz.1.1) ⟨(0,()),by omega,trivial⟩ ?_ ?_
   ·exact le0
   ·rintro⟨⟨i,_⟩,hi,hg⟩
    dsimp only at hi hg
    simp -dsimp only[go_sem,cC,cFd]
    refine Br.mk (fun hc=>?_) fun hc=>?_
    ·have hlt:i<1:=Dq
     have hw:=wrap_succ hlt (by omega)
     obtain rfl:i=0:=by omega
     repeat' first|simp -dsimp only[go_sem,cC,cFd,hw]|apply Br.mk<;>intro h<;>try simp -dsimp only[h]|refine CallK.c (by first|exact TX) ?_|refine aC ?_|fail
     all_goals first|exact fun _=>⟨⟨_,_,rfl,rfl⟩,fun h=>h rfl⟩|omega|exact⟨_,_,rfl,rfl⟩|exact⟨⟨_,_,rfl,rfl⟩,fun h=>h rfl⟩|exact⟨fun _=>⟨_,_,rfl,rfl⟩,fun h=>absurd rfl h⟩|(exact nx (1,()) trivial)
    ·have hge:i=1:=by
      have:¬i<1:=Dq
      omega
     subst hge
     simp -dsimp only[go_sem,cC,cFd]
     first|exact⟨⟨_,_,rfl,rfl⟩,fun h=>h rfl⟩|omega|exact⟨_,_,rfl,rfl⟩|exact⟨⟨_,_,rfl,rfl⟩,fun h=>h rfl⟩|exact⟨fun _=>⟨_,_,rfl,rfl⟩,fun h=>absurd rfl h⟩
 ·rcases l09_in s fr to with hb|hb|hb
  ·rw[show keyV fr to l=.v (.slice none 0 0) by simp[keyV,hc],hc] at KS
   have hs0:selC fr to s l=2:=by rw[hsc];simp[hc,hb]
   rw[hb] at TX
   rw[hs0]
   simp only[if_true,if_false,Int.reduceEq]
   refine fn0 Cd.s_l09Ask_k fun X=>?_
   repeat' first|simp -dsimp only[go_sem,cC,cFd]|apply Br.mk<;>intro h<;>try simp -dsimp only[h]|refine CallK.c (by first|exact KS|exact TX) ?_|refine aC ?_|fail
   refine LoopK.at dM (X:={zz:Nat×(Unit) // zz.1≤1∧True}) (fun zz=>[(10,.v (.int .i64 (if zz.1.1=0 then 0 else 2))),(11,.v (.int .i64 zz.1.1))]) (fun zz=>[]) (fun zz=>1-zz.1.1) ⟨(0,()),by omega,trivial⟩ ?_ ?_
   ·exact le0
   ·rintro⟨⟨i,_⟩,hi,hg⟩
    dsimp only at hi hg
    simp -dsimp only[go_sem,cC,cFd]
    refine Br.mk (fun hc=>?_) fun hc=>?_
    ·have hlt:i<1:=Dq
     have hw:=wrap_succ hlt (by omega)
     obtain rfl:i=0:=by omega
     repeat' first|simp -dsimp only[go_sem,cC,cFd,hw]|apply Br.mk<;>intro h<;>try simp -dsimp only[h]|refine CallK.c (by first|exact TX) ?_|refine aC ?_|fail
     all_goals first|exact fun _=>⟨⟨_,_,rfl,rfl⟩,fun h=>h rfl⟩|omega|exact⟨_,_,rfl,rfl⟩|exact⟨⟨_,_,rfl,rfl⟩,fun h=>h rfl⟩|exact⟨fun _=>⟨_,_,rfl,rfl⟩,fun h=>absurd rfl h⟩|(exact nx (1,()) trivial)
    ·have hge:i=1:=by
      have:¬i<1:=Dq
      omega
     subst hge
     simp -dsimp only[go_sem,cC,cFd]
     first|exact⟨⟨_,_,rfl,rfl⟩,fun h=>h rfl⟩|omega|exact⟨_,_,rfl,rfl⟩|exact⟨⟨_,_,rfl,rfl⟩,fun h=>h rfl⟩|exact⟨fun _=>⟨_,_,rfl,rfl⟩,fun h=>absurd rfl h⟩
  ·rw[show keyV fr to l=.v (.slice none 0 0) by simp[keyV,hc],hc] at KS
   have hs0:selC fr to s l=8:=by rw[hsc];simp[hc,hb]
   rw[hb] at TX
   rw[hs0]
   simp only[if_true,if_false,Int.reduceEq]
   refine fn0 Cd.s_l09Ask_k fun X=>?_
   repeat' first|simp -dsimp only[go_sem,cC,cFd]|apply Br.mk<;>intro h<;>try simp -dsimp only[h]|refine CallK.c (by first|exact KS|exact TX) ?_|refine aC ?_|fail
   refine LoopK.at dM (X:={zz:Nat×(Unit) // zz.1≤1∧True}) (fun zz=>[(10,.v (.int .i64 (if zz.1.1=0 then 0 else 0))),(11,.v (.int .i64 zz.1.1))]) (fun zz=>[]) (fun zz=>1-zz.1.1) ⟨(0,()),by omega,trivial⟩ ?_ ?_
   ·exact le0
   ·rintro⟨⟨i,_⟩,hi,hg⟩
    dsimp only at hi hg
    simp -dsimp only[go_sem,cC,cFd]
    refine Br.mk (fun hc=>?_) fun hc=>?_
    ·have hlt:i<1:=Dq
     have hw:=wrap_succ hlt (by omega)
     obtain rfl:i=0:=by omega
     repeat' first|simp -dsimp only[go_sem,cC,cFd,hw]|apply Br.mk<;>intro h<;>try simp -dsimp only[h]|refine CallK.c (by first|exact TX) ?_|refine aC ?_|fail
     all_goals first|exact fun _=>⟨⟨_,_,rfl,rfl⟩,fun h=>h rfl⟩|omega|exact⟨_,_,rfl,rfl⟩|exact⟨⟨_,_,rfl,rfl⟩,fun h=>h rfl⟩|exact⟨fun _=>⟨_,_,rfl,rfl⟩,fun h=>absurd rfl h⟩|(exact nx (1,()) trivial)
    ·have hge:i=1:=by
      have:¬i<1:=Dq
      omega
     subst hge
     simp -dsimp only[go_sem,cC,cFd]
     first|exact⟨⟨_,_,rfl,rfl⟩,fun h=>h rfl⟩|omega|exact⟨_,_,rfl,rfl⟩|exact⟨⟨_,_,rfl,rfl⟩,fun h=>h rfl⟩|exact⟨fun _=>⟨_,_,rfl,rfl⟩,fun h=>absurd rfl h⟩
  ·rw[show keyV fr to l=.v (.slice none 0 0) by simp[keyV,hc],hc] at KS
   have hs0:selC fr to s l=7:=by rw[hsc];simp[hc,hb]
   rw[hb] at TX
   rw[hs0]
   simp only[if_true,if_false,Int.reduceEq]
   refine fn0 Cd.s_l09Ask_k fun X=>?_
   repeat' first|simp -dsimp only[go_sem,cC,cFd]|apply Br.mk<;>intro h<;>try simp -dsimp only[h]|refine CallK.c (by first|exact KS|exact TX) ?_|refine aC ?_|fail
   refine LoopK.at dM (X:={zz:Nat×(Unit) // zz.1≤1∧True}) (fun zz=>[(10,.v (.int .i64 (if zz.1.1=0 then 0 else 7))),(11,.v (.int .i64 zz.1.1))]) (fun zz=>[]) (fun zz=>1-zz.1.1) ⟨(0,()),by omega,trivial⟩ ?_ ?_
   ·exact le0
   ·rintro⟨⟨i,_⟩,hi,hg⟩
    dsimp only at hi hg
    simp -dsimp only[go_sem,cC,cFd]
    refine Br.mk (fun hc=>?_) fun hc=>?_
    ·have hlt:i<1:=Dq
     have hw:=wrap_succ hlt (by omega)
     obtain rfl:i=0:=by omega
     repeat' first|simp -dsimp only[go_sem,cC,cFd,hw]|apply Br.mk<;>intro h<;>try simp -dsimp only[h]|refine CallK.c (by first|exact TX) ?_|refine aC ?_|fail
     all_goals first|exact fun _=>⟨⟨_,_,rfl,rfl⟩,fun h=>h rfl⟩|omega|exact⟨_,_,rfl,rfl⟩|exact⟨⟨_,_,rfl,rfl⟩,fun h=>h rfl⟩|exact⟨fun _=>⟨_,_,rfl,rfl⟩,fun h=>absurd rfl h⟩|(exact nx (1,()) trivial)
    ·have hge:i=1:=by
      have:¬i<1:=Dq
      omega
     subst hge
     simp -dsimp only[go_sem,cC,cFd]
     first|exact⟨⟨_,_,rfl,rfl⟩,fun h=>h rfl⟩|omega|exact⟨_,_,rfl,rfl⟩|exact⟨⟨_,_,rfl,rfl⟩,fun h=>h rfl⟩|exact⟨fun _=>⟨_,_,rfl,rfl⟩,fun h=>absurd rfl h⟩
 ·rw[show keyV fr to l=.v (.slice none 0 0) by simp[keyV,hc],hc] at KS
  have hs0:selC fr to s l=1:=by rw[hsc];simp[hc]
  rw[hs0]
  simp only[if_true,if_false,Int.reduceEq]
  refine fn0 Cd.s_l09Ask_k fun X=>?_
  repeat' first|simp -dsimp only[go_sem,cC,cFd]|apply Br.mk<;>intro h<;>try simp -dsimp only[h]|refine CallK.c (by first|exact KS|exact TX) ?_|refine aC ?_|fail
  all_goals first|omega|exact⟨_,_,rfl,rfl⟩|exact⟨⟨_,_,rfl,rfl⟩,fun h=>h rfl⟩|exact⟨fun _=>⟨_,_,rfl,rfl⟩,fun h=>absurd rfl h⟩
 ·rw[show keyV fr to l=.v (.slice none 0 0) by simp[keyV,hc],hc] at KS
  have hs0:selC fr to s l=2:=by rw[hsc];simp[hc]
  rw[hs0]
  simp only[if_true,if_false,Int.reduceEq]
  refine fn0 Cd.s_l09Ask_k fun X=>?_
  repeat' first|simp -dsimp only[go_sem,cC,cFd]|apply Br.mk<;>intro h<;>try simp -dsimp only[h]|refine CallK.c (by first|exact KS|exact TX) ?_|refine aC ?_|fail
  all_goals first|omega|exact⟨_,_,rfl,rfl⟩|exact⟨⟨_,_,rfl,rfl⟩,fun h=>h rfl⟩|exact⟨fun _=>⟨_,_,rfl,rfl⟩,fun h=>absurd rfl h⟩
end
end Go.Proofs.YthfnpdhpefialaaGreat
