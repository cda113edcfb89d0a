/- A flow and a specification that agree: the program and the reference. -/
import Derived.Test.YthbnjmgjhonfbaaGreatTwVx
import Derived.Test.YthbnjmgjhonfbaaGreatTwD
import Derived.Test.YthbnjmgjhonfbaaGreatTuM
import Derived.Test.YthbnjmgjhonfbaaGreatTwC
set_option linter.all false
set_option maxHeartbeats 8000000
namespace Go.Proofs.YthbnjmgjhonfbaaGreat
open Go.Vs
variable [Vs.Envs]
attribute [local irreducible] Vs.Fn dP wO stC run rsB rsL evC evV lN aS cZ aW dB dC l03 chB rk cd3 chI stp aZ
attribute [local go_sem] Int.reduceBEq Int.reduceBNe cO cFd aH List.replicate_succ List.replicate_zero List.flatten_cons List.flatten_nil List.cons_append List.nil_append List.set_cons_zero List.set_cons_succ List.length_cons List.length_nil List.length_set List.mem_singleton List.mem_cons List.not_mem_nil or_false false_or Vs.Name.t.injEq List.getD_cons_zero List.getD_cons_succ Vs.Name.b.injEq List.getElem?_cons_zero List.getElem?_cons_succ Bool.not_false Bool.not_true
def evL (x:Spc) (l:List (List Int)):List Tot:=kU x.g0 x.g1 x.s0 x.s1 (bQ x.g0 x.g1 (cfL x l))
theorem aJo {x:Spc}{l:List (List Int)} (h:evC x l=0):evV x l=.sl 2 (E cT (evL x l)):=by
 unfold evC at h;unfold evV;split at h
 ·rename_i h0;rw[if_pos h0];split at h
  ·rename_i h1;rw[if_pos h1];split at h
   ·rename_i h2;exact aBu h2
   ·cases h
  ·cases h
 ·rename_i h0;exact absurd h h0
theorem aJp {x:Spc}{l:List (List Int)} (h:evC x l≠0):evV x l=.v (.slice none 0 0):=by
 unfold evC at h;unfold evV;split at h
 ·rename_i h0;rw[if_pos h0];split at h
  ·rename_i h1;rw[if_pos h1];split at h
   ·exact absurd rfl h
   ·rename_i h2;exact aBv (by simpa using h2)
  ·rename_i h1;rw[if_neg h1]
 ·rename_i h0;rw[if_neg h0]
theorem aGV (x:Spc) {l:List (List Int)} (hd:aS l=true):(evL x l).length≤1048576:=by
 have h1:=iE hd;have h2:=aBL x l;have h3:=aCj x.g0 x.g1 (bQ x.g0 x.g1 (cfL x l));have h4:=wG x.g0 x.g1 (cfL x l);unfold evL kU;rw[List.length_map];omega
def agB (fl:List Stp) (x:Spc) (l:List (List Int)):Bool:=(rsB fl l==(evC x l==0))&&(if rsB fl l then lX qT (evL x l) (rsL fl l) else true)
theorem aDL {fl:List Stp}{l:List (List Int)} (h:rsB fl l=true):rsV fl l=.sl 2 (E cT (rsL fl l)):=by unfold rsV;rw[if_pos h]
theorem aDM {fl:List Stp}{l:List (List Int)} (h:rsB fl l=false):rsV fl l=.v (.slice none 0 0):=by unfold rsV;rw[h];rfl
theorem aEr:Fz F.kX [.v (.slice none 0 0),.v (.slice none 0 0)] (.v (.bool true)):=by
 refine aAz (args':=[.sl 2 (E cT []),.sl 2 (E cT [])]) rfl (fun S w j v hj ρ κ hh hv=>?_) (vT [] [] (by simp))
 match j,hj with
 |0,_=>cases hv with|clo h=>exact .clo (vC h)
 |1,_=>cases hv with|clo h=>exact .clo (vC h)
attribute [local go_sem] Bool.true_beq Bool.false_beq bne_self_eq_false in
theorem agrees (fl:List Stp) (hz:∀x,x∈fl→x.text.size≤1048576) (hl:fl.length≤1048576) (x:Spc) (hx:x.text.size≤1048576) (l:List (List Int)) (hk:bA l) (hd:aS l=true):Fz F.xE [.sl 9 (E cS fl),.agg (cP x),.sl 1 (E cC l)] (.v (.bool (agB fl x l))):=by
 have EV:=aCQ x l hk hx;have RS:=aCN fl hz hl l hk hd;have ET:=vT (evL x l) (rsL fl l) (aGV x hd);have SN:=aEr;unfold agB;by_cases hc:evC x l=0
 ·rw[aJo hc,hc] at EV;rw[hc];cases hr:rsB fl l
  ·rw[aDM hr,hr] at RS;rw[show((false==((0:Int)==0))&&(if(false:Bool)=true then lX qT (evL x l) (rsL fl l) else true))=false from rfl];refine fn0 Cd.i_agrees_k fun X=>?_
   repeat' first|simp -dsimp only[go_sem,cC,cS,cP]|apply Br.mk<;>intro h<;>try simp -dsimp only[h]|refine aA.c (by first|exact EV|exact RS|exact ET|exact SN) ?_|refine aC ?_|fail
   all_goals first|omega|exact⟨_,_,rfl,rfl⟩|(refine aO ?_;simp;done)
  ·rw[aDL hr,hr] at RS;rw[show((true==((0:Int)==0))&&(if(true:Bool)=true then lX qT (evL x l) (rsL fl l) else true))=lX qT (evL x l) (rsL fl l) from rfl];refine fn0 Cd.i_agrees_k fun X=>?_
   repeat' first|simp -dsimp only[go_sem,cC,cS,cP]|apply Br.mk<;>intro h<;>try simp -dsimp only[h]|refine aA.c (by first|exact EV|exact RS|exact ET|exact SN) ?_|refine aC ?_|fail
   all_goals first|omega|exact⟨_,_,rfl,rfl⟩|(refine aO ?_;simp;done)
 ·have e0:(evC x l==0)=false:=beq_eq_false_iff_ne.2 hc;have e1:(evC x l != 0)=true:=by simp[hc]
  rw[aJp hc] at EV;rw[e0];generalize evC x l=c at *
  cases hr:rsB fl l
  ·rw[aDM hr,hr] at RS;rw[show((false==false)&&(if(false:Bool)=true then lX qT (evL x l) (rsL fl l) else true))=true from rfl];refine fn0 Cd.i_agrees_k fun X=>?_
   repeat' first|simp -dsimp only[go_sem,e0,e1,cC,cS,cP]|apply Br.mk<;>intro h<;>try simp -dsimp only[h]|refine aA.c (by first|exact EV|exact RS|exact ET|exact SN) ?_|refine aC ?_|fail
   all_goals first|omega|exact⟨_,_,rfl,rfl⟩|(refine aO ?_;simp;done)
  ·rw[aDL hr,hr] at RS;rw[show((true==false)&&(if(true:Bool)=true then lX qT (evL x l) (rsL fl l) else true))=false from rfl];refine fn0 Cd.i_agrees_k fun X=>?_
   repeat' first|simp -dsimp only[go_sem,e0,e1,cC,cS,cP]|apply Br.mk<;>intro h<;>try simp -dsimp only[h]|refine aA.c (by first|exact EV|exact RS|exact ET|exact SN) ?_|refine aC ?_|fail
   all_goals first|omega|exact⟨_,_,rfl,rfl⟩|(refine aO ?_;simp;done)
attribute [local go_sem] Bool.true_beq Bool.false_beq bne_self_eq_false in
theorem aHD (fl:List Stp) (hz:∀x,x∈fl→x.text.size≤1048576) (hl:fl.length≤1048576) (x:Spc) (hx:x.text.size≤1048576) (l:List (List Int)) (hk:bA l) (hd:aS l=true):Fz F.oN [.sl 9 (E cS fl),.ro (cP x),.sl 1 (E cC l)] (.v (.bool (agB fl x l))):=by
 have EV:=aKJ x l hk hx;have RS:=aHC fl hz hl l hk hd;have ET:=aHF (evL x l) (rsL fl l) (aGV x hd);have SN:=aEr;unfold agB;by_cases hc:evC x l=0
 ·rw[aJo hc,hc] at EV;rw[hc];cases hr:rsB fl l
  ·rw[aDM hr,hr] at RS;rw[show((false==((0:Int)==0))&&(if(false:Bool)=true then lX qT (evL x l) (rsL fl l) else true))=false from rfl];refine fn0 Cd.s_l17Agrees_k fun X=>?_
   repeat' first|simp -dsimp only[go_sem,cC,cS,cP]|apply Br.mk<;>intro h<;>try simp -dsimp only[h]|refine aA.c (by first|exact EV|exact RS|exact ET) ?_|refine aC ?_|fail
   all_goals first|omega|exact⟨_,_,rfl,rfl⟩|(refine aO ?_;simp;done)
  ·rw[aDL hr,hr] at RS;rw[show((true==((0:Int)==0))&&(if(true:Bool)=true then lX qT (evL x l) (rsL fl l) else true))=lX qT (evL x l) (rsL fl l) from rfl];refine fn0 Cd.s_l17Agrees_k fun X=>?_
   repeat' first|simp -dsimp only[go_sem,cC,cS,cP]|apply Br.mk<;>intro h<;>try simp -dsimp only[h]|refine aA.c (by first|exact EV|exact RS|exact ET) ?_|refine aC ?_|fail
   all_goals first|omega|exact⟨_,_,rfl,rfl⟩|(refine aO ?_;simp;done)
 ·have e0:(evC x l==0)=false:=beq_eq_false_iff_ne.2 hc;have e1:(evC x l != 0)=true:=by simp[hc]
  rw[aJp hc] at EV;rw[e0];generalize evC x l=c at *
  cases hr:rsB fl l
  ·rw[aDM hr,hr] at RS;rw[show((false==false)&&(if(false:Bool)=true then lX qT (evL x l) (rsL fl l) else true))=true from rfl];refine fn0 Cd.s_l17Agrees_k fun X=>?_
   repeat' first|simp -dsimp only[go_sem,e0,e1,cC,cS,cP]|apply Br.mk<;>intro h<;>try simp -dsimp only[h]|refine aA.c (by first|exact EV|exact RS|exact ET) ?_|refine aC ?_|fail
   all_goals first|omega|exact⟨_,_,rfl,rfl⟩|(refine aO ?_;simp;done)
  ·rw[aDL hr,hr] at RS;rw[show((true==false)&&(if(true:Bool)=true then lX qT (evL x l) (rsL fl l) else true))=false from rfl];refine fn0 Cd.s_l17Agrees_k fun X=>?_
   repeat' first|simp -dsimp only[go_sem,e0,e1,cC,cS,cP]|apply Br.mk<;>intro h<;>try simp -dsimp only[h]|refine aA.c (by first|exact EV|exact RS|exact ET) ?_|refine aC ?_|fail
   all_goals first|omega|exact⟨_,_,rfl,rfl⟩|(refine aO ?_;simp;done)
def sF (fl:List Stp) (w:Int):Bool:=fl.all (fun x=>dP x w)&&decide ((fl.length:Int)≤20)
def aoC (fl:List Stp) (x:Spc) (l:List (List Int)):Int:=if aS l then(if sF fl (aT l)&&lN x (aT l) then 0 else 2) else 1
def aoV (fl:List Stp) (x:Spc) (l:List (List Int)):Bool:=if aS l then(if sF fl (aT l)&&lN x (aT l) then agB fl x l else false) else false
theorem aCI (fl:List Stp) (hz:∀x,x∈fl→x.text.size≤1048576) (hl:fl.length≤1048576) (x:Spc) (hx:x.text.size≤1048576) (l:List (List Int)) (hk:bA l):Fz F.nW [.sl 9 (E cS fl),.agg (cP x),.sl 1 (E cC l)] (.tup [.v (.bool (aoV fl x l)),.v (.int .i64 (aoC fl x l))]):=by
 have VD:=dG l hk.2 hk.1;have WD:=dO l;unfold aoV aoC;cases hd:aS l
 ·rw[hd] at VD;simp only[Bool.false_eq_true,if_false];refine fn0 Cd.s_AgreesOn_k fun X=>?_
  repeat' first|simp -dsimp only[go_sem,cC,cS,cP]|apply Br.mk<;>intro h<;>try simp -dsimp only[h]|refine aA.c (by first|exact VD|exact WD) ?_|refine aC ?_|fail
  all_goals first|omega|exact⟨_,_,rfl,rfl⟩|(refine aO ?_;simp;done)
 rw[hd] at VD;have VF:=aGM fl (aT l) hz hl;have VS:=aIZ x (aT l) hx;have AG:=aHD fl hz hl x hx l hk hd;rw[show(fl.all (fun x=>dP x (aT l))&&decide ((fl.length:Int)≤20))=sF fl (aT l) from rfl] at VF;simp only[if_true];cases hf:sF fl (aT l)
 ·rw[hf] at VF;simp only[Bool.false_and,Bool.false_eq_true,if_false];refine fn0 Cd.s_AgreesOn_k fun X=>?_
  repeat' first|simp -dsimp only[go_sem,cC,cS,cP]|apply Br.mk<;>intro h<;>try simp -dsimp only[h]|refine aA.c (by first|exact VD|exact WD|exact VF|exact VS|exact AG) ?_|refine aC ?_|fail
  all_goals first|omega|exact⟨_,_,rfl,rfl⟩|(refine aO ?_;simp;done)
 rw[hf] at VF;cases hs:lN x (aT l)
 ·rw[hs] at VS;simp only[Bool.true_and,Bool.false_eq_true,if_false];refine fn0 Cd.s_AgreesOn_k fun X=>?_
  repeat' first|simp -dsimp only[go_sem,cC,cS,cP]|apply Br.mk<;>intro h<;>try simp -dsimp only[h]|refine aA.c (by first|exact VD|exact WD|exact VF|exact VS|exact AG) ?_|refine aC ?_|fail
  all_goals first|omega|exact⟨_,_,rfl,rfl⟩|(refine aO ?_;simp;done)
 rw[hs] at VS;simp only[Bool.true_and,if_true];refine fn0 Cd.s_AgreesOn_k fun X=>?_
 repeat' first|simp -dsimp only[go_sem,cC,cS,cP]|apply Br.mk<;>intro h<;>try simp -dsimp only[h]|refine aA.c (by first|exact VD|exact WD|exact VF|exact VS|exact AG) ?_|refine aC ?_|fail
 all_goals first|omega|exact⟨_,_,rfl,rfl⟩|(refine aO ?_;simp;done)
end Go.Proofs.YthbnjmgjhonfbaaGreat
