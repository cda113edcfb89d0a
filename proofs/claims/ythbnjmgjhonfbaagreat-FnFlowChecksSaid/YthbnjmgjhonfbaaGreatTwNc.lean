/- CountDifferences, IsRightFlow, FirstDifference: the program and the reference. -/
import Derived.Test.YthbnjmgjhonfbaaGreatTwVy
import Derived.Test.YthbnjmgjhonfbaaGreatTwNa
set_option linter.all false
set_option maxHeartbeats 8000000
namespace Go.Proofs.YthbnjmgjhonfbaaGreat
open Go.Vs
section
variable [Vs.Envs]
attribute [local irreducible] Vs.Fn dP wO stC run rsB rsL evC evV lN aS agB atD kZ geo pK cZ aW dB dC l03 chB rk cd3 chI stp aZ
def dfB (fl:List Stp) (x:Spc) (l:List (List Int)) (n k:Nat):Bool:=!agB fl x ((kZ l n).getD k [])
def gX (p:Nat→Bool):Nat→List Int
 |0=>[]
 |i+1=>gX p i++(if p i then[(i:Int)] else[])
theorem aBV (p:Nat→Bool):∀i,(gX p i).length≤i
 |0=>Nat.le_refl _
 | i+1=>by
  have:=aBV p i;simp only[gX,List.length_append];cases p i
  ·simp;omega
  ·simp;omega
def dfL (fl:List Stp) (x:Spc) (l:List (List Int)) (n:Nat):List Int:=gX (dfB fl x l n) (geo l.length n)
def dfC (fl:List Stp) (x:Spc) (l:List (List Int)) (n:Int):Int:=if pO l n=0 then(if sF fl (aT l)&&lN x (aT l) then 0 else 2) else pO l n
theorem aBJ {l:List (List Int)}{n:Int} (h:pO l n=0):aS l=true∧0<l.length∧l.length≤5∧∃k:Nat,n=k∧k≤3:=by
 unfold pO at h;split at h
 ·rename_i h1;split at h
  ·rename_i h2;simp[aEq,inB] at h1 h2;exact⟨h1.1,by omega,by omega,n.toNat,by omega,by omega⟩
  ·cases h
 ·cases h
end
section
variable [Vs.Envs]
attribute [local irreducible] Vs.Fn dP wO stC run rsB rsL evC evV lN aS agB atD kZ geo pK dfB cZ aW dB dC l03 chB rk cd3 chI stp aZ
theorem aIs (l:List (List (List Int))):Fz F.fC [.sl 1 (E cD l)] (.v (.int .i64 l.length)):=by
 refine fn0 Cd.i_size__i_Card__k fun X=>?_
 repeat' first|simp -dsimp only[go_sem]|apply Br.mk<;>intro h<;>try simp -dsimp only[h]|refine aC ?_|fail
 all_goals(simp_all)
theorem aJA {l:List (List Int)} (hk:bA l) (hd:aS l=true) (h1:0<l.length) {n:Nat} (hn:n≤3) {k:Nat} (h:k<geo l.length n):∃i q,i≤3∧q<l.length ^ i∧k=pK l.length i+q∧(kZ l n).getD k []=atD l i q∧aS (atD l i q)=true∧bA (atD l i q):=by
 obtain⟨i,q,g1,g2,g3⟩:=aAV l.length n k h;obtain⟨d1,d2⟩:=aFn hd hk h1 i q (by omega);refine⟨i,q,by omega,g2,g3,?_,d1,d2⟩;rw[List.getD_eq_getElem?_getD,g3,aBN l h1 n i q g1 g2];rfl
theorem diff1 (fl:List Stp) (hz:∀x,x∈fl→x.text.size≤1048576) (hl:fl.length≤1048576) (x:Spc) (hx:x.text.size≤1048576) (l:List (List Int)) (hk:bA l) (hd:aS l=true) (h1:0<l.length) (h5:l.length≤5) (n:Nat) (hn:n≤3) (k:Nat) (h:k<geo l.length n):Fz F.gV [.v (.int .i64 k),.ro [.sl 9 (E cS fl)],.ro (cP x),.ro [.sl 1 (E cD (kZ l n))]] (.v (.bool (dfB fl x l n k))):=by
 obtain⟨i,q,g1,g2,g3,g4,d1,d2⟩:=aJA hk hd h1 hn h;have hlt:k<(kZ l n).length:=by rw[eU];exact h
 have hm:(E cD (kZ l n)).getD k []=[.sl 1 (E cC (atD l i q))]:=by
  rw[aGb hlt,←g4];simp[List.getD,hlt]
 have hlD:(kZ l n).length=geo l.length n:=eU l n;have AG:=agrees fl hz hl x hx (atD l i q) d2 d1;have hb:dfB fl x l n k = !agB fl x (atD l i q):=by unfold dfB;rw[g4]
 rw[hb];refine fn0 Cd.i_differences_1_k fun X=>?_
 repeat' first|simp -dsimp only[go_sem,hm,hlD,aH,Int.reduceBEq,Int.reduceBNe,cC,cO,cS,cFd,List.replicate_succ,List.replicate_zero,List.flatten_cons,List.flatten_nil,List.cons_append,List.nil_append,List.set_cons_zero,List.set_cons_succ,List.length_cons,List.length_nil,List.length_set,List.mem_singleton,List.mem_cons,List.not_mem_nil,or_false,false_or,Vs.Name.t.injEq,List.getD_cons_zero,List.getD_cons_succ,Vs.Name.b.injEq,List.getElem?_cons_zero,List.getElem?_cons_succ,cP]|apply Br.mk<;>intro h<;>try simp -dsimp only[h]|refine aA.c (by first|exact AG) ?_|refine aC ?_|fail
 all_goals first|omega|exact⟨_,_,rfl,rfl⟩|(refine aO ?_;simp;done)
attribute [local go_sem] Int.reduceBEq Int.reduceBNe cC cO cS cFd aH List.replicate_succ List.replicate_zero List.flatten_cons List.flatten_nil List.cons_append List.nil_append List.set_cons_zero List.set_cons_succ List.length_cons List.length_nil List.length_set List.mem_singleton List.mem_cons List.not_mem_nil or_false false_or Vs.Name.t.injEq List.getD_cons_zero List.getD_cons_succ Vs.Name.b.injEq List.getElem?_cons_zero List.getElem?_cons_succ cP in
theorem colsN (p:Nat→Bool) (N:Nat) (hN:N≤4000) (g:FuncId) (c1 c2 c3:List AV) (hp:∀i:Nat,i<N→Vs.Fn Tryz.prog g [] [.v (.int .i64 i),.ro c1,.ro c2,.ro c3] (.v (.bool (p i))) []) :
  Fz F.kM [.v (.int .i64 N),.fn g [.ro c1,.ro c2,.ro c3]] (.sl 1 (E cI (gX p N))):=by
 refine fn0 Cd.i_columnsWhere_k fun X=>?_;simp -dsimp only[go_sem];refine⟨⟨by omega,by omega⟩,?_⟩;refine aN.at dM (X:={zz:Nat×(Unit) // zz.1≤N∧True}) (fun zz=>[(5,.loc (.t 5 0) 0 (gX p zz.1.1).length),(9,.v (.int .i64 zz.1.1))]) (fun zz=>[(.t 5 0,.arr 1 (E cI (gX p zz.1.1)) false)]) (fun zz=>N-zz.1.1) ⟨(0,()),by omega,trivial⟩ ?_ ?_
 ·simp[Vs.LeL,Vs.look,Vs.aB,Vs.aP,Vs.aK,Vs.hset,Vs.aL,gX,Vs.E]
 ·rintro⟨⟨i,_⟩,hi,hg⟩;dsimp only at hi hg;simp -dsimp only[go_sem];refine Br.mk (fun hc=>?_) fun hc=>?_
  ·have hlt:i<N:=Dq;have hw:IntKind.i64.wrap ((i:Int)+1)=((i+1:Nat):Int):=by rw[aR (by omega) (by omega)];omega
   have hsl:=aBV p i;have PI:=hp i hlt;have hap:E cI (gX p i)++[[.v (.int .i64 (i:Int))]]=E cI (gX p i++[(i:Int)]):=by rw[aY];rfl
   cases hb:p i
   ·rw[hb] at PI;have hs:gX p (i+1)=gX p i:=by simp[gX,hb]
    repeat' first|simp -dsimp only[go_sem,hw,hap]|apply Br.mk<;>intro h<;>try simp -dsimp only[h]|refine aA.c (by first|exact PI) ?_|refine aC ?_|fail
    all_goals first|omega|(exact nx (i+1,()) trivial (h2:=by simp[Vs.LeL,Vs.look,Vs.aB,Vs.aP,Vs.aK,Vs.hset,Vs.aL,hs]))
   ·rw[hb] at PI;have hs:gX p (i+1)=gX p i++[(i:Int)]:=by simp[gX,hb]
    repeat' first|simp -dsimp only[go_sem,hw,hap]|apply Br.mk<;>intro h<;>try simp -dsimp only[h]|refine aA.c (by first|exact PI) ?_|refine aC ?_|fail
    all_goals first|omega|(exact nx (i+1,()) trivial (h2:=by simp[Vs.LeL,Vs.look,Vs.aB,Vs.aP,Vs.aK,Vs.hset,Vs.aL,hs]))
  ·have hge:i=N:=by
    have:¬i<N:=Dq;omega
   subst hge;simp -dsimp only[go_sem];have k1:(E cI (gX p i)).take (gX p i).length=E cI (gX p i):=List.take_of_length_le (by rw[aH];exact Nat.le_refl _)
   try simp only[k1]
   first|exact⟨⟨_,_,rfl,rfl⟩,fun h=>h rfl⟩
def dfV (fl:List Stp) (x:Spc) (l:List (List Int)) (n:Int):AV:=if dfC fl x l n=0 then .sl 1 (E cI (dfL fl x l n.toNat)) else .v (.slice none 0 0)
attribute [local go_sem] Int.reduceBEq Int.reduceBNe cO cFd aH List.replicate_succ List.replicate_zero List.flatten_cons List.flatten_nil List.cons_append List.nil_append List.set_cons_zero List.set_cons_succ List.length_cons List.length_nil List.length_set List.mem_singleton List.mem_cons List.not_mem_nil or_false false_or Vs.Name.t.injEq List.getD_cons_zero List.getD_cons_succ Vs.Name.b.injEq List.getElem?_cons_zero List.getElem?_cons_succ in
theorem nZ (fl:List Stp) (hz:∀x,x∈fl→x.text.size≤1048576) (hl:fl.length≤1048576) (x:Spc) (hx:x.text.size≤1048576) (l:List (List Int)) (hk:bA l) (n:Int):Fz F.iK [.sl 9 (E cS fl),.agg (cP x),.sl 1 (E cC l),.v (.int .i64 n)] (.tup [dfV fl x l n,.v (.int .i64 (dfC fl x l n))]):=by
 have SC:=yU l n hk.2 hk.1;have WD:=iF l;have VF:=aCh fl (aT l) hz hl;have VS:=mY x (aT l) hx;unfold dfV;by_cases h0:pO l n=0
 ·obtain⟨hd,h1,h5,k,rfl,h3⟩:=aBJ h0;rw[aAL hd,Bool.true_and] at VF VS;rw[show(fl.all (fun x=>dP x (aT l))&&decide ((fl.length:Int)≤20))=sF fl (aT l) from rfl] at VF;have hC:dfC fl x l k=if sF fl (aT l)&&lN x (aT l) then 0 else 2:=by unfold dfC;rw[if_pos h0]
  rw[h0] at SC;cases hf:sF fl (aT l)
  ·rw[hf] at VF hC;rw[show dfC fl x l k=2 from by rw[hC];rfl];refine fn0 Cd.i_differences_k fun X=>?_
   repeat' first|simp -dsimp only[go_sem,cC,cS,cP]|apply Br.mk<;>intro h<;>try simp -dsimp only[h]|refine aA.c (by first|exact SC|exact WD|exact VF|exact VS) ?_|refine aC ?_|fail
   all_goals first|omega|exact⟨_,_,rfl,rfl⟩|(refine aO ?_;simp;done)
  rw[hf] at VF hC;cases hs:lN x (aT l)
  ·rw[hs] at VS hC;rw[show dfC fl x l k=2 from by rw[hC];rfl];refine fn0 Cd.i_differences_k fun X=>?_
   repeat' first|simp -dsimp only[go_sem,cC,cS,cP]|apply Br.mk<;>intro h<;>try simp -dsimp only[h]|refine aA.c (by first|exact SC|exact WD|exact VF|exact VS) ?_|refine aC ?_|fail
   all_goals first|omega|exact⟨_,_,rfl,rfl⟩|(refine aO ?_;simp;done)
  rw[hs] at VS hC;rw[show dfC fl x l k=0 from by rw[hC];rfl];have DO:=aEa l k hk.2 h5 h3;have SZ:=aIs (kZ l k);rw[eU] at SZ;have hg:geo l.length k≤4000:=by have:=aD5 l.length h5 k h3;omega
  have CW:=colsN (dfB fl x l k) (geo l.length k) hg F.gV [.sl 9 (E cS fl)] (cP x) [.sl 1 (E cD (kZ l k))] (fun i hi=>diff1 fl hz hl x hx l hk hd h1 h5 k h3 i hi);simp only[if_true,Int.toNat_natCast];rw[show dfL fl x l k=gX (dfB fl x l k) (geo l.length k) from rfl];refine fn0 Cd.i_differences_k fun X=>?_
  repeat' first|simp -dsimp only[go_sem,cC,cS,cP]|apply Br.mk<;>intro h<;>try simp -dsimp only[h]|refine aA.c (by first|exact SC|exact WD|exact VF|exact VS|exact DO|exact SZ|exact CW) ?_|refine aC ?_|fail
  all_goals first|omega|exact⟨_,_,rfl,rfl⟩|(refine aO ?_;simp;done)
 ·have e1:(pO l n != 0)=true:=by simp[h0]
  have hC:dfC fl x l n=pO l n:=by unfold dfC;rw[if_neg h0]
  rw[hC,if_neg h0];refine fn0 Cd.i_differences_k fun X=>?_;simp -dsimp only[go_sem,cC,cS,cP]
  repeat' first|simp -dsimp only[go_sem,e1,cC,cS,cP]|apply Br.mk<;>intro h<;>try simp -dsimp only[h]|refine aA.c (by first|exact SC) ?_|refine aC ?_|fail
  all_goals first|omega|exact⟨_,_,rfl,rfl⟩|(refine aO ?_;simp;done)
end
section
variable [Vs.Envs]
attribute [local irreducible] Vs.Fn dP wO stC run rsB rsL evC evV lN aS agB atD kZ geo pK dfB dfC dfL cZ aW dB dC l03 chB rk cd3 chI stp aZ
attribute [local go_sem] Int.reduceBEq Int.reduceBNe cO cFd aH List.replicate_succ List.replicate_zero List.flatten_cons List.flatten_nil List.cons_append List.nil_append List.set_cons_zero List.set_cons_succ List.length_cons List.length_nil List.length_set List.mem_singleton List.mem_cons List.not_mem_nil or_false false_or Vs.Name.t.injEq List.getD_cons_zero List.getD_cons_succ Vs.Name.b.injEq List.getElem?_cons_zero List.getElem?_cons_succ
theorem sizeN  : Fz F.iJ [.v (.slice none 0 0)] (.v (.int .i64 0)):=by
 refine fn0 Cd.i_size_int64__k fun X=>?_
 repeat' first|simp -dsimp only[go_sem]|apply Br.mk<;>intro h<;>try simp -dsimp only[h]|refine aC ?_|fail
 all_goals(simp_all)
theorem aF6 {fl:List Stp}{x:Spc}{l:List (List Int)}{n:Int} (h:dfC fl x l n=0):dfV fl x l n=.sl 1 (E cI (dfL fl x l n.toNat)):=by unfold dfV;rw[if_pos h]
theorem aF7 {fl:List Stp}{x:Spc}{l:List (List Int)}{n:Int} (h:dfC fl x l n≠0):dfV fl x l n=.v (.slice none 0 0):=by unfold dfV;rw[if_neg h]
theorem aJz {fl:List Stp}{x:Spc}{l:List (List Int)}{n:Int} (h:dfC fl x l n=0):pO l n=0:=by
 unfold dfC at h;split at h
 ·rename_i h0;exact h0
 ·exact h
def nCD (fl:List Stp) (x:Spc) (l:List (List Int)) (n:Int):Int:=if dfC fl x l n=0 then((dfL fl x l n.toNat).length:Int) else 0
def bIR (fl:List Stp) (x:Spc) (l:List (List Int)) (n:Int):Bool:=if dfC fl x l n=0 then((dfL fl x l n.toNat).length:Int)==0 else false
def cFD (fl:List Stp) (x:Spc) (l:List (List Int)) (n:Int):Int:=if dfC fl x l n=0 then(match dfL fl x l n.toNat with | []=>3|_::_=>0) else dfC fl x l n
def nFD (fl:List Stp) (x:Spc) (l:List (List Int)) (n:Int):Int:=if dfC fl x l n=0 then(match dfL fl x l n.toNat with | []=>0|y::_=>y) else 0
theorem vY (fl:List Stp) (hz:∀x,x∈fl→x.text.size≤1048576) (hl:fl.length≤1048576) (x:Spc) (hx:x.text.size≤1048576) (l:List (List Int)) (hk:bA l) (n:Int):Fz F.dX [.sl 9 (E cS fl),.agg (cP x),.sl 1 (E cC l),.v (.int .i64 n)] (.tup [.v (.int .i64 (nCD fl x l n)),.v (.int .i64 (dfC fl x l n))]):=by
 unfold nCD;have DF:=nZ fl hz hl x hx l hk n;have SN:=sizeN;by_cases h0:dfC fl x l n=0
 ·obtain⟨hd,h1,h5,k,rfl,h3⟩:=aBJ (aJz h0);rw[aF6 h0,h0] at DF;have SZ:=aLq (dfL fl x l ((k:Nat):Int).toNat);simp only[h0,if_true,Int.toNat_natCast] at *
  refine fn0 Cd.i_CountDifferences_k fun X=>?_
  repeat' first|simp -dsimp only[go_sem,cC,cS,cP]|apply Br.mk<;>intro h<;>try simp -dsimp only[h]|refine aA.c (by first|exact DF|exact SZ|exact SN) ?_|refine aC ?_|fail
  all_goals first|omega|exact⟨_,_,rfl,rfl⟩|(refine aO ?_;simp;done)|(simp at h;done)|(simp at h;omega)
 ·have e1:(dfC fl x l n != 0)=true:=by simp[h0]
  have e2:(dfC fl x l n==0)=false:=beq_eq_false_iff_ne.2 h0;rw[aF7 h0] at DF;simp only[h0,if_false];refine fn0 Cd.i_CountDifferences_k fun X=>?_
  repeat' first|simp -dsimp only[go_sem,e1,e2,cC,cS,cP]|apply Br.mk<;>intro h<;>try simp -dsimp only[h]|refine aA.c (by first|exact DF|exact SN) ?_|refine aC ?_|fail
  all_goals first|omega|exact⟨_,_,rfl,rfl⟩|(refine aO ?_;simp;done)|(simp at h;done)|(simp at h;omega)
theorem uD (fl:List Stp) (hz:∀x,x∈fl→x.text.size≤1048576) (hl:fl.length≤1048576) (x:Spc) (hx:x.text.size≤1048576) (l:List (List Int)) (hk:bA l) (n:Int):Fz F.fU [.sl 9 (E cS fl),.agg (cP x),.sl 1 (E cC l),.v (.int .i64 n)] (.tup [.v (.bool (bIR fl x l n)),.v (.int .i64 (dfC fl x l n))]):=by
 unfold bIR;have DF:=nZ fl hz hl x hx l hk n;by_cases h0:dfC fl x l n=0
 ·obtain⟨hd,h1,h5,k,rfl,h3⟩:=aBJ (aJz h0);rw[aF6 h0,h0] at DF;simp only[h0,if_true,Int.toNat_natCast] at *
  refine fn0 Cd.i_IsRightFlow_k fun X=>?_
  repeat' first|simp -dsimp only[go_sem,cC,cS,cP]|apply Br.mk<;>intro h<;>try simp -dsimp only[h]|refine aA.c (by first|exact DF) ?_|refine aC ?_|fail
  all_goals first|omega|exact⟨_,_,rfl,rfl⟩|(refine aO ?_;simp;done)|(simp at h;done)|(simp at h;omega)
 ·have e1:(dfC fl x l n != 0)=true:=by simp[h0]
  have e2:(dfC fl x l n==0)=false:=beq_eq_false_iff_ne.2 h0;rw[aF7 h0] at DF;simp only[h0,if_false];refine fn0 Cd.i_IsRightFlow_k fun X=>?_
  repeat' first|simp -dsimp only[go_sem,e1,e2,cC,cS,cP]|apply Br.mk<;>intro h<;>try simp -dsimp only[h]|refine aA.c (by first|exact DF) ?_|refine aC ?_|fail
  all_goals first|omega|exact⟨_,_,rfl,rfl⟩|(refine aO ?_;simp;done)|(simp at h;done)|(simp at h;omega)
theorem w9 (fl:List Stp) (hz:∀x,x∈fl→x.text.size≤1048576) (hl:fl.length≤1048576) (x:Spc) (hx:x.text.size≤1048576) (l:List (List Int)) (hk:bA l) (n:Int):Fz F.fA [.sl 9 (E cS fl),.agg (cP x),.sl 1 (E cC l),.v (.int .i64 n)] (.tup [.v (.int .i64 (nFD fl x l n)),.v (.int .i64 (cFD fl x l n))]):=by
 unfold nFD cFD;have DF:=nZ fl hz hl x hx l hk n;by_cases h0:dfC fl x l n=0
 ·obtain⟨hd,h1,h5,k,rfl,h3⟩:=aBJ (aJz h0);rw[aF6 h0,h0] at DF;simp only[h0,if_true,Int.toNat_natCast] at *
  cases hq:dfL fl x l k with
  | nil =>
   rw[hq] at DF;refine fn0 Cd.i_FirstDifference_k fun X=>?_
   repeat' first|simp -dsimp only[go_sem,cC,cS,cP]|apply Br.mk<;>intro h<;>try simp -dsimp only[h]|refine aA.c (by first|exact DF) ?_|refine aC ?_|fail
   all_goals first|omega|exact⟨_,_,rfl,rfl⟩|(refine aO ?_;simp;done)|(simp at h;done)|(simp at h;omega)
  | cons y r =>
   rw[hq] at DF;have hl0:(((y::r).length:Int)==0)=false:=beq_eq_false_iff_ne.2 (by simp only[List.length_cons];omega);have e1:(E cI (y::r)).getD 0 []=[.v (.int .i64 y)]:=rfl;have e2:0<(E cI (y::r)).length:=by simp[aH]
   refine fn0 Cd.i_FirstDifference_k fun X=>?_
   repeat' first|simp -dsimp only[go_sem,e1,hl0,cC,cS,cP]|apply Br.mk<;>intro h<;>try simp -dsimp only[h]|refine aA.c (by first|exact DF) ?_|refine aC ?_|fail
   all_goals first|omega|exact⟨_,_,rfl,rfl⟩|(refine aO ?_;simp;done)|(simp at h;done)|(simp at h;omega)
 ·have e1:(dfC fl x l n != 0)=true:=by simp[h0]
  have e2:(dfC fl x l n==0)=false:=beq_eq_false_iff_ne.2 h0;rw[aF7 h0] at DF;simp only[h0,if_false];refine fn0 Cd.i_FirstDifference_k fun X=>?_
  repeat' first|simp -dsimp only[go_sem,e1,e2,cC,cS,cP]|apply Br.mk<;>intro h<;>try simp -dsimp only[h]|refine aA.c (by first|exact DF) ?_|refine aC ?_|fail
  all_goals first|omega|exact⟨_,_,rfl,rfl⟩|(refine aO ?_;simp;done)|(simp at h;done)|(simp at h;omega)
end
end Go.Proofs.YthbnjmgjhonfbaaGreat
