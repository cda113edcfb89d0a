/- The law FnFlowChecks. -/
import Derived.Test.YthbnjmgjhonfbaaGreatTwNw
import Derived.Test.YthbnjmgjhonfbaaGreatTwFz
import Derived.Test.YthbnjmgjhonfbaaGreatTwNc
import Derived.Test.YthbnjmgjhonfbaaGreatTwVy
set_option linter.all false
set_option maxHeartbeats 8000000
namespace Go.Proofs.YthbnjmgjhonfbaaGreat
open Go.Vs
section
variable [Vs.Envs]
attribute [local irreducible] Vs.Fn bG gF bQ iX kU bI aS dP wO
theorem wO5 {w:Nat}{o:Off} (h:okO w o) (hw:5≤w):(5:Int)≤wO o.trays:=by
 rcases aEk o.trays h.2.2.1 with h1|⟨h1,_⟩<;>rw[h1]<;>omega
theorem aJu {w:Nat}{o:Off}{x:Stp} (h:okO w o) (hw:5≤w) (hx:dP x 5=true):dsC x o=stC x o:=by
 unfold dsC;rw[if_pos (aId (wO5 h hw) hx)]
theorem aFy {x:Spc}{v w:Int} (h:v≤w) (hv:lN x v=true):lN x w=true:=by
 unfold lN at *
 simp only[Bool.and_eq_true] at hv⊢;refine⟨rX h hv.1,yY h hv.2.1,?_⟩;have h3:=hv.2.2;split at h3
 ·rename_i hn;rw[if_pos hn];exact h3
 ·rename_i hn;rw[if_neg hn];simp only[Bool.and_eq_true] at h3⊢;exact⟨rX h h3.1,h3.2⟩
theorem aKu (l:List Tot):lX qT l l=true:=aDq fun t _=>by simp[qT]
theorem aJU {fl:List Stp}{x:Spc}{l:List (List Int)}{o:Off} (he:evC x l=0) (hr:run (O0 l) fl=(o,fl.length)) (ht:o.totals=[evL x l]):agB fl x l=true:=by
 have h1:rsB fl l=true:=by unfold rsB;rw[hr,ht];simp
 have h2:rsL fl l=evL x l:=by unfold rsL;rw[hr,ht];rfl
 unfold agB;rw[h1,h2,he,if_pos rfl,aKu];rfl
theorem aJV {fl:List Stp}{x:Spc}{l:List (List Int)} (he:evC x l≠0) (hr:(run (O0 l) fl).2<fl.length):agB fl x l=true:=by
 have h1:rsB fl l=false:=by unfold rsB;rw[decide_eq_false (by omega)];rfl
 unfold agB;rw[h1,beq_eq_false_iff_ne.2 he];rfl
theorem aGu {w:Nat}{o:Off} (h:okO w o) (hw:5≤w) (x:Spc) (n:Int) (m:List (List Int)) (hm:tr o.trays n=m) (ht:o.totals=[]) (sx:dP (fwO x n) 5=true) (sl:dP (fwL x) 5=true) (hd:aS m=true) (hf:dJ x.g0 x.g1 (aT m)=true) :
  (bI x.g0 x.g1 m=true∧iX x.g0 x.g1 x.s0 x.s1 (bQ x.g0 x.g1 m)=true→∃o',run o [fwO x n,fwL x]=(o',2)∧o'.totals=[kU x.g0 x.g1 x.s0 x.s1 (bQ x.g0 x.g1 m)])∧(¬(bI x.g0 x.g1 m=true∧iX x.g0 x.g1 x.s0 x.s1 (bQ x.g0 x.g1 m)=true)→(run o [fwO x n,fwL x]).2<2):=by
 have h6:=h.2.1;have hk:bG x.g0 x.g1 m=if bI x.g0 x.g1 m then 0 else 8:=by unfold bG;rw[hd,hf];rfl
 have e1:dsC (fwO x n) o=bG x.g0 x.g1 m:=by
  rw[aJu h hw sx];show dkC (fwO x n) (tr o.trays n) (tr o.trays 0)=_
  rw[hm];rfl
 have eo:stO (fwO x n) o=⟨o.trays.set 2 (bQ x.g0 x.g1 m),[]⟩:=by
  show(⟨o.trays.set 2 (bQ x.g0 x.g1 (tr o.trays n)),o.totals⟩:Off)=_
  rw[hm,ht]
 by_cases ha:bI x.g0 x.g1 m=true
 ·rw[if_pos ha] at hk;have hok:=aDr h (by rw[e1,hk])
  have e2:dsC (fwL x) (stO (fwO x n) o)=if iX x.g0 x.g1 x.s0 x.s1 (bQ x.g0 x.g1 m) then 0 else 8:=by
   rw[aJu hok hw sl,eo];show(if iX x.g0 x.g1 x.s0 x.s1 (tr (o.trays.set 2 (bQ x.g0 x.g1 m)) 2) then(0:Int) else 8)=_
   rw[show tr (o.trays.set 2 (bQ x.g0 x.g1 m)) 2=bQ x.g0 x.g1 m by simp[tr,List.getD,h6]]
  have eR:stO (fwL x) (stO (fwO x n) o)=⟨o.trays.set 2 (bQ x.g0 x.g1 m),[kU x.g0 x.g1 x.s0 x.s1 (bQ x.g0 x.g1 m)]⟩:=by
   rw[eo];show(⟨o.trays.set 2 (bQ x.g0 x.g1 m),[]++[kU x.g0 x.g1 x.s0 x.s1 (tr (o.trays.set 2 (bQ x.g0 x.g1 m)) 2)]⟩:Off)=_
   rw[show tr (o.trays.set 2 (bQ x.g0 x.g1 m)) 2=bQ x.g0 x.g1 m by simp[tr,List.getD,h6]];rfl
  constructor
  ·intro hb;rw[if_pos hb.2] at e2;refine⟨stO (fwL x) (stO (fwO x n) o),?_,by rw[eR]⟩;simp only[run];rw[if_pos (by rw[e1,hk]),if_pos e2]
  ·intro hb;rw[if_neg (fun h=>hb ⟨ha,h⟩)] at e2;simp only[run];rw[if_pos (by rw[e1,hk]),if_neg (by rw[e2];decide)];exact Nat.lt_succ_self 1
 ·rw[if_neg ha] at hk;refine⟨fun hb=>absurd hb.1 ha,fun _=>?_⟩;simp only[run];rw[if_neg (by rw[e1,hk];decide)];exact Nat.zero_lt_succ 1
theorem aFF {x:Spc} (hx:gdS x) {l:List (List Int)} (hd:aS l=true) (hw:5≤aT l):agB (gK x) x l=true:=by
 obtain⟨h5,_,hf⟩:=aE8 hx;have ok:=aFt hd;have hwn:5≤(aT l).toNat:=by omega
 have hs:=aFy hw h5;have hfl:dJ x.g0 x.g1 (aT l)=true:=by unfold lN at hs;rw[Bool.and_eq_true] at hs;exact hs.1
 unfold sF at hf;rw[Bool.and_eq_true,List.all_eq_true] at hf;have hst:=hf.1;cases hn:dR x.text
 ·have hF:gK x=[fwS x,fwO x 1,fwL x]:=by unfold gK;rw[hn];rfl
  have hcf:cfC x l=gF x.w0 x.w1 x.text l:=by unfold cfC;rw[hd,aAL hd,hs,hn];rfl
  have hcl:cfL x l=flt (iI x.w0 x.w1 x.text) l:=by unfold cfL;rw[hn];rfl
  rw[hF] at hst⊢
  have e1:dsC (fwS x) (O0 l)=gF x.w0 x.w1 x.text l:=by
   rw[aJu ok hwn (hst _ (by simp))];rfl
  by_cases h0:gF x.w0 x.w1 x.text l=0
  ·have hok:=aDr ok (by rw[e1,h0]);have eo:stO (fwS x) (O0 l)=⟨(T0 l).set 1 (cfL x l),[]⟩:=by rw[hcl];rfl
   have hml:=aEe (x:=x) (l:=l);have h40:=iE hd;have hll:=aBL x l;obtain⟨hdc,hwc⟩:=yK hd hml (by omega);have hfc:=aAA hd hwc hfl;obtain⟨r1,r2⟩:=aGu hok hwn x 1 (cfL x l) (by rw[eo];rfl) (by rw[eo]) (hst _ (by simp)) (hst _ (by simp)) hdc hfc
   have eR:run (O0 l) [fwS x,fwO x 1,fwL x]=((run (stO (fwS x) (O0 l)) [fwO x 1,fwL x]).1,(run (stO (fwS x) (O0 l)) [fwO x 1,fwL x]).2+1):=by
    rw[run,if_pos (by rw[e1,h0])]
   by_cases hA:bI x.g0 x.g1 (cfL x l)=true∧iX x.g0 x.g1 x.s0 x.s1 (bQ x.g0 x.g1 (cfL x l))=true
   ·obtain⟨o',hr,ht⟩:=r1 hA;exact aJU (by unfold evC;rw[hcf,if_pos h0,if_pos hA.1,if_pos hA.2]) (by rw[eR,hr];rfl) ht
   ·refine aJV ?_ ?_
    ·unfold evC;rw[hcf,if_pos h0];by_cases ha:bI x.g0 x.g1 (cfL x l)=true
     ·rw[if_pos ha,if_neg (fun h=>hA ⟨ha,h⟩)];decide
     ·rw[if_neg ha];decide
    ·rw[eR];have:=r2 hA;simp only[List.length_cons,List.length_nil];omega
  ·refine aJV ?_ ?_
   ·unfold evC;rw[hcf,if_neg h0];exact h0
   ·rw[run,if_neg (by rw[e1];exact h0)];exact Nat.zero_lt_succ 2
 ·have hF:gK x=[fwO x 0,fwL x]:=by unfold gK;rw[hn];rfl
  have hcf:cfC x l=0:=by unfold cfC;rw[hd,aAL hd,hs,hn];rfl
  have hcl:cfL x l=l:=by unfold cfL;rw[hn];rfl
  rw[hF] at hst⊢;obtain⟨r1,r2⟩:=aGu ok hwn x 0 l rfl rfl (hst _ (by simp)) (hst _ (by simp)) hd hfl;by_cases hA:bI x.g0 x.g1 l=true∧iX x.g0 x.g1 x.s0 x.s1 (bQ x.g0 x.g1 l)=true
  ·obtain⟨o',hr,ht⟩:=r1 hA;exact aJU (by unfold evC;rw[hcl,if_pos hcf,if_pos hA.1,if_pos hA.2]) hr (by unfold evL;rw[hcl];exact ht)
  ·refine aJV ?_ (r2 hA);unfold evC;rw[hcl,if_pos hcf];by_cases ha:bI x.g0 x.g1 l=true
   ·rw[if_pos ha,if_neg (fun h=>hA ⟨ha,h⟩)];decide
   ·rw[if_neg ha];decide
theorem aEp (p:Nat→Bool) (k:Nat):∀m,k≤m→∃r,gX p m=gX p k++r
 | 0, h=>⟨[],by
     obtain rfl:k=0:=by omega
     simp⟩
 | m+1,h=>by
  by_cases e:k=m+1
  ·subst e;exact⟨[],by simp⟩
  ·obtain⟨r,hr⟩:=aEp p k m (by omega);exact⟨r++(if p m then[(m:Int)] else[]),by rw[gX,hr,List.append_assoc]⟩
theorem aHm {p:Nat→Bool}{k m:Nat} (h:k<m) (hp:p k=true) (h0:(gX p k).length=0):∃r,gX p m=(k:Int)::r:=by
 obtain⟨r,hr⟩:=aEp p (k+1) m h;refine⟨r,?_⟩;rw[hr,gX,List.eq_nil_of_length_eq_zero h0,hp];rfl
theorem aC1 {p:Nat→Bool}:∀m,(∀k,k<m→p k=false)→gX p m=[]
 |0,_=>rfl
 | m+1,h=>by
  rw[gX,aC1 m (fun k hk=>h k (by omega)),h m (by omega)];rfl
theorem aJy {x:Spc} (hx:gdS x) {cs:List (List Int)} (hok:okD 5 cs) (h0:0<cs.length) (hk:bA cs) {n:Nat} (hn:n≤3):dfL (gK x) x cs n=[]:=by
 unfold dfL;refine aC1 _ fun k hlt=>?_;obtain⟨i,q,h1,h2,h3,h4,h5,h6⟩:=aJA hk hok.1 h0 hn hlt;unfold dfB;rw[h4,aFF hx h5 (aH4 hok h0 i q)];rfl
end
section
variable [Vs.Envs]
attribute [local irreducible] Vs.Fn wO stC run rsB rsL aS atD kZ geo pK crd dP lN agB dfB dfC dfL bIR nFD cFD nCD evC evV gK
open Go.Vs.Q in
def CdV.FnFlowChecks:aD:=s [mf 2] [0]<|.seq (s [m 25 0,c 26 F.o5 [25,(.const (.slice none 0 0))]] [0,26]<|.cond 26 (s [mt 2] [2]<|.ret) .skip)<|s [m 28 0,c 29 F.bV [28],m 27 29,ex 30 27 0,ex 31 27 1,ex 32 27 2,ex 33 27 3,o 4 (.alloc [.v (.int .i64 (0)),.v (.int .i64 (0)),.v (.string ⟨#[]⟩),.v (.int .i64
 (0)),.v (.int .i64 (0)),.v (.int .i64 (0)),.v (.int .i64 (0))]),m 3 30,⟨none,.store 7 4 31,none⟩,m 5 32,m 6 33] [3,4,5,6]<|s [m 35 5,m 36 6,c 37 F.nC [35,36],m 34 37,ex 38 34 0,ex 39 34 1,m 7 38,m 8 39] [3,4,5,6,7,8]<|s [m 41 3,lt 42 7 4,m 43 5,m 44 6,c 45 F.fU
 [41,42,43,44],m 40 45,ex 46 40 0,ex 47 40 1,m 9 46,m 10 47] [3,4,5,6,7,8,9,10]<|s [m 49 3,lt 50 7 4,m 51 5,m 52 6,c 53 F.fA [49,50,51,52],m 48 53,ex 54 48 0,ex 55 48 1,m 11 54,m 12 55] [3,4,5,6,7,8,9,10,11,12]<|s [m 57 3,lt 58 7 4,m 59 5,m 60 6,c 61 F.dX
 [57,58,59,60],m 56 61,ex 62 56 0,ex 63 56 1,m 13 62,m 14 63] [3,4,5,6,7,8,9,10,11,12,13,14]<|.seq (s [m 64 8,ne 65 64 0,m 66 65,mg 67 10 66 false,⟨some 68,.bin .neq 67 (k 0),some (66,false)⟩,pt 69 66 68,m 70 69,mg 71 14 70 false,⟨some 72,.bin .neq 71 (k 0),some (70,false)⟩,pt 73 70 72,m 74 73,mg 75 9
 74 false,mg 76 12 74 false,⟨some 77,.bin .eql 76 (k 3),some (74,false)⟩,⟨some 78,.binB .neq 75 77,some (74,false)⟩,pt 79 74 78,m 80 79,mg 81 9 80 false,mg 82 13 80 false,⟨some 83,.bin .eql 82 (k 0),some (80,false)⟩,⟨some 84,.binB .neq 81 83,some (80,false)⟩,pt 85 80 84,m 86 85,mg 87 7 86 false,⟨some
 88,.bin .lss 87 (k 1),some (86,false)⟩,pt 89 86 88,m 90 89,mg 91 7 90 false,⟨some 92,.bin .gtr 91 (k 200),some (90,false)⟩,pt 93 90 92] [3,4,5,6,7,11,12,13,93]<|.cond 93 (s [mf 2] [2]<|.ret) .skip)<|s [mi 15 0] [3,4,5,6,7,11,12,13,15]<|.seq (s [mi 16 0] [3,4,5,6,7,11,12,13,15,16]<|.block 0 (.loop
 (.seq (s [m 94 16,m 95 7,ls 96 94 95] [3,4,5,6,7,11,12,13,15,16,96]<|.cond 96 .skip (.exit 0))<|.seq (.block 1 (s [m 100 5,m 101 6,m 102 16,c 103 F.xG [100,101,102],m 99 103,ex 104 99 0,ex 105 99 1,m 17 104,m 18 105] [3,4,5,6,7,11,12,13,15,16,17,18]<|.seq (s [m 106 18,ne 107 106 0,m 108
 107,mg 109 17 108 false,⟨some 110,.call (.func F.oU) [109] [],some (108,false)⟩,⟨some 111,.un .not 110,some (108,false)⟩,pt 112 108 111] [3,4,5,6,7,11,12,13,15,16,17,112]<|.cond 112 (s [mf 2] [2]<|.ret) .skip)<|s [m 114 3,lt 115 7 4,m 116 17,c 117 F.nW [114,115,116],m 113
 117,ex 118 113 0,ex 119 113 1,m 19 118,m 20 119] [3,4,5,6,7,11,12,13,15,16,19,20]<|.seq (s [m 120 20,ne 121 120 0] [3,4,5,6,7,11,12,13,15,16,19,121]<|.cond 121 (s [mf 2] [2]<|.ret) .skip)<|s [m 122 19,nt 123 122] [3,4,5,6,7,11,12,13,15,16,123]<|.cond 123 (s [m 124 15,ad 125 124 1,m 15 125]
 [3,4,5,6,7,11,12,13,15,16]<|s [m 126 15,en 127 126 1,m 128 127,mg 129 12 128 true,⟨some 130,.bin .neq 129 (k 0),some (128,true)⟩,mg 131 130 128 true,mg 132 11 131 false,mg 133 16 131 false,⟨some 134,.bin .neq 132 133,some (131,false)⟩,⟨some 135,.pick 131 (.const (.bool true)) 134,some (128,true)⟩,pf
 136 128 135] [3,4,5,6,7,11,12,13,15,16,136]<|.cond 136 (s [mf 2] [2]<|.ret) .skip) .skip))<|.region [m 97 16,ad 98 97 1,m 16 98] [3,4,5,6,7,11,12,13,15,16] [])))<|s [lt 138 7 4,c 139 F.uJ [138],m 137 139,ex 140 137 0,ex 141 137 1,m 21 140,m 22 141] [4,5,6,13,15,21,22]<|s [m 143 21,lt 144 7
 4,m 145 5,m 146 6,c 147 F.fU [143,144,145,146],m 142 147,ex 148 142 0,ex 149 142 1,m 23 148,m 24 149] [13,15,22,23,24]<|s [m 150 15,m 151 13,o 152 (.bin .eql 150 151),m 153 152,mg 154 22 153 true,⟨some 155,.bin .eql 154 (k 0),some (153,true)⟩,pf 156 153 155,m 157 156,mg 158 24 157
 true,⟨some 159,.bin .eql 158 (k 0),some (157,true)⟩,pf 160 157 159,m 161 160,mg 162 23 161 true,pf 163 161 162,m 2 163] [2]<|.ret
theorem CdV.FnFlowChecks_k:CK 3 Tryz.f3 CdV.FnFlowChecks 164 [.tmp 2]:=ck Tryz.func3
attribute [go_sem] CdV.FnFlowChecks
theorem aKU (l:List (List Int)) (hk:bA l) (h1:0<l.length) (h5:l.length≤5) (n:Nat) (hn:n≤3) (h0:pO l (n:Int)=0):Fz F.nC [.sl 1 (E cC l),.v (.int .i64 n)] (.tup [.v (.int .i64 (geo l.length n:Nat)),.v (.int .i64 0)]):=by
 have SC:=yU l n hk.2 hk.1;rw[h0] at SC;have DO:=aEa l n hk.2 h5 hn;have SZ:=aIs (kZ l n);rw[eU] at SZ;refine fn0 Cd.i_CountDecks_k fun X=>?_
 repeat' first|simp -dsimp only[go_sem,Int.reduceBEq,Int.reduceBNe,cC,cO,cS,cFd,aH,List.replicate_succ,List.replicate_zero,List.flatten_cons,List.flatten_nil,List.cons_append,List.nil_append,List.set_cons_zero,List.set_cons_succ,List.length_cons,List.length_nil,List.length_set,List.mem_singleton,List.mem_cons,List.not_mem_nil,or_false,false_or,Vs.Name.t.injEq,List.getD_cons_zero,List.getD_cons_succ,Vs.Name.b.injEq,Bool.not_false,Bool.not_true,List.getElem?_cons_zero,List.getElem?_cons_succ]|apply Br.mk<;>intro h<;>try simp -dsimp only[h]|refine aA.c (by first|exact SC|exact DO|exact SZ) ?_|refine aC ?_|fail
 all_goals first|omega|exact⟨_,_,rfl,rfl⟩|(refine aO ?_;simp;done)
theorem aJc (l:List (List Int)) (hk:bA l) (h1:0<l.length) (h5:l.length≤5) (n:Nat) (hn:n≤3) (h0:pO l (n:Int)=0) (i q:Nat) (hi:i≤n) (hq:q<l.length ^ i):Fz F.xG [.sl 1 (E cC l),.v (.int .i64 n),.v (.int .i64 (pK l.length i+q:Nat))] (.tup [.sl 1 (E cC (atD l i q)),.v (.int .i64 0)]):=by
 have SC:=yU l n hk.2 hk.1;rw[h0] at SC;have DO:=aEa l n hk.2 h5 hn;have SZ:=aIs (kZ l n);rw[eU] at SZ
 have hlt:pK l.length i+q<geo l.length n:=by
  have h2:=aDl l.length i;have h3:pK l.length (i+1)=geo l.length i:=by simp only[pK]
  have h4:=aCl l.length n i hi;omega
 have hg4:geo l.length n≤4000:=by have:=aD5 l.length h5 n hn;omega
 have hw:IntKind.i64.wrap (((geo l.length n:Nat):Int)-1)=((geo l.length n:Nat):Int)-1:=aR (by omega) (by omega);have IN:=inside (pK l.length i+q:Nat) 0 (((geo l.length n:Nat):Int)-1)
 have hin:inB (pK l.length i+q:Nat) 0 (((geo l.length n:Nat):Int)-1)=true:=by
  simp only[inB,Bool.and_eq_true,decide_eq_true_eq];omega
 rw[hin] at IN;have e:=aBN l h1 n i q hi hq;have hlA:(kZ l n).length=geo l.length n:=eU l n
 have hgt:(E cD (kZ l n)).getD (pK l.length i+q) []=[.sl 1 (E cC (atD l i q))]:=by
  have hlt':pK l.length i+q<(kZ l n).length:=by omega
  rw[aGb hlt'];have:=List.getElem?_eq_getElem hlt';rw[e] at this;rw[←Option.some.inj this]
 generalize pK l.length i+q=m at *
 refine fn0 Cd.i_DeckAt_k fun X=>?_
 repeat' first|simp -dsimp only[go_sem,hw,hgt,hlA,Int.reduceBEq,Int.reduceBNe,cC,cO,cS,cFd,aH,List.replicate_succ,List.replicate_zero,List.flatten_cons,List.flatten_nil,List.cons_append,List.nil_append,List.set_cons_zero,List.set_cons_succ,List.length_cons,List.length_nil,List.length_set,List.mem_singleton,List.mem_cons,List.not_mem_nil,or_false,false_or,Vs.Name.t.injEq,List.getD_cons_zero,List.getD_cons_succ,Vs.Name.b.injEq,Bool.not_false,Bool.not_true,List.getElem?_cons_zero,List.getElem?_cons_succ]|apply Br.mk<;>intro h<;>try simp -dsimp only[h]|refine aA.c (by first|exact SC|exact DO|exact SZ|exact IN) ?_|refine aC ?_|fail
 all_goals first|omega|exact⟨_,_,rfl,rfl⟩|(refine aO ?_;simp;done)
theorem vdS (l:List (List Int)) (hk:bA l):Fz F.oU [.sl 1 (E cC l)] (.v (.bool (aS l))):=by
 refine fn0 Cd.s_ValidDeck_k fun X=>?_
 repeat' first|simp -dsimp only[go_sem]|apply Br.mk<;>intro h<;>try simp -dsimp only[h]|refine aA.c (by first|exact dG l hk.2 hk.1) ?_|refine aC ?_|fail
 all_goals(first|exact aO rfl|simp_all)
theorem aHS {m n:Nat} (h0:0<m) (h2:m≤2) (hn:n≤2):1≤geo m n∧geo m n≤200:=by
 have hm:m=1∨m=2:=by omega
 have hn:n=0∨n=1∨n=2:=by omega
 rcases hm with rfl|rfl<;>rcases hn with rfl|rfl|rfl<;>exact⟨by simp[geo],by simp[geo]⟩
theorem aLy {fl:List Stp}{x:Spc}{l:List (List Int)}{n:Int} (h0:pO l n=0) (hf:sF fl (aT l)=true) (hs:lN x (aT l)=true):dfC fl x l n=0:=by
 unfold dfC;rw[if_pos h0,hf,hs];rfl
theorem aFb {fl:List Stp}{x:Spc}{l:List (List Int)}{n:Int} (h:dfC fl x l n=0):(bIR fl x l n=decide (dfL fl x l n.toNat=[]))∧nCD fl x l n=(dfL fl x l n.toNat).length∧(dfL fl x l n.toNat=[]→cFD fl x l n=3)∧(∀y r,dfL fl x l n.toNat=y::r→cFD fl x l n=0∧nFD fl x l n=y):=by
 refine⟨?_,?_,fun e=>?_,fun y r e=>⟨?_,?_⟩⟩
 ·unfold bIR;rw[if_pos h];cases dfL fl x l n.toNat
  ·rfl
  ·rename_i y r;have e1:(((y::r).length:Int)==0)=false:=beq_eq_false_iff_ne.2 (by simp only[List.length_cons];omega);rw[e1];simp
 ·unfold nCD;rw[if_pos h]
 ·unfold cFD;rw[if_pos h,e]
 ·unfold cFD;rw[if_pos h,e]
 ·unfold nFD;rw[if_pos h,e]
theorem df_at {fl:List Stp}{x:Spc}{l:List (List Int)}{n i q:Nat} (h1:0<l.length) (hi:i≤n) (hq:q<l.length ^ i):dfB fl x l n (pK l.length i+q) = !agB fl x (atD l i q):=by
 unfold dfB;have e:=aBN l h1 n i q hi hq;rw[List.getD_eq_getElem?_getD,e];rfl
theorem aKa (fl:List Stp) (hz:∀x,x∈fl→x.text.size≤1048576) (hl:fl.length≤1048576) (x:Spc) (hx:x.text.size≤1048576) (d:List (List Int)) (hk:bA d) (hd:aS d=true) (hf:sF fl (aT d)=true) (hs:lN x (aT d)=true):Fz F.nW [.sl 9 (E cS fl),.agg (cP x),.sl 1 (E cC d)] (.tup [.v (.bool (agB fl x d)),.v (.int .i64 0)]):=by
 have h:=aCI fl hz hl x hx d hk;have e1:aoV fl x d=agB fl x d:=by unfold aoV;rw[hd,hf,hs];rfl
 have e2:aoC fl x d=0:=by unfold aoC;rw[hd,hf,hs];rfl
 rwa [e1,e2] at h
attribute [local go_sem] Int.reduceBEq Int.reduceBNe cO cFd aH List.replicate_succ List.replicate_zero List.flatten_cons List.flatten_nil List.cons_append List.nil_append List.set_cons_zero List.set_cons_succ List.length_cons List.length_nil List.length_set List.mem_singleton List.mem_cons List.not_mem_nil or_false false_or Vs.Name.t.injEq List.getD_cons_zero List.getD_cons_succ Vs.Name.b.injEq List.getElem?_cons_zero List.getElem?_cons_succ bne_self_eq_false in
set_option maxRecDepth 20000 in
theorem aK0 (l:List Int) (LG:Fz F.o5 [.sl 1 (E cU l),.v (.slice none 0 0)] (.v (.bool false))) (fs:List Stp) (s:Spc) (cs:List (List Int)) (N:Nat) (hz0:okZ fs) (hf5:sF fs 5=true) (hg:gdS s) (hok:okD 5 cs) (hc0:0<cs.length) (hc2:cs.length≤2) (hN:N≤2)
  (AS:Fz F.bV [.sl 1 (E cU l)] (.tup [.sl 9 (E cS fs),.agg (cP s),.sl 1 (E cC cs),.v (.int .i64 N)]))
  (G:Nat) (hG:G=geo cs.length N) (right:Bool) (count c3 n3:Int)
  (IR:Fz F.fU [.sl 9 (E cS fs),.agg (cP s),.sl 1 (E cC cs),.v (.int .i64 N)] (.tup [.v (.bool right),.v (.int .i64 0)]))
  (FD:Fz F.fA [.sl 9 (E cS fs),.agg (cP s),.sl 1 (E cC cs),.v (.int .i64 N)] (.tup [.v (.int .i64 n3),.v (.int .i64 c3)]))
  (CN:Fz F.dX [.sl 9 (E cS fs),.agg (cP s),.sl 1 (E cC cs),.v (.int .i64 N)] (.tup [.v (.int .i64 count),.v (.int .i64 0)]))
  (IR2:Fz F.fU [.sl 9 (E cS (gK s)),.agg (cP s),.sl 1 (E cC cs),.v (.int .i64 N)] (.tup [.v (.bool true),.v (.int .i64 0)]))
  (e3:(!(right==(c3==3)))=false) (e4:(!(right==(count==0)))=false)
  (hcn:count=((gX (dfB fs s cs N) G).length:Nat)) (hh:∀y r,gX (dfB fs s cs N) G=y::r→c3=0∧n3=y):Fz F.l_FnFlowChecks [.sl 1 (E cU l)] (.v (.bool true)):=by
 have hz:∀x,x∈fs→x.text.size≤1048576:=fun x hx=>Nat.le_trans (hz0 x hx) (by omega);have hd:=hok.1;obtain⟨hs5,hx1,_⟩:=aE8 hg;have hx:s.text.size≤1048576:=by omega
 have h20:=aJl hf5;have hk:bA cs:=⟨by omega,fun c hc=>by have:=hok.2 c hc;omega⟩
 have h0:pO cs (N:Int)=0:=by
  unfold pO aEq;rw[hd,if_pos (by simp[inB];omega),if_pos (by simp[inB];omega)]
 have CD:=aKU cs hk hc0 (by omega) N (by omega) h0;obtain⟨hg1,hg2⟩:=aHS hc0 hc2 hN;rw[←hG] at CD hg1 hg2;have FF:=aCP s hx (aFy (by omega) hs5);have hfl3:=aCn s;have e1:decide ((G:Int)<1)=false:=decide_eq_false (by omega);have e2:decide ((G:Int)>200)=false:=decide_eq_false (by omega);refine fn0 CdV.FnFlowChecks_k fun X=>?_
 repeat' first|simp -dsimp only[go_sem,e1,e2,e3,e4,cC,cS,cP]|apply Br.mk<;>intro h<;>try simp -dsimp only[h]|refine aA.c (by first|exact LG|exact AS|exact CD|exact IR|exact FD|exact CN) ?_|refine aC ?_|fail
 refine aN.at dM (X:={zz:Nat×(Unit) // zz.1≤G∧True}) (fun zz=>[(15,.v (.int .i64 ((gX (dfB fs s cs N) zz.1.1).length:Nat))),(16,.v (.int .i64 zz.1.1))]) (fun zz=>[]) (fun zz=>G-zz.1.1) ⟨(0,()),by omega,trivial⟩ ?_ ?_
 ·simp[Vs.LeL,Vs.look,Vs.aB,Vs.aP,Vs.aK,Vs.hset,Vs.aL,gX]
 ·rintro⟨⟨k,_⟩,hi,_⟩;dsimp only at hi
  try simp -dsimp only[go_sem,e1,e2,e3,e4,cC,cS,cP]
  refine Br.mk (fun hc=>?_) fun hc=>?_
  ·have hlt:k<G:=Dq;have hw:IntKind.i64.wrap ((k:Int)+1)=((k+1:Nat):Int):=by rw[aR (by omega) (by omega)];omega
   obtain⟨i,q,g1,g2,g3⟩:=aAV cs.length N k (by omega);have DA:=aJc cs hk hc0 (by omega) N (by omega) h0 i q g1 g2;obtain⟨d1,d2⟩:=aFn hd hk hc0 i q (by omega);have hdf:=df_at (fl:=fs) (x:=s) hc0 g1 g2;rw[←g3] at DA hdf;have hww:=aH4 hok hc0 i q;have VD:=vdS (atD cs i q) d2;rw[d1] at VD;have AO:=aKa fs hz (by omega) s hx (atD cs i q) d2 d1 (aMa hww hf5) (aFy hww hs5);have hsl:=aBV (dfB fs s cs N) k;generalize hp:dfB fs s cs N=p at *
   have hst:gX p (k+1)=gX p k++(if p k then[(k:Int)] else[]):=rfl;generalize atD cs i q=dd at *
   cases hb:agB fs s dd
   ·rw[hb] at AO hdf;have hpk:p k=true:=by rw[hdf];rfl
    rw[hpk,if_pos rfl] at hst;have hlen:(gX p (k+1)).length=(gX p k).length+1:=by rw[hst];simp
    have hw2:IntKind.i64.wrap (((gX p k).length:Int)+1)=(((gX p k).length+1:Nat):Int):=by rw[aR (by omega) (by omega)];omega
    by_cases hz1:(gX p k).length=0
    ·obtain⟨r,hr⟩:=aHm hlt hpk hz1;obtain⟨q1,q2⟩:=hh _ _ hr;have f1:((((gX p k).length+1:Nat):Int)==1)=true:=by rw[hz1];rfl
     have f2:(c3 != 0)=false:=by rw[q1];rfl
     have f3:(n3 != (k:Int))=false:=by rw[q2];simp
     repeat' first|simp -dsimp only[go_sem,f1,f2,f3,hw2,hw,cC,cS,cP]|apply Br.mk<;>intro h<;>try simp -dsimp only[h]|refine aA.c (by first|exact DA|exact VD|exact AO) ?_|refine And.intro ?_ (fun h=>absurd rfl h)|refine aC ?_|fail
     all_goals first|omega|(exact⟨⟨(k+1,()),by simp only;omega,trivial⟩,by simp[Vs.LeL,Vs.look,Vs.aB,Vs.aP,Vs.aK,Vs.hset,Vs.aL,hlen],by simp only;omega⟩)
    ·have f1:((((gX p k).length+1:Nat):Int)==1)=false:=beq_eq_false_iff_ne.2 (by omega)
     repeat' first|simp -dsimp only[go_sem,f1,hw2,hw,cC,cS,cP]|apply Br.mk<;>intro h<;>try simp -dsimp only[h]|refine aA.c (by first|exact DA|exact VD|exact AO) ?_|refine And.intro ?_ (fun h=>absurd rfl h)|refine aC ?_|fail
     all_goals first|omega|(exact⟨⟨(k+1,()),by simp only;omega,trivial⟩,by simp[Vs.LeL,Vs.look,Vs.aB,Vs.aP,Vs.aK,Vs.hset,Vs.aL,hlen],by simp only;omega⟩)
   ·rw[hb] at AO hdf;have hpk:p k=false:=by rw[hdf];rfl
    rw[hpk] at hst;have hlen:(gX p (k+1)).length=(gX p k).length:=by rw[hst];simp
    repeat' first|simp -dsimp only[go_sem,hw,cC,cS,cP]|apply Br.mk<;>intro h<;>try simp -dsimp only[h]|refine aA.c (by first|exact DA|exact VD|exact AO) ?_|refine And.intro ?_ (fun h=>absurd rfl h)|refine aC ?_|fail
    all_goals first|omega|(exact⟨⟨(k+1,()),by simp only;omega,trivial⟩,by simp[Vs.LeL,Vs.look,Vs.aB,Vs.aP,Vs.aK,Vs.hset,Vs.aL,hlen],by simp only;omega⟩)
  ·have hge:k=G:=by
    have:¬k<G:=Dq;omega
   subst hge;have e9:((((gX (dfB fs s cs N) k).length:Nat):Int)==count)=true:=by rw[hcn];simp
   repeat' first|simp -dsimp only[go_sem,e9,cC,cS,cP]|apply Br.mk<;>intro h<;>try simp -dsimp only[h]|refine aA.c (by first|exact FF|exact IR2) ?_|refine And.intro ?_ (fun h=>absurd rfl h)|refine aC ?_|fail
   all_goals first|exact⟨⟨_,_,rfl,rfl⟩,fun h=>h rfl⟩|exact⟨_,_,rfl,rfl⟩|(refine⟨aO ?_,fun h=>h rfl⟩;simp;done)|(simp;done)
theorem aMb (l:List Int) (LG:Fz F.o5 [.sl 1 (E cU l),.v (.slice none 0 0)] (.v (.bool false))) (fs:List Stp) (s:Spc) (cs:List (List Int)) (N:Nat) (hz0:okZ fs) (hf5:sF fs 5=true) (hg:gdS s) (hok:okD 5 cs) (hc0:0<cs.length) (hc2:cs.length≤2) (hN:N≤2)
  (AS:Fz F.bV [.sl 1 (E cU l)] (.tup [.sl 9 (E cS fs),.agg (cP s),.sl 1 (E cC cs),.v (.int .i64 N)])):Fz F.l_FnFlowChecks [.sl 1 (E cU l)] (.v (.bool true)):=by
 have hz:∀x,x∈fs→x.text.size≤1048576:=fun x hx=>Nat.le_trans (hz0 x hx) (by omega);have hd:=hok.1;obtain⟨hs5,hx1,hff⟩:=aE8 hg;have hx:s.text.size≤1048576:=by omega
 have h20:=aJl hf5;have hk:bA cs:=⟨by omega,fun c hc=>by have:=hok.2 c hc;omega⟩
 have h0:pO cs (N:Int)=0:=by
  unfold pO aEq;rw[hd,if_pos (by simp[inB];omega),if_pos (by simp[inB];omega)]
 have hw5:=wid_5 hok hc0;have hdc:=aLy (fl:=fs) (x:=s) h0 (by rw[hw5];exact hf5) (by rw[hw5];exact hs5);have hdc2:=aLy (fl:=gK s) (x:=s) h0 (by rw[hw5];exact hff) (by rw[hw5];exact hs5);obtain⟨q1,q2,q3,q4⟩:=aFb hdc;obtain⟨p1,_,_,_⟩:=aFb hdc2;have IR:=uD fs hz (by omega) s hx cs hk (N:Int);have FD:=w9 fs hz (by omega) s hx cs hk (N:Int);have CN:=vY fs hz (by omega) s hx cs hk (N:Int);have IR2:=uD (gK s) (fun x hx=>Nat.le_trans (aD6 hx1 x hx) (by omega)) (by have:=aCn s;omega) s hx cs hk (N:Int);rw[Int.toNat_natCast] at q1 q2 q3 q4 p1;rw[aJy hg hok hc0 hk (by omega)] at p1;rw[p1,hdc2] at IR2;rw[hdc] at IR CN;refine aK0 l LG fs s cs N hz0 hf5 hg hok hc0 hc2 hN AS _ rfl _ _ _ _ IR FD CN (by simpa using IR2) ?_ ?_ (by rw[q2];unfold dfL;rfl) (fun y r h=>q4 y r (by unfold dfL;exact h))
 ·rw[q1];cases hD:dfL fs s cs N with
  |nil=>rw[q3 hD];simp
  |cons y r=>rw[(q4 y r hD).1];simp
 ·rw[q1,q2];cases hD:dfL fs s cs N with
  |nil=>simp
  | cons y r =>
   have e1:(((y::r).length:Int)==0)=false:=beq_eq_false_iff_ne.2 (by simp only[List.length_cons];omega);rw[e1];simp
theorem law_FnFlowChecks (l:List Int) (hl:∀x,x∈l→0≤x∧x≤255):Fz F.l_FnFlowChecks [.sl 1 (E cU l)] (.v (.bool true)):=by
 have LG:=aLg l;rcases Bool.eq_false_or_eq_true (decide ((l.length:Int)>3000)) with hg|hg
 ·rw[hg] at LG;refine fn0 CdV.FnFlowChecks_k fun X=>?_
  repeat' first|simp -dsimp only[go_sem,Int.reduceBEq,Int.reduceBNe,cC,cO,cS,cFd,aH,List.replicate_succ,List.replicate_zero,List.flatten_cons,List.flatten_nil,List.cons_append,List.nil_append,List.set_cons_zero,List.set_cons_succ,List.length_cons,List.length_nil,List.length_set,List.mem_singleton,List.mem_cons,List.not_mem_nil,or_false,false_or,Vs.Name.t.injEq,List.getD_cons_zero,List.getD_cons_succ,Vs.Name.b.injEq,List.getElem?_cons_zero,List.getElem?_cons_succ,bne_self_eq_false,cP]|apply Br.mk<;>intro h<;>try simp -dsimp only[h]|refine aA.c (by first|exact LG) ?_|refine aC ?_|fail
  all_goals first|exact⟨_,_,rfl,rfl⟩|simp_all
 ·rw[hg] at LG;simp only[decide_eq_false_iff_not] at hg;obtain⟨fs,s,cs,n,hz0,hf5,hgs,hcr,hc0,hc2,hn0,hn3,AS⟩:=aJY l ⟨by omega,hl⟩;obtain⟨N,rfl⟩:∃N:Nat,n=N:=⟨n.toNat,by omega⟩;exact aMb l LG fs s cs N hz0 hf5 hgs (aJB hcr (by omega)) hc0 hc2 (by omega) AS
end
end Go.Proofs.YthbnjmgjhonfbaaGreat
