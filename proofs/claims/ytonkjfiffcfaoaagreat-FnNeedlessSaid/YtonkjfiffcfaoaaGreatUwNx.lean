/- The law FnNeedless. -/
import Derived.Test.YtonkjfiffcfaoaaGreatUwNw
import Derived.Test.YtonkjfiffcfaoaaGreatUwNt
set_option linter.all false
set_option maxHeartbeats 8000000
namespace Go.Proofs.YtonkjfiffcfaoaaGreat
open Go.Vs
variable [Vs.Envs]
attribute [local irreducible] Vs.Fn wO stC run rsB rsL aX atD gK geo gJ eqR ndB ndC ndL crd dV
open Go.Vs.Q in
def CdV.FnNeedless:aD:=s [mf 2] [0]<|.seq (s [m 23 0,c 24 F.rF [23,(.const (.slice none 0 0))]] [0,24]<|.cond 24 (s [mt 2] [2]<|.ret) .skip)<|s [m 26 0,c 27 F.bZ [26],m 25 27,ex 28 25 0,ex 29 25 1,ex 30 25 2,ex 31 25 3,o 4 (.alloc [.v (.int .i64 (0)),.v (.int .i64 (0)),.v (.string ⟨#[]⟩),.v (.int .i64
 (0)),.v (.int .i64 (0)),.v (.int .i64 (0)),.v (.int .i64 (0))]),m 3 28,⟨none,.store 7 4 29,none⟩,m 5 30,m 6 31] [3,5,6]<|s [m 33 3,m 34 5,m 35 6,c 36 F.gQ [33,34,35],m 32 36,ex 37 32 0,ex 38 32 1,m 7 37,m 8 38] [3,5,6,7,8]<|s [m 40 5,m 41 6,c 42 F.mP [40,41],m 39 42,ex 43
 39 0,ex 44 39 1,m 9 43,m 10 44] [3,5,6,7,8,9]<|s [m 46 3,m 47 5,m 48 6,c 49 F.jC [46,47,48],m 45 49,ex 50 45 0,ex 51 45 1,m 11 50,m 12 51] [3,5,6,7,8,9,11,12]<|.seq (s [m 52 8,ne 53 52 0,m 54 53,mg 55 12 54 false,⟨some 56,.bin .neq 55 (k 0),some (54,false)⟩,pt 57 54 56,m 58 57,mg 59 7
 58 false,⟨some 60,.len 59,some (58,false)⟩,mg 61 11 58 false,⟨some 62,.len 61,some (58,false)⟩,⟨some 63,.bin .neq 60 62,some (58,false)⟩,pt 64 58 63] [3,5,6,7,9,64]<|.cond 64 (s [mf 2] [2]<|.ret) .skip)<|.seq (s [mi 13 0] [3,5,6,7,9,13]<|.block 0 (.loop (.seq (s [m 65 13,m 66 7,ln 67 66,ls 68 65 67]
 [3,5,6,7,9,13,68]<|.cond 68 .skip (.exit 0))<|.seq (.block 1 (s [m 71 7,m 72 13,ix 73 1 71 72,lf 74 1 73,m 14 74] [3,5,6,7,9,13,14]<|.seq (s [m 75 14,o 76 (.bin .lss 75 (k 0)),m 77 76,mg 78 14 77 false,mg 79 3 77 false,⟨some 80,.len 79,some (77,false)⟩,⟨some 81,.bin .geq 78 80,some (77,false)⟩,pt 82
 77 81,m 83 82,mg 84 13 83 false,⟨some 85,.bin .gtr 84 (k 0),some (83,false)⟩,mg 86 85 83 false,mg 87 14 86 true,mg 88 7 86 true,mg 89 13 86 true,⟨some 90,.bin .sub 89 (k 1),some (86,true)⟩,⟨some 91,.idxSl 1 88 90,some (86,true)⟩,lg 92 1 91 86 true,⟨some 93,.bin .leq 87 92,some (86,true)⟩,⟨some
 94,.pick 86 93 (.const (.bool false)),some (83,false)⟩,pt 95 83 94] [3,5,6,7,9,13,14,95]<|.cond 95 (s [mf 2] [2]<|.ret) .skip)<|.seq (.closing 15 (.region [o 96 (.bslice 9 0 [.v (.int .i64 (0)),.v (.int .i64 (0)),.v (.int .i64 (0)),.v (.int .i64 (0)),.v (.int .i64 (0)),.v (.int .i64 (0)),.v (.int
 .i64 (0)),.v (.int .i64 (0)),.v (.string ⟨#[]⟩)] []),m 97 3,m 98 14,o 99 (.slc 9 97 none (some 98)),o 100 (.append 9 80 96 99),m 101 3,m 102 14,ad 103 102 1,o 104 (.slc 9 101 (some 103) none),o 105 (.append 9 80 100 104),m 15 105] [3,5,6,7,9,13,15] [96,97,98,99,100,101,102,103,104,105]))<|s [mi 16 0]
 [3,5,6,7,9,13,15,16]<|.block 2 (.loop (.seq (s [m 106 16,m 107 9,ls 108 106 107,m 109 108,mg 110 16 109 true,⟨some 111,.bin .lss 110 (k 20),some (109,true)⟩,pf 112 109 111] [3,5,6,7,9,13,15,16,112]<|.cond 112 .skip (.exit 2))<|.seq (.block 3 (s [m 116 5,m 117 6,m 118 16,c 119 F.wJ
 [116,117,118],m 115 119,ex 120 115 0,ex 121 115 1,m 17 120,m 18 121] [3,5,6,7,9,13,15,16,17]<|s [m 123 3,m 124 17,c 125 F.nZ [123,124],m 122 125,ex 126 122 0,ex 127 122 1,m 19 126,m 20 127] [3,5,6,7,9,13,15,16,17,19,20]<|s [m 129 15,m 130 17,c 131 F.nZ [129,130],m 128 131,ex 132
 128 0,ex 133 128 1,m 21 132,m 22 133] [3,5,6,7,9,13,15,16,19,20,21,22]<|s [m 134 20,m 135 22,o 136 (.bin .neq 134 135),m 137 136,mg 138 19 137 false,mg 139 21 137 false,⟨some 140,.call (.func F.iX) [138,139] [],some (137,false)⟩,⟨some 141,.un .not 140,some (137,false)⟩,pt 142 137 141]
 [3,5,6,7,9,13,15,16,142]<|.cond 142 (s [mf 2] [2]<|.ret) .skip))<|.region [m 113 16,ad 114 113 1,m 16 114] [3,5,6,7,9,13,15,16] []))))<|.region [m 69 13,ad 70 69 1,m 13 70] [3,5,6,7,9,13] [])))<|s [mt 2] [2]<|.ret
theorem CdV.FnNeedless_k:CK 3 Tryz.f3 CdV.FnNeedless 143 [.tmp 2]:=ck Tryz.func3
attribute [go_sem] CdV.FnNeedless
theorem aBB (p:Nat→Bool):∀(n i:Nat) (a:Int),(fD p n)[i]? = some a→∃k:Nat,a=k∧k<n∧p k=true
 |0,i,a,h=>by simp[fD] at h
 | n+1,i,a,h=>by
  simp only[fD,List.getElem?_append] at h;split at h
  ·obtain⟨k,h1,h2,h3⟩:=aBB p n i a h;exact⟨k,h1,by omega,h3⟩
  ·cases hp:p n
   ·rw[hp] at h;simp at h
   ·rw[hp] at h;have h2:[(n:Int)][i-(fD p n).length]? = some a:=h;have h3:=List.mem_of_getElem? h2;exact⟨n,List.mem_singleton.1 h3,by omega,hp⟩
theorem aGm (p:Nat→Bool):∀(n i:Nat) (a b:Int),(fD p n)[i]? = some a→(fD p n)[i+1]? = some b→a<b
 |0,i,a,b,h,_=>by simp[fD] at h
 | n+1,i,a,b,h,h'=>by
  have hl:i+1<(fD p (n+1)).length:=(List.getElem?_eq_some_iff.1 h').1;simp only[fD,List.getElem?_append] at h h';by_cases hi:i+1<(fD p n).length
  ·rw[if_pos hi] at h';rw[if_pos (by omega)] at h;exact aGm p n i a b h h'
  ·rw[if_neg hi] at h';cases hp:p n
   ·rw[hp] at h';simp at h'
   ·rw[hp] at h';have h2:[(n:Int)][i+1-(fD p n).length]? = some b:=h';have hb:=List.mem_singleton.1 (List.mem_of_getElem? h2);simp only[fD,hp,if_true,List.length_append,List.length_singleton] at hl;rw[if_pos (by omega)] at h;obtain⟨k,h3,h4,_⟩:=aBB p n i a h;omega
theorem aLe {fl:List Stp}{l:List (List Int)}{n k:Nat} (h:ndB fl l n k=true) {d:List (List Int)} (hd:d∈gK l n):eqR fl (lsS fl k) d=true:=by
 unfold ndB at h;exact List.all_eq_true.1 h d hd
attribute [local go_sem] Int.reduceBEq Int.reduceBNe cO cFd aG List.replicate_succ List.replicate_zero List.flatten_cons List.flatten_nil List.cons_append List.nil_append List.set_cons_zero List.set_cons_succ List.length_cons List.length_nil List.length_set List.mem_singleton List.mem_cons List.not_mem_nil or_false false_or Vs.Name.t.injEq List.getD_cons_zero List.getD_cons_succ Vs.Name.b.injEq List.getElem?_cons_zero List.getElem?_cons_succ bne_self_eq_false in
theorem aKp (l:List Int) (LG:Fz F.rF [.sl 1 (E cU l),.v (.slice none 0 0)] (.v (.bool false))) (fs:List Stp) (s:Spc) (cs:List (List Int)) (N:Nat) (hz0:okZ fs) (hf5:vJ fs 5=true) (hok:okD 5 cs) (hc0:0<cs.length) (hc2:cs.length≤2) (hN:N≤2)
  (AS:Fz F.bZ [.sl 1 (E cU l)] (.tup [.sl 9 (E cS fs),.agg (cP s),.sl 1 (E cC cs),.v (.int .i64 N)])):Fz F.l_FnNeedless [.sl 1 (E cU l)] (.v (.bool true)):=by
 have hz:∀x,x∈fs→x.text.size≤1048576:=fun x hx=>Nat.le_trans (hz0 x hx) (by omega);have hd:=hok.1;have h20:=aFV hf5;have hk:bE cs:=⟨by omega,fun c hc=>by have:=hok.2 c hc;omega⟩
 have h0:uN cs (N:Int)=0:=by
  unfold uN aCZ;rw[hd,if_pos (by simp[inB];omega),if_pos (by simp[inB];omega)]
 have hnd:ndC fs cs (N:Int)=0:=by
  unfold ndC;rw[if_pos h0,wid_5 hok hc0,hf5];rfl
 have IM:=aI7 fs hz (by omega) cs hk (N:Int) hnd;have SP:=aIe fs hz (by omega) cs hk (N:Int) hnd;have CD:=aJX cs hk hc0 (by omega) N (by omega) h0;rw[Int.toNat_natCast] at IM SP;have hg4:geo cs.length N≤4000:=by have:=zJ cs.length (by omega) N (by omega);omega
 have hDl:=zW (ndB fs cs N) fs.length;obtain⟨D,hD⟩:∃D,ndL fs cs N=D:=⟨_,rfl⟩;have hDs:fD (ndB fs cs N) fs.length=D:=by rw[←hD];unfold ndL;rfl
 rw[hD] at IM SP;rw[hDs] at hDl;clear hD;refine fn0 CdV.FnNeedless_k fun X=>?_
 repeat' first|simp -dsimp only[go_sem,cC,cS,cP]|apply Br.mk<;>intro h<;>try simp -dsimp only[h]|refine aA.own (by first|exact IM) rfl ?_|refine aA.c (by first|exact LG|exact AS|exact SP|exact CD) ?_|refine aC ?_|fail
 refine aN.at dM (X:={zz:Nat×(Unit) // zz.1≤D.length∧True}) (fun zz=>[(13,.v (.int .i64 zz.1.1))]) (fun zz=>[]) (fun zz=>D.length-zz.1.1) ⟨(0,()),by omega,trivial⟩ ?_ ?_
 ·exact le0
 ·rintro⟨⟨i,_⟩,hi,hg⟩;dsimp only at hi hg;rcases i with _|j
  ·try simp -dsimp only[go_sem,cC,cS,cP]
   refine Br.mk (fun hc=>?_) fun hc=>?_
   ·have hi1:0<D.length:=Dq;obtain⟨kk,hkk,hk1,hk2⟩:=aBB (ndB fs cs N) fs.length 0 _ (by rw[hDs];exact List.getElem?_eq_getElem hi1);have gD:(E cI D).getD 0 []=[.v (.int .i64 (kk:Nat))]:=by rw[aT hi1,hkk];rfl
    have hlD:(E cI D).length=D.length:=aG _;have hw:IntKind.i64.wrap (((0:Nat):Int)+1)=((0+1:Nat):Int):=by rw[aO (by omega) (by omega)];omega
    have hwk:IntKind.i64.wrap ((kk:Int)+1)=((kk+1:Nat):Int):=by rw[aO (by omega) (by omega)];omega
    have e1:decide ((kk:Int)<0)=false:=decide_eq_false (by omega);have e2:decide ((kk:Int)≥(fs.length:Int))=false:=decide_eq_false (by omega);have e3:decide (((0:Nat):Int)>0)=false:=rfl;have e4:decide ((0:Int)>0)=false:=rfl;have ht:(E cS fs).take kk=E cS (fs.take kk):=by simp[E,List.map_take]
    have hdr:(E cS fs).drop (kk+1)=E cS (fs.drop (kk+1)):=by simp[E,List.map_drop]
    have hli:(fs.take kk).length=kk:=by simp;omega
    have hld:(fs.drop (kk+1)).length=fs.length-(kk+1):=by simp
    have hjn:E cS (fs.take kk)++E cS (fs.drop (kk+1))=E cS (lsS fs kk):=by rw[←aR];rfl
    have hll:(lsS fs kk).length=kk+(fs.length-(kk+1)):=by simp[lsS,hli]
    have htk2:(E cS fs).take fs.length=E cS fs:=List.take_of_length_le (by rw[aG];exact Nat.le_refl _);have htk3:(E cS (lsS fs kk)).take (kk+(fs.length-(kk+1)))=E cS (lsS fs kk):=List.take_of_length_le (by rw[aG,hll];exact Nat.le_refl _);have hzk:∀x,x∈lsS fs kk→x.text.size≤1048576:=fun x hx=>hz x (x8 hx);have hlk:(lsS fs kk).length≤1048576:=Nat.le_trans (x9 fs kk) (by omega)
    repeat' first|simp -dsimp only[go_sem,e1,e2,e3,e4,gD,hlD,hw,hwk,ht,hdr,hli,hld,hjn,hll,htk2,htk3,cC,cS,cP]|apply Br.mk<;>intro h<;>try simp -dsimp only[h]|refine And.intro ?_ (fun h=>absurd rfl h)|refine aC ?_|fail
    refine aN.at dM (X:={zz:Nat×(Unit) // zz.1≤geo cs.length N∧zz.1≤20}) (fun zz=>[(16,.v (.int .i64 zz.1.1))]) (fun zz=>[]) (fun zz=>20-zz.1.1) ⟨(0,()),by omega,by omega⟩ ?_ ?_
    ·exact le0
    ·rintro⟨⟨m,_⟩,hm,hm20⟩;dsimp only at hm hm20;have hwm:IntKind.i64.wrap ((m:Int)+1)=((m+1:Nat):Int):=by rw[aO (by omega) (by omega)];omega
     by_cases hcm:m<geo cs.length N∧m<20
     ·have f1:decide ((m:Int)<(geo cs.length N:Nat))=true:=decide_eq_true (by omega);have f2:decide ((m:Int)<20)=true:=decide_eq_true (by omega);obtain⟨a,q,g1,g2,g3⟩:=yE cs.length N m hcm.1;have DA:=aGk cs hk hc0 (by omega) N (by omega) h0 a q g1 g2;rw[←g3] at DA;obtain⟨d1,d2⟩:=aCF hd hk hc0 a q (by omega)
      have hmem:atD cs a q∈gK cs N:=by
       have:=aBQ cs hc0 N a q g1 g2;exact List.mem_of_getElem? this
      have hEQ:=aLe hk2 hmem;have hww:=aH0 hok hc0 a q;have RA:=aBA fs hz (by omega) (atD cs a q) d2 d1 (aD1 hww hf5);have RB:=aBA (lsS fs kk) hzk hlk (atD cs a q) d2 d1 (aD1 hww (aE2 kk hf5));unfold eqR at hEQ;unfold rsC at RA RB;by_cases hc00:rsB fs (atD cs a q)=false∧rsB (lsS fs kk) (atD cs a q)=false
      ·obtain⟨ha,hb⟩:=hc00;rw[ha,hb] at hEQ;rw[jY ha,ha] at RA;rw[jY hb,hb] at RB;have ST:=aEi;simp only[if_true,if_false,Bool.false_eq_true] at RA RB
       repeat' first|simp -dsimp only[go_sem,f1,f2,hwm,if_true,if_false,Bool.false_eq_true,cC,cS,cP]|apply Br.mk<;>intro h<;>try simp -dsimp only[h]|refine aA.c (by first|exact DA|exact RA|exact RB|exact ST) ?_|refine And.intro ?_ (fun h=>absurd rfl h)|refine aC ?_|fail
       all_goals first|omega|(exact nx (m+1,()) (by simp only;omega))
      by_cases hc01:rsB fs (atD cs a q)=false∧rsB (lsS fs kk) (atD cs a q)=true
      ·rw[hc01.1,hc01.2] at hEQ;simp at hEQ
      by_cases hc10:rsB fs (atD cs a q)=true∧rsB (lsS fs kk) (atD cs a q)=false
      ·rw[hc10.1,hc10.2] at hEQ;simp at hEQ
      by_cases hc11:rsB fs (atD cs a q)=true∧rsB (lsS fs kk) (atD cs a q)=true
      ·obtain⟨ha,hb⟩:=hc11;rw[ha,hb] at hEQ;rw[iK ha,ha] at RA;rw[iK hb,hb] at RB;have ST:=aGj (rsL fs (atD cs a q)) (rsL (lsS fs kk) (atD cs a q)) (qF d1 ha);rw[show p9 qT (rsL fs (atD cs a q)) (rsL (lsS fs kk) (atD cs a q))=true by simpa using hEQ] at ST;simp only[if_true,if_false,Bool.false_eq_true] at RA RB
       repeat' first|simp -dsimp only[go_sem,f1,f2,hwm,if_true,if_false,Bool.false_eq_true,cC,cS,cP]|apply Br.mk<;>intro h<;>try simp -dsimp only[h]|refine aA.c (by first|exact DA|exact RA|exact RB|exact ST) ?_|refine And.intro ?_ (fun h=>absurd rfl h)|refine aC ?_|fail
       all_goals first|omega|(exact nx (m+1,()) (by simp only;omega))
      exfalso;cases h1:rsB fs (atD cs a q)<;>cases h2:rsB (lsS fs kk) (atD cs a q)<;>simp[h1,h2] at *
     ·by_cases hcg:m<geo cs.length N
      ·have f1:decide ((m:Int)<(geo cs.length N:Nat))=true:=decide_eq_true (by omega);have f2:decide ((m:Int)<20)=false:=decide_eq_false (by omega)
       repeat' first|simp -dsimp only[go_sem,f1,f2,hw,cC,cS,cP]|apply Br.mk<;>intro h<;>try simp -dsimp only[h]|refine And.intro ?_ (fun h=>absurd rfl h)|refine aC ?_|fail
       all_goals first|omega|(exact nx (0+1,()) trivial)
      ·have f1:decide ((m:Int)<(geo cs.length N:Nat))=false:=decide_eq_false (by omega)
       repeat' first|simp -dsimp only[go_sem,f1,hw,cC,cS,cP]|apply Br.mk<;>intro h<;>try simp -dsimp only[h]|refine And.intro ?_ (fun h=>absurd rfl h)|refine aC ?_|fail
       all_goals first|omega|(exact nx (0+1,()) trivial)
   ·try simp -dsimp only[go_sem,cC,cS,cP]
    first|exact⟨⟨_,_,rfl,rfl⟩,fun h=>h rfl⟩|(refine⟨aS ?_,fun h=>h rfl⟩;simp;done)|(simp;done)
  ·try simp -dsimp only[go_sem,cC,cS,cP]
   refine Br.mk (fun hc=>?_) fun hc=>?_
   ·have hi1:(j+1)<D.length:=Dq;obtain⟨kk,hkk,hk1,hk2⟩:=aBB (ndB fs cs N) fs.length (j+1) _ (by rw[hDs];exact List.getElem?_eq_getElem hi1);have gD:(E cI D).getD (j+1) []=[.v (.int .i64 (kk:Nat))]:=by rw[aT hi1,hkk];rfl
    have hlD:(E cI D).length=D.length:=aG _;have hw:IntKind.i64.wrap ((((j+1):Nat):Int)+1)=(((j+1)+1:Nat):Int):=by rw[aO (by omega) (by omega)];omega
    have hwk:IntKind.i64.wrap ((kk:Int)+1)=((kk+1:Nat):Int):=by rw[aO (by omega) (by omega)];omega
    have e1:decide ((kk:Int)<0)=false:=decide_eq_false (by omega);have e2:decide ((kk:Int)≥(fs.length:Int))=false:=decide_eq_false (by omega);have e3:decide (((j+1:Nat):Int)>0)=true:=decide_eq_true (by omega);have hwj:=subK (k:=j) (by omega);have gP:(E cI D).getD j []=[.v (.int .i64 (D[j]'(by omega)))]:=aT (by omega);have hlt:=aGm (ndB fs cs N) fs.length j (D[j]'(by omega)) kk (by rw[hDs];exact List.getElem?_eq_getElem (by omega)) (by rw[hDs,←hkk];exact List.getElem?_eq_getElem hi1);have e4:decide ((kk:Int)≤D[j]'(by omega))=false:=decide_eq_false (by omega);generalize D[j]'(by omega)=dj at *
    have ht:(E cS fs).take kk=E cS (fs.take kk):=by simp[E,List.map_take]
    have hdr:(E cS fs).drop (kk+1)=E cS (fs.drop (kk+1)):=by simp[E,List.map_drop]
    have hli:(fs.take kk).length=kk:=by simp;omega
    have hld:(fs.drop (kk+1)).length=fs.length-(kk+1):=by simp
    have hjn:E cS (fs.take kk)++E cS (fs.drop (kk+1))=E cS (lsS fs kk):=by rw[←aR];rfl
    have hll:(lsS fs kk).length=kk+(fs.length-(kk+1)):=by simp[lsS,hli]
    have htk2:(E cS fs).take fs.length=E cS fs:=List.take_of_length_le (by rw[aG];exact Nat.le_refl _);have htk3:(E cS (lsS fs kk)).take (kk+(fs.length-(kk+1)))=E cS (lsS fs kk):=List.take_of_length_le (by rw[aG,hll];exact Nat.le_refl _);have hzk:∀x,x∈lsS fs kk→x.text.size≤1048576:=fun x hx=>hz x (x8 hx);have hlk:(lsS fs kk).length≤1048576:=Nat.le_trans (x9 fs kk) (by omega)
    repeat' first|simp -dsimp only[go_sem,e1,e2,e3,e4,gD,gP,hwj,hlD,hw,hwk,ht,hdr,hli,hld,hjn,hll,htk2,htk3,cC,cS,cP]|apply Br.mk<;>intro h<;>try simp -dsimp only[h]|refine And.intro ?_ (fun h=>absurd rfl h)|refine aC ?_|fail
    refine aN.at dM (X:={zz:Nat×(Unit) // zz.1≤geo cs.length N∧zz.1≤20}) (fun zz=>[(16,.v (.int .i64 zz.1.1))]) (fun zz=>[]) (fun zz=>20-zz.1.1) ⟨(0,()),by omega,by omega⟩ ?_ ?_
    ·exact le0
    ·rintro⟨⟨m,_⟩,hm,hm20⟩;dsimp only at hm hm20;have hwm:IntKind.i64.wrap ((m:Int)+1)=((m+1:Nat):Int):=by rw[aO (by omega) (by omega)];omega
     by_cases hcm:m<geo cs.length N∧m<20
     ·have f1:decide ((m:Int)<(geo cs.length N:Nat))=true:=decide_eq_true (by omega);have f2:decide ((m:Int)<20)=true:=decide_eq_true (by omega);obtain⟨a,q,g1,g2,g3⟩:=yE cs.length N m hcm.1;have DA:=aGk cs hk hc0 (by omega) N (by omega) h0 a q g1 g2;rw[←g3] at DA;obtain⟨d1,d2⟩:=aCF hd hk hc0 a q (by omega)
      have hmem:atD cs a q∈gK cs N:=by
       have:=aBQ cs hc0 N a q g1 g2;exact List.mem_of_getElem? this
      have hEQ:=aLe hk2 hmem;have hww:=aH0 hok hc0 a q;have RA:=aBA fs hz (by omega) (atD cs a q) d2 d1 (aD1 hww hf5);have RB:=aBA (lsS fs kk) hzk hlk (atD cs a q) d2 d1 (aD1 hww (aE2 kk hf5));unfold eqR at hEQ;unfold rsC at RA RB;by_cases hc00:rsB fs (atD cs a q)=false∧rsB (lsS fs kk) (atD cs a q)=false
      ·obtain⟨ha,hb⟩:=hc00;rw[ha,hb] at hEQ;rw[jY ha,ha] at RA;rw[jY hb,hb] at RB;have ST:=aEi;simp only[if_true,if_false,Bool.false_eq_true] at RA RB
       repeat' first|simp -dsimp only[go_sem,f1,f2,hwm,if_true,if_false,Bool.false_eq_true,cC,cS,cP]|apply Br.mk<;>intro h<;>try simp -dsimp only[h]|refine aA.c (by first|exact DA|exact RA|exact RB|exact ST) ?_|refine And.intro ?_ (fun h=>absurd rfl h)|refine aC ?_|fail
       all_goals first|omega|(exact nx (m+1,()) (by simp only;omega))
      by_cases hc01:rsB fs (atD cs a q)=false∧rsB (lsS fs kk) (atD cs a q)=true
      ·rw[hc01.1,hc01.2] at hEQ;simp at hEQ
      by_cases hc10:rsB fs (atD cs a q)=true∧rsB (lsS fs kk) (atD cs a q)=false
      ·rw[hc10.1,hc10.2] at hEQ;simp at hEQ
      by_cases hc11:rsB fs (atD cs a q)=true∧rsB (lsS fs kk) (atD cs a q)=true
      ·obtain⟨ha,hb⟩:=hc11;rw[ha,hb] at hEQ;rw[iK ha,ha] at RA;rw[iK hb,hb] at RB;have ST:=aGj (rsL fs (atD cs a q)) (rsL (lsS fs kk) (atD cs a q)) (qF d1 ha);rw[show p9 qT (rsL fs (atD cs a q)) (rsL (lsS fs kk) (atD cs a q))=true by simpa using hEQ] at ST;simp only[if_true,if_false,Bool.false_eq_true] at RA RB
       repeat' first|simp -dsimp only[go_sem,f1,f2,hwm,if_true,if_false,Bool.false_eq_true,cC,cS,cP]|apply Br.mk<;>intro h<;>try simp -dsimp only[h]|refine aA.c (by first|exact DA|exact RA|exact RB|exact ST) ?_|refine And.intro ?_ (fun h=>absurd rfl h)|refine aC ?_|fail
       all_goals first|omega|(exact nx (m+1,()) (by simp only;omega))
      exfalso;cases h1:rsB fs (atD cs a q)<;>cases h2:rsB (lsS fs kk) (atD cs a q)<;>simp[h1,h2] at *
     ·by_cases hcg:m<geo cs.length N
      ·have f1:decide ((m:Int)<(geo cs.length N:Nat))=true:=decide_eq_true (by omega);have f2:decide ((m:Int)<20)=false:=decide_eq_false (by omega)
       repeat' first|simp -dsimp only[go_sem,f1,f2,hw,cC,cS,cP]|apply Br.mk<;>intro h<;>try simp -dsimp only[h]|refine And.intro ?_ (fun h=>absurd rfl h)|refine aC ?_|fail
       all_goals first|omega|(exact nx ((j+1)+1,()) trivial)
      ·have f1:decide ((m:Int)<(geo cs.length N:Nat))=false:=decide_eq_false (by omega)
       repeat' first|simp -dsimp only[go_sem,f1,hw,cC,cS,cP]|apply Br.mk<;>intro h<;>try simp -dsimp only[h]|refine And.intro ?_ (fun h=>absurd rfl h)|refine aC ?_|fail
       all_goals first|omega|(exact nx ((j+1)+1,()) trivial)
   ·try simp -dsimp only[go_sem,cC,cS,cP]
    first|exact⟨⟨_,_,rfl,rfl⟩,fun h=>h rfl⟩|(refine⟨aS ?_,fun h=>h rfl⟩;simp;done)|(simp;done)
theorem law_FnNeedless (l:List Int) (hl:∀x,x∈l→0≤x∧x≤255):Fz F.l_FnNeedless [.sl 1 (E cU l)] (.v (.bool true)):=by
 have LG:=aKZ l;rcases Bool.eq_false_or_eq_true (decide ((l.length:Int)>3000)) with hg|hg
 ·rw[hg] at LG;refine fn0 CdV.FnNeedless_k fun X=>?_
  repeat' first|simp -dsimp only[go_sem,Int.reduceBEq,Int.reduceBNe,cC,cO,cS,cFd,aG,List.replicate_succ,List.replicate_zero,List.flatten_cons,List.flatten_nil,List.cons_append,List.nil_append,List.set_cons_zero,List.set_cons_succ,List.length_cons,List.length_nil,List.length_set,List.mem_singleton,List.mem_cons,List.not_mem_nil,or_false,false_or,Vs.Name.t.injEq,List.getD_cons_zero,List.getD_cons_succ,Vs.Name.b.injEq,List.getElem?_cons_zero,List.getElem?_cons_succ,bne_self_eq_false,cP]|apply Br.mk<;>intro h<;>try simp -dsimp only[h]|refine aA.c (by first|exact LG) ?_|refine aC ?_|fail
  all_goals first|exact⟨_,_,rfl,rfl⟩|simp_all
 ·rw[hg] at LG;simp only[decide_eq_false_iff_not] at hg;obtain⟨fs,s,cs,n,hz0,hf5,_,hcr,hc0,hc2,hn0,hn3,AS⟩:=aJL l ⟨by omega,hl⟩;obtain⟨N,rfl⟩:∃N:Nat,n=N:=⟨n.toNat,by omega⟩;exact aKp l LG fs s cs N hz0 hf5 (aJs hcr (by omega)) hc0 hc2 (by omega) AS
end Go.Proofs.YtonkjfiffcfaoaaGreat
