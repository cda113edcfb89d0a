/- The reference's number of a field. -/
import Derived.Test.YtonkjfiffcfaoaaGreatUuB
import Derived.Test.YtonkjfiffcfaoaaGreatUwQb
import Derived.Test.YtonkjfiffcfaoaaGreatVtR
import Derived.Test.YtonkjfiffcfaoaaGreatVtK
import Derived.Test.YtonkjfiffcfaoaaGreatVtN
import Derived.Test.YtonkjfiffcfaoaaGreatUuR
import Derived.Lib.ItoaNum
import Derived.Test.YtonkjfiffcfaoaaGreatUuF
set_option linter.all false
set_option maxHeartbeats 8000000
namespace Go.Proofs.YtonkjfiffcfaoaaGreat
open Go.Vs
section
variable [Vs.Envs]
attribute [local irreducible] Vs.Fn
theorem aL5 {l:List Int}{i:Nat} (h:i<l.length):(E cU l).getD i []=[.v (.int .u8 (l.getD i 0))]:=by
 rw[aT h];simp[cU,List.getD,h]
structure Sr where
 p:Nat
 s:Int
def sB (l:List Int) (x:Sr):Blk:=.var [.sl 1 (E cU l),.v (.int .i64 x.p),.v (.int .u64 x.s)] false
def nxS (l:List Int) (x:Sr):Sr:=⟨x.p+1,IntKind.u64.wrap (IntKind.u64.wrap (IntKind.u64.wrap (x.s*6364136223846793005)+IntKind.u64.wrap (l.getD x.p 0))+1442695040888963407)⟩
def nxV (l:List Int) (x:Sr):Int:=if x.p+1≤l.length then l.getD x.p 0 else IntKind.i64.wrap (iH .and .u64 ((nxS l x).s.fdiv (2 ^ 40)) 255)
def pkV (l:List Int) (x:Sr) (n:Int):Int:=if n≤1 then 0 else if n>200 then(IntKind.i64.wrap (IntKind.i64.wrap (nxV l x*256)+nxV l (nxS l x))).tmod n else(nxV l x).tmod n
def pkS (l:List Int) (x:Sr) (n:Int):Sr:=if n≤1 then x else if n>200 then nxS l (nxS l x) else nxS l x
def byt (l:List Int):Prop:=l.length≤4000∧∀x,x∈l→0≤x∧x≤255
theorem aJD {l:List Int} (h:byt l) (i:Nat):0≤l.getD i 0∧l.getD i 0≤255:=by
 by_cases hi:i<l.length
 ·have e:l.getD i 0=l[i]:=by simp[List.getD,hi]
  rw[e];exact h.2 _ (List.getElem_mem hi)
 ·have e:l.getD i 0=0:=by simp[List.getD,List.getElem?_eq_none (Nat.le_of_not_lt hi)]
  omega
theorem aKU (a:Int):0≤iH .and .u64 a 255∧iH .and .u64 a 255≤255:=by
 unfold iH;simp only
 have h:(BitVec.ofInt IntKind.u64.bits a &&& BitVec.ofInt IntKind.u64.bits 255).toNat≤255:=by
  rw[BitVec.toNat_and];exact Nat.le_trans Nat.and_le_right (by decide)
 generalize(BitVec.ofInt IntKind.u64.bits a &&& BitVec.ofInt IntKind.u64.bits 255).toNat=m at h
 have e:IntKind.u64.wrap (m:Int)=m:=by
  simp only[IntKind.wrap,IntKind.bits,IntKind.signed,Bool.false_and,Bool.false_eq_true,if_false];omega
 rw[e];omega
theorem aIJ {l:List Int} (h:byt l) (x:Sr):0≤nxV l x∧nxV l x≤255:=by
 unfold nxV;split
 ·exact aJD h _
 ·have:=aKU ((nxS l x).s.fdiv (2 ^ 40));rw[aO (by omega) (by omega)];exact this
theorem dF {l:List Int} (h:byt l) (x:Sr) {n:Int} (hn:1≤n):0≤pkV l x n∧pkV l x n<n:=by
 have h1:=aIJ h x;have h2:=aIJ h (nxS l x);unfold pkV;split
 ·omega
 ·split
  ·rw[aO (n:=nxV l x*256) (by omega) (by omega),aO (by omega) (by omega)];exact⟨Int.tmod_nonneg _ (by omega),Int.tmod_lt_of_pos _ (by omega)⟩
  ·exact⟨Int.tmod_nonneg _ (by omega),Int.tmod_lt_of_pos _ (by omega)⟩
theorem bC (l:List Int) (x:Sr) (n:Int):(pkS l x n).p≤x.p+2:=by
 unfold pkS;split
 ·omega
 ·split<;>simp[nxS]<;>omega
theorem nxS_p (l:List Int) (x:Sr):(nxS l x).p=x.p+1:=rfl
theorem aGx {a:Nat} (h:a≤4000000):IntKind.i64.wrap ((a:Int)+1)=((a+1:Nat):Int):=by rw[aO (by omega) (by omega)];omega
end
section
variable [Vs.Envs]
attribute [local irreducible] Vs.Fn
def nx0:aD:=
 (.region [⟨some 2,.mv (.const (.int .i64 (0))),none⟩] [0] [])
def nx1:aD:=
 (.region [⟨some 3,.mv (.const (.int .i64 (0))),none⟩] [0,3] [])
def nx2:aD:=
 (.seq (.region [⟨some 4,.mv (.tmp 0),none⟩,
       ⟨some 5,.nilc (.tmp 4),none⟩,
       ⟨some 6,.fieldAddr 1 (.tmp 5),none⟩,
       ⟨some 7,.load false 1 (.tmp 6),none⟩,
       ⟨some 8,.mv (.tmp 0),none⟩,
       ⟨some 9,.nilc (.tmp 8),none⟩,
       ⟨some 10,.fieldAddr 0 (.tmp 9),none⟩,
       ⟨some 11,.load false 1 (.tmp 10),none⟩,
       ⟨some 12,.len (.tmp 11),none⟩,
       ⟨some 13,.bin .lss (.tmp 7) (.tmp 12),none⟩] [0,3,13] [4,6,7,5,8,9,10,11,12,13]) <|
    .cond (.tmp 13)
      (.region [⟨some 14,.mv (.tmp 0),none⟩,
        ⟨some 15,.nilc (.tmp 14),none⟩,
        ⟨some 16,.fieldAddr 0 (.tmp 15),none⟩,
        ⟨some 17,.load false 1 (.tmp 16),none⟩,
        ⟨some 18,.mv (.tmp 0),none⟩,
        ⟨some 19,.nilc (.tmp 18),none⟩,
        ⟨some 20,.fieldAddr 1 (.tmp 19),none⟩,
        ⟨some 21,.load false 1 (.tmp 20),none⟩,
        ⟨some 22,.idxSl 1 (.tmp 17) (.tmp 21),none⟩,
        ⟨some 23,.load false 1 (.tmp 22),none⟩,
        ⟨some 24,.conv .i64 (.tmp 23),none⟩,
        ⟨some 3,.mv (.tmp 24),none⟩] [0,3] [14,16,17,15,18,19,20,21,22,23,24])
      (.skip))
def nx3:aD:=
 (.region [⟨some 25,.mv (.tmp 0),none⟩,
      ⟨some 26,.nilc (.tmp 25),none⟩,
      ⟨some 27,.fieldAddr 1 (.tmp 26),none⟩,
      ⟨some 28,.load false 1 (.tmp 27),none⟩,
      ⟨some 29,.bin .add (.tmp 28) (.const (.int .i64 (1))),none⟩,
      ⟨some 30,.nilc (.tmp 25),none⟩,
      ⟨some 31,.fieldAddr 1 (.tmp 30),none⟩,
      ⟨none,.store 1 (.tmp 31) (.tmp 29),none⟩] [0,3] [])
def nx4:aD:=
 (.region [⟨some 32,.mv (.tmp 0),none⟩,
      ⟨some 33,.mv (.tmp 0),none⟩,
      ⟨some 34,.nilc (.tmp 33),none⟩,
      ⟨some 35,.fieldAddr 2 (.tmp 34),none⟩,
      ⟨some 36,.load false 1 (.tmp 35),none⟩,
      ⟨some 37,.bin .mul (.tmp 36) (.const (.int .u64 (6364136223846793005))),none⟩,
      ⟨some 38,.mv (.tmp 3),none⟩,
      ⟨some 39,.conv .u64 (.tmp 38),none⟩,
      ⟨some 40,.bin .add (.tmp 37) (.tmp 39),none⟩,
      ⟨some 41,.bin .add (.tmp 40) (.const (.int .u64 (1442695040888963407))),none⟩,
      ⟨some 42,.nilc (.tmp 32),none⟩,
      ⟨some 43,.fieldAddr 2 (.tmp 42),none⟩,
      ⟨none,.store 1 (.tmp 43) (.tmp 41),none⟩] [0,3] [])
def nx5:aD:=
 (.seq (.region [⟨some 44,.mv (.tmp 0),none⟩,
       ⟨some 45,.nilc (.tmp 44),none⟩,
       ⟨some 46,.fieldAddr 1 (.tmp 45),none⟩,
       ⟨some 47,.load false 1 (.tmp 46),none⟩,
       ⟨some 48,.mv (.tmp 0),none⟩,
       ⟨some 49,.nilc (.tmp 48),none⟩,
       ⟨some 50,.fieldAddr 0 (.tmp 49),none⟩,
       ⟨some 51,.load false 1 (.tmp 50),none⟩,
       ⟨some 52,.len (.tmp 51),none⟩,
       ⟨some 53,.bin .leq (.tmp 47) (.tmp 52),none⟩] [0,3,53] [44,46,47,45,48,49,50,51,52,53]) <|
    .cond (.tmp 53)
      (.seq (.region [⟨some 54,.mv (.tmp 3),none⟩,
         ⟨some 2,.mv (.tmp 54),none⟩] [2] []) <|
      .ret)
      (.skip))
def nx6:aD:=
 (.region [⟨some 55,.mv (.tmp 0),none⟩,
      ⟨some 56,.nilc (.tmp 55),none⟩,
      ⟨some 57,.fieldAddr 2 (.tmp 56),none⟩,
      ⟨some 58,.load false 1 (.tmp 57),none⟩,
      ⟨some 59,.bin .shr (.tmp 58) (.const (.int .u64 (40))),none⟩,
      ⟨some 60,.bin .and (.tmp 59) (.const (.int .u64 (255))),none⟩,
      ⟨some 61,.conv .i64 (.tmp 60),none⟩,
      ⟨some 2,.mv (.tmp 61),none⟩] [2] [])
theorem aLF:Cd.fC=aD.seq nx0 (aD.seq nx1 (aD.seq nx2 (aD.seq nx3 (aD.seq nx4 (aD.seq nx5 (aD.seq nx6 (aD.ret))))))):=rfl
def nS (l:List Int) (v:Int) (y:Sr):St:=⟨[(0,.ptr (.b 0) 0 0),(3,.v (.int .i64 v))],[(.b 0,sB l y)]⟩
theorem aLO (X:Ctx) (N:St→Prop) (E:lN→St→Prop) (l:List Int) (x:Sr) (h:N ⟨[(0,.ptr (.b 0) 0 0)],[(.b 0,sB l x)]⟩):wpc Tryz.prog X (iF Tryz.prog) nx0 N E ⟨ini 0 [.ptr (.b 0) 0 0],aAt 0 [sB l x]⟩:=by
 unfold sB at h;unfold nx0
 repeat' first|simp -dsimp only[go_sem,sB,List.set_cons_zero,List.set_cons_succ,List.length_cons,List.length_nil,List.flatMap_cons,List.flatMap_nil,bA,bN,aZ,sB,List.getD_cons_zero,List.append_nil,List.nil_append,List.cons_append]|apply Br.mk<;>intro h<;>try simp -dsimp only[h]|refine aC ?_|fail
 all_goals first|exact h|assumption
theorem aLN (X:Ctx) (N:St→Prop) (E:lN→St→Prop) (l:List Int) (x:Sr) (h:N (nS l 0 x)):wpc Tryz.prog X (iF Tryz.prog) nx1 N E ⟨[(0,.ptr (.b 0) 0 0)],[(.b 0,sB l x)]⟩:=by
 unfold nS sB at h;unfold nx1
 repeat' first|simp -dsimp only[go_sem,sB,nS,List.set_cons_zero,List.set_cons_succ,List.length_cons,List.length_nil,List.flatMap_cons,List.flatMap_nil,bA,bN,aZ,sB,List.getD_cons_zero,List.append_nil,List.nil_append,List.cons_append]|apply Br.mk<;>intro h<;>try simp -dsimp only[h]|refine aC ?_|fail
 all_goals first|exact h|assumption
theorem aLL (X:Ctx) (N:St→Prop) (E:lN→St→Prop) (l:List Int) (x:Sr) (hb:byt l) (hp:x.p≤4000) (hlt:x.p<l.length) (h:N (nS l (l.getD x.p 0) x)):wpc Tryz.prog X (iF Tryz.prog) nx2 N E (nS l 0 x):=by
 have w1:=aGx (a:=x.p) (by omega);have w0:((x.p:Int)).toNat=x.p:=by omega
 have hbb:=aJD hb x.p;have e1:decide ((x.p:Int)<((l.length:Nat):Int))=true:=by simp;omega
 have g1:=aL5 hlt;have wb:IntKind.i64.wrap (l.getD x.p 0)=l.getD x.p 0:=aO (by omega) (by omega);unfold nS sB at h;unfold nx2
 repeat' first|simp -dsimp only[go_sem,sB,nS,w1,w0,e1,aG,List.set_cons_zero,List.set_cons_succ,List.length_cons,List.length_nil,List.flatMap_cons,List.flatMap_nil,bA,bN,aZ,sB,List.getD_cons_zero,List.append_nil,List.nil_append,List.cons_append,g1,wb]|apply Br.mk<;>intro h<;>try simp -dsimp only[h]|refine aC ?_|fail
 all_goals first|exact h|assumption
theorem aLM (X:Ctx) (N:St→Prop) (E:lN→St→Prop) (l:List Int) (x:Sr) (hp:x.p≤4000) (hlt:¬x.p<l.length) (h:N ⟨[(0,.ptr (.b 0) 0 0),(3,.v (.int .i64 0)),(13,.v (.bool false))],[(.b 0,sB l x)]⟩):wpc Tryz.prog X (iF Tryz.prog) nx2 N E (nS l 0 x):=by
 have w1:=aGx (a:=x.p) (by omega);have w0:((x.p:Int)).toNat=x.p:=by omega
 have e1:decide ((x.p:Int)<((l.length:Nat):Int))=false:=by simp;omega
 unfold sB at h;unfold nx2
 repeat' first|simp -dsimp only[go_sem,sB,nS,w1,w0,e1,aG,List.set_cons_zero,List.set_cons_succ,List.length_cons,List.length_nil,List.flatMap_cons,List.flatMap_nil,bA,bN,aZ,sB,List.getD_cons_zero,List.append_nil,List.nil_append,List.cons_append]|apply Br.mk<;>intro h<;>try simp -dsimp only[h]|refine aC ?_|fail
 all_goals first|exact h|assumption
theorem aLJ (X:Ctx) (N:St→Prop) (E:lN→St→Prop) (l:List Int) (x:Sr) (v:Int) (hp:x.p≤4000) (h:N (nS l v ⟨x.p+1,x.s⟩)):wpc Tryz.prog X (iF Tryz.prog) nx3 N E (nS l v x):=by
 have w1:=aGx (a:=x.p) (by omega);unfold nS sB at h;unfold nx3
 repeat' first|simp -dsimp only[go_sem,sB,nS,w1,aG,List.set_cons_zero,List.set_cons_succ,List.length_cons,List.length_nil,List.flatMap_cons,List.flatMap_nil,bA,bN,aZ,sB,List.getD_cons_zero,List.append_nil,List.nil_append,List.cons_append]|apply Br.mk<;>intro h<;>try simp -dsimp only[h]|refine aC ?_|fail
 all_goals first|exact h|assumption
theorem aLK (X:Ctx) (N:St→Prop) (E:lN→St→Prop) (l:List Int) (x:Sr) (hp:x.p≤4000) (h:N (nS l 0 ⟨x.p+1,x.s⟩)):wpc Tryz.prog X (iF Tryz.prog) nx3 N E ⟨[(0,.ptr (.b 0) 0 0),(3,.v (.int .i64 0)),(13,.v (.bool false))],[(.b 0,sB l x)]⟩:=by
 have w1:=aGx (a:=x.p) (by omega);unfold nS sB at h;unfold nx3
 repeat' first|simp -dsimp only[go_sem,sB,nS,w1,aG,List.set_cons_zero,List.set_cons_succ,List.length_cons,List.length_nil,List.flatMap_cons,List.flatMap_nil,bA,bN,aZ,sB,List.getD_cons_zero,List.append_nil,List.nil_append,List.cons_append]|apply Br.mk<;>intro h<;>try simp -dsimp only[h]|refine aC ?_|fail
 all_goals first|exact h|assumption
theorem aIK (X:Ctx) (N:St→Prop) (E:lN→St→Prop) (l:List Int) (x:Sr) (v sd:Int) (hsd:IntKind.u64.wrap (IntKind.u64.wrap (IntKind.u64.wrap (x.s*6364136223846793005)+IntKind.u64.wrap v)+1442695040888963407)=sd) (h:N (nS l v ⟨x.p,sd⟩)):wpc Tryz.prog X (iF Tryz.prog) nx4 N E (nS l v x):=by
 unfold nS sB at h;unfold nx4
 repeat' first|simp -dsimp only[go_sem,sB,nS,hsd,List.set_cons_zero,List.set_cons_succ,List.length_cons,List.length_nil,List.flatMap_cons,List.flatMap_nil,bA,bN,aZ,sB,List.getD_cons_zero,List.append_nil,List.nil_append,List.cons_append]|apply Br.mk<;>intro h<;>try simp -dsimp only[h]|refine aC ?_|fail
 all_goals first|exact h|assumption
theorem aLH (X:Ctx) (N:St→Prop) (E:lN→St→Prop) (l:List Int) (x:Sr) (v:Int) (hlt:x.p≤l.length) (h:E .ret ⟨[(2,.v (.int .i64 v))],[(.b 0,sB l x)]⟩):wpc Tryz.prog X (iF Tryz.prog) nx5 N E (nS l v x):=by
 have e1:decide ((x.p:Int)≤((l.length:Nat):Int))=true:=by simp;omega
 unfold sB at h;unfold nx5
 repeat' first|simp -dsimp only[go_sem,sB,nS,e1,aG,List.set_cons_zero,List.set_cons_succ,List.length_cons,List.length_nil,List.flatMap_cons,List.flatMap_nil,bA,bN,aZ,sB,List.getD_cons_zero,List.append_nil,List.nil_append,List.cons_append]|apply Br.mk<;>intro h<;>try simp -dsimp only[h]|refine aC ?_|fail
 all_goals first|exact h|assumption
theorem aLI (X:Ctx) (N:St→Prop) (E:lN→St→Prop) (l:List Int) (x:Sr) (v:Int) (hlt:¬x.p≤l.length) (h:N ⟨[(0,.ptr (.b 0) 0 0),(3,.v (.int .i64 v)),(53,.v (.bool false))],[(.b 0,sB l x)]⟩):wpc Tryz.prog X (iF Tryz.prog) nx5 N E (nS l v x):=by
 have e1:decide ((x.p:Int)≤((l.length:Nat):Int))=false:=by simp;omega
 unfold sB at h;unfold nx5
 repeat' first|simp -dsimp only[go_sem,sB,nS,e1,aG,List.set_cons_zero,List.set_cons_succ,List.length_cons,List.length_nil,List.flatMap_cons,List.flatMap_nil,bA,bN,aZ,sB,List.getD_cons_zero,List.append_nil,List.nil_append,List.cons_append]|apply Br.mk<;>intro h<;>try simp -dsimp only[h]|refine aC ?_|fail
 all_goals first|exact h|assumption
theorem aLG (X:Ctx) (N:St→Prop) (E:lN→St→Prop) (l:List Int) (x:Sr) (v tv:Int) (htv:IntKind.i64.wrap (iH .and .u64 (x.s.fdiv (2 ^ 40)) 255)=tv) (h:N ⟨[(2,.v (.int .i64 tv))],[(.b 0,sB l x)]⟩):wpc Tryz.prog X (iF Tryz.prog) nx6 N E ⟨[(0,.ptr (.b 0) 0 0),(3,.v (.int .i64 v)),(53,.v (.bool false))],[(.b 0,sB l x)]⟩:=by
 have e40:(min 40 64:Nat)=40:=rfl;unfold sB at h;unfold nx6
 repeat' first|simp -dsimp only[go_sem,sB,nS,e40,htv,List.set_cons_zero,List.set_cons_succ,List.length_cons,List.length_nil,List.flatMap_cons,List.flatMap_nil,bA,bN,aZ,sB,List.getD_cons_zero,List.append_nil,List.nil_append,List.cons_append]|apply Br.mk<;>intro h<;>try simp -dsimp only[h]|refine aC ?_|fail
 all_goals first|exact h|assumption
attribute [local irreducible] nx0 nx1 nx2 nx3 nx4 nx5 nx6
theorem next (l:List Int) (x:Sr) (hl:byt l) (hp:x.p≤4000):Vs.Fn Tryz.prog F.fC [sB l x] [.ptr (.b 0) 0 0] (.v (.int .i64 (nxV l x))) [some (sB l (nxS l x))]:=by
 refine fn1 Cd._s_l00Src__next_k [.b 0] [sB l (nxS l x)] fun X=>?_;rw[aLF];refine aLO X _ _ l x (aLN X _ _ l x ?_);by_cases hlt:x.p<l.length
 ·have hv:nxV l x=l.getD x.p 0:=by unfold nxV;rw[if_pos (by omega)]
  rw[hv];refine aLL X _ _ l x hl hp hlt (aLJ X _ _ l x _ hp (aIK X _ _ l ⟨x.p+1,x.s⟩ _ _ rfl (aLH X _ _ l _ _ (by dsimp only;omega) ?_)));exact⟨_,_,rfl,rfl⟩
 ·have g0:l.getD x.p 0=0:=by simp[List.getD,List.getElem?_eq_none (Nat.le_of_not_lt hlt)]
  have hS:nxS l x=⟨x.p+1,IntKind.u64.wrap (IntKind.u64.wrap (IntKind.u64.wrap (x.s*6364136223846793005)+IntKind.u64.wrap 0)+1442695040888963407)⟩:=by unfold nxS;rw[g0]
  have hv:nxV l x=IntKind.i64.wrap (iH .and .u64 ((nxS l x).s.fdiv (2 ^ 40)) 255):=by unfold nxV;rw[if_neg (by omega)]
  rw[hv,hS];refine aLM X _ _ l x hp hlt (aLK X _ _ l x hp (aIK X _ _ l ⟨x.p+1,x.s⟩ _ _ rfl (aLI X _ _ l _ _ (by dsimp only;omega) (aLG X _ _ l _ _ _ rfl ?_))));exact⟨_,_,rfl,rfl⟩
end
section
variable [Vs.Envs]
attribute [local irreducible] Vs.Fn
attribute [local irreducible] nxV nxS
attribute [local go_sem] List.set_cons_zero List.set_cons_succ List.length_cons List.length_nil List.flatMap_cons List.flatMap_nil bA bN aZ List.getD_cons_zero List.append_nil List.nil_append List.cons_append in
theorem pick (l:List Int) (x:Sr) (hl:byt l) (n:Int) (hp:x.p≤3990):Vs.Fn Tryz.prog F.aI [sB l x] [.ptr (.b 0) 0 0,.v (.int .i64 n)] (.v (.int .i64 (pkV l x n))) [some (sB l (pkS l x n))]:=by
 have hq:(nxS l x).p=x.p+1:=nxS_p l x;have N1:=next l x hl (by omega)
 have N2:=next l (nxS l x) hl (by omega)
 by_cases h1:n≤1
 ·have e1:decide (n≤1)=true:=by simp[h1]
  have hv:pkV l x n=0:=by simp[pkV,h1]
  have hs:pkS l x n=x:=by simp[pkS,h1]
  rw[hv,hs];refine fn1 Cd._s_l00Src__pick_k [.b 0] [sB l x] fun X=>?_;unfold Cd.aI;simp -dsimp only[go_sem,e1,sB];exact⟨_,_,rfl,rfl⟩
 ·have e1:decide (n≤1)=false:=by simp[h1]
  have h0:n≠0:=by omega
  by_cases h2:n>200
  ·have e2:decide (n>200)=true:=by simp[h2]
   have hv:pkV l x n=(IntKind.i64.wrap (IntKind.i64.wrap (nxV l x*256)+nxV l (nxS l x))).tmod n:=by simp[pkV,h1,h2]
   have hs:pkS l x n=nxS l (nxS l x):=by simp[pkS,h1,h2]
   rw[hv,hs];refine fn1 Cd._s_l00Src__pick_k [.b 0] [sB l (nxS l (nxS l x))] fun X=>?_;unfold Cd.aI
   repeat' first|simp -dsimp only[go_sem,e1,e2,sB]|apply Br.mk<;>intro h<;>try simp -dsimp only[h]|refine RgK.mk rfl ?_|refine aA.bor (by first|exact N1|exact N2) rfl ?_|refine And.intro (by first|rfl|omega|decide|exact⟨rfl,h0⟩|(refine⟨?_,?_⟩<;>(first|rfl|omega|decide|exact⟨rfl,h0⟩))|(refine⟨?_,?_,?_⟩<;>(first|rfl|omega|decide|exact⟨rfl,h0⟩))|(refine⟨?_,?_,?_,?_⟩<;>(first|rfl|omega|decide|exact⟨rfl,h0⟩))) ?_|fail
   all_goals exact⟨_,_,rfl,rfl⟩
  ·have e2:decide (n>200)=false:=by simp;omega
   have hv:pkV l x n=(nxV l x).tmod n:=by simp[pkV,h1,h2]
   have hs:pkS l x n=nxS l x:=by simp[pkS,h1,h2]
   rw[hv,hs];refine fn1 Cd._s_l00Src__pick_k [.b 0] [sB l (nxS l x)] fun X=>?_;unfold Cd.aI
   repeat' first|simp -dsimp only[go_sem,e1,e2,sB]|apply Br.mk<;>intro h<;>try simp -dsimp only[h]|refine RgK.mk rfl ?_|refine aA.bor (by first|exact N1|exact N2) rfl ?_|refine And.intro (by first|rfl|omega|decide|exact⟨rfl,h0⟩|(refine⟨?_,?_⟩<;>(first|rfl|omega|decide|exact⟨rfl,h0⟩))|(refine⟨?_,?_,?_⟩<;>(first|rfl|omega|decide|exact⟨rfl,h0⟩))|(refine⟨?_,?_,?_,?_⟩<;>(first|rfl|omega|decide|exact⟨rfl,h0⟩))) ?_|fail
   all_goals exact⟨_,_,rfl,rfl⟩
attribute [local irreducible] pkV pkS
theorem one (l:List Int) (x:Sr) (hl:byt l) (n:Int) (hp:x.p≤3990):Vs.Fn Tryz.prog F.bI [sB l x] [.ptr (.b 0) 0 0,.v (.int .i64 n)] (.v (.bool (pkV l x n==0))) [some (sB l (pkS l x n))]:=by
 have N1:=pick l x hl n hp;refine fn1 Cd._s_l00Src__one_k [.b 0] [sB l (pkS l x n)] fun X=>?_;unfold Cd.bI
 repeat' first|simp -dsimp only[go_sem,List.set_cons_zero,List.set_cons_succ,List.length_cons,List.length_nil,List.flatMap_cons,List.flatMap_nil,bA,bN,aZ,sB,List.getD_cons_zero,List.append_nil,List.nil_append,List.cons_append]|apply Br.mk<;>intro h<;>try simp -dsimp only[h]|refine aA.bor (by first|exact N1) rfl ?_|refine aC ?_|fail
 all_goals exact⟨_,_,rfl,rfl⟩
theorem among (l:List Int) (x:Sr) (hl:byt l) (m:List Int) (hp:x.p≤3990) (h0:m≠[]) (hm:m.length≤1000):Vs.Fn Tryz.prog F.bM [sB l x] [.ptr (.b 0) 0 0,.sl 1 (E cI m)] (.v (.int .i64 (m.getD (pkV l x (m.length:Nat)).toNat 0))) [some (sB l (pkS l x (m.length:Nat)))]:=by
 have N1:=pick l x hl (m.length:Nat) hp;have hpos:0<m.length:=List.length_pos_iff.2 h0;have hb:=dF hl x (n:=(m.length:Nat)) (by omega)
 have g1:(E cI m).getD (pkV l x (m.length:Nat)).toNat []=[.v (.int .i64 (m.getD (pkV l x (m.length:Nat)).toNat 0))]:=by
  have hlt:(pkV l x (m.length:Nat)).toNat<m.length:=by omega
  rw[aT hlt];simp[cI,List.getD,hlt]
 generalize pkV l x (m.length:Nat)=v at *
 refine fn1 Cd._s_l00Src__among_k [.b 0] [sB l (pkS l x (m.length:Nat))] fun X=>?_;unfold Cd.bM
 repeat' first|simp -dsimp only[go_sem,aG,g1,List.set_cons_zero,List.set_cons_succ,List.length_cons,List.length_nil,List.flatMap_cons,List.flatMap_nil,bA,bN,aZ,sB,List.getD_cons_zero,List.append_nil,List.nil_append,List.cons_append]|apply Br.mk<;>intro h<;>try simp -dsimp only[h]|refine aA.bor (by first|exact N1) rfl ?_|refine aC ?_|fail
 all_goals exact⟨_,_,rfl,rfl⟩
end
section
variable [Vs.Envs]
attribute [local irreducible] Vs.Fn
end
section
variable [Vs.Envs]
attribute [local irreducible] Vs.Fn
end
section
variable [Vs.Envs]
attribute [local irreducible] Vs.Fn
end
section
variable [Vs.Envs]
attribute [local irreducible] Vs.Fn
def yP (i:Nat):Int:=((4*2 ^ i:Nat):Int)
theorem shl4 {i:Nat} (hi:i<10):IntKind.i64.wrap (4*2 ^ (min i IntKind.i64.bits))=yP i:=by
 have:i=0∨i=1∨i=2∨i=3∨i=4∨i=5∨i=6∨i=7∨i=8∨i=9:=by omega
 rcases this with rfl|rfl|rfl|rfl|rfl|rfl|rfl|rfl|rfl|rfl<;>decide
theorem u64I {i:Nat} (hi:i<10):IntKind.u64.wrap (i:Int)=(i:Int):=by
 have:i=0∨i=1∨i=2∨i=3∨i=4∨i=5∨i=6∨i=7∨i=8∨i=9:=by omega
 rcases this with rfl|rfl|rfl|rfl|rfl|rfl|rfl|rfl|rfl|rfl<;>decide
theorem aLk (i:Nat) (hi:i<10):Fz F.eX [.v (.int .i64 (i:Int))] (.v (.int .i64 (yP i))):=by
 have e1:((i:Int)==12)=false:=beq_eq_false_iff_ne.2 (by omega);have e2:((i:Int)==11)=false:=beq_eq_false_iff_ne.2 (by omega);have e3:inB i 0 9=true:=by simp[inB];omega
 have e4:=shl4 hi;have e5:=u64I hi;have e6:(0:Int)≤(i:Int):=by omega
 refine fn0 Cd.i_bitOf_k fun X=>?_
 repeat' first|simp -dsimp only[go_sem,e1,e2,e3,e4,e5,e6]|apply Br.mk<;>intro h<;>try simp -dsimp only[h]|refine aA.c (by first|exact inside _ _ _) ?_|refine aC ?_|fail
 all_goals first|(simp_all;done)|(simp_all;exact shl4 hi)
theorem aDX (i:Nat) (hi:i<10):Fz F.jB [.v (.int .i64 (i:Int))] (.v (.int .i64 (yP i))):=by
 have e1:((i:Int)==12)=false:=beq_eq_false_iff_ne.2 (by omega);have e2:((i:Int)==11)=false:=beq_eq_false_iff_ne.2 (by omega);have e3:inB i 0 9=true:=by simp[inB];omega
 have e4:=shl4 hi;have e5:=u64I hi;have e6:(0:Int)≤(i:Int):=by omega
 refine fn0 Cd.s_l02Bit_k fun X=>?_
 repeat' first|simp -dsimp only[go_sem,e1,e2,e3,e4,e5,e6]|apply Br.mk<;>intro h<;>try simp -dsimp only[h]|refine aA.c (by first|exact tT _ _ _) ?_|refine aC ?_|fail
 all_goals first|(simp_all;done)|(simp_all;exact shl4 hi)
theorem aG3  : Fz F.eX [.v (.int .i64 11)] (.v (.int .i64 2)):=by
 refine fn0 Cd.i_bitOf_k fun X=>?_
 repeat' first|simp -dsimp only[go_sem]|apply Br.mk<;>intro h<;>try simp -dsimp only[h]|refine aA.c (by first|exact inside _ _ _) ?_|refine aC ?_|fail
 all_goals(simp_all)
def dgF (m:Int):Nat→Nat→Int
 |0,_=>-1
 |k+1,i=>if yP i=m then i else dgF m k (i+1)
def dg (m:Int):Int:=dgF m 10 0
theorem aE6 (m:Int) {i:Nat} (hi:i<10):dgF m (10-i) i=if yP i=m then(i:Int) else dgF m (10-(i+1)) (i+1):=by
 rw[show 10-i=(10-(i+1))+1 by omega,dgF]
theorem aBM (m:Int):Fz F.uC [.v (.int .i64 m)] (.v (.int .i64 (dg m))):=by
 refine fn0 Cd.i_digitOf_k fun X=>?_;simp -dsimp only[go_sem];refine aN.at dM (X:={zz:Nat×(Unit) // zz.1≤10∧dgF m (10-zz.1) zz.1=dg m}) (fun zz=>[(4,.v (.int .i64 zz.1.1))]) (fun zz=>[]) (fun zz=>10-zz.1.1) ⟨(0,()),by omega,rfl⟩ ?_ ?_
 ·exact le0
 ·rintro⟨⟨i,a⟩,hi,hg⟩;dsimp only at hi hg;simp -dsimp only[go_sem];refine Br.mk (fun hc=>?_) fun hc=>?_
  ·have hlt:i<10:=Dq;have hw:=aH hlt (by omega);rw[aE6 m hlt] at hg;by_cases he:yP i=m
   ·have hb:(yP i==m)=true:=beq_iff_eq.2 (by simp[he]);rw[if_pos he] at hg
    repeat' first|simp -dsimp only[go_sem,hw,hb]|apply Br.mk<;>intro h<;>try simp -dsimp only[h]|refine aA.c (by first|exact aLk i hlt) ?_|refine aC ?_|fail
    all_goals simp[hg]
   ·have hb:(yP i==m)=false:=beq_eq_false_iff_ne.2 (fun e=>he (by simp[e]));rw[if_neg he] at hg
    repeat' first|simp -dsimp only[go_sem,hw,hb]|apply Br.mk<;>intro h<;>try simp -dsimp only[h]|refine aA.c (by first|exact aLk i hlt) ?_|refine aC ?_|fail
    all_goals(exact nx (i+1,()) hg)
  ·have hge:i=10:=by
    have:¬i<10:=Dq;omega
   subst hge;simp -dsimp only[go_sem];have:dg m=-1:=by rw[←hg];rfl
   simp[this]
theorem lD (m:Int):Fz F.qU [.v (.int .i64 m)] (.v (.int .i64 (dg m))):=by
 refine fn0 Cd.s_l03Digit_k fun X=>?_;simp -dsimp only[go_sem];refine aN.at dM (X:={zz:Nat×(Unit) // zz.1≤10∧dgF m (10-zz.1) zz.1=dg m}) (fun zz=>[(3,.v (.int .i64 zz.1.1))]) (fun zz=>[]) (fun zz=>10-zz.1.1) ⟨(0,()),by omega,rfl⟩ ?_ ?_
 ·exact le0
 ·rintro⟨⟨i,a⟩,hi,hg⟩;dsimp only at hi hg;simp -dsimp only[go_sem];refine Br.mk (fun hc=>?_) fun hc=>?_
  ·have hlt:i<10:=Dq;have hw:=aH hlt (by omega);rw[aE6 m hlt] at hg;by_cases he:yP i=m
   ·have hb:(m==yP i)=true:=beq_iff_eq.2 (by simp[he]);rw[if_pos he] at hg
    repeat' first|simp -dsimp only[go_sem,hw,hb]|apply Br.mk<;>intro h<;>try simp -dsimp only[h]|refine aA.c (by first|exact aDX i hlt) ?_|refine aC ?_|fail
    all_goals simp[hg]
   ·have hb:(m==yP i)=false:=beq_eq_false_iff_ne.2 (fun e=>he (by simp[e]));rw[if_neg he] at hg
    repeat' first|simp -dsimp only[go_sem,hw,hb]|apply Br.mk<;>intro h<;>try simp -dsimp only[h]|refine aA.c (by first|exact aDX i hlt) ?_|refine aC ?_|fail
    all_goals(exact nx (i+1,()) hg)
  ·have hge:i=10:=by
    have:¬i<10:=Dq;omega
   subst hge;simp -dsimp only[go_sem];have:dg m=-1:=by rw[←hg];rfl
   simp[this]
theorem aA5 (l:List Int) (hl:l.length≤1048576):Vs.Fn Tryz.prog F.kQ [] [.sl 1 (E cI l)] (.loc (.b 0) 0 l.length) [some (.arr 1 (E cI l) false)]:=by
 refine fn1 Cd.i_copyInts_k [.t 5 0] [.arr 1 (E cI l) false] fun X=>?_;unfold Cd.kQ;simp -dsimp only[go_sem,List.replicate_succ,List.replicate_zero,List.flatten_cons,List.flatten_nil];exact⟨by omega,⟨by omega,by omega⟩,⟨_,_,rfl,rfl⟩⟩
theorem aLn {α:Type}{c:α→List AV} (l:List α) (a b:Nat):E c ((l.take a).drop b)=((E c l).take a).drop b:=by simp[E,List.map_take,List.map_drop]
theorem part (c:List Int) (fr to:Int) (h0:0≤fr) (h1:fr≤to) (h2:to≤c.length):Fz F.nW [.ro (cC c),.agg [.v (.int .i64 fr),.v (.int .i64 to)]] (.sl 1 (E cI ((c.take to.toNat).drop fr.toNat))):=by
 refine fn0 Cd.s_l02Part_k fun X=>?_
 repeat' first|simp -dsimp only[go_sem,cC]|apply Br.mk<;>intro h<;>try simp -dsimp only[h]|refine aC ?_|fail
 all_goals exact aS (by rw[aLn])
end
section
variable [Vs.Envs]
attribute [local irreducible] Vs.Fn
def pd:Nat→Nat→List Int
 |0,_=>[]
 |w+1,k=>pd w (k/10)++[yP (k%10)]
theorem aAP:∀w k,(pd w k).length=w
 |0,_=>rfl
 |w+1,k=>by simp[pd,aAP w]
def aDM (l:List Int):List Int:=l.set (l.length-1) (iH .or .i64 (l.getD (l.length-1) 0) 2)
def ptN (w:Nat) (n:Int):List Int:=if n<0 then aDM (pd w n.natAbs) else pd w n.natAbs
theorem aFC (w:Nat) (n:Int):(ptN w n).length=w:=by unfold ptN aDM;split<;>simp[aAP]
theorem aEt (j:Nat) (done:List Int) (x:Int):(E cI (List.replicate (j+1) 0++done)).set j [.v (.int .i64 x)]=E cI (List.replicate j 0++x::done):=by
 have e:(List.replicate (j+1) (0:Int)++done).set j x=List.replicate j 0++x::done:=by
  rw[List.replicate_succ',List.append_assoc,List.set_append_right _ _ (by simp)];simp
 rw[←e];simp[E,cI,List.map_set]
theorem aAg (w:Nat):List.replicate w [AV.v (.int .i64 0)]=E cI (List.replicate w 0++[]):=by simp[E,cI]
theorem aEu (j:Nat) (done:List Int):(E cI (List.replicate (j+1) 0++done)).getD j []=[.v (.int .i64 0)]:=by
 rw[aT (by simp;omega)];simp[List.getElem_append,cI]
theorem aGV (n a:Nat):n/10 ^ a/10=n/10 ^ (a+1):=by rw[Nat.div_div_eq_div_mul,Nat.pow_succ]
theorem aEA {l:List Int} (h:l.length≠0):(E cI l).set (l.length-1) [.v (.int .i64 (iH .or .i64 (l.getD (l.length-1) 0) 2))]=E cI (aDM l):=by
 unfold aDM;simp[E,cI,List.map_set]
theorem aEL {l:List Int} (h:l.length≠0):(E cI l).getD (l.length-1) []=[.v (.int .i64 (l.getD (l.length-1) 0))]:=by
 have hl:l.length-1<l.length:=by omega
 rw[dI hl];simp[List.getD,hl]
theorem aIX (n:Int) (w:Nat) (h0:-1000000000000≤n) (h1:n≤1000000000000) (hw0:0<w) (hw20:w≤20):Fz F.tH [.v (.int .i64 n),.v (.int .i64 w)] (.tup [.sl 1 (E cI (ptN w n)),.v (.bool (((n.natAbs/10 ^ w:Nat):Int)==0))]):=by
 rcases Int.lt_or_le n 0 with hneg|hneg
 ·have hd0:decide (n<0)=true:=decide_eq_true (by omega);have hpt:ptN w n=aDM (pd w n.natAbs):=by unfold ptN;rw[if_pos (by omega)]
  have hn1:IntKind.i64.wrap (0-n)=(n.natAbs:Int):=by rw[aO (by omega) (by omega)];omega
  have hn2:IntKind.i64.wrap (-n)=(n.natAbs:Int):=by rw[aO (by omega) (by omega)];omega
  have hwm:IntKind.i64.wrap ((w:Int)-1)=(w:Int)-1:=aO (by omega) (by omega);refine fn0 Cd.s_l03Put_k fun X=>?_;simp -dsimp only[go_sem,hd0,aAg]
  repeat' first|simp -dsimp only[go_sem,hd0,aAg,hwm,Int.toNat_natCast,hn1,hn2]|apply Br.mk<;>intro h<;>try simp -dsimp only[h]|refine aC ?_|fail
  refine aN.at dM (X:={zz:Nat×Nat×List Int // zz.1≤w∧zz.2.2.length=w-zz.1∧zz.2.1=n.natAbs/10 ^ (w-zz.1)∧pd zz.1 zz.2.1++zz.2.2=pd w n.natAbs}) (fun zz=>[(7,.v (.int .i64 (zz.1.2.1:Nat))),(8,.v (.int .i64 ((zz.1.1:Int)-1)))]) (fun zz=>[(.t 10 0,.arr 1 (E cI (List.replicate zz.1.1 0++zz.1.2.2)) false)]) (fun zz=>zz.1.1) ⟨(w,n.natAbs,[]),Nat.le_refl _,by simp,by simp,by simp⟩ ?_ ?_
  ·simp[Vs.LeL,Vs.look,Vs.aB,Vs.aP,Vs.aK,Vs.hset,Vs.aL,E]
   first|done|omega
  ·rintro⟨⟨j1,k,done⟩,hj,hd,hk,hg⟩;dsimp only at hj hd hk hg;simp -dsimp only[go_sem,hd0];refine Br.mk (fun hc=>?_) fun hc=>?_
   ·obtain⟨j,rfl⟩:∃j,j1=j+1:=⟨j1-1,by simp at hc;omega⟩;have e1:(((j+1:Nat):Int)-1)=(j:Int):=by omega
    have hwj:IntKind.i64.wrap ((j:Int)-1)=(j:Int)-1:=aO (by omega) (by omega);have hkb:k≤1000000000000:=by rw[hk];exact Nat.le_trans (Nat.div_le_self _ _) (by omega)
    have hkd:k/10=n.natAbs/10 ^ (w-j):=by rw[hk,aGV,show w-(j+1)+1=w-j by omega]
    have q1:((k:Int)).tmod 10=((k%10:Nat):Int):=by rw[Int.tmod_eq_emod_of_nonneg (by omega)];omega
    have q2:IntKind.i64.wrap (((k:Int)).tdiv 10)=((k/10:Nat):Int):=by rw[Int.tdiv_eq_ediv_of_nonneg (by omega),aO (by omega) (by omega)];omega
    have hgr:=aEu j done;have hgs:=aEt j done (yP (k%10));rw[pd,List.append_assoc] at hg
    repeat' first|simp -dsimp only[go_sem,e1,hgr,hgs,hwj,q1,q2,aG,List.length_append,List.length_replicate,Int.toNat_natCast]|apply Br.mk<;>intro h<;>try simp -dsimp only[h]|refine aA.c (by first|exact aDX (k%10) (by omega)) ?_|refine aC ?_|fail
    all_goals(exact⟨⟨(j,k/10,yP (k%10)::done),by omega,by simp only[List.length_cons];omega,hkd,hg⟩,by simp[Vs.LeL,Vs.look,Vs.aB,Vs.aP,Vs.aK,Vs.hset,Vs.aL],by simp only;omega⟩)
   ·have hz:j1=0:=by simp at hc;omega
    subst hz;rw[Nat.sub_zero] at hk;have hdone:done=pd w n.natAbs:=by simpa[pd] using hg
    subst hdone;have hlen:=aAP w n.natAbs;have hne:(pd w n.natAbs).length≠0:=by omega
    have hnr:=aEA hne;have hlg:=aEL hne;rw[hlen] at hnr hlg;have hw1:IntKind.i64.wrap ((w:Int)-1)=((w-1:Nat):Int):=by rw[aO (by omega) (by omega)];omega
    have htk:List.take w (E cI (aDM (pd w n.natAbs)))=E cI (aDM (pd w n.natAbs)):=List.take_of_length_le (by simp[E,aDM,aAP]);simp -dsimp only[go_sem,hd0,hnr,hlg,hw1,hlen,aG,Int.toNat_natCast,List.replicate_zero,List.nil_append,List.length_set];exact⟨⟨⟨by omega,by omega⟩,⟨by omega,by omega⟩,[.t 10 0],[],by rw[htk,hpt,hk],rfl⟩,fun h=>h rfl⟩
 ·have hd0:decide (n<0)=false:=decide_eq_false (by omega);have hpt:ptN w n=pd w n.natAbs:=by unfold ptN;rw[if_neg (by omega)]
  have hn1:n=(n.natAbs:Int):=by omega
  have hwm:IntKind.i64.wrap ((w:Int)-1)=(w:Int)-1:=aO (by omega) (by omega);refine fn0 Cd.s_l03Put_k fun X=>?_;simp -dsimp only[go_sem,hd0,aAg]
  repeat' first|simp -dsimp only[go_sem,hd0,aAg,hwm,Int.toNat_natCast]|apply Br.mk<;>intro h<;>try simp -dsimp only[h]|refine aC ?_|fail
  refine aN.at dM (X:={zz:Nat×Nat×List Int // zz.1≤w∧zz.2.2.length=w-zz.1∧zz.2.1=n.natAbs/10 ^ (w-zz.1)∧pd zz.1 zz.2.1++zz.2.2=pd w n.natAbs}) (fun zz=>[(7,.v (.int .i64 (zz.1.2.1:Nat))),(8,.v (.int .i64 ((zz.1.1:Int)-1)))]) (fun zz=>[(.t 10 0,.arr 1 (E cI (List.replicate zz.1.1 0++zz.1.2.2)) false)]) (fun zz=>zz.1.1) ⟨(w,n.natAbs,[]),Nat.le_refl _,by simp,by simp,by simp⟩ ?_ ?_
  ·simp[Vs.LeL,Vs.look,Vs.aB,Vs.aP,Vs.aK,Vs.hset,Vs.aL,E]
   first|done|omega
  ·rintro⟨⟨j1,k,done⟩,hj,hd,hk,hg⟩;dsimp only at hj hd hk hg;simp -dsimp only[go_sem,hd0];refine Br.mk (fun hc=>?_) fun hc=>?_
   ·obtain⟨j,rfl⟩:∃j,j1=j+1:=⟨j1-1,by simp at hc;omega⟩;have e1:(((j+1:Nat):Int)-1)=(j:Int):=by omega
    have hwj:IntKind.i64.wrap ((j:Int)-1)=(j:Int)-1:=aO (by omega) (by omega);have hkb:k≤1000000000000:=by rw[hk];exact Nat.le_trans (Nat.div_le_self _ _) (by omega)
    have hkd:k/10=n.natAbs/10 ^ (w-j):=by rw[hk,aGV,show w-(j+1)+1=w-j by omega]
    have q1:((k:Int)).tmod 10=((k%10:Nat):Int):=by rw[Int.tmod_eq_emod_of_nonneg (by omega)];omega
    have q2:IntKind.i64.wrap (((k:Int)).tdiv 10)=((k/10:Nat):Int):=by rw[Int.tdiv_eq_ediv_of_nonneg (by omega),aO (by omega) (by omega)];omega
    have hgr:=aEu j done;have hgs:=aEt j done (yP (k%10));rw[pd,List.append_assoc] at hg
    repeat' first|simp -dsimp only[go_sem,e1,hgr,hgs,hwj,q1,q2,aG,List.length_append,List.length_replicate,Int.toNat_natCast]|apply Br.mk<;>intro h<;>try simp -dsimp only[h]|refine aA.c (by first|exact aDX (k%10) (by omega)) ?_|refine aC ?_|fail
    all_goals(exact⟨⟨(j,k/10,yP (k%10)::done),by omega,by simp only[List.length_cons];omega,hkd,hg⟩,by simp[Vs.LeL,Vs.look,Vs.aB,Vs.aP,Vs.aK,Vs.hset,Vs.aL],by simp only;omega⟩)
   ·have hz:j1=0:=by simp at hc;omega
    subst hz;rw[Nat.sub_zero] at hk;have hdone:done=pd w n.natAbs:=by simpa[pd] using hg
    subst hdone;have hlen:=aAP w n.natAbs;have hne:(pd w n.natAbs).length≠0:=by omega
    have hnr:=aEA hne;have hlg:=aEL hne;rw[hlen] at hnr hlg;have hw1:IntKind.i64.wrap ((w:Int)-1)=((w-1:Nat):Int):=by rw[aO (by omega) (by omega)];omega
    have htk:List.take w (E cI (pd w n.natAbs))=E cI (pd w n.natAbs):=List.take_of_length_le (by simp[E,aDM,aAP]);simp -dsimp only[go_sem,hd0,hnr,hlg,hw1,hlen,aG,Int.toNat_natCast,List.replicate_zero,List.nil_append,List.length_set];exact⟨⟨[.t 10 0],[],by rw[htk,hpt,hk],rfl⟩,fun h=>h rfl⟩
end
section
variable [Vs.Envs]
attribute [local irreducible] Vs.Fn nxV nxS pkV pkS ptN
def uM (b:ByteArray):List Int:=b.data.toList.map fun x=>l03 x.toNat
theorem aFa (b:ByteArray):(uM b).length=b.size:=by
 show(b.data.toList.map _).length=b.data.size
 rw[List.length_map,Array.length_toList]
theorem aGX {b:ByteArray}{i:Nat} (h:i<b.size):l03 ((b.data.toList.getD i 0).toNat:Nat)=(uM b)[i]'(by rw[aFa];exact h):=by
 have h':i<b.data.toList.length:=by rw[Array.length_toList];exact h
 unfold uM;rw[List.getElem_map,List.getD_eq_getElem?_getD,List.getElem?_eq_getElem h'];rfl
def gvC (i:Nat):AV:=if i=0 then .v (.slice none 0 0) else .loc (.t 19 0) 0 i
def ghC (b:ByteArray) (i:Nat):List (Vs.Name×Blk):=if i=0 then[] else[(.t 19 0,.arr 1 (E cI ((uM b).take i)) false)]
attribute [local go_sem] Int.reduceBEq Int.reduceBNe cC aG List.replicate_succ List.replicate_zero List.flatten_cons List.flatten_nil List.cons_append List.nil_append List.set_cons_zero List.set_cons_succ List.length_cons List.length_nil List.length_set List.mem_singleton List.mem_cons List.not_mem_nil or_false false_or Vs.Name.t.injEq List.getD_cons_zero List.getD_cons_succ in
theorem aIZ (t:ByteArray) (h0:0<t.size) (h1:t.size≤20):Vs.Fn Tryz.prog F.nV [] [.v (.string t)] (.agg [.loc (.b 0) 0 t.size]) [some (.arr 1 (E cI (uM t)) false)]:=by
 have hcl:=aFa t;refine fn1 Cd.s_l03Card_k [.t 19 0] [.arr 1 (E cI (uM t)) false] fun X=>?_;unfold Cd.nV
 repeat' first|simp -dsimp only[go_sem]|apply Br.mk<;>intro h<;>try simp -dsimp only[h]|refine aC ?_|fail
 refine aN.intro dM (X:={i:Nat // i≤t.size}) (fun i=>⟨[(0,.v (.string t)),(2,.ptr (.t 2 0) 0 0),(3,.ptr (.t 3 0) 0 0),(4,.v (.int .i64 (i.1:Nat)))],(.t 3 0,.var [gvC i.1] false)::(.t 2 0,.var [.v (.slice none 0 0)] false)::ghC t i.1⟩) (fun i=>t.size-i.1) ⟨0,by omega⟩ ?_ ?_
 ·simp[Vs.LeL,Vs.look,Vs.aB,Vs.aP,Vs.aK,Vs.hset,Vs.aL,gvC,ghC]
 ·rintro⟨i,hi⟩
  try dsimp only at hi
  rcases i with _|j
  ·simp only[gvC,ghC,if_true]
   try simp -dsimp only[go_sem]
   refine Br.mk (fun hc=>?_) fun hc=>?_
   ·have hlt:0<t.size:=h0;have hw:IntKind.i64.wrap (((0:Nat):Int)+1)=((1:Nat):Int):=rfl;have LC:=aAq ((t.data.toList.getD 0 0).toNat:Nat);rw[aGX hlt] at LC;have hap:[[AV.v (.int .i64 ((uM t)[0]'(by omega)))]]=E cI ((uM t).take 1):=by rw[bK (show 0<(uM t).length by omega)];rfl
    generalize(uM t)[0]'(by omega)=cc at *
    repeat' first|simp -dsimp only[go_sem,hw,hap]|apply Br.mk<;>intro h<;>try simp -dsimp only[h]|refine aA.c (by first|exact LC) ?_|refine aC ?_|fail
    all_goals first|omega|(refine⟨⟨1,by omega⟩,?_,by simp only;omega⟩;simp[Vs.LeL,Vs.look,Vs.aB,Vs.aP,Vs.aK,Vs.hset,Vs.aL,gvC,ghC,hap];done)
   ·have:¬0<t.size:=Dq;omega
  ·have e0:¬j+1=0:=by omega
   simp only[gvC,ghC,if_neg e0];have hal:(E cI ((uM t).take (j+1))).length=j+1:=by rw[aG];simp;omega
   have htk:(E cI ((uM t).take (j+1))).take (j+1)=E cI ((uM t).take (j+1)):=List.take_of_length_le (by omega)
   try simp -dsimp only[go_sem,hal,htk]
   refine Br.mk (fun hc=>?_) fun hc=>?_
   ·have hlt:j+1<t.size:=Dq;have hw:=aH hlt (by omega);have LC:=aAq ((t.data.toList.getD (j+1) 0).toNat:Nat);rw[aGX hlt] at LC;have hap:E cI ((uM t).take (j+1))++[[AV.v (.int .i64 ((uM t)[j+1]'(by omega)))]]=E cI ((uM t).take (j+1+1)):=by rw[bK (show j+1<(uM t).length by omega),aR];rfl
    generalize(uM t)[j+1]'(by omega)=cc at *
    repeat' first|simp -dsimp only[go_sem,hw,hap,hal,htk]|apply Br.mk<;>intro h<;>try simp -dsimp only[h]|refine aA.c (by first|exact LC) ?_|refine aC ?_|fail
    all_goals first|omega|(refine⟨⟨j+1+1,by omega⟩,?_,by simp only;omega⟩;simp[Vs.LeL,Vs.look,Vs.aB,Vs.aP,Vs.aK,Vs.hset,Vs.aL,gvC,ghC,hap];done)
   ·have hge:j+1=t.size:=by
     have:¬j+1<t.size:=Dq;omega
    have hall:(uM t).take (j+1)=uM t:=List.take_of_length_le (by omega);rw[hall];rw[hall] at htk
    try simp -dsimp only[go_sem,hal,htk]
    all_goals first|omega|exact⟨_,_,rfl,rfl⟩|(refine⟨?_,fun h=>h rfl⟩;rw[←hge];exact⟨_,_,rfl,rfl⟩)
def crd (c:List Int):Prop:=∃a n m:Int,(a=l03 65∨a=l03 66∨a=l03 49)∧(0≤n∧n<100)∧(-30≤m∧m<100)∧c=a::(ptN 2 n++ptN 2 m)
def kE (a z p0 p1 q0 q1:Int):Nat→List Int
 |0=>[a,z,z,z,z]
 |1=>[a,p0,z,q0,z]
 |_=>[a,p0,p1,q0,q1]
theorem aH3 {u:List Int} (h:u.length=2):∃a b,u=[a,b]:=by
 match u,h with
 | [a,b],_=>exact⟨a,b,rfl⟩
theorem aCh (a:UInt8):Vs.Fn Tryz.prog F.nV [] [.v (.string ⟨#[a,48,48,48,48]⟩)] (.agg [.loc (.b 0) 0 5]) [some (.arr 1 (E cI [l03 a.toNat,l03 48,l03 48,l03 48,l03 48]) false)]:=
 aIZ ⟨#[a,48,48,48,48]⟩ (Nat.le_of_ble_eq_true rfl) (Nat.le_of_ble_eq_true rfl)
attribute [local go_sem] Int.reduceBEq Int.reduceBNe aG List.replicate_succ List.replicate_zero List.flatten_cons List.flatten_nil List.cons_append List.nil_append List.set_cons_zero List.set_cons_succ List.length_cons List.length_nil List.length_set List.mem_singleton List.mem_cons List.not_mem_nil or_false false_or Vs.Name.t.injEq List.getD_cons_zero List.getD_cons_succ aZ bA bN List.append_nil List.flatMap_cons List.flatMap_nil in
theorem aGI (l:List Int) (x:Sr) (hl:byt l) (hp:x.p≤3900):∃c z,crd c∧z.p≤x.p+6∧Vs.Fn Tryz.prog F.kV [sB l x] [.ptr (.b 0) 0 0] (.agg (cC c)) [some (sB l z)]:=by
 have P1:=pick l x hl 3 (by omega);have q1:=bC l x 3;have h1:=dF hl x (n:=3) (by omega);have P2:=pick l (pkS l x 3) hl 100 (by omega);have q2:=bC l (pkS l x 3) 100;have h2:=dF hl (pkS l x 3) (n:=100) (by omega);have P3:=pick l (pkS l (pkS l x 3) 100) hl 130 (by omega);have q3:=bC l (pkS l (pkS l x 3) 100) 130;have h3:=dF hl (pkS l (pkS l x 3) 100) (n:=130) (by omega);generalize pkV l (pkS l (pkS l x 3) 100) 130=v3 at *
 generalize pkS l (pkS l (pkS l x 3) 100) 130=z at *
 generalize pkV l (pkS l x 3) 100=v2 at *
 generalize pkS l (pkS l x 3) 100=y2 at *
 generalize pkV l x 3=v1 at *
 generalize pkS l x 3=y1 at *
 have wm:IntKind.i64.wrap (v3-30)=v3-30:=aO (by omega) (by omega);have h3':-30≤v3-30∧v3-30<100:=by omega
 have PA:=aIX v2 2 (by omega) (by omega) (by omega) (by omega);have PB:=aIX (v3-30) 2 (by omega) (by omega) (by omega) (by omega);obtain⟨p0,p1,hp01⟩:=aH3 (aFC 2 v2);obtain⟨q0,q9,hq01⟩:=aH3 (aFC 2 (v3-30));rw[hp01] at PA;rw[hq01] at PB;have w0:IntKind.i64.wrap (1+((0:Nat):Int))=1:=rfl;have w1:IntKind.i64.wrap (1+((1:Nat):Int))=2:=rfl;have w2:IntKind.i64.wrap (3+((0:Nat):Int))=3:=rfl;have w3:IntKind.i64.wrap (3+((1:Nat):Int))=4:=rfl;have hv:v1=0∨v1=1∨v1=2:=by omega
 rcases hv with rfl|rfl|rfl
 ·have e1:(⟨#[65,66,49]⟩:ByteArray).extract 0 3=⟨#[65,66,49]⟩:=by decide
  have e2:(⟨#[65,66,49]⟩:ByteArray).extract 0 1=⟨#[65]⟩:=by decide
  have e3:(⟨#[65]⟩++⟨#[48,48,48,48]⟩:ByteArray)=⟨#[65,48,48,48,48]⟩:=by decide
  have es:(⟨#[65,66,49]⟩:ByteArray).size=3:=rfl;have LC:=aCh 65;rw[show((65:UInt8).toNat:Int)=65 from rfl] at LC;refine⟨l03 65::([p0,p1]++[q0,q9]),z,⟨l03 65,v2,v3-30,.inl rfl,h2,h3',by rw[hp01,hq01]⟩,by omega,?_⟩;generalize hz:l03 48=z0 at *
  generalize ha:l03 65=a0 at *
  refine fn1 Cd.s_l13Card_k [.b 0] [sB l z] fun X=>?_;unfold Cd.kV
  repeat' first|simp -dsimp only[go_sem,cC,sB,es,e1,e2,e3,w0,w1,w2,w3,wm]|apply Br.mk<;>intro h<;>try simp -dsimp only[h]|refine aA.bor (by first|exact P1|exact P2|exact P3) rfl ?_|refine aA.own (by first|exact LC) rfl ?_|refine aA.c (by first|exact PA|exact PB) ?_|refine aC ?_|fail
  refine aN.at dM (X:={k:Nat // k≤2}) (fun k=>[(8,.v (.int .i64 (k.1:Nat)))]) (fun k=>[(.t 14 0,.arr 1 (E cI (kE a0 z0 p0 p1 q0 q9 k.1)) false)]) (fun k=>2-k.1) ⟨0,by omega⟩ ?_ ?_
  ·simp[Vs.LeL,Vs.look,Vs.aB,Vs.aP,Vs.aK,Vs.hset,Vs.aL,kE,Vs.E,cI,sB]
  ·rintro⟨k,hk⟩
   try dsimp only at hk
   have hk3:k=0∨k=1∨k=2:=by omega
   rcases hk3 with rfl|rfl|rfl
   ·have hw:IntKind.i64.wrap (((0:Nat):Int)+1)=((1:Nat):Int):=rfl;simp -dsimp only[go_sem,cC,sB,es,e1,e2,e3,w0,w1,w2,w3,wm,kE,Vs.E,cI,List.map_cons,List.map_nil,hw];refine Br.mk (fun hc=>?_) fun hc=>?_
    ·try simp -dsimp only[go_sem,cC,sB,es,e1,e2,e3,w0,w1,w2,w3,wm,kE,Vs.E,cI,List.map_cons,List.map_nil,hw]
     repeat' first|simp -dsimp only[go_sem,cC,sB,es,e1,e2,e3,w0,w1,w2,w3,wm,kE,Vs.E,cI,List.map_cons,List.map_nil,hw]|apply Br.mk<;>intro h<;>try simp -dsimp only[h]|refine aC ?_|fail
     all_goals first|omega|(refine⟨⟨1,by omega⟩,?_,by simp only;omega⟩;simp[Vs.LeL,Vs.look,Vs.aB,Vs.aP,Vs.aK,Vs.hset,Vs.aL,kE,Vs.E,cI,sB];done)
    ·exact absurd hc (by decide)
   ·have hw:IntKind.i64.wrap (((1:Nat):Int)+1)=((2:Nat):Int):=rfl;simp -dsimp only[go_sem,cC,sB,es,e1,e2,e3,w0,w1,w2,w3,wm,kE,Vs.E,cI,List.map_cons,List.map_nil,hw];refine Br.mk (fun hc=>?_) fun hc=>?_
    ·try simp -dsimp only[go_sem,cC,sB,es,e1,e2,e3,w0,w1,w2,w3,wm,kE,Vs.E,cI,List.map_cons,List.map_nil,hw]
     repeat' first|simp -dsimp only[go_sem,cC,sB,es,e1,e2,e3,w0,w1,w2,w3,wm,kE,Vs.E,cI,List.map_cons,List.map_nil,hw]|apply Br.mk<;>intro h<;>try simp -dsimp only[h]|refine aC ?_|fail
     all_goals first|omega|(refine⟨⟨2,by omega⟩,?_,by simp only;omega⟩;simp[Vs.LeL,Vs.look,Vs.aB,Vs.aP,Vs.aK,Vs.hset,Vs.aL,kE,Vs.E,cI,sB];done)
    ·exact absurd hc (by decide)
   ·simp -dsimp only[go_sem,cC,sB,es,e1,e2,e3,w0,w1,w2,w3,wm,kE];refine Br.mk (fun hc=>absurd hc (by decide)) fun hc=>?_
    try simp -dsimp only[go_sem,cC,sB,es,e1,e2,e3,w0,w1,w2,w3,wm,kE]
    all_goals first|exact⟨⟨_,_,rfl,rfl⟩,fun h=>h rfl⟩|exact⟨_,_,rfl,rfl⟩|(refine⟨?_,fun h=>h rfl⟩;exact⟨_,_,rfl,rfl⟩)
 ·have e1:(⟨#[65,66,49]⟩:ByteArray).extract 1 3=⟨#[66,49]⟩:=by decide
  have e2:(⟨#[66,49]⟩:ByteArray).extract 0 1=⟨#[66]⟩:=by decide
  have e3:(⟨#[66]⟩++⟨#[48,48,48,48]⟩:ByteArray)=⟨#[66,48,48,48,48]⟩:=by decide
  have es:(⟨#[66,49]⟩:ByteArray).size=2:=rfl;have LC:=aCh 66;rw[show((66:UInt8).toNat:Int)=66 from rfl] at LC;refine⟨l03 66::([p0,p1]++[q0,q9]),z,⟨l03 66,v2,v3-30,.inr (.inl rfl),h2,h3',by rw[hp01,hq01]⟩,by omega,?_⟩;generalize hz:l03 48=z0 at *
  generalize ha:l03 66=a0 at *
  refine fn1 Cd.s_l13Card_k [.b 0] [sB l z] fun X=>?_;unfold Cd.kV
  repeat' first|simp -dsimp only[go_sem,cC,sB,es,e1,e2,e3,w0,w1,w2,w3,wm]|apply Br.mk<;>intro h<;>try simp -dsimp only[h]|refine aA.bor (by first|exact P1|exact P2|exact P3) rfl ?_|refine aA.own (by first|exact LC) rfl ?_|refine aA.c (by first|exact PA|exact PB) ?_|refine aC ?_|fail
  refine aN.at dM (X:={k:Nat // k≤2}) (fun k=>[(8,.v (.int .i64 (k.1:Nat)))]) (fun k=>[(.t 14 0,.arr 1 (E cI (kE a0 z0 p0 p1 q0 q9 k.1)) false)]) (fun k=>2-k.1) ⟨0,by omega⟩ ?_ ?_
  ·simp[Vs.LeL,Vs.look,Vs.aB,Vs.aP,Vs.aK,Vs.hset,Vs.aL,kE,Vs.E,cI,sB]
  ·rintro⟨k,hk⟩
   try dsimp only at hk
   have hk3:k=0∨k=1∨k=2:=by omega
   rcases hk3 with rfl|rfl|rfl
   ·have hw:IntKind.i64.wrap (((0:Nat):Int)+1)=((1:Nat):Int):=rfl;simp -dsimp only[go_sem,cC,sB,es,e1,e2,e3,w0,w1,w2,w3,wm,kE,Vs.E,cI,List.map_cons,List.map_nil,hw];refine Br.mk (fun hc=>?_) fun hc=>?_
    ·try simp -dsimp only[go_sem,cC,sB,es,e1,e2,e3,w0,w1,w2,w3,wm,kE,Vs.E,cI,List.map_cons,List.map_nil,hw]
     repeat' first|simp -dsimp only[go_sem,cC,sB,es,e1,e2,e3,w0,w1,w2,w3,wm,kE,Vs.E,cI,List.map_cons,List.map_nil,hw]|apply Br.mk<;>intro h<;>try simp -dsimp only[h]|refine aC ?_|fail
     all_goals first|omega|(refine⟨⟨1,by omega⟩,?_,by simp only;omega⟩;simp[Vs.LeL,Vs.look,Vs.aB,Vs.aP,Vs.aK,Vs.hset,Vs.aL,kE,Vs.E,cI,sB];done)
    ·exact absurd hc (by decide)
   ·have hw:IntKind.i64.wrap (((1:Nat):Int)+1)=((2:Nat):Int):=rfl;simp -dsimp only[go_sem,cC,sB,es,e1,e2,e3,w0,w1,w2,w3,wm,kE,Vs.E,cI,List.map_cons,List.map_nil,hw];refine Br.mk (fun hc=>?_) fun hc=>?_
    ·try simp -dsimp only[go_sem,cC,sB,es,e1,e2,e3,w0,w1,w2,w3,wm,kE,Vs.E,cI,List.map_cons,List.map_nil,hw]
     repeat' first|simp -dsimp only[go_sem,cC,sB,es,e1,e2,e3,w0,w1,w2,w3,wm,kE,Vs.E,cI,List.map_cons,List.map_nil,hw]|apply Br.mk<;>intro h<;>try simp -dsimp only[h]|refine aC ?_|fail
     all_goals first|omega|(refine⟨⟨2,by omega⟩,?_,by simp only;omega⟩;simp[Vs.LeL,Vs.look,Vs.aB,Vs.aP,Vs.aK,Vs.hset,Vs.aL,kE,Vs.E,cI,sB];done)
    ·exact absurd hc (by decide)
   ·simp -dsimp only[go_sem,cC,sB,es,e1,e2,e3,w0,w1,w2,w3,wm,kE];refine Br.mk (fun hc=>absurd hc (by decide)) fun hc=>?_
    try simp -dsimp only[go_sem,cC,sB,es,e1,e2,e3,w0,w1,w2,w3,wm,kE]
    all_goals first|exact⟨⟨_,_,rfl,rfl⟩,fun h=>h rfl⟩|exact⟨_,_,rfl,rfl⟩|(refine⟨?_,fun h=>h rfl⟩;exact⟨_,_,rfl,rfl⟩)
 ·have e1:(⟨#[65,66,49]⟩:ByteArray).extract 2 3=⟨#[49]⟩:=by decide
  have e2:(⟨#[49]⟩:ByteArray).extract 0 1=⟨#[49]⟩:=by decide
  have e3:(⟨#[49]⟩++⟨#[48,48,48,48]⟩:ByteArray)=⟨#[49,48,48,48,48]⟩:=by decide
  have es:(⟨#[49]⟩:ByteArray).size=1:=rfl;have LC:=aCh 49;rw[show((49:UInt8).toNat:Int)=49 from rfl] at LC;refine⟨l03 49::([p0,p1]++[q0,q9]),z,⟨l03 49,v2,v3-30,.inr (.inr rfl),h2,h3',by rw[hp01,hq01]⟩,by omega,?_⟩;generalize hz:l03 48=z0 at *
  generalize ha:l03 49=a0 at *
  refine fn1 Cd.s_l13Card_k [.b 0] [sB l z] fun X=>?_;unfold Cd.kV
  repeat' first|simp -dsimp only[go_sem,cC,sB,es,e1,e2,e3,w0,w1,w2,w3,wm]|apply Br.mk<;>intro h<;>try simp -dsimp only[h]|refine aA.bor (by first|exact P1|exact P2|exact P3) rfl ?_|refine aA.own (by first|exact LC) rfl ?_|refine aA.c (by first|exact PA|exact PB) ?_|refine aC ?_|fail
  refine aN.at dM (X:={k:Nat // k≤2}) (fun k=>[(8,.v (.int .i64 (k.1:Nat)))]) (fun k=>[(.t 14 0,.arr 1 (E cI (kE a0 z0 p0 p1 q0 q9 k.1)) false)]) (fun k=>2-k.1) ⟨0,by omega⟩ ?_ ?_
  ·simp[Vs.LeL,Vs.look,Vs.aB,Vs.aP,Vs.aK,Vs.hset,Vs.aL,kE,Vs.E,cI,sB]
  ·rintro⟨k,hk⟩
   try dsimp only at hk
   have hk3:k=0∨k=1∨k=2:=by omega
   rcases hk3 with rfl|rfl|rfl
   ·have hw:IntKind.i64.wrap (((0:Nat):Int)+1)=((1:Nat):Int):=rfl;simp -dsimp only[go_sem,cC,sB,es,e1,e2,e3,w0,w1,w2,w3,wm,kE,Vs.E,cI,List.map_cons,List.map_nil,hw];refine Br.mk (fun hc=>?_) fun hc=>?_
    ·try simp -dsimp only[go_sem,cC,sB,es,e1,e2,e3,w0,w1,w2,w3,wm,kE,Vs.E,cI,List.map_cons,List.map_nil,hw]
     repeat' first|simp -dsimp only[go_sem,cC,sB,es,e1,e2,e3,w0,w1,w2,w3,wm,kE,Vs.E,cI,List.map_cons,List.map_nil,hw]|apply Br.mk<;>intro h<;>try simp -dsimp only[h]|refine aC ?_|fail
     all_goals first|omega|(refine⟨⟨1,by omega⟩,?_,by simp only;omega⟩;simp[Vs.LeL,Vs.look,Vs.aB,Vs.aP,Vs.aK,Vs.hset,Vs.aL,kE,Vs.E,cI,sB];done)
    ·exact absurd hc (by decide)
   ·have hw:IntKind.i64.wrap (((1:Nat):Int)+1)=((2:Nat):Int):=rfl;simp -dsimp only[go_sem,cC,sB,es,e1,e2,e3,w0,w1,w2,w3,wm,kE,Vs.E,cI,List.map_cons,List.map_nil,hw];refine Br.mk (fun hc=>?_) fun hc=>?_
    ·try simp -dsimp only[go_sem,cC,sB,es,e1,e2,e3,w0,w1,w2,w3,wm,kE,Vs.E,cI,List.map_cons,List.map_nil,hw]
     repeat' first|simp -dsimp only[go_sem,cC,sB,es,e1,e2,e3,w0,w1,w2,w3,wm,kE,Vs.E,cI,List.map_cons,List.map_nil,hw]|apply Br.mk<;>intro h<;>try simp -dsimp only[h]|refine aC ?_|fail
     all_goals first|omega|(refine⟨⟨2,by omega⟩,?_,by simp only;omega⟩;simp[Vs.LeL,Vs.look,Vs.aB,Vs.aP,Vs.aK,Vs.hset,Vs.aL,kE,Vs.E,cI,sB];done)
    ·exact absurd hc (by decide)
   ·simp -dsimp only[go_sem,cC,sB,es,e1,e2,e3,w0,w1,w2,w3,wm,kE];refine Br.mk (fun hc=>absurd hc (by decide)) fun hc=>?_
    try simp -dsimp only[go_sem,cC,sB,es,e1,e2,e3,w0,w1,w2,w3,wm,kE]
    all_goals first|exact⟨⟨_,_,rfl,rfl⟩,fun h=>h rfl⟩|exact⟨_,_,rfl,rfl⟩|(refine⟨?_,fun h=>h rfl⟩;exact⟨_,_,rfl,rfl⟩)
end
section
variable [Vs.Envs]
attribute [local irreducible] Vs.Fn nxV nxS pkV pkS ptN crd
theorem subK {k:Nat} (h:k≤1000):IntKind.i64.wrap (((k+1:Nat):Int)-1)=(k:Int):=by rw[aO (by omega) (by omega)];omega
def ORD:ByteArray:=⟨#[32,38,65,66,67,68,69,70,71,72,73,45,74,75,76,77,78,79,80,81,82,47,83,84,85,86,87,88,89,90,48,49,50,51,52,53,54,55,56,57]⟩
def SEV:ByteArray:=⟨#[65,66,48,49,32,74,90]⟩
theorem aMi:(⟨#[32,38,65,66,67,68,69,70,71,72,73,45,74,75,76,77,78,79,80,81,82,47,83,84,85,86,87,88,89,90,48,49,50,51,52,53,54,55,56,57]⟩:ByteArray)=ORD:=rfl
theorem aMg:(⟨#[65,66,48,49,32,74,90]⟩:ByteArray)=SEV:=rfl
theorem aJP:ORD.size=40:=rfl
theorem aJO:SEV.size=7:=rfl
def byA (b:ByteArray) (i:Int):Int:=((b.data.toList.getD i.toNat 0).toNat:Nat)
def dtU (l:List Int) (x:Sr):Int:=if pkV l x 3=0 then byA ORD (pkV l (pkS l x 3) 40) else byA SEV (pkV l (pkS l x 3) 7)
def dtS (l:List Int) (x:Sr):Sr:=if pkV l x 3=0 then pkS l (pkS l x 3) 40 else pkS l (pkS l x 3) 7
def dtF (l:List Int):Nat→Sr→List Int→List Int×Sr
 |0,x,o=>(o,x)
 |k+1,x,o=>dtF l k (dtS l x) (o++[dtU l x])
theorem aJn (l:List Int) (x:Sr):(dtS l x).p≤x.p+4:=by
 unfold dtS;have h1:=bC l x 3;have h2:=bC l (pkS l x 3) 40;have h3:=bC l (pkS l x 3) 7;split<;>omega
theorem aFY (l:List Int):∀(k:Nat) (x:Sr) (o:List Int),(dtF l k x o).1.length=o.length+k∧(dtF l k x o).2.p≤x.p+4*k
 |0,x,o=>⟨rfl,by simp[dtF]⟩
 | k+1,x,o=>by
  have ih:=aFY l k (dtS l x) (o++[dtU l x]);have h1:=aJn l x;rw[dtF];refine⟨?_,by omega⟩;rw[ih.1,List.length_append];simp only[List.length_singleton];omega
theorem aCT (o:List Int):(uT o).size=o.length:=by simp[uT,ByteArray.size]
attribute [local irreducible] ORD SEV dtU dtS
attribute [local go_sem] Int.reduceBEq Int.reduceBNe cC aG List.replicate_succ List.replicate_zero List.flatten_cons List.flatten_nil List.cons_append List.nil_append List.set_cons_zero List.set_cons_succ List.length_cons List.length_nil List.length_set List.mem_singleton List.mem_cons List.not_mem_nil or_false false_or Vs.Name.t.injEq List.getD_cons_zero List.getD_cons_succ aZ bA bN List.append_nil List.flatMap_cons List.flatMap_nil aMi aMg aJP aJO in
theorem aBh (l:List Int) (x:Sr) (hl:byt l) (n:Nat) (hn:n≤20) (hp:x.p≤3000):Vs.Fn Tryz.prog F.jM [sB l x] [.ptr (.b 0) 0 0,.v (.int .i64 n)] (.v (.string (uT (dtF l n x []).1))) [some (sB l (dtF l n x []).2)]:=by
 have OR:=aCg;have hall:dtF l n x []=dtF l (n-0) x []:=rfl;generalize hR:dtF l n x []=R at *
 refine fn1 Cd.s_l03DrawText_k [.b 0] [sB l R.2] fun X=>?_;unfold Cd.jM
 repeat' first|simp -dsimp only[go_sem,sB]|apply Br.mk<;>intro h<;>try simp -dsimp only[h]|refine aA.c (by first|exact OR) ?_|refine aC ?_|fail
 refine aN.at dM (X:={zz:Nat×Sr×List Int // zz.1≤n∧(zz.2.1.p+4*(n-zz.1)≤3100)∧(zz.2.2.length=zz.1)∧dtF l (n-zz.1) zz.2.1 zz.2.2=R}) (fun zz=>[(6,.loc (.t 6 0) 0 zz.1.2.2.length),(7,.v (.int .i64 (zz.1.1:Nat)))]) (fun zz=>[(.b 0,sB l zz.1.2.1),(.t 6 0,.arr 1 (E cU zz.1.2.2) false)]) (fun zz=>n-zz.1.1) ⟨(0,x,[]),by dsimp only;omega,by dsimp only;omega,rfl,by dsimp only;rw[←hR];rfl⟩ ?_ ?_
 ·simp[Vs.LeL,Vs.look,Vs.aB,Vs.aP,Vs.aK,Vs.hset,Vs.aL,Vs.E,sB]
 ·rintro⟨⟨i,y,o⟩,hi,hk1,hk2,hr⟩;dsimp only at hi hk1 hk2 hr;simp -dsimp only[go_sem,sB];refine Br.mk (fun hc=>?_) fun hc=>?_
  ·have hlt:i<n:=Dq;have hw:IntKind.i64.wrap ((i:Int)+1)=((i+1:Nat):Int):=by rw[aO (by omega) (by omega)];omega
   rw[show n-i=(n-i-1)+1 by omega,dtF] at hr;have q1:=bC l y 3;have P1:=one l y hl 3 (by omega);by_cases hz:pkV l y 3=0
   ·have e1:(pkV l y 3==0)=true:=by simp[hz]
    rw[e1] at P1;have v2:=dF hl (pkS l y 3) (n:=40) (by omega);have P2:=pick l (pkS l y 3) hl 40 (by omega);have hu:dtU l y=byA ORD (pkV l (pkS l y 3) 40):=by unfold dtU;rw[if_pos hz]
    have hs:dtS l y=pkS l (pkS l y 3) 40:=by unfold dtS;rw[if_pos hz]
    unfold byA at hu;have hq:=aJn l y;rw[hs] at hq;rw[hs,hu] at hr;generalize pkV l (pkS l y 3) 40=i2 at *
    generalize pkS l (pkS l y 3) 40=y2 at *
    obtain⟨u,hu0⟩:∃u:Nat,((ORD).data.toList.getD i2.toNat 0).toNat=u:=⟨_,rfl⟩;rw[hu0] at hr;have hap:E cU o++[[.v (.int .u8 (u:Nat))]]=E cU (o++[(u:Int)]):=by rw[aR];rfl
    repeat' first|simp -dsimp only[go_sem,hw,hap,hu0,sB]|apply Br.mk<;>intro h<;>try simp -dsimp only[h]|refine aA.bor (by first|exact P1|exact P2) rfl ?_|refine aA.c (by first|exact OR) ?_|refine aC ?_|fail
    all_goals first|omega|(refine⟨⟨(i+1,y2,o++[(u:Int)]),by dsimp only;omega,by dsimp only;omega,by dsimp only;rw[List.length_append];simp only[List.length_singleton];omega,by rw[show n-(i+1)=n-i-1 by omega];exact hr⟩,?_,by simp only;omega⟩;simp[Vs.LeL,Vs.look,Vs.aB,Vs.aP,Vs.aK,Vs.hset,Vs.aL,Vs.E,sB,cU];done)
   ·have e1:(pkV l y 3==0)=false:=by simp[hz]
    rw[e1] at P1;have v2:=dF hl (pkS l y 3) (n:=7) (by omega);have P2:=pick l (pkS l y 3) hl 7 (by omega);have hu:dtU l y=byA SEV (pkV l (pkS l y 3) 7):=by unfold dtU;rw[if_neg hz]
    have hs:dtS l y=pkS l (pkS l y 3) 7:=by unfold dtS;rw[if_neg hz]
    unfold byA at hu;have hq:=aJn l y;rw[hs] at hq;rw[hs,hu] at hr;generalize pkV l (pkS l y 3) 7=i2 at *
    generalize pkS l (pkS l y 3) 7=y2 at *
    obtain⟨u,hu0⟩:∃u:Nat,((SEV).data.toList.getD i2.toNat 0).toNat=u:=⟨_,rfl⟩;rw[hu0] at hr;have hap:E cU o++[[.v (.int .u8 (u:Nat))]]=E cU (o++[(u:Int)]):=by rw[aR];rfl
    repeat' first|simp -dsimp only[go_sem,hw,hap,hu0,sB]|apply Br.mk<;>intro h<;>try simp -dsimp only[h]|refine aA.bor (by first|exact P1|exact P2) rfl ?_|refine aA.c (by first|exact OR) ?_|refine aC ?_|fail
    all_goals first|omega|(refine⟨⟨(i+1,y2,o++[(u:Int)]),by dsimp only;omega,by dsimp only;omega,by dsimp only;rw[List.length_append];simp only[List.length_singleton];omega,by rw[show n-(i+1)=n-i-1 by omega];exact hr⟩,?_,by simp only;omega⟩;simp[Vs.LeL,Vs.look,Vs.aB,Vs.aP,Vs.aK,Vs.hset,Vs.aL,Vs.E,sB,cU];done)
  ·have hge:i=n:=by
    have:¬i<n:=Dq;omega
   subst hge;rw[Nat.sub_self,dtF] at hr;subst hr;have hno:Vs.rD (E cU o)=some o:=oV o;simp -dsimp only[go_sem,sB,hno]
   all_goals first|exact⟨⟨_,_,rfl,rfl⟩,fun h=>h rfl⟩
end
section
variable [Vs.Envs]
attribute [local irreducible] Vs.Fn
theorem aA.own {P:Program}{f:FuncId}{ys:List AV}{d:Option Nat}{σ:St}{K:St→Prop}{t:Tag K}{r:AV}{hout:List (Option Blk)} (hfn:Vs.Fn P f [] ys r hout) (hfr:jJ (d.getD 0) 0 hout.length σ=true)
  (hK:K ⟨put d (rn (phi [] (d.getD 0) hout.length) r) σ.s,xK σ.h [] (d.getD 0) hout true []⟩):aA P f [] ys [] d σ [] K t:=
 ⟨r,hout,true,hfn,fun h=>(by cases h),hfr,hK⟩
def nGo:List Int→Int→Bool→Option (Int×Bool)
 | [],n,b=>some (n,b)
 |m::r,n,b=>if m=0∧b=false then nGo r n b else if dg m<0 then none else nGo r (W (W (10*n)+dg m)) true
def nB (x:Int):Bool:=iH .and .i64 x 2 != 0
def nY (x:Int):Int:=iH .andNot .i64 x 2
def wS (u:List Int) (x:Int):Int×Bool:=
 if (u++[x]).any (fun z=>z != 0) then
  match nGo (u++[nY x]) 0 false with
  |none=>(0,false)
  |some (n,b)=>if !b||(nY x==0||(nB x&&n==0)) then(0,false) else(if nB x then W (0-n) else n,true)
 else(0,true)
theorem aKq (u v:List Int):∀(n:Int) (b:Bool),nGo (u++v) n b=(nGo u n b).bind fun p=>nGo v p.1 p.2:=by
 induction u with
 |nil=>intro n b;rfl
 | cons m r ih =>
  intro n b;simp only[List.cons_append,nGo];split
  ·exact ih _ _
  ·split
   ·rfl
   ·exact ih _ _
theorem nGo_t (u:List Int):∀(n:Int),nGo u n true=none∨∃k,nGo u n true=some (k,true):=by
 induction u with
 |nil=>intro n;exact .inr ⟨n,rfl⟩
 | cons m r ih =>
  intro n;simp only[nGo,Bool.true_eq_false,and_false,if_false];split
  ·exact .inl rfl
  ·exact ih _
theorem nGo_f (u:List Int):∀(n:Int),(u.any (fun z=>z != 0)=false∧nGo u n false=some (n,false))∨(u.any (fun z=>z != 0)=true∧(nGo u n false=none∨∃k,nGo u n false=some (k,true))):=by
 induction u with
 |nil=>intro n;exact .inl ⟨rfl,rfl⟩
 | cons m r ih =>
  intro n;simp only[nGo,List.any_cons,and_true];by_cases hm:m=0
  ·subst hm;simpa using ih n
  ·rw[if_neg hm];refine .inr ⟨by simp[hm],?_⟩;split
   ·exact .inl rfl
   ·exact nGo_t r _
set_option maxRecDepth 20000 in
theorem bits2:∀a,a<64→∀b,b<64→(if nB ((64*a+b:Nat):Int)=true then nY ((64*a+b:Nat):Int)=((64*a+b:Nat):Int)-2∧2≤64*a+b else nY ((64*a+b:Nat):Int)=((64*a+b:Nat):Int)):=by
 decide +kernel
theorem bit2 (x:Int) (h0:0≤x) (h1:x≤4095):if nB x=true then nY x=x-2∧2≤x else nY x=x:=by
 obtain⟨n,rfl⟩:∃n:Nat,x=n:=⟨x.toNat,by omega⟩;have:=bits2 (n/64) (by omega) (n%64) (by omega);rw[show 64*(n/64)+n%64=n by omega] at this;split at this<;>split<;>first|omega|(rename_i a b;exact absurd a b)|(rename_i a b;exact absurd b a)
theorem aHs (x:Int):Fz F.fK [.v (.int .i64 x)] (.v (.bool (x != 0))):=by
 refine fn0 Cd.i_numberIn_1_k fun X=>?_
 repeat' first|simp -dsimp only[go_sem]|apply Br.mk<;>intro h<;>try simp -dsimp only[h]|refine aC ?_|fail
 all_goals(simp_all)
theorem kF (l:List Int) (hl:l.length≤1048576):Fz F.jR [.sl 1 (E cI l),.fn F.fK []] (.v (.int .i64 (rG (fun z=>z != 0) l))):=
 aFO Tryz.mixed Cd.ixf_int64_k.o Cd.ixf_int64_k.n Cd.ixf_int64_k.r rfl (fun z=>z != 0) F.fK [] rfl (fun x hx=>aHs x) hl
theorem conN (l:List Int) (hl:l.length≤1048576):Fz F.kY [.sl 1 (E cI l),.fn F.fK []] (.v (.bool (l.any (fun z=>z != 0)))):=
 aCt Tryz.mixed (g:=F.jR) Cd.ctf_int64_k.o Cd.ctf_int64_k.n Cd.ctf_int64_k.r rfl (fun z=>z != 0) F.fK [] rfl (kF l hl)
theorem aIL (c:List Int) (fr to:Int) (u:List Int) (x:Int) (h0:0≤fr) (h1:fr≤to) (h2:to≤c.length) (hp:(c.take to.toNat).drop fr.toNat=u++[x]) (hu:u.length+1≤12):Fz F.oI [.agg (cC c),.agg [.v (.int .i64 fr),.v (.int .i64 to)]] (.tup [.v (.int .i64 (wS u x).1),.v (.bool (wS u x).2)]):=by
 obtain⟨l,hl⟩:∃l:List Int,u++[x]=l:=⟨_,rfl⟩;obtain⟨M,hM⟩:∃M:List Int,u++[nY x]=M:=⟨_,rfl⟩;have hll:l.length=u.length+1:=by rw[←hl];simp
 have hML:M.length=u.length+1:=by rw[←hM];simp
 have hE:List.drop fr.toNat (List.take to.toNat (E cI c))=E cI l:=by rw[←aLn,hp,hl]
 have hw1:IntKind.i64.wrap ((l.length:Int)-1)=(u.length:Int):=by rw[aO (by omega) (by omega)];omega
 have hx:(E cI l).getD u.length []=[.v (.int .i64 x)]:=by rw[←hl];simp[E,cI,List.getD]
 have hst:(E cI l).set u.length [.v (.int .i64 (iH .andNot .i64 x 2))]=E cI M:=by rw[←hl,←hM];simp[E,cI,nY]
 have hB:(iH .and .i64 x 2 != 0)=nB x:=rfl;have hXM:(E cI M).getD u.length []=[.v (.int .i64 (nY x))]:=by rw[←hM];simp[E,cI,List.getD]
 refine fn0 Cd.i_numberIn_k fun X=>?_;simp -dsimp only[go_sem,cC];refine⟨⟨by omega,by omega,by simpa using h2⟩,?_⟩;simp -dsimp only[go_sem,hE];refine aA.own (aA5 l (by omega)) rfl ?_;by_cases ha:l.any (fun z=>z != 0)=true
 ·simp -dsimp only[go_sem,hw1,hx,hst,ha,hB]
  repeat' first|simp -dsimp only[go_sem,hw1,hx,hst,ha,hB]|apply Br.mk<;>intro h<;>try simp -dsimp only[h]|refine aA.c (by first|exact aA5 l (by omega)|exact conN l (by omega)|exact aG3) ?_|refine aC ?_|fail
  refine aN.at dM (X:={zz:Nat×(Int×Bool) // zz.1≤l.length∧nGo (M.drop zz.1) zz.2.1 zz.2.2=nGo M 0 false}) (fun zz=>[(44,.v (.int .i64 zz.1.1)),(9,.v (.int .i64 zz.1.2.1)),(10,.v (.bool zz.1.2.2))]) (fun zz=>[]) (fun zz=>l.length-zz.1.1) ⟨(0,(0,false)),by omega,by simp⟩ ?_ ?_
  ·exact le0
  ·rintro⟨⟨i,a,b⟩,hi,hg⟩;dsimp only at hi hg;simp -dsimp only[go_sem,hw1,hx,hst,ha,hB];refine Br.mk (fun hc=>?_) fun hc=>?_
   ·have hlt:i<l.length:=Dq;have hw:=aH hlt (by omega);have hm:(E cI M).getD i []=[.v (.int .i64 M[i])]:=dI (by omega);have hiM:i<M.length:=by omega
    rw[List.drop_eq_getElem_cons hiM,nGo] at hg;by_cases hz:M[i]=0
    ·have e1:(M[i]==0)=true:=beq_iff_eq.2 hz;cases b with
     | false =>
      rw[if_pos ⟨hz,rfl⟩] at hg
      repeat' first|simp -dsimp only[go_sem,hm,hw,e1]|apply Br.mk<;>intro h<;>try simp -dsimp only[h]|refine aA.c (by first|exact aBM _) ?_|refine aC ?_|fail
      all_goals((refine fun _=>⟨?_,fun h=>absurd rfl h⟩);exact nx (i+1,(a,false)) hg)
     | true =>
      rw[if_neg (by simp)] at hg;have hd:dg M[i]=-1:=by rw[hz];rfl
      rw[if_pos (by omega)] at hg;have hN:wS u x=(0,false):=by unfold wS;rw[hl,if_pos ha,hM,←hg]
      have e2:decide (dg M[i]<0)=true:=decide_eq_true (by omega)
      repeat' first|simp -dsimp only[go_sem,hm,hw,e1,e2]|apply Br.mk<;>intro h<;>try simp -dsimp only[h]|refine aA.c (by first|exact aBM _) ?_|refine aC ?_|fail
      all_goals simp[hN]
    ·have e1:(M[i]==0)=false:=beq_eq_false_iff_ne.2 hz;rw[if_neg (by simp[hz])] at hg;by_cases hd:dg M[i]<0
     ·rw[if_pos hd] at hg;have hN:wS u x=(0,false):=by unfold wS;rw[hl,if_pos ha,hM,←hg]
      have e2:decide (dg M[i]<0)=true:=decide_eq_true hd
      repeat' first|simp -dsimp only[go_sem,hm,hw,e1,e2]|apply Br.mk<;>intro h<;>try simp -dsimp only[h]|refine aA.c (by first|exact aBM _) ?_|refine aC ?_|fail
      all_goals simp[hN]
     ·rw[if_neg hd] at hg;have e2:decide (dg M[i]<0)=false:=decide_eq_false hd
      repeat' first|simp -dsimp only[go_sem,hm,hw,e1,e2]|apply Br.mk<;>intro h<;>try simp -dsimp only[h]|refine aA.c (by first|exact aBM _) ?_|refine aC ?_|fail
      all_goals(exact nx (i+1,(W (W (10*a)+dg M[i]),true)) hg)
   ·have hge:i=l.length:=by
     have:¬i<l.length:=Dq;omega
    subst hge;simp -dsimp only[go_sem,hw1,hx,hst,ha,hB];rw[List.drop_eq_nil_of_le (by omega),nGo] at hg;have hN:wS u x=(if !b||(nY x==0||(nB x&&a==0)) then(0,false) else(if nB x then W (0-a) else a,true)):=by unfold wS;rw[hl,if_pos ha,hM,←hg]
    cases hb:nB x<;>cases hy:(nY x==0)<;>cases h0:(a==0)<;>cases b
    all_goals
     simp -dsimp only[go_sem,hXM,hb,hy,h0,hw1,hx,hst,ha,hB]
    all_goals simp[hN,hb,hy,h0]
    all_goals omega
 ·have ha:=by simpa using ha
  have hN:wS u x=(0,true):=by unfold wS;rw[hl,if_neg (by simpa using ha)]
  have ha:l.any (fun z=>z != 0)=false:=by simpa using ha
  repeat' first|simp -dsimp only[go_sem,hw1,hx,hst,ha,hB]|apply Br.mk<;>intro h<;>try simp -dsimp only[h]|refine aA.c (by first|exact aA5 l (by omega)|exact conN l (by omega)|exact aG3) ?_|refine aC ?_|fail
  all_goals simp[hN]
end
section
variable [Vs.Envs]
attribute [local irreducible] Vs.Fn
def aFX (a:Int) (m:Bool):Int×Bool:=if m then(W (0-a),a != 0) else(a,true)
theorem aHt (u:List Int) (x:Int) (h0:0≤x) (h1:x≤4095) :
  wS u x=match nGo u 0 false with
   |none=>(0,false)
   |some (a,b)=>if nY x=0∧b=false∧nB x=false then(a,true) else if dg (nY x)<0 then(0,false) else aFX (W (W (10*a)+dg (nY x))) (nB x):=by
 have hb:=bit2 x h0 h1;have hd0:dg 0=-1:=rfl;unfold wS aFX;rw[aKq,List.any_append];rcases nGo_f u 0 with⟨hu,hg⟩|⟨hu,hg|⟨k,hg⟩⟩
 ·rw[hg,hu];simp only[Option.bind_some,nGo,List.any_cons,List.any_nil,Bool.or_false,Bool.false_or];have hw0:W 0=0:=by decide
  cases hn:nB x<;>simp only[hn,Bool.false_eq_true,if_false,if_true] at hb
  ·rw[hb];by_cases hx:x=0
   ·simp[hx]
   ·by_cases hd:dg x<0
    ·simp[hx,hd]
    ·simp[hx,hd]
  ·obtain⟨hb,h2⟩:=hb;have hx:x≠0:=by omega
   by_cases hy:nY x=0
   ·simp[hy,hx,hd0]
   ·by_cases hd:dg (nY x)<0
    ·simp[hx,hy,hd]
    ·by_cases hz:W (dg (nY x))=0
     ·simp[hx,hy,hd,hz,hw0]
     ·simp[hx,hy,hd,hz,hw0]
 ·rw[hg,hu];simp
 ·rw[hg,hu];have hw0:W 0=0:=by decide
  simp only[Option.bind_some,nGo,Bool.true_or,if_true,Bool.true_eq_false,and_false,false_and,if_false];by_cases hd:dg (nY x)<0
  ·simp[hd]
  ·have hy:nY x≠0:=by intro e;rw[e] at hd;exact hd (by decide)
   cases hn:nB x
   ·simp[hy,hd]
   ·by_cases hz:W (W (10*k)+dg (nY x))=0
    ·simp[hy,hd,hz,hw0]
    ·simp[hy,hd,hz]
theorem aHF (u:List Int) (x:Int) (h0:0≤x) (h1:x≤4095) (hu:u.length+1≤12):Fz F.l8 [.sl 1 (E cI (u++[x]))] (.tup [.v (.int .i64 (wS u x).1),.v (.bool (wS u x).2)]):=by
 have hF:=aHt u x h0 h1;have hb2:=bit2 x h0 h1;obtain⟨l,hl⟩:∃l:List Int,u++[x]=l:=⟨_,rfl⟩;have hll:l.length=u.length+1:=by rw[←hl];simp
 have hw1:IntKind.i64.wrap ((l.length:Int)-1)=(u.length:Int):=by rw[aO (by omega) (by omega)];omega
 rw[hl];refine fn0 Cd.s_l03Number_k fun X=>?_;simp -dsimp only[go_sem];refine aN.at dM (X:={zz:Nat×(Int×Bool×Bool) // zz.1≤l.length∧((zz.1≤u.length∧zz.2.2.2=false∧nGo (u.drop zz.1) zz.2.1 zz.2.2.1=nGo u 0 false)∨(zz.1=u.length+1∧aFX zz.2.1 zz.2.2.2=wS u x))}) (fun zz=>[(7,.v (.int .i64 zz.1.1)),(4,.v (.int .i64 zz.1.2.1)),(5,.v (.bool zz.1.2.2.1)),(6,.v (.bool zz.1.2.2.2))]) (fun zz=>[]) (fun zz=>l.length-zz.1.1) ⟨(0,(0,false,false)),by omega,.inl ⟨by omega,rfl,by simp⟩⟩ ?_ ?_
 ·exact le0
 ·rintro⟨⟨i,a,b,m⟩,hi,hg⟩;dsimp only at hi hg;simp -dsimp only[go_sem,hw1];refine Br.mk (fun hc=>?_) fun hc=>?_
  ·have hlt:i<l.length:=Dq;have hw:=aH hlt (by omega);have hm:(E cI l).getD i []=[.v (.int .i64 l[i])]:=dI hlt;have hiu:i≤u.length:=by omega
   rcases hg with⟨_,hmi,hg⟩|⟨hi2,_⟩
   case inr=>omega
   subst hmi;by_cases hi2:i<u.length
   ·have hq:((i:Int)==(u.length:Int))=false:=beq_eq_false_iff_ne.2 (by omega);have hm:(E cI l).getD i []=[.v (.int .i64 u[i])]:=by rw[hm];subst hl;simp[List.getElem_append,hi2]
    rw[List.drop_eq_getElem_cons hi2,nGo] at hg;by_cases hz:u[i]=0
    ·have e1:(u[i]==0)=true:=beq_iff_eq.2 hz;cases b with
     | false =>
      rw[if_pos ⟨hz,rfl⟩] at hg
      repeat' first|simp -dsimp only[go_sem,hm,hw,hq,e1,hw1]|apply Br.mk<;>intro h<;>try simp -dsimp only[h]|refine aA.c (by first|exact lD _) ?_|refine aC ?_|fail
      all_goals((refine⟨?_,fun h=>absurd rfl h⟩);exact nx (i+1,(a,false,false)) (.inl ⟨by first|omega|(simp;omega),rfl,hg⟩))
     | true =>
      rw[if_neg (by simp)] at hg;have hd:dg u[i]=-1:=by rw[hz];rfl
      rw[if_pos (by omega)] at hg;rw[←hg] at hF;have e2:decide (dg u[i]<0)=true:=decide_eq_true (by omega)
      repeat' first|simp -dsimp only[go_sem,hm,hw,hq,e1,e2,hw1]|apply Br.mk<;>intro h<;>try simp -dsimp only[h]|refine aA.c (by first|exact lD _) ?_|refine aC ?_|fail
      all_goals simp[hF]
    ·have e1:(u[i]==0)=false:=beq_eq_false_iff_ne.2 hz;rw[if_neg (by simp[hz])] at hg;by_cases hd:dg u[i]<0
     ·rw[if_pos hd] at hg;rw[←hg] at hF;have e2:decide (dg u[i]<0)=true:=decide_eq_true hd
      repeat' first|simp -dsimp only[go_sem,hm,hw,hq,e1,e2,hw1]|apply Br.mk<;>intro h<;>try simp -dsimp only[h]|refine aA.c (by first|exact lD _) ?_|refine aC ?_|fail
      all_goals simp[hF]
     ·rw[if_neg hd] at hg;have e2:decide (dg u[i]<0)=false:=decide_eq_false hd
      repeat' first|simp -dsimp only[go_sem,hm,hw,hq,e1,e2,hw1]|apply Br.mk<;>intro h<;>try simp -dsimp only[h]|refine aA.c (by first|exact lD _) ?_|refine aC ?_|fail
      all_goals(exact nx (i+1,(W (W (10*a)+dg u[i]),true,false)) (.inl ⟨by first|omega|(simp;omega),rfl,hg⟩))
   ·have hiu:i=u.length:=by omega
    subst hiu;have hq:((u.length:Int)==(u.length:Int))=true:=beq_iff_eq.2 rfl;have hm:(E cI l).getD u.length []=[.v (.int .i64 x)]:=by rw[hm];subst hl;simp
    rw[List.drop_length,nGo] at hg;rw[←hg] at hF;dsimp only at hF;have hB:(iH BinOp.and IntKind.i64 x 2 != 0)=nB x:=rfl;cases hn:nB x<;>simp only[hn,Bool.false_eq_true,if_false,if_true] at hb2
    ·rw[hb2,hn] at hF;by_cases hz:x=0
     ·have e1:(x==0)=true:=beq_iff_eq.2 hz;cases b with
      | false =>
       rw[if_pos ⟨hz,rfl,rfl⟩] at hF
       repeat' first|simp -dsimp only[go_sem,hm,hw,hq,e1,hB,hn,hw1]|apply Br.mk<;>intro h<;>try simp -dsimp only[h]|refine aA.c (by first|exact lD _) ?_|refine aC ?_|fail
       all_goals((refine⟨?_,fun h=>absurd rfl h⟩);exact nx (u.length+1,(a,false,false)) (.inr ⟨rfl,by first|(rw[hF];done)|(rw[hF];simp[aFX])⟩))
      | true =>
       have hd:dg x=-1:=by rw[hz];rfl
       rw[if_neg (by simp),if_pos (by omega)] at hF;have e2:decide (dg x<0)=true:=decide_eq_true (by omega)
       repeat' first|simp -dsimp only[go_sem,hm,hw,hq,e1,e2,hB,hn,hw1]|apply Br.mk<;>intro h<;>try simp -dsimp only[h]|refine aA.c (by first|exact lD _) ?_|refine aC ?_|fail
       all_goals simp[hF]
     ·have e1:(x==0)=false:=beq_eq_false_iff_ne.2 hz;rw[if_neg (by simp[hz])] at hF;by_cases hd:dg x<0
      ·rw[if_pos hd] at hF;have e2:decide (dg x<0)=true:=decide_eq_true hd
       repeat' first|simp -dsimp only[go_sem,hm,hw,hq,e1,e2,hB,hn,hw1]|apply Br.mk<;>intro h<;>try simp -dsimp only[h]|refine aA.c (by first|exact lD _) ?_|refine aC ?_|fail
       all_goals simp[hF]
      ·rw[if_neg hd] at hF;have e2:decide (dg x<0)=false:=decide_eq_false hd
       repeat' first|simp -dsimp only[go_sem,hm,hw,hq,e1,e2,hB,hn,hw1]|apply Br.mk<;>intro h<;>try simp -dsimp only[h]|refine aA.c (by first|exact lD _) ?_|refine aC ?_|fail
       all_goals(exact nx (u.length+1,(W (W (10*a)+dg x),true,false)) (.inr ⟨rfl,by first|(rw[hF];done)|(rw[hF];simp[aFX])⟩))
    ·obtain⟨hb2,hx2⟩:=hb2;rw[hb2,hn] at hF;rw[if_neg (by simp)] at hF;have hw2:IntKind.i64.wrap (x-2)=x-2:=aO (by omega) (by omega);by_cases hd:dg (x-2)<0
     ·rw[if_pos hd] at hF;have e2:decide (dg (x-2)<0)=true:=decide_eq_true hd;cases e1:(x-2==0)<;>cases b
      all_goals
       repeat' first|simp -dsimp only[go_sem,hm,hw,hq,hw2,e1,e2,hB,hn,hw1]|apply Br.mk<;>intro h<;>try simp -dsimp only[h]|refine aA.c (by first|exact lD _) ?_|refine aC ?_|fail
       all_goals simp[hF]
     ·rw[if_neg hd] at hF;have e2:decide (dg (x-2)<0)=false:=decide_eq_false hd;cases e1:(x-2==0)<;>cases b
      all_goals
       repeat' first|simp -dsimp only[go_sem,hm,hw,hq,hw2,e1,e2,hB,hn,hw1]|apply Br.mk<;>intro h<;>try simp -dsimp only[h]|refine aA.c (by first|exact lD _) ?_|refine aC ?_|fail
       all_goals(exact nx (u.length+1,(W (W (10*a)+dg (x-2)),true,true)) (.inr ⟨rfl,by first|(rw[hF];done)|(rw[hF];simp[aFX])⟩))
  ·have hge:i=l.length:=by
    have:¬i<l.length:=Dq;omega
   subst hge;simp -dsimp only[go_sem,hw1];rcases hg with⟨h3,_⟩|⟨_,hg⟩
   ·omega
   cases m
   all_goals
    simp -dsimp only[go_sem,hw1]
   all_goals simp[←hg,aFX]
end
end Go.Proofs.YtonkjfiffcfaoaaGreat
