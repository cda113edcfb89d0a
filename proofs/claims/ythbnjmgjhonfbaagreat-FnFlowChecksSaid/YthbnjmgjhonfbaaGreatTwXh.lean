/- A number put into qC: the reference's aFT. -/
import Derived.Test.YthbnjmgjhonfbaaGreatTuB
import Derived.Test.YthbnjmgjhonfbaaGreatTwQb
import Derived.Test.YthbnjmgjhonfbaaGreatVtR
import Derived.Test.YthbnjmgjhonfbaaGreatVtK
import Derived.Test.YthbnjmgjhonfbaaGreatVtN
import Derived.Test.YthbnjmgjhonfbaaGreatTuR
import Derived.Lib.ItoaNum
import Derived.Test.YthbnjmgjhonfbaaGreatTuF
set_option linter.all false
set_option maxHeartbeats 8000000
namespace Go.Proofs.YthbnjmgjhonfbaaGreat
open Go.Vs
section
variable [Vs.Envs]
attribute [local irreducible] Vs.Fn
theorem aMi {l:List Int}{i:Nat} (h:i<l.length):(E cU l).getD i []=[.v (.int .u8 (l.getD i 0))]:=by
 rw[aX h];simp[cU,List.getD,h]
structure Sr where
 p:Nat
 s:Int
def sB (l:List Int) (x:Sr):Blk:=.var [.sl 1 (E cU l),.v (.int .i64 x.p),.v (.int .u64 x.s)] false
def nxS (l:List Int) (x:Sr):Sr:=⟨x.p+1,IntKind.u64.wrap (IntKind.u64.wrap (IntKind.u64.wrap (x.s*6364136223846793005)+IntKind.u64.wrap (l.getD x.p 0))+1442695040888963407)⟩
def nxV (l:List Int) (x:Sr):Int:=if x.p+1≤l.length then l.getD x.p 0 else IntKind.i64.wrap (iM .and .u64 ((nxS l x).s.fdiv (2 ^ 40)) 255)
def pkV (l:List Int) (x:Sr) (n:Int):Int:=if n≤1 then 0 else if n>200 then(IntKind.i64.wrap (IntKind.i64.wrap (nxV l x*256)+nxV l (nxS l x))).tmod n else(nxV l x).tmod n
def pkS (l:List Int) (x:Sr) (n:Int):Sr:=if n≤1 then x else if n>200 then nxS l (nxS l x) else nxS l x
def byt (l:List Int):Prop:=l.length≤4000∧∀x,x∈l→0≤x∧x≤255
theorem aJO {l:List Int} (h:byt l) (i:Nat):0≤l.getD i 0∧l.getD i 0≤255:=by
 by_cases hi:i<l.length
 ·have e:l.getD i 0=l[i]:=by simp[List.getD,hi]
  rw[e];exact h.2 _ (List.getElem_mem hi)
 ·have e:l.getD i 0=0:=by simp[List.getD,List.getElem?_eq_none (Nat.le_of_not_lt hi)]
  omega
theorem aLb (a:Int):0≤iM .and .u64 a 255∧iM .and .u64 a 255≤255:=by
 unfold iM;simp only
 have h:(BitVec.ofInt IntKind.u64.bits a &&& BitVec.ofInt IntKind.u64.bits 255).toNat≤255:=by
  rw[BitVec.toNat_and];exact Nat.le_trans Nat.and_le_right (by decide)
 generalize(BitVec.ofInt IntKind.u64.bits a &&& BitVec.ofInt IntKind.u64.bits 255).toNat=m at h
 have e:IntKind.u64.wrap (m:Int)=m:=by
  simp only[IntKind.wrap,IntKind.bits,IntKind.signed,Bool.false_and,Bool.false_eq_true,if_false];omega
 rw[e];omega
theorem aIN {l:List Int} (h:byt l) (x:Sr):0≤nxV l x∧nxV l x≤255:=by
 unfold nxV;split
 ·exact aJO h _
 ·have:=aLb ((nxS l x).s.fdiv (2 ^ 40));rw[aR (by omega) (by omega)];exact this
theorem dI {l:List Int} (h:byt l) (x:Sr) {n:Int} (hn:1≤n):0≤pkV l x n∧pkV l x n<n:=by
 have h1:=aIN h x;have h2:=aIN h (nxS l x);unfold pkV;split
 ·omega
 ·split
  ·rw[aR (n:=nxV l x*256) (by omega) (by omega),aR (by omega) (by omega)];exact⟨Int.tmod_nonneg _ (by omega),Int.tmod_lt_of_pos _ (by omega)⟩
  ·exact⟨Int.tmod_nonneg _ (by omega),Int.tmod_lt_of_pos _ (by omega)⟩
theorem bD (l:List Int) (x:Sr) (n:Int):(pkS l x n).p≤x.p+2:=by
 unfold pkS;split
 ·omega
 ·split<;>simp[nxS]<;>omega
theorem nxS_p (l:List Int) (x:Sr):(nxS l x).p=x.p+1:=rfl
theorem aGB {a:Nat} (h:a≤4000000):IntKind.i64.wrap ((a:Int)+1)=((a+1:Nat):Int):=by rw[aR (by omega) (by omega)];omega
end
section
variable [Vs.Envs]
attribute [local irreducible] Vs.Fn
def nx0:aD:=
 (.region [⟨some 2,.mv (.const (.int .i64 (0))),none⟩] [0] [])
def nx1:aD:=
 (.region [⟨some 3,.mv (.const (.int .i64 (0))),none⟩] [0,3] [])
def nx2:aD:=
 (.seq (.region [⟨some 4,.mv (.tmp 0),none⟩,
       ⟨some 5,.nilc (.tmp 4),none⟩,
       ⟨some 6,.fieldAddr 1 (.tmp 5),none⟩,
       ⟨some 7,.load false 1 (.tmp 6),none⟩,
       ⟨some 8,.mv (.tmp 0),none⟩,
       ⟨some 9,.nilc (.tmp 8),none⟩,
       ⟨some 10,.fieldAddr 0 (.tmp 9),none⟩,
       ⟨some 11,.load false 1 (.tmp 10),none⟩,
       ⟨some 12,.len (.tmp 11),none⟩,
       ⟨some 13,.bin .lss (.tmp 7) (.tmp 12),none⟩] [0,3,13] [4,6,7,5,8,9,10,11,12,13]) <|
    .cond (.tmp 13)
      (.region [⟨some 14,.mv (.tmp 0),none⟩,
        ⟨some 15,.nilc (.tmp 14),none⟩,
        ⟨some 16,.fieldAddr 0 (.tmp 15),none⟩,
        ⟨some 17,.load false 1 (.tmp 16),none⟩,
        ⟨some 18,.mv (.tmp 0),none⟩,
        ⟨some 19,.nilc (.tmp 18),none⟩,
        ⟨some 20,.fieldAddr 1 (.tmp 19),none⟩,
        ⟨some 21,.load false 1 (.tmp 20),none⟩,
        ⟨some 22,.idxSl 1 (.tmp 17) (.tmp 21),none⟩,
        ⟨some 23,.load false 1 (.tmp 22),none⟩,
        ⟨some 24,.conv .i64 (.tmp 23),none⟩,
        ⟨some 3,.mv (.tmp 24),none⟩] [0,3] [14,16,17,15,18,19,20,21,22,23,24])
      (.skip))
def nx3:aD:=
 (.region [⟨some 25,.mv (.tmp 0),none⟩,
      ⟨some 26,.nilc (.tmp 25),none⟩,
      ⟨some 27,.fieldAddr 1 (.tmp 26),none⟩,
      ⟨some 28,.load false 1 (.tmp 27),none⟩,
      ⟨some 29,.bin .add (.tmp 28) (.const (.int .i64 (1))),none⟩,
      ⟨some 30,.nilc (.tmp 25),none⟩,
      ⟨some 31,.fieldAddr 1 (.tmp 30),none⟩,
      ⟨none,.store 1 (.tmp 31) (.tmp 29),none⟩] [0,3] [])
def nx4:aD:=
 (.region [⟨some 32,.mv (.tmp 0),none⟩,
      ⟨some 33,.mv (.tmp 0),none⟩,
      ⟨some 34,.nilc (.tmp 33),none⟩,
      ⟨some 35,.fieldAddr 2 (.tmp 34),none⟩,
      ⟨some 36,.load false 1 (.tmp 35),none⟩,
      ⟨some 37,.bin .mul (.tmp 36) (.const (.int .u64 (6364136223846793005))),none⟩,
      ⟨some 38,.mv (.tmp 3),none⟩,
      ⟨some 39,.conv .u64 (.tmp 38),none⟩,
      ⟨some 40,.bin .add (.tmp 37) (.tmp 39),none⟩,
      ⟨some 41,.bin .add (.tmp 40) (.const (.int .u64 (1442695040888963407))),none⟩,
      ⟨some 42,.nilc (.tmp 32),none⟩,
      ⟨some 43,.fieldAddr 2 (.tmp 42),none⟩,
      ⟨none,.store 1 (.tmp 43) (.tmp 41),none⟩] [0,3] [])
def nx5:aD:=
 (.seq (.region [⟨some 44,.mv (.tmp 0),none⟩,
       ⟨some 45,.nilc (.tmp 44),none⟩,
       ⟨some 46,.fieldAddr 1 (.tmp 45),none⟩,
       ⟨some 47,.load false 1 (.tmp 46),none⟩,
       ⟨some 48,.mv (.tmp 0),none⟩,
       ⟨some 49,.nilc (.tmp 48),none⟩,
       ⟨some 50,.fieldAddr 0 (.tmp 49),none⟩,
       ⟨some 51,.load false 1 (.tmp 50),none⟩,
       ⟨some 52,.len (.tmp 51),none⟩,
       ⟨some 53,.bin .leq (.tmp 47) (.tmp 52),none⟩] [0,3,53] [44,46,47,45,48,49,50,51,52,53]) <|
    .cond (.tmp 53)
      (.seq (.region [⟨some 54,.mv (.tmp 3),none⟩,
         ⟨some 2,.mv (.tmp 54),none⟩] [2] []) <|
      .ret)
      (.skip))
def nx6:aD:=
 (.region [⟨some 55,.mv (.tmp 0),none⟩,
      ⟨some 56,.nilc (.tmp 55),none⟩,
      ⟨some 57,.fieldAddr 2 (.tmp 56),none⟩,
      ⟨some 58,.load false 1 (.tmp 57),none⟩,
      ⟨some 59,.bin .shr (.tmp 58) (.const (.int .u64 (40))),none⟩,
      ⟨some 60,.bin .and (.tmp 59) (.const (.int .u64 (255))),none⟩,
      ⟨some 61,.conv .i64 (.tmp 60),none⟩,
      ⟨some 2,.mv (.tmp 61),none⟩] [2] [])
theorem aLS:Cd.fE=aD.seq nx0 (aD.seq nx1 (aD.seq nx2 (aD.seq nx3 (aD.seq nx4 (aD.seq nx5 (aD.seq nx6 (aD.ret))))))):=rfl
def nS (l:List Int) (v:Int) (y:Sr):St:=⟨[(0,.ptr (.b 0) 0 0),(3,.v (.int .i64 v))],[(.b 0,sB l y)]⟩
theorem aL1 (X:Ctx) (N:St→Prop) (E:lL→St→Prop) (l:List Int) (x:Sr) (h:N ⟨[(0,.ptr (.b 0) 0 0)],[(.b 0,sB l x)]⟩):wpc Tryz.prog X (iL Tryz.prog) nx0 N E ⟨ini 0 [.ptr (.b 0) 0 0],aAq 0 [sB l x]⟩:=by
 unfold sB at h;unfold nx0
 repeat' first|simp -dsimp only[go_sem,sB,List.set_cons_zero,List.set_cons_succ,List.length_cons,List.length_nil,List.flatMap_cons,List.flatMap_nil,bC,bO,bB,sB,List.getD_cons_zero,List.append_nil,List.nil_append,List.cons_append]|apply Br.mk<;>intro h<;>try simp -dsimp only[h]|refine aC ?_|fail
 all_goals first|exact h|assumption
theorem aL0 (X:Ctx) (N:St→Prop) (E:lL→St→Prop) (l:List Int) (x:Sr) (h:N (nS l 0 x)):wpc Tryz.prog X (iL Tryz.prog) nx1 N E ⟨[(0,.ptr (.b 0) 0 0)],[(.b 0,sB l x)]⟩:=by
 unfold nS sB at h;unfold nx1
 repeat' first|simp -dsimp only[go_sem,sB,nS,List.set_cons_zero,List.set_cons_succ,List.length_cons,List.length_nil,List.flatMap_cons,List.flatMap_nil,bC,bO,bB,sB,List.getD_cons_zero,List.append_nil,List.nil_append,List.cons_append]|apply Br.mk<;>intro h<;>try simp -dsimp only[h]|refine aC ?_|fail
 all_goals first|exact h|assumption
theorem aLY (X:Ctx) (N:St→Prop) (E:lL→St→Prop) (l:List Int) (x:Sr) (hb:byt l) (hp:x.p≤4000) (hlt:x.p<l.length) (h:N (nS l (l.getD x.p 0) x)):wpc Tryz.prog X (iL Tryz.prog) nx2 N E (nS l 0 x):=by
 have w1:=aGB (a:=x.p) (by omega);have w0:((x.p:Int)).toNat=x.p:=by omega
 have hbb:=aJO hb x.p;have e1:decide ((x.p:Int)<((l.length:Nat):Int))=true:=by simp;omega
 have g1:=aMi hlt;have wb:IntKind.i64.wrap (l.getD x.p 0)=l.getD x.p 0:=aR (by omega) (by omega);unfold nS sB at h;unfold nx2
 repeat' first|simp -dsimp only[go_sem,sB,nS,w1,w0,e1,aH,List.set_cons_zero,List.set_cons_succ,List.length_cons,List.length_nil,List.flatMap_cons,List.flatMap_nil,bC,bO,bB,sB,List.getD_cons_zero,List.append_nil,List.nil_append,List.cons_append,g1,wb]|apply Br.mk<;>intro h<;>try simp -dsimp only[h]|refine aC ?_|fail
 all_goals first|exact h|assumption
theorem aLZ (X:Ctx) (N:St→Prop) (E:lL→St→Prop) (l:List Int) (x:Sr) (hp:x.p≤4000) (hlt:¬x.p<l.length) (h:N ⟨[(0,.ptr (.b 0) 0 0),(3,.v (.int .i64 0)),(13,.v (.bool false))],[(.b 0,sB l x)]⟩):wpc Tryz.prog X (iL Tryz.prog) nx2 N E (nS l 0 x):=by
 have w1:=aGB (a:=x.p) (by omega);have w0:((x.p:Int)).toNat=x.p:=by omega
 have e1:decide ((x.p:Int)<((l.length:Nat):Int))=false:=by simp;omega
 unfold sB at h;unfold nx2
 repeat' first|simp -dsimp only[go_sem,sB,nS,w1,w0,e1,aH,List.set_cons_zero,List.set_cons_succ,List.length_cons,List.length_nil,List.flatMap_cons,List.flatMap_nil,bC,bO,bB,sB,List.getD_cons_zero,List.append_nil,List.nil_append,List.cons_append]|apply Br.mk<;>intro h<;>try simp -dsimp only[h]|refine aC ?_|fail
 all_goals first|exact h|assumption
theorem aLW (X:Ctx) (N:St→Prop) (E:lL→St→Prop) (l:List Int) (x:Sr) (v:Int) (hp:x.p≤4000) (h:N (nS l v ⟨x.p+1,x.s⟩)):wpc Tryz.prog X (iL Tryz.prog) nx3 N E (nS l v x):=by
 have w1:=aGB (a:=x.p) (by omega);unfold nS sB at h;unfold nx3
 repeat' first|simp -dsimp only[go_sem,sB,nS,w1,aH,List.set_cons_zero,List.set_cons_succ,List.length_cons,List.length_nil,List.flatMap_cons,List.flatMap_nil,bC,bO,bB,sB,List.getD_cons_zero,List.append_nil,List.nil_append,List.cons_append]|apply Br.mk<;>intro h<;>try simp -dsimp only[h]|refine aC ?_|fail
 all_goals first|exact h|assumption
theorem aLX (X:Ctx) (N:St→Prop) (E:lL→St→Prop) (l:List Int) (x:Sr) (hp:x.p≤4000) (h:N (nS l 0 ⟨x.p+1,x.s⟩)):wpc Tryz.prog X (iL Tryz.prog) nx3 N E ⟨[(0,.ptr (.b 0) 0 0),(3,.v (.int .i64 0)),(13,.v (.bool false))],[(.b 0,sB l x)]⟩:=by
 have w1:=aGB (a:=x.p) (by omega);unfold nS sB at h;unfold nx3
 repeat' first|simp -dsimp only[go_sem,sB,nS,w1,aH,List.set_cons_zero,List.set_cons_succ,List.length_cons,List.length_nil,List.flatMap_cons,List.flatMap_nil,bC,bO,bB,sB,List.getD_cons_zero,List.append_nil,List.nil_append,List.cons_append]|apply Br.mk<;>intro h<;>try simp -dsimp only[h]|refine aC ?_|fail
 all_goals first|exact h|assumption
theorem aIO (X:Ctx) (N:St→Prop) (E:lL→St→Prop) (l:List Int) (x:Sr) (v sd:Int) (hsd:IntKind.u64.wrap (IntKind.u64.wrap (IntKind.u64.wrap (x.s*6364136223846793005)+IntKind.u64.wrap v)+1442695040888963407)=sd) (h:N (nS l v ⟨x.p,sd⟩)):wpc Tryz.prog X (iL Tryz.prog) nx4 N E (nS l v x):=by
 unfold nS sB at h;unfold nx4
 repeat' first|simp -dsimp only[go_sem,sB,nS,hsd,List.set_cons_zero,List.set_cons_succ,List.length_cons,List.length_nil,List.flatMap_cons,List.flatMap_nil,bC,bO,bB,sB,List.getD_cons_zero,List.append_nil,List.nil_append,List.cons_append]|apply Br.mk<;>intro h<;>try simp -dsimp only[h]|refine aC ?_|fail
 all_goals first|exact h|assumption
theorem aLU (X:Ctx) (N:St→Prop) (E:lL→St→Prop) (l:List Int) (x:Sr) (v:Int) (hlt:x.p≤l.length) (h:E .ret ⟨[(2,.v (.int .i64 v))],[(.b 0,sB l x)]⟩):wpc Tryz.prog X (iL Tryz.prog) nx5 N E (nS l v x):=by
 have e1:decide ((x.p:Int)≤((l.length:Nat):Int))=true:=by simp;omega
 unfold sB at h;unfold nx5
 repeat' first|simp -dsimp only[go_sem,sB,nS,e1,aH,List.set_cons_zero,List.set_cons_succ,List.length_cons,List.length_nil,List.flatMap_cons,List.flatMap_nil,bC,bO,bB,sB,List.getD_cons_zero,List.append_nil,List.nil_append,List.cons_append]|apply Br.mk<;>intro h<;>try simp -dsimp only[h]|refine aC ?_|fail
 all_goals first|exact h|assumption
theorem aLV (X:Ctx) (N:St→Prop) (E:lL→St→Prop) (l:List Int) (x:Sr) (v:Int) (hlt:¬x.p≤l.length) (h:N ⟨[(0,.ptr (.b 0) 0 0),(3,.v (.int .i64 v)),(53,.v (.bool false))],[(.b 0,sB l x)]⟩):wpc Tryz.prog X (iL Tryz.prog) nx5 N E (nS l v x):=by
 have e1:decide ((x.p:Int)≤((l.length:Nat):Int))=false:=by simp;omega
 unfold sB at h;unfold nx5
 repeat' first|simp -dsimp only[go_sem,sB,nS,e1,aH,List.set_cons_zero,List.set_cons_succ,List.length_cons,List.length_nil,List.flatMap_cons,List.flatMap_nil,bC,bO,bB,sB,List.getD_cons_zero,List.append_nil,List.nil_append,List.cons_append]|apply Br.mk<;>intro h<;>try simp -dsimp only[h]|refine aC ?_|fail
 all_goals first|exact h|assumption
theorem aLT (X:Ctx) (N:St→Prop) (E:lL→St→Prop) (l:List Int) (x:Sr) (v tv:Int) (htv:IntKind.i64.wrap (iM .and .u64 (x.s.fdiv (2 ^ 40)) 255)=tv) (h:N ⟨[(2,.v (.int .i64 tv))],[(.b 0,sB l x)]⟩):wpc Tryz.prog X (iL Tryz.prog) nx6 N E ⟨[(0,.ptr (.b 0) 0 0),(3,.v (.int .i64 v)),(53,.v (.bool false))],[(.b 0,sB l x)]⟩:=by
 have e40:(min 40 64:Nat)=40:=rfl;unfold sB at h;unfold nx6
 repeat' first|simp -dsimp only[go_sem,sB,nS,e40,htv,List.set_cons_zero,List.set_cons_succ,List.length_cons,List.length_nil,List.flatMap_cons,List.flatMap_nil,bC,bO,bB,sB,List.getD_cons_zero,List.append_nil,List.nil_append,List.cons_append]|apply Br.mk<;>intro h<;>try simp -dsimp only[h]|refine aC ?_|fail
 all_goals first|exact h|assumption
attribute [local irreducible] nx0 nx1 nx2 nx3 nx4 nx5 nx6
theorem next (l:List Int) (x:Sr) (hl:byt l) (hp:x.p≤4000):Vs.Fn Tryz.prog F.fE [sB l x] [.ptr (.b 0) 0 0] (.v (.int .i64 (nxV l x))) [some (sB l (nxS l x))]:=by
 refine fn1 Cd._s_l00Src__next_k [.b 0] [sB l (nxS l x)] fun X=>?_;rw[aLS];refine aL1 X _ _ l x (aL0 X _ _ l x ?_);by_cases hlt:x.p<l.length
 ·have hv:nxV l x=l.getD x.p 0:=by unfold nxV;rw[if_pos (by omega)]
  rw[hv];refine aLY X _ _ l x hl hp hlt (aLW X _ _ l x _ hp (aIO X _ _ l ⟨x.p+1,x.s⟩ _ _ rfl (aLU X _ _ l _ _ (by dsimp only;omega) ?_)));exact⟨_,_,rfl,rfl⟩
 ·have g0:l.getD x.p 0=0:=by simp[List.getD,List.getElem?_eq_none (Nat.le_of_not_lt hlt)]
  have hS:nxS l x=⟨x.p+1,IntKind.u64.wrap (IntKind.u64.wrap (IntKind.u64.wrap (x.s*6364136223846793005)+IntKind.u64.wrap 0)+1442695040888963407)⟩:=by unfold nxS;rw[g0]
  have hv:nxV l x=IntKind.i64.wrap (iM .and .u64 ((nxS l x).s.fdiv (2 ^ 40)) 255):=by unfold nxV;rw[if_neg (by omega)]
  rw[hv,hS];refine aLZ X _ _ l x hp hlt (aLX X _ _ l x hp (aIO X _ _ l ⟨x.p+1,x.s⟩ _ _ rfl (aLV X _ _ l _ _ (by dsimp only;omega) (aLT X _ _ l _ _ _ rfl ?_))));exact⟨_,_,rfl,rfl⟩
end
section
variable [Vs.Envs]
attribute [local irreducible] Vs.Fn
attribute [local irreducible] nxV nxS
attribute [local go_sem] List.set_cons_zero List.set_cons_succ List.length_cons List.length_nil List.flatMap_cons List.flatMap_nil bC bO bB List.getD_cons_zero List.append_nil List.nil_append List.cons_append in
theorem pick (l:List Int) (x:Sr) (hl:byt l) (n:Int) (hp:x.p≤3990):Vs.Fn Tryz.prog F.aI [sB l x] [.ptr (.b 0) 0 0,.v (.int .i64 n)] (.v (.int .i64 (pkV l x n))) [some (sB l (pkS l x n))]:=by
 have hq:(nxS l x).p=x.p+1:=nxS_p l x;have N1:=next l x hl (by omega)
 have N2:=next l (nxS l x) hl (by omega)
 by_cases h1:n≤1
 ·have e1:decide (n≤1)=true:=by simp[h1]
  have hv:pkV l x n=0:=by simp[pkV,h1]
  have hs:pkS l x n=x:=by simp[pkS,h1]
  rw[hv,hs];refine fn1 Cd._s_l00Src__pick_k [.b 0] [sB l x] fun X=>?_;unfold Cd.aI;simp -dsimp only[go_sem,e1,sB];exact⟨_,_,rfl,rfl⟩
 ·have e1:decide (n≤1)=false:=by simp[h1]
  have h0:n≠0:=by omega
  by_cases h2:n>200
  ·have e2:decide (n>200)=true:=by simp[h2]
   have hv:pkV l x n=(IntKind.i64.wrap (IntKind.i64.wrap (nxV l x*256)+nxV l (nxS l x))).tmod n:=by simp[pkV,h1,h2]
   have hs:pkS l x n=nxS l (nxS l x):=by simp[pkS,h1,h2]
   rw[hv,hs];refine fn1 Cd._s_l00Src__pick_k [.b 0] [sB l (nxS l (nxS l x))] fun X=>?_;unfold Cd.aI
   repeat' first|simp -dsimp only[go_sem,e1,e2,sB]|apply Br.mk<;>intro h<;>try simp -dsimp only[h]|refine RgK.mk rfl ?_|refine aA.bor (by first|exact N1|exact N2) rfl ?_|refine And.intro (by first|rfl|omega|decide|exact⟨rfl,h0⟩|(refine⟨?_,?_⟩<;>(first|rfl|omega|decide|exact⟨rfl,h0⟩))|(refine⟨?_,?_,?_⟩<;>(first|rfl|omega|decide|exact⟨rfl,h0⟩))|(refine⟨?_,?_,?_,?_⟩<;>(first|rfl|omega|decide|exact⟨rfl,h0⟩))) ?_|fail
   all_goals exact⟨_,_,rfl,rfl⟩
  ·have e2:decide (n>200)=false:=by simp;omega
   have hv:pkV l x n=(nxV l x).tmod n:=by simp[pkV,h1,h2]
   have hs:pkS l x n=nxS l x:=by simp[pkS,h1,h2]
   rw[hv,hs];refine fn1 Cd._s_l00Src__pick_k [.b 0] [sB l (nxS l x)] fun X=>?_;unfold Cd.aI
   repeat' first|simp -dsimp only[go_sem,e1,e2,sB]|apply Br.mk<;>intro h<;>try simp -dsimp only[h]|refine RgK.mk rfl ?_|refine aA.bor (by first|exact N1|exact N2) rfl ?_|refine And.intro (by first|rfl|omega|decide|exact⟨rfl,h0⟩|(refine⟨?_,?_⟩<;>(first|rfl|omega|decide|exact⟨rfl,h0⟩))|(refine⟨?_,?_,?_⟩<;>(first|rfl|omega|decide|exact⟨rfl,h0⟩))|(refine⟨?_,?_,?_,?_⟩<;>(first|rfl|omega|decide|exact⟨rfl,h0⟩))) ?_|fail
   all_goals exact⟨_,_,rfl,rfl⟩
attribute [local irreducible] pkV pkS
theorem one (l:List Int) (x:Sr) (hl:byt l) (n:Int) (hp:x.p≤3990):Vs.Fn Tryz.prog F.bJ [sB l x] [.ptr (.b 0) 0 0,.v (.int .i64 n)] (.v (.bool (pkV l x n==0))) [some (sB l (pkS l x n))]:=by
 have N1:=pick l x hl n hp;refine fn1 Cd._s_l00Src__one_k [.b 0] [sB l (pkS l x n)] fun X=>?_;unfold Cd.bJ
 repeat' first|simp -dsimp only[go_sem,List.set_cons_zero,List.set_cons_succ,List.length_cons,List.length_nil,List.flatMap_cons,List.flatMap_nil,bC,bO,bB,sB,List.getD_cons_zero,List.append_nil,List.nil_append,List.cons_append]|apply Br.mk<;>intro h<;>try simp -dsimp only[h]|refine aA.bor (by first|exact N1) rfl ?_|refine aC ?_|fail
 all_goals exact⟨_,_,rfl,rfl⟩
theorem among (l:List Int) (x:Sr) (hl:byt l) (m:List Int) (hp:x.p≤3990) (h0:m≠[]) (hm:m.length≤1000):Vs.Fn Tryz.prog F.bN [sB l x] [.ptr (.b 0) 0 0,.sl 1 (E cI m)] (.v (.int .i64 (m.getD (pkV l x (m.length:Nat)).toNat 0))) [some (sB l (pkS l x (m.length:Nat)))]:=by
 have N1:=pick l x hl (m.length:Nat) hp;have hpos:0<m.length:=List.length_pos_iff.2 h0;have hb:=dI hl x (n:=(m.length:Nat)) (by omega)
 have g1:(E cI m).getD (pkV l x (m.length:Nat)).toNat []=[.v (.int .i64 (m.getD (pkV l x (m.length:Nat)).toNat 0))]:=by
  have hlt:(pkV l x (m.length:Nat)).toNat<m.length:=by omega
  rw[aX hlt];simp[cI,List.getD,hlt]
 generalize pkV l x (m.length:Nat)=v at *
 refine fn1 Cd._s_l00Src__among_k [.b 0] [sB l (pkS l x (m.length:Nat))] fun X=>?_;unfold Cd.bN
 repeat' first|simp -dsimp only[go_sem,aH,g1,List.set_cons_zero,List.set_cons_succ,List.length_cons,List.length_nil,List.flatMap_cons,List.flatMap_nil,bC,bO,bB,sB,List.getD_cons_zero,List.append_nil,List.nil_append,List.cons_append]|apply Br.mk<;>intro h<;>try simp -dsimp only[h]|refine aA.bor (by first|exact N1) rfl ?_|refine aC ?_|fail
 all_goals exact⟨_,_,rfl,rfl⟩
end
section
variable [Vs.Envs]
attribute [local irreducible] Vs.Fn
end
section
variable [Vs.Envs]
attribute [local irreducible] Vs.Fn
end
section
variable [Vs.Envs]
attribute [local irreducible] Vs.Fn
end
section
variable [Vs.Envs]
attribute [local irreducible] Vs.Fn
def yN (i:Nat):Int:=((4*2 ^ i:Nat):Int)
theorem shl4 {i:Nat} (hi:i<10):IntKind.i64.wrap (4*2 ^ (min i IntKind.i64.bits))=yN i:=by
 have:i=0∨i=1∨i=2∨i=3∨i=4∨i=5∨i=6∨i=7∨i=8∨i=9:=by omega
 rcases this with rfl|rfl|rfl|rfl|rfl|rfl|rfl|rfl|rfl|rfl<;>decide
theorem u64I {i:Nat} (hi:i<10):IntKind.u64.wrap (i:Int)=(i:Int):=by
 have:i=0∨i=1∨i=2∨i=3∨i=4∨i=5∨i=6∨i=7∨i=8∨i=9:=by omega
 rcases this with rfl|rfl|rfl|rfl|rfl|rfl|rfl|rfl|rfl|rfl<;>decide
theorem aLz (i:Nat) (hi:i<10):Fz F.eY [.v (.int .i64 (i:Int))] (.v (.int .i64 (yN i))):=by
 have e1:((i:Int)==12)=false:=beq_eq_false_iff_ne.2 (by omega);have e2:((i:Int)==11)=false:=beq_eq_false_iff_ne.2 (by omega);have e3:inB i 0 9=true:=by simp[inB];omega
 have e4:=shl4 hi;have e5:=u64I hi;have e6:(0:Int)≤(i:Int):=by omega
 refine fn0 Cd.i_bitOf_k fun X=>?_
 repeat' first|simp -dsimp only[go_sem,e1,e2,e3,e4,e5,e6]|apply Br.mk<;>intro h<;>try simp -dsimp only[h]|refine aA.c (by first|exact inside _ _ _) ?_|refine aC ?_|fail
 all_goals first|(simp_all;done)|(simp_all;exact shl4 hi)
theorem aD1 (i:Nat) (hi:i<10):Fz F.jF [.v (.int .i64 (i:Int))] (.v (.int .i64 (yN i))):=by
 have e1:((i:Int)==12)=false:=beq_eq_false_iff_ne.2 (by omega);have e2:((i:Int)==11)=false:=beq_eq_false_iff_ne.2 (by omega);have e3:inB i 0 9=true:=by simp[inB];omega
 have e4:=shl4 hi;have e5:=u64I hi;have e6:(0:Int)≤(i:Int):=by omega
 refine fn0 Cd.s_l02Bit_k fun X=>?_
 repeat' first|simp -dsimp only[go_sem,e1,e2,e3,e4,e5,e6]|apply Br.mk<;>intro h<;>try simp -dsimp only[h]|refine aA.c (by first|exact yO _ _ _) ?_|refine aC ?_|fail
 all_goals first|(simp_all;done)|(simp_all;exact shl4 hi)
theorem aG6  : Fz F.eY [.v (.int .i64 11)] (.v (.int .i64 2)):=by
 refine fn0 Cd.i_bitOf_k fun X=>?_
 repeat' first|simp -dsimp only[go_sem]|apply Br.mk<;>intro h<;>try simp -dsimp only[h]|refine aA.c (by first|exact inside _ _ _) ?_|refine aC ?_|fail
 all_goals(simp_all)
def dgF (m:Int):Nat→Nat→Int
 |0,_=>-1
 |k+1,i=>if yN i=m then i else dgF m k (i+1)
def dg (m:Int):Int:=dgF m 10 0
theorem aFd (m:Int) {i:Nat} (hi:i<10):dgF m (10-i) i=if yN i=m then(i:Int) else dgF m (10-(i+1)) (i+1):=by
 rw[show 10-i=(10-(i+1))+1 by omega,dgF]
theorem aBH (m:Int):Fz F.uH [.v (.int .i64 m)] (.v (.int .i64 (dg m))):=by
 refine fn0 Cd.i_digitOf_k fun X=>?_;simp -dsimp only[go_sem];refine aN.at dM (X:={zz:Nat×(Unit) // zz.1≤10∧dgF m (10-zz.1) zz.1=dg m}) (fun zz=>[(4,.v (.int .i64 zz.1.1))]) (fun zz=>[]) (fun zz=>10-zz.1.1) ⟨(0,()),by omega,rfl⟩ ?_ ?_
 ·exact le0
 ·rintro⟨⟨i,a⟩,hi,hg⟩;dsimp only at hi hg;simp -dsimp only[go_sem];refine Br.mk (fun hc=>?_) fun hc=>?_
  ·have hlt:i<10:=Dq;have hw:=aG hlt (by omega);rw[aFd m hlt] at hg;by_cases he:yN i=m
   ·have hb:(yN i==m)=true:=beq_iff_eq.2 (by simp[he]);rw[if_pos he] at hg
    repeat' first|simp -dsimp only[go_sem,hw,hb]|apply Br.mk<;>intro h<;>try simp -dsimp only[h]|refine aA.c (by first|exact aLz i hlt) ?_|refine aC ?_|fail
    all_goals simp[hg]
   ·have hb:(yN i==m)=false:=beq_eq_false_iff_ne.2 (fun e=>he (by simp[e]));rw[if_neg he] at hg
    repeat' first|simp -dsimp only[go_sem,hw,hb]|apply Br.mk<;>intro h<;>try simp -dsimp only[h]|refine aA.c (by first|exact aLz i hlt) ?_|refine aC ?_|fail
    all_goals(exact nx (i+1,()) hg)
  ·have hge:i=10:=by
    have:¬i<10:=Dq;omega
   subst hge;simp -dsimp only[go_sem];have:dg m=-1:=by rw[←hg];rfl
   simp[this]
theorem lD (m:Int):Fz F.qX [.v (.int .i64 m)] (.v (.int .i64 (dg m))):=by
 refine fn0 Cd.s_l03Digit_k fun X=>?_;simp -dsimp only[go_sem];refine aN.at dM (X:={zz:Nat×(Unit) // zz.1≤10∧dgF m (10-zz.1) zz.1=dg m}) (fun zz=>[(3,.v (.int .i64 zz.1.1))]) (fun zz=>[]) (fun zz=>10-zz.1.1) ⟨(0,()),by omega,rfl⟩ ?_ ?_
 ·exact le0
 ·rintro⟨⟨i,a⟩,hi,hg⟩;dsimp only at hi hg;simp -dsimp only[go_sem];refine Br.mk (fun hc=>?_) fun hc=>?_
  ·have hlt:i<10:=Dq;have hw:=aG hlt (by omega);rw[aFd m hlt] at hg;by_cases he:yN i=m
   ·have hb:(m==yN i)=true:=beq_iff_eq.2 (by simp[he]);rw[if_pos he] at hg
    repeat' first|simp -dsimp only[go_sem,hw,hb]|apply Br.mk<;>intro h<;>try simp -dsimp only[h]|refine aA.c (by first|exact aD1 i hlt) ?_|refine aC ?_|fail
    all_goals simp[hg]
   ·have hb:(m==yN i)=false:=beq_eq_false_iff_ne.2 (fun e=>he (by simp[e]));rw[if_neg he] at hg
    repeat' first|simp -dsimp only[go_sem,hw,hb]|apply Br.mk<;>intro h<;>try simp -dsimp only[h]|refine aA.c (by first|exact aD1 i hlt) ?_|refine aC ?_|fail
    all_goals(exact nx (i+1,()) hg)
  ·have hge:i=10:=by
    have:¬i<10:=Dq;omega
   subst hge;simp -dsimp only[go_sem];have:dg m=-1:=by rw[←hg];rfl
   simp[this]
theorem aA0 (l:List Int) (hl:l.length≤1048576):Vs.Fn Tryz.prog F.kL [] [.sl 1 (E cI l)] (.loc (.b 0) 0 l.length) [some (.arr 1 (E cI l) false)]:=by
 refine fn1 Cd.i_copyInts_k [.t 5 0] [.arr 1 (E cI l) false] fun X=>?_;unfold Cd.kL;simp -dsimp only[go_sem,List.replicate_succ,List.replicate_zero,List.flatten_cons,List.flatten_nil];exact⟨by omega,⟨by omega,by omega⟩,⟨_,_,rfl,rfl⟩⟩
theorem aLC {α:Type}{c:α→List AV} (l:List α) (a b:Nat):E c ((l.take a).drop b)=((E c l).take a).drop b:=by simp[E,List.map_take,List.map_drop]
theorem part (c:List Int) (fr to:Int) (h0:0≤fr) (h1:fr≤to) (h2:to≤c.length):Fz F.nU [.ro (cC c),.agg [.v (.int .i64 fr),.v (.int .i64 to)]] (.sl 1 (E cI ((c.take to.toNat).drop fr.toNat))):=by
 refine fn0 Cd.s_l02Part_k fun X=>?_
 repeat' first|simp -dsimp only[go_sem,cC]|apply Br.mk<;>intro h<;>try simp -dsimp only[h]|refine aC ?_|fail
 all_goals exact aO (by rw[aLC])
end
section
variable [Vs.Envs]
attribute [local irreducible] Vs.Fn
def pd:Nat→Nat→List Int
 |0,_=>[]
 |w+1,k=>pd w (k/10)++[yN (k%10)]
theorem aAP:∀w k,(pd w k).length=w
 |0,_=>rfl
 |w+1,k=>by simp[pd,aAP w]
def aDT (l:List Int):List Int:=l.set (l.length-1) (iM .or .i64 (l.getD (l.length-1) 0) 2)
def ptN (w:Nat) (n:Int):List Int:=if n<0 then aDT (pd w n.natAbs) else pd w n.natAbs
theorem aFJ (w:Nat) (n:Int):(ptN w n).length=w:=by unfold ptN aDT;split<;>simp[aAP]
theorem aEB (j:Nat) (done:List Int) (x:Int):(E cI (List.replicate (j+1) 0++done)).set j [.v (.int .i64 x)]=E cI (List.replicate j 0++x::done):=by
 have e:(List.replicate (j+1) (0:Int)++done).set j x=List.replicate j 0++x::done:=by
  rw[List.replicate_succ',List.append_assoc,List.set_append_right _ _ (by simp)];simp
 rw[←e];simp[E,cI,List.map_set]
theorem aAc (w:Nat):List.replicate w [AV.v (.int .i64 0)]=E cI (List.replicate w 0++[]):=by simp[E,cI]
theorem aEC (j:Nat) (done:List Int):(E cI (List.replicate (j+1) 0++done)).getD j []=[.v (.int .i64 0)]:=by
 rw[aX (by simp;omega)];simp[List.getElem_append,cI]
theorem aGZ (n a:Nat):n/10 ^ a/10=n/10 ^ (a+1):=by rw[Nat.div_div_eq_div_mul,Nat.pow_succ]
theorem aEH {l:List Int} (h:l.length≠0):(E cI l).set (l.length-1) [.v (.int .i64 (iM .or .i64 (l.getD (l.length-1) 0) 2))]=E cI (aDT l):=by
 unfold aDT;simp[E,cI,List.map_set]
theorem aES {l:List Int} (h:l.length≠0):(E cI l).getD (l.length-1) []=[.v (.int .i64 (l.getD (l.length-1) 0))]:=by
 have hl:l.length-1<l.length:=by omega
 rw[dK hl];simp[List.getD,hl]
theorem aFT (n:Int) (w:Nat) (h0:-1000000000000≤n) (h1:n≤1000000000000) (hw0:0<w) (hw20:w≤20):Fz F.tO [.v (.int .i64 n),.v (.int .i64 w)] (.tup [.sl 1 (E cI (ptN w n)),.v (.bool (((n.natAbs/10 ^ w:Nat):Int)==0))]):=by
 rcases Int.lt_or_le n 0 with hneg|hneg
 ·have hd0:decide (n<0)=true:=decide_eq_true (by omega);have hpt:ptN w n=aDT (pd w n.natAbs):=by unfold ptN;rw[if_pos (by omega)]
  have hn1:IntKind.i64.wrap (0-n)=(n.natAbs:Int):=by rw[aR (by omega) (by omega)];omega
  have hn2:IntKind.i64.wrap (-n)=(n.natAbs:Int):=by rw[aR (by omega) (by omega)];omega
  have hwm:IntKind.i64.wrap ((w:Int)-1)=(w:Int)-1:=aR (by omega) (by omega);refine fn0 Cd.s_l03Put_k fun X=>?_;simp -dsimp only[go_sem,hd0,aAc]
  repeat' first|simp -dsimp only[go_sem,hd0,aAc,hwm,Int.toNat_natCast,hn1,hn2]|apply Br.mk<;>intro h<;>try simp -dsimp only[h]|refine aC ?_|fail
  refine aN.at dM (X:={zz:Nat×Nat×List Int // zz.1≤w∧zz.2.2.length=w-zz.1∧zz.2.1=n.natAbs/10 ^ (w-zz.1)∧pd zz.1 zz.2.1++zz.2.2=pd w n.natAbs}) (fun zz=>[(7,.v (.int .i64 (zz.1.2.1:Nat))),(8,.v (.int .i64 ((zz.1.1:Int)-1)))]) (fun zz=>[(.t 10 0,.arr 1 (E cI (List.replicate zz.1.1 0++zz.1.2.2)) false)]) (fun zz=>zz.1.1) ⟨(w,n.natAbs,[]),Nat.le_refl _,by simp,by simp,by simp⟩ ?_ ?_
  ·simp[Vs.LeL,Vs.look,Vs.aB,Vs.aP,Vs.aK,Vs.hset,Vs.aL,E]
   first|done|omega
  ·rintro⟨⟨j1,k,done⟩,hj,hd,hk,hg⟩;dsimp only at hj hd hk hg;simp -dsimp only[go_sem,hd0];refine Br.mk (fun hc=>?_) fun hc=>?_
   ·obtain⟨j,rfl⟩:∃j,j1=j+1:=⟨j1-1,by simp at hc;omega⟩;have e1:(((j+1:Nat):Int)-1)=(j:Int):=by omega
    have hwj:IntKind.i64.wrap ((j:Int)-1)=(j:Int)-1:=aR (by omega) (by omega);have hkb:k≤1000000000000:=by rw[hk];exact Nat.le_trans (Nat.div_le_self _ _) (by omega)
    have hkd:k/10=n.natAbs/10 ^ (w-j):=by rw[hk,aGZ,show w-(j+1)+1=w-j by omega]
    have q1:((k:Int)).tmod 10=((k%10:Nat):Int):=by rw[Int.tmod_eq_emod_of_nonneg (by omega)];omega
    have q2:IntKind.i64.wrap (((k:Int)).tdiv 10)=((k/10:Nat):Int):=by rw[Int.tdiv_eq_ediv_of_nonneg (by omega),aR (by omega) (by omega)];omega
    have hgr:=aEC j done;have hgs:=aEB j done (yN (k%10));rw[pd,List.append_assoc] at hg
    repeat' first|simp -dsimp only[go_sem,e1,hgr,hgs,hwj,q1,q2,aH,List.length_append,List.length_replicate,Int.toNat_natCast]|apply Br.mk<;>intro h<;>try simp -dsimp only[h]|refine aA.c (by first|exact aD1 (k%10) (by omega)) ?_|refine aC ?_|fail
    all_goals(exact⟨⟨(j,k/10,yN (k%10)::done),by omega,by simp only[List.length_cons];omega,hkd,hg⟩,by simp[Vs.LeL,Vs.look,Vs.aB,Vs.aP,Vs.aK,Vs.hset,Vs.aL],by simp only;omega⟩)
   ·have hz:j1=0:=by simp at hc;omega
    subst hz;rw[Nat.sub_zero] at hk;have hdone:done=pd w n.natAbs:=by simpa[pd] using hg
    subst hdone;have hlen:=aAP w n.natAbs;have hne:(pd w n.natAbs).length≠0:=by omega
    have hnr:=aEH hne;have hlg:=aES hne;rw[hlen] at hnr hlg;have hw1:IntKind.i64.wrap ((w:Int)-1)=((w-1:Nat):Int):=by rw[aR (by omega) (by omega)];omega
    have htk:List.take w (E cI (aDT (pd w n.natAbs)))=E cI (aDT (pd w n.natAbs)):=List.take_of_length_le (by simp[E,aDT,aAP]);simp -dsimp only[go_sem,hd0,hnr,hlg,hw1,hlen,aH,Int.toNat_natCast,List.replicate_zero,List.nil_append,List.length_set];exact⟨⟨⟨by omega,by omega⟩,⟨by omega,by omega⟩,[.t 10 0],[],by rw[htk,hpt,hk],rfl⟩,fun h=>h rfl⟩
 ·have hd0:decide (n<0)=false:=decide_eq_false (by omega);have hpt:ptN w n=pd w n.natAbs:=by unfold ptN;rw[if_neg (by omega)]
  have hn1:n=(n.natAbs:Int):=by omega
  have hwm:IntKind.i64.wrap ((w:Int)-1)=(w:Int)-1:=aR (by omega) (by omega);refine fn0 Cd.s_l03Put_k fun X=>?_;simp -dsimp only[go_sem,hd0,aAc]
  repeat' first|simp -dsimp only[go_sem,hd0,aAc,hwm,Int.toNat_natCast]|apply Br.mk<;>intro h<;>try simp -dsimp only[h]|refine aC ?_|fail
  refine aN.at dM (X:={zz:Nat×Nat×List Int // zz.1≤w∧zz.2.2.length=w-zz.1∧zz.2.1=n.natAbs/10 ^ (w-zz.1)∧pd zz.1 zz.2.1++zz.2.2=pd w n.natAbs}) (fun zz=>[(7,.v (.int .i64 (zz.1.2.1:Nat))),(8,.v (.int .i64 ((zz.1.1:Int)-1)))]) (fun zz=>[(.t 10 0,.arr 1 (E cI (List.replicate zz.1.1 0++zz.1.2.2)) false)]) (fun zz=>zz.1.1) ⟨(w,n.natAbs,[]),Nat.le_refl _,by simp,by simp,by simp⟩ ?_ ?_
  ·simp[Vs.LeL,Vs.look,Vs.aB,Vs.aP,Vs.aK,Vs.hset,Vs.aL,E]
   first|done|omega
  ·rintro⟨⟨j1,k,done⟩,hj,hd,hk,hg⟩;dsimp only at hj hd hk hg;simp -dsimp only[go_sem,hd0];refine Br.mk (fun hc=>?_) fun hc=>?_
   ·obtain⟨j,rfl⟩:∃j,j1=j+1:=⟨j1-1,by simp at hc;omega⟩;have e1:(((j+1:Nat):Int)-1)=(j:Int):=by omega
    have hwj:IntKind.i64.wrap ((j:Int)-1)=(j:Int)-1:=aR (by omega) (by omega);have hkb:k≤1000000000000:=by rw[hk];exact Nat.le_trans (Nat.div_le_self _ _) (by omega)
    have hkd:k/10=n.natAbs/10 ^ (w-j):=by rw[hk,aGZ,show w-(j+1)+1=w-j by omega]
    have q1:((k:Int)).tmod 10=((k%10:Nat):Int):=by rw[Int.tmod_eq_emod_of_nonneg (by omega)];omega
    have q2:IntKind.i64.wrap (((k:Int)).tdiv 10)=((k/10:Nat):Int):=by rw[Int.tdiv_eq_ediv_of_nonneg (by omega),aR (by omega) (by omega)];omega
    have hgr:=aEC j done;have hgs:=aEB j done (yN (k%10));rw[pd,List.append_assoc] at hg
    repeat' first|simp -dsimp only[go_sem,e1,hgr,hgs,hwj,q1,q2,aH,List.length_append,List.length_replicate,Int.toNat_natCast]|apply Br.mk<;>intro h<;>try simp -dsimp only[h]|refine aA.c (by first|exact aD1 (k%10) (by omega)) ?_|refine aC ?_|fail
    all_goals(exact⟨⟨(j,k/10,yN (k%10)::done),by omega,by simp only[List.length_cons];omega,hkd,hg⟩,by simp[Vs.LeL,Vs.look,Vs.aB,Vs.aP,Vs.aK,Vs.hset,Vs.aL],by simp only;omega⟩)
   ·have hz:j1=0:=by simp at hc;omega
    subst hz;rw[Nat.sub_zero] at hk;have hdone:done=pd w n.natAbs:=by simpa[pd] using hg
    subst hdone;have hlen:=aAP w n.natAbs;have hne:(pd w n.natAbs).length≠0:=by omega
    have hnr:=aEH hne;have hlg:=aES hne;rw[hlen] at hnr hlg;have hw1:IntKind.i64.wrap ((w:Int)-1)=((w-1:Nat):Int):=by rw[aR (by omega) (by omega)];omega
    have htk:List.take w (E cI (pd w n.natAbs))=E cI (pd w n.natAbs):=List.take_of_length_le (by simp[E,aDT,aAP]);simp -dsimp only[go_sem,hd0,hnr,hlg,hw1,hlen,aH,Int.toNat_natCast,List.replicate_zero,List.nil_append,List.length_set];exact⟨⟨[.t 10 0],[],by rw[htk,hpt,hk],rfl⟩,fun h=>h rfl⟩
end
end Go.Proofs.YthbnjmgjhonfbaaGreat
