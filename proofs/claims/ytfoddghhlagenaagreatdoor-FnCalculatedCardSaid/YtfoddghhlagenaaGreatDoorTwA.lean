/- Numbers that are read, and faults. -/
import Derived.Test.YtfoddghhlagenaaGreatDoorTuB
import Derived.Test.YtfoddghhlagenaaGreatDoorTwQb
import Derived.Test.YtfoddghhlagenaaGreatDoorVtR
import Derived.Test.YtfoddghhlagenaaGreatDoorVtK
import Derived.Test.YtfoddghhlagenaaGreatDoorVtN
import Derived.Test.YtfoddghhlagenaaGreatDoorTuR
set_option linter.all false
set_option maxHeartbeats 8000000
namespace Go.Proofs.YtfoddghhlagenaaGreatDoor
open Go.Vs
section
variable [Vs.Envs]
attribute [local irreducible] Vs.Fn
theorem aGu {l:List Int}{i:Nat} (h:i<l.length):(E cU l).getD i []=[.v (.int .u8 (l.getD i 0))]:=by
 rw[bI h];simp[cU,List.getD,h]
structure Sr where
 p:Nat
 s:Int
def sB (l:List Int) (x:Sr):Blk:=.var [.sl 1 (E cU l),.v (.int .i64 x.p),.v (.int .u64 x.s)] false
def nxS (l:List Int) (x:Sr):Sr:=⟨x.p+1,IntKind.u64.wrap (IntKind.u64.wrap (IntKind.u64.wrap (x.s*6364136223846793005)+IntKind.u64.wrap (l.getD x.p 0))+1442695040888963407)⟩
def nxV (l:List Int) (x:Sr):Int:=if x.p+1<=l.length then l.getD x.p 0 else IntKind.i64.wrap (bJ .and .u64 ((nxS l x).s.fdiv (2 ^ 40)) 255)
def pkV (l:List Int) (x:Sr) (n:Int):Int:=if n<=1 then 0 else if n>200 then(IntKind.i64.wrap (IntKind.i64.wrap (nxV l x*256)+nxV l (nxS l x))).tmod n else(nxV l x).tmod n
def pkS (l:List Int) (x:Sr) (n:Int):Sr:=if n<=1 then x else if n>200 then nxS l (nxS l x) else nxS l x
def byt (l:List Int):Prop:=l.length<=4096∧∀x,x∈l->0<=x∧x<=255
theorem aEF {l:List Int} (h:byt l) (i:Nat):0<=l.getD i 0∧l.getD i 0<=255:=by
 by_cases hi:i<l.length
 .have e:l.getD i 0=l[i]:=by simp[List.getD,hi]
  rw[e];exact h.2 _ (List.getElem_mem hi)
 .have e:l.getD i 0=0:=by simp[List.getD,List.getElem?_eq_none (Nat.le_of_not_lt hi)]
  omega
theorem aFr (a:Int):0<=bJ .and .u64 a 255∧bJ .and .u64 a 255<=255:=by
 unfold bJ
 simp only
 have h:(BitVec.ofInt IntKind.u64.bits a &&& BitVec.ofInt IntKind.u64.bits 255).toNat<=255:=by
  rw[BitVec.toNat_and]
  exact Nat.le_trans Nat.and_le_right (by decide)
 generalize(BitVec.ofInt IntKind.u64.bits a &&& BitVec.ofInt IntKind.u64.bits 255).toNat=m at h
 have e:IntKind.u64.wrap (m:Int)=m:=by
  simp only[IntKind.wrap,IntKind.bits,IntKind.signed,Bool.false_and,Bool.false_eq_true,if_false]
  omega
 rw[e];omega
theorem aDL {l:List Int} (h:byt l) (x:Sr):0<=nxV l x∧nxV l x<=255:=by
 unfold nxV
 split
 .exact aEF h _
 .have:=aFr ((nxS l x).s.fdiv (2 ^ 40))
  rw[aG (by omega) (by omega)];exact this
theorem bC {l:List Int} (h:byt l) (x:Sr) {n:Int} (hn:1<=n):0<=pkV l x n∧pkV l x n<n:=by
 have h1:=aDL h x
 have h2:=aDL h (nxS l x)
 unfold pkV
 split
 .omega
 .split
  .rw[aG (n:=nxV l x*256) (by omega) (by omega),aG (by omega) (by omega)]
   exact⟨Int.tmod_nonneg _ (by omega),Int.tmod_lt_of_pos _ (by omega)⟩
  .exact⟨Int.tmod_nonneg _ (by omega),Int.tmod_lt_of_pos _ (by omega)⟩
theorem aR (l:List Int) (x:Sr) (n:Int):(pkS l x n).p<=x.p+2:=by
 unfold pkS
 split
 .omega
 .split<;>simp[nxS]<;>omega
theorem nxS_p (l:List Int) (x:Sr):(nxS l x).p=x.p+1:=rfl
theorem aBZ {a:Nat} (h:a<=4000000):IntKind.i64.wrap ((a:Int)+1)=((a+1:Nat):Int):=by rw[aG (by omega) (by omega)];omega
end
section
variable [Vs.Envs]
attribute [local irreducible] Vs.Fn
def nx0:aD:=
 (.region [⟨some 2,.mv (.const (.int .i64 (0))),none⟩] [0] [])
def nx1:aD:=
 (.region [⟨some 3,.mv (.const (.int .i64 (0))),none⟩] [0,3] [])
def nx2:aD:=
 (.seq (.region [⟨some 4,.mv (.tmp 0),none⟩,
       ⟨some 5,.nilc (.tmp 4),none⟩,
       ⟨some 6,.fieldAddr 1 (.tmp 5),none⟩,
       ⟨some 7,.load false 1 (.tmp 6),none⟩,
       ⟨some 8,.mv (.tmp 0),none⟩,
       ⟨some 9,.nilc (.tmp 8),none⟩,
       ⟨some 10,.fieldAddr 0 (.tmp 9),none⟩,
       ⟨some 11,.load false 1 (.tmp 10),none⟩,
       ⟨some 12,.len (.tmp 11),none⟩,
       ⟨some 13,.bin .lss (.tmp 7) (.tmp 12),none⟩] [0,3,13] [4,6,7,5,8,9,10,11,12,13]) <|
    .cond (.tmp 13)
      (.region [⟨some 14,.mv (.tmp 0),none⟩,
        ⟨some 15,.nilc (.tmp 14),none⟩,
        ⟨some 16,.fieldAddr 0 (.tmp 15),none⟩,
        ⟨some 17,.load false 1 (.tmp 16),none⟩,
        ⟨some 18,.mv (.tmp 0),none⟩,
        ⟨some 19,.nilc (.tmp 18),none⟩,
        ⟨some 20,.fieldAddr 1 (.tmp 19),none⟩,
        ⟨some 21,.load false 1 (.tmp 20),none⟩,
        ⟨some 22,.idxSl 1 (.tmp 17) (.tmp 21),none⟩,
        ⟨some 23,.load false 1 (.tmp 22),none⟩,
        ⟨some 24,.conv .i64 (.tmp 23),none⟩,
        ⟨some 3,.mv (.tmp 24),none⟩] [0,3] [14,16,17,15,18,19,20,21,22,23,24])
      (.skip))
def nx3:aD:=
 (.region [⟨some 25,.mv (.tmp 0),none⟩,
      ⟨some 26,.nilc (.tmp 25),none⟩,
      ⟨some 27,.fieldAddr 1 (.tmp 26),none⟩,
      ⟨some 28,.load false 1 (.tmp 27),none⟩,
      ⟨some 29,.bin .add (.tmp 28) (.const (.int .i64 (1))),none⟩,
      ⟨some 30,.nilc (.tmp 25),none⟩,
      ⟨some 31,.fieldAddr 1 (.tmp 30),none⟩,
      ⟨none,.store 1 (.tmp 31) (.tmp 29),none⟩] [0,3] [])
def nx4:aD:=
 (.region [⟨some 32,.mv (.tmp 0),none⟩,
      ⟨some 33,.mv (.tmp 0),none⟩,
      ⟨some 34,.nilc (.tmp 33),none⟩,
      ⟨some 35,.fieldAddr 2 (.tmp 34),none⟩,
      ⟨some 36,.load false 1 (.tmp 35),none⟩,
      ⟨some 37,.bin .mul (.tmp 36) (.const (.int .u64 (6364136223846793005))),none⟩,
      ⟨some 38,.mv (.tmp 3),none⟩,
      ⟨some 39,.conv .u64 (.tmp 38),none⟩,
      ⟨some 40,.bin .add (.tmp 37) (.tmp 39),none⟩,
      ⟨some 41,.bin .add (.tmp 40) (.const (.int .u64 (1442695040888963407))),none⟩,
      ⟨some 42,.nilc (.tmp 32),none⟩,
      ⟨some 43,.fieldAddr 2 (.tmp 42),none⟩,
      ⟨none,.store 1 (.tmp 43) (.tmp 41),none⟩] [0,3] [])
def nx5:aD:=
 (.seq (.region [⟨some 44,.mv (.tmp 0),none⟩,
       ⟨some 45,.nilc (.tmp 44),none⟩,
       ⟨some 46,.fieldAddr 1 (.tmp 45),none⟩,
       ⟨some 47,.load false 1 (.tmp 46),none⟩,
       ⟨some 48,.mv (.tmp 0),none⟩,
       ⟨some 49,.nilc (.tmp 48),none⟩,
       ⟨some 50,.fieldAddr 0 (.tmp 49),none⟩,
       ⟨some 51,.load false 1 (.tmp 50),none⟩,
       ⟨some 52,.len (.tmp 51),none⟩,
       ⟨some 53,.bin .leq (.tmp 47) (.tmp 52),none⟩] [0,3,53] [44,46,47,45,48,49,50,51,52,53]) <|
    .cond (.tmp 53)
      (.seq (.region [⟨some 54,.mv (.tmp 3),none⟩,
         ⟨some 2,.mv (.tmp 54),none⟩] [2] []) <|
      .ret)
      (.skip))
def nx6:aD:=
 (.region [⟨some 55,.mv (.tmp 0),none⟩,
      ⟨some 56,.nilc (.tmp 55),none⟩,
      ⟨some 57,.fieldAddr 2 (.tmp 56),none⟩,
      ⟨some 58,.load false 1 (.tmp 57),none⟩,
      ⟨some 59,.bin .shr (.tmp 58) (.const (.int .u64 (40))),none⟩,
      ⟨some 60,.bin .and (.tmp 59) (.const (.int .u64 (255))),none⟩,
      ⟨some 61,.conv .i64 (.tmp 60),none⟩,
      ⟨some 2,.mv (.tmp 61),none⟩] [2] [])
theorem aF3:Cd.dG=aD.seq nx0 (aD.seq nx1 (aD.seq nx2 (aD.seq nx3 (aD.seq nx4 (aD.seq nx5 (aD.seq nx6 (aD.ret))))))):=rfl
def nS (l:List Int) (v:Int) (y:Sr):St:=⟨[(0,.ptr (.b 0) 0 0),(3,.v (.int .i64 v))],[(.b 0,sB l y)]⟩
theorem aGc (X:Ctx) (N:St->Prop) (E:gP->St->Prop) (l:List Int) (x:Sr) (h:N ⟨[(0,.ptr (.b 0) 0 0)],[(.b 0,sB l x)]⟩):wpc Tryz.prog X (bV Tryz.prog) nx0 N E ⟨ini 0 [.ptr (.b 0) 0 0],rX 0 [sB l x]⟩:=by
 unfold sB at h
 unfold nx0
 repeat' first|simp -dsimp only[go_sem,sB,List.set_cons_zero,List.set_cons_succ,List.length_cons,List.length_nil,List.flatMap_cons,List.flatMap_nil,bX,eF,bW,sB,List.getD_cons_zero,List.append_nil,List.nil_append,List.cons_append]|apply Br.mk<;>intro h<;>try simp -dsimp only[h]|refine aC ?_|refine aC9 ?_|fail
 all_goals first|exact h|assumption
theorem aGb (X:Ctx) (N:St->Prop) (E:gP->St->Prop) (l:List Int) (x:Sr) (h:N (nS l 0 x)):wpc Tryz.prog X (bV Tryz.prog) nx1 N E ⟨[(0,.ptr (.b 0) 0 0)],[(.b 0,sB l x)]⟩:=by
 unfold nS sB at h
 unfold nx1
 repeat' first|simp -dsimp only[go_sem,sB,nS,List.set_cons_zero,List.set_cons_succ,List.length_cons,List.length_nil,List.flatMap_cons,List.flatMap_nil,bX,eF,bW,sB,List.getD_cons_zero,List.append_nil,List.nil_append,List.cons_append]|apply Br.mk<;>intro h<;>try simp -dsimp only[h]|refine aC ?_|refine aC9 ?_|fail
 all_goals first|exact h|assumption
theorem aF9 (X:Ctx) (N:St->Prop) (E:gP->St->Prop) (l:List Int) (x:Sr) (hb:byt l) (hp:x.p<=4000) (hlt:x.p<l.length) (h:N (nS l (l.getD x.p 0) x)):wpc Tryz.prog X (bV Tryz.prog) nx2 N E (nS l 0 x):=by
 have w1:=aBZ (a:=x.p) (by omega)
 have w0:((x.p:Int)).toNat=x.p:=by omega
 have hbb:=aEF hb x.p
 have e1:decide ((x.p:Int)<((l.length:Nat):Int))=true:=by simp;omega
 have g1:=aGu hlt
 have wb:IntKind.i64.wrap (l.getD x.p 0)=l.getD x.p 0:=aG (by omega) (by omega)
 unfold nS sB at h
 unfold nx2
 repeat' first|simp -dsimp only[go_sem,sB,nS,w1,w0,e1,aJ,List.set_cons_zero,List.set_cons_succ,List.length_cons,List.length_nil,List.flatMap_cons,List.flatMap_nil,bX,eF,bW,sB,List.getD_cons_zero,List.append_nil,List.nil_append,List.cons_append,g1,wb]|apply Br.mk<;>intro h<;>try simp -dsimp only[h]|refine aC ?_|refine aC9 ?_|fail
 all_goals first|exact h|assumption
theorem aGa (X:Ctx) (N:St->Prop) (E:gP->St->Prop) (l:List Int) (x:Sr) (hp:x.p<=4000) (hlt:¬x.p<l.length) (h:N ⟨[(0,.ptr (.b 0) 0 0),(3,.v (.int .i64 0)),(13,.v (.bool false))],[(.b 0,sB l x)]⟩):wpc Tryz.prog X (bV Tryz.prog) nx2 N E (nS l 0 x):=by
 have w1:=aBZ (a:=x.p) (by omega)
 have w0:((x.p:Int)).toNat=x.p:=by omega
 have e1:decide ((x.p:Int)<((l.length:Nat):Int))=false:=by simp;omega
 unfold sB at h
 unfold nx2
 repeat' first|simp -dsimp only[go_sem,sB,nS,w1,w0,e1,aJ,List.set_cons_zero,List.set_cons_succ,List.length_cons,List.length_nil,List.flatMap_cons,List.flatMap_nil,bX,eF,bW,sB,List.getD_cons_zero,List.append_nil,List.nil_append,List.cons_append]|apply Br.mk<;>intro h<;>try simp -dsimp only[h]|refine aC ?_|refine aC9 ?_|fail
 all_goals first|exact h|assumption
theorem aF7 (X:Ctx) (N:St->Prop) (E:gP->St->Prop) (l:List Int) (x:Sr) (v:Int) (hp:x.p<=4000) (h:N (nS l v ⟨x.p+1,x.s⟩)):wpc Tryz.prog X (bV Tryz.prog) nx3 N E (nS l v x):=by
 have w1:=aBZ (a:=x.p) (by omega)
 unfold nS sB at h
 unfold nx3
 repeat' first|simp -dsimp only[go_sem,sB,nS,w1,aJ,List.set_cons_zero,List.set_cons_succ,List.length_cons,List.length_nil,List.flatMap_cons,List.flatMap_nil,bX,eF,bW,sB,List.getD_cons_zero,List.append_nil,List.nil_append,List.cons_append]|apply Br.mk<;>intro h<;>try simp -dsimp only[h]|refine aC ?_|refine aC9 ?_|fail
 all_goals first|exact h|assumption
theorem aF8 (X:Ctx) (N:St->Prop) (E:gP->St->Prop) (l:List Int) (x:Sr) (hp:x.p<=4000) (h:N (nS l 0 ⟨x.p+1,x.s⟩)):wpc Tryz.prog X (bV Tryz.prog) nx3 N E ⟨[(0,.ptr (.b 0) 0 0),(3,.v (.int .i64 0)),(13,.v (.bool false))],[(.b 0,sB l x)]⟩:=by
 have w1:=aBZ (a:=x.p) (by omega)
 unfold nS sB at h
 unfold nx3
 repeat' first|simp -dsimp only[go_sem,sB,nS,w1,aJ,List.set_cons_zero,List.set_cons_succ,List.length_cons,List.length_nil,List.flatMap_cons,List.flatMap_nil,bX,eF,bW,sB,List.getD_cons_zero,List.append_nil,List.nil_append,List.cons_append]|apply Br.mk<;>intro h<;>try simp -dsimp only[h]|refine aC ?_|refine aC9 ?_|fail
 all_goals first|exact h|assumption
theorem aDM (X:Ctx) (N:St->Prop) (E:gP->St->Prop) (l:List Int) (x:Sr) (v sd:Int) (hsd:IntKind.u64.wrap (IntKind.u64.wrap (IntKind.u64.wrap (x.s*6364136223846793005)+IntKind.u64.wrap v)+1442695040888963407)=sd) (h:N (nS l v ⟨x.p,sd⟩)):wpc Tryz.prog X (bV Tryz.prog) nx4 N E (nS l v x):=by
 unfold nS sB at h
 unfold nx4
 repeat' first|simp -dsimp only[go_sem,sB,nS,hsd,List.set_cons_zero,List.set_cons_succ,List.length_cons,List.length_nil,List.flatMap_cons,List.flatMap_nil,bX,eF,bW,sB,List.getD_cons_zero,List.append_nil,List.nil_append,List.cons_append]|apply Br.mk<;>intro h<;>try simp -dsimp only[h]|refine aC ?_|refine aC9 ?_|fail
 all_goals first|exact h|assumption
theorem aF5 (X:Ctx) (N:St->Prop) (E:gP->St->Prop) (l:List Int) (x:Sr) (v:Int) (hlt:x.p<=l.length) (h:E .ret ⟨[(2,.v (.int .i64 v))],[(.b 0,sB l x)]⟩):wpc Tryz.prog X (bV Tryz.prog) nx5 N E (nS l v x):=by
 have e1:decide ((x.p:Int)<=((l.length:Nat):Int))=true:=by simp;omega
 unfold sB at h
 unfold nx5
 repeat' first|simp -dsimp only[go_sem,sB,nS,e1,aJ,List.set_cons_zero,List.set_cons_succ,List.length_cons,List.length_nil,List.flatMap_cons,List.flatMap_nil,bX,eF,bW,sB,List.getD_cons_zero,List.append_nil,List.nil_append,List.cons_append]|apply Br.mk<;>intro h<;>try simp -dsimp only[h]|refine aC ?_|refine aC9 ?_|fail
 all_goals first|exact h|assumption
theorem aF6 (X:Ctx) (N:St->Prop) (E:gP->St->Prop) (l:List Int) (x:Sr) (v:Int) (hlt:¬x.p<=l.length) (h:N ⟨[(0,.ptr (.b 0) 0 0),(3,.v (.int .i64 v)),(53,.v (.bool false))],[(.b 0,sB l x)]⟩):wpc Tryz.prog X (bV Tryz.prog) nx5 N E (nS l v x):=by
 have e1:decide ((x.p:Int)<=((l.length:Nat):Int))=false:=by simp;omega
 unfold sB at h
 unfold nx5
 repeat' first|simp -dsimp only[go_sem,sB,nS,e1,aJ,List.set_cons_zero,List.set_cons_succ,List.length_cons,List.length_nil,List.flatMap_cons,List.flatMap_nil,bX,eF,bW,sB,List.getD_cons_zero,List.append_nil,List.nil_append,List.cons_append]|apply Br.mk<;>intro h<;>try simp -dsimp only[h]|refine aC ?_|refine aC9 ?_|fail
 all_goals first|exact h|assumption
theorem aF4 (X:Ctx) (N:St->Prop) (E:gP->St->Prop) (l:List Int) (x:Sr) (v tv:Int) (htv:IntKind.i64.wrap (bJ .and .u64 (x.s.fdiv (2 ^ 40)) 255)=tv) (h:N ⟨[(2,.v (.int .i64 tv))],[(.b 0,sB l x)]⟩):wpc Tryz.prog X (bV Tryz.prog) nx6 N E ⟨[(0,.ptr (.b 0) 0 0),(3,.v (.int .i64 v)),(53,.v (.bool false))],[(.b 0,sB l x)]⟩:=by
 have e40:(min 40 64:Nat)=40:=rfl
 unfold sB at h
 unfold nx6
 repeat' first|simp -dsimp only[go_sem,sB,nS,e40,htv,List.set_cons_zero,List.set_cons_succ,List.length_cons,List.length_nil,List.flatMap_cons,List.flatMap_nil,bX,eF,bW,sB,List.getD_cons_zero,List.append_nil,List.nil_append,List.cons_append]|apply Br.mk<;>intro h<;>try simp -dsimp only[h]|refine aC ?_|refine aC9 ?_|fail
 all_goals first|exact h|assumption
attribute [local irreducible] nx0 nx1 nx2 nx3 nx4 nx5 nx6
theorem next (l:List Int) (x:Sr) (hl:byt l) (hp:x.p<=4000):Vs.Fn Tryz.prog F.dG [sB l x] [.ptr (.b 0) 0 0] (.v (.int .i64 (nxV l x))) [some (sB l (nxS l x))]:=by
 refine fn1 Cd._s_l00Src__next_k [.b 0] [sB l (nxS l x)] λX=>?_
 rw[aF3]
 refine aGc X _ _ l x (aGb X _ _ l x ?_)
 by_cases hlt:x.p<l.length
 .have hv:nxV l x=l.getD x.p 0:=by unfold nxV;rw[if_pos (by omega)]
  rw[hv]
  refine aF9 X _ _ l x hl hp hlt (aF7 X _ _ l x _ hp (aDM X _ _ l ⟨x.p+1,x.s⟩ _ _ rfl (aF5 X _ _ l _ _ (by dsimp only;omega) ?_)))
  exact⟨_,_,rfl,rfl⟩
 .have g0:l.getD x.p 0=0:=by simp[List.getD,List.getElem?_eq_none (Nat.le_of_not_lt hlt)]
  have hS:nxS l x=⟨x.p+1,IntKind.u64.wrap (IntKind.u64.wrap (IntKind.u64.wrap (x.s*6364136223846793005)+IntKind.u64.wrap 0)+1442695040888963407)⟩:=by unfold nxS;rw[g0]
  have hv:nxV l x=IntKind.i64.wrap (bJ .and .u64 ((nxS l x).s.fdiv (2 ^ 40)) 255):=by unfold nxV;rw[if_neg (by omega)]
  rw[hv,hS]
  refine aGa X _ _ l x hp hlt (aF8 X _ _ l x hp (aDM X _ _ l ⟨x.p+1,x.s⟩ _ _ rfl (aF6 X _ _ l _ _ (by dsimp only;omega) (aF4 X _ _ l _ _ _ rfl ?_))))
  exact⟨_,_,rfl,rfl⟩
end
section
variable [Vs.Envs]
attribute [local irreducible] Vs.Fn
attribute [local irreducible] nxV nxS
attribute [local go_sem] List.set_cons_zero List.set_cons_succ List.length_cons List.length_nil List.flatMap_cons List.flatMap_nil bX eF bW List.getD_cons_zero List.append_nil List.nil_append List.cons_append in
theorem pick (l:List Int) (x:Sr) (hl:byt l) (n:Int) (hp:x.p<=3990):Vs.Fn Tryz.prog F.aF [sB l x] [.ptr (.b 0) 0 0,.v (.int .i64 n)] (.v (.int .i64 (pkV l x n))) [some (sB l (pkS l x n))]:=by
 have hq:(nxS l x).p=x.p+1:=nxS_p l x
 have N1:=next l x hl (by omega)
 have N2:=next l (nxS l x) hl (by omega)
 by_cases h1:n<=1
 .have e1:decide (n<=1)=true:=by simp[h1]
  have hv:pkV l x n=0:=by simp[pkV,h1]
  have hs:pkS l x n=x:=by simp[pkS,h1]
  rw[hv,hs]
  refine fn1 Cd._s_l00Src__pick_k [.b 0] [sB l x] λX=>?_
  unfold Cd.aF
  simp -dsimp only[go_sem,e1,sB]
  exact⟨_,_,rfl,rfl⟩
 .have e1:decide (n<=1)=false:=by simp[h1]
  have h0:n≠0:=by omega
  by_cases h2:n>200
  .have e2:decide (n>200)=true:=by simp[h2]
   have hv:pkV l x n=(IntKind.i64.wrap (IntKind.i64.wrap (nxV l x*256)+nxV l (nxS l x))).tmod n:=by simp[pkV,h1,h2]
   have hs:pkS l x n=nxS l (nxS l x):=by simp[pkS,h1,h2]
   rw[hv,hs]
   refine fn1 Cd._s_l00Src__pick_k [.b 0] [sB l (nxS l (nxS l x))] λX=>?_
   unfold Cd.aF
   repeat' first|simp -dsimp only[go_sem,e1,e2,sB]|apply Br.mk<;>intro h<;>try simp -dsimp only[h]|refine RgK.mk rfl ?_|refine aB.bor (by first|exact N1|exact N2) rfl ?_|refine And.intro (by first|rfl|omega|decide|exact⟨rfl,h0⟩|(refine⟨?_,?_⟩<;>(first|rfl|omega|decide|exact⟨rfl,h0⟩))|(refine⟨?_,?_,?_⟩<;>(first|rfl|omega|decide|exact⟨rfl,h0⟩))|(refine⟨?_,?_,?_,?_⟩<;>(first|rfl|omega|decide|exact⟨rfl,h0⟩))) ?_|fail
   all_goals exact⟨_,_,rfl,rfl⟩
  .have e2:decide (n>200)=false:=by simp;omega
   have hv:pkV l x n=(nxV l x).tmod n:=by simp[pkV,h1,h2]
   have hs:pkS l x n=nxS l x:=by simp[pkS,h1,h2]
   rw[hv,hs]
   refine fn1 Cd._s_l00Src__pick_k [.b 0] [sB l (nxS l x)] λX=>?_
   unfold Cd.aF
   repeat' first|simp -dsimp only[go_sem,e1,e2,sB]|apply Br.mk<;>intro h<;>try simp -dsimp only[h]|refine RgK.mk rfl ?_|refine aB.bor (by first|exact N1|exact N2) rfl ?_|refine And.intro (by first|rfl|omega|decide|exact⟨rfl,h0⟩|(refine⟨?_,?_⟩<;>(first|rfl|omega|decide|exact⟨rfl,h0⟩))|(refine⟨?_,?_,?_⟩<;>(first|rfl|omega|decide|exact⟨rfl,h0⟩))|(refine⟨?_,?_,?_,?_⟩<;>(first|rfl|omega|decide|exact⟨rfl,h0⟩))) ?_|fail
   all_goals exact⟨_,_,rfl,rfl⟩
attribute [local irreducible] pkV pkS
theorem one (l:List Int) (x:Sr) (hl:byt l) (n:Int) (hp:x.p<=3990):Vs.Fn Tryz.prog F.aM [sB l x] [.ptr (.b 0) 0 0,.v (.int .i64 n)] (.v (.bool (pkV l x n==0))) [some (sB l (pkS l x n))]:=by
 have N1:=pick l x hl n hp
 refine fn1 Cd._s_l00Src__one_k [.b 0] [sB l (pkS l x n)] λX=>?_
 unfold Cd.aM
 repeat' first|simp -dsimp only[go_sem,List.set_cons_zero,List.set_cons_succ,List.length_cons,List.length_nil,List.flatMap_cons,List.flatMap_nil,bX,eF,bW,sB,List.getD_cons_zero,List.append_nil,List.nil_append,List.cons_append]|apply Br.mk<;>intro h<;>try simp -dsimp only[h]|refine aB.bor (by first|exact N1) rfl ?_|refine aC ?_|refine aC9 ?_|fail
 all_goals exact⟨_,_,rfl,rfl⟩
theorem among (l:List Int) (x:Sr) (hl:byt l) (m:List Int) (hp:x.p<=3990) (h0:m≠[]) (hm:m.length<=1000):Vs.Fn Tryz.prog F.bH [sB l x] [.ptr (.b 0) 0 0,.sl 1 (E cI m)] (.v (.int .i64 (m.getD (pkV l x (m.length:Nat)).toNat 0))) [some (sB l (pkS l x (m.length:Nat)))]:=by
 have N1:=pick l x hl (m.length:Nat) hp
 have hpos:0<m.length:=List.length_pos_iff.2 h0
 have hb:=bC hl x (n:=(m.length:Nat)) (by omega)
 have g1:(E cI m).getD (pkV l x (m.length:Nat)).toNat []=[.v (.int .i64 (m.getD (pkV l x (m.length:Nat)).toNat 0))]:=by
  have hlt:(pkV l x (m.length:Nat)).toNat<m.length:=by omega
  rw[bI hlt];simp[cI,List.getD,hlt]
 generalize pkV l x (m.length:Nat)=v at *
 refine fn1 Cd._s_l00Src__among_k [.b 0] [sB l (pkS l x (m.length:Nat))] λX=>?_
 unfold Cd.bH
 repeat' first|simp -dsimp only[go_sem,aJ,g1,List.set_cons_zero,List.set_cons_succ,List.length_cons,List.length_nil,List.flatMap_cons,List.flatMap_nil,bX,eF,bW,sB,List.getD_cons_zero,List.append_nil,List.nil_append,List.cons_append]|apply Br.mk<;>intro h<;>try simp -dsimp only[h]|refine aB.bor (by first|exact N1) rfl ?_|refine aC ?_|refine aC9 ?_|fail
 all_goals exact⟨_,_,rfl,rfl⟩
end
section
variable [Vs.Envs]
attribute [local irreducible] Vs.Fn
def wl:Nat->Int->List Int
 |0,_=>[]
 |k+1,n=>n.tmod 10::wl k (W (n.tdiv 10))
theorem nK:∀k n,(wl k n).length=k
 |0,_=>rfl
 |k+1,n=>by simp[wl,nK k]
theorem aBf (k:Nat) (n:Int) (hk:k<=1000):Fz F.jF [.v (.int .i64 k),.v (.int .i64 n)] (.agg [.sl 1 (E cI (wl k n))]):=by
 refine fn0 Cd.i_wheelsShow_k λX=>?_
 simp -dsimp only[go_sem]
 refine⟨⟨by omega,by omega⟩,rfl,?_⟩
 refine bA.intro dM (X:={p:Nat×Int×List Int×Name // p.1<=k∧p.2.2.1.length=p.1∧p.2.2.1++wl (k-p.1) p.2.1=wl k n∧(p.2.2.2=.t 6 0∨p.2.2.2=.t 16 0)})
  (λp=>⟨[(1,.v (.int .i64 p.1.2.1)),(4,.ptr (.t 4 0) 0 0),(5,.ptr (.t 5 0) 0 0),(8,.v (.int .i64 k)),(9,.v (.int .i64 p.1.1))],[(.t 5 0,.var [.loc p.1.2.2.2 0 p.1.1] false),(p.1.2.2.2,.arr 1 (E cI p.1.2.2.1) false),(.t 4 0,.var [.v (.slice none 0 0)] false)]⟩) (λp=>k-p.1.1) ⟨(0,n,[],.t 6 0),by omega,rfl,by simp,.inl rfl⟩ ?_ ?_
 .simp[Vs.LeL,Vs.look,Vs.aA,Vs.bL,Vs.aO,Vs.hset,Vs.aP,E]
 .rintro⟨⟨i,c,acc,nm⟩,hi,ha,hg,hnm⟩
  dsimp only at hi ha hg hnm
  simp -dsimp only[go_sem]
  refine Br.mk (λhc=>?_) λhc=>?_
  .have hlt:i<k:=by simpa using hc
   have hw:IntKind.i64.wrap ((i:Int)+1)=((i+1:Nat):Int):=by rw[aG (by omega) (by omega)];omega
   have hcon:acc++(c.tmod 10)::wl (k-(i+1)) (W (c.tdiv 10))=wl k n:=by
    rw[←hg]
    have:k-i=(k-(i+1))+1:=by omega
    rw[this];rfl
   have hap:E cI acc++[[.v (.int .i64 (c.tmod 10))]]=E cI (acc++[c.tmod 10]):=by rw[bR];rfl
   rcases hnm with rfl|rfl
   all_goals
    repeat' first|simp -dsimp only[go_sem,hw,hap,ha,List.replicate_succ,List.replicate_zero,List.flatten_cons,List.flatten_nil]|apply Br.mk<;>intro h<;>try simp -dsimp only[h]|refine aC ?_|refine aC9 ?_|fail
    exact⟨⟨(i+1,W (c.tdiv 10),acc++[c.tmod 10],.t 16 0),by omega,by simp[ha],by simpa using hcon,.inr rfl⟩,by simp[Vs.LeL,Vs.look,Vs.aA,Vs.bL,Vs.aO,Vs.hset,Vs.aP,E,cI,ha],by simp only;omega⟩
  .have hge:i=k:=by
    have:¬i<k:=by simpa using hc
    omega
   subst hge
   have hacc:acc=wl i n:=by simpa[wl] using hg
   rcases hnm with rfl|rfl
   all_goals
    simp -dsimp only[go_sem,hacc]
    refine⟨?_,by simp⟩;rw[List.take_of_length_le (by simp[Vs.E,nK])];exact⟨_,_,rfl,rfl⟩
end
end Go.Proofs.YtfoddghhlagenaaGreatDoor
