/- Steps that are drawn; decks and flows of a source. -/
import Derived.Test.YtklmdppgonhflaaGreatDoorXuB
import Derived.Test.YtklmdppgonhflaaGreatDoorXwQb
import Derived.Test.YtklmdppgonhflaaGreatDoorVtR
import Derived.Test.YtklmdppgonhflaaGreatDoorVtK
import Derived.Test.YtklmdppgonhflaaGreatDoorVtO
import Derived.Test.YtklmdppgonhflaaGreatDoorXwK
import Derived.Test.YtklmdppgonhflaaGreatDoorXuF
import Derived.Test.YtklmdppgonhflaaGreatDoorXwQd
import Derived.Test.YtklmdppgonhflaaGreatDoorXuI
set_option linter.all false
set_option maxHeartbeats 8000000
namespace Go.Proofs.YtklmdppgonhflaaGreatDoor
open Go.Vs
section
variable [Vs.Envs]
attribute [local irreducible] Vs.Fn
theorem aOR {l:List Int}{i:Nat} (h:i<l.length):(E cU l).getD i []=[.v (.int .u8 (l.getD i 0))]:=by
 rw[aW h];simp[cU,List.getD,h]
structure Sr where
 p:Nat
 s:Int
def sB (l:List Int) (x:Sr):Blk:=.var [.sl 1 (E cU l),.v (.int .i64 x.p),.v (.int .u64 x.s)] false
def nxS (l:List Int) (x:Sr):Sr:=⟨x.p+1,IntKind.u64.wrap (IntKind.u64.wrap (IntKind.u64.wrap (x.s*6364136223846793005)+IntKind.u64.wrap (l.getD x.p 0))+1442695040888963407)⟩
def nxV (l:List Int) (x:Sr):Int:=if x.p+1<=l.length then l.getD x.p 0 else IntKind.i64.wrap (fU .and .u64 ((nxS l x).s.fdiv (2 ^ 40)) 255)
def pkV (l:List Int) (x:Sr) (n:Int):Int:=if n<=1 then 0 else if n>200 then(IntKind.i64.wrap (IntKind.i64.wrap (nxV l x*256)+nxV l (nxS l x))).tmod n else(nxV l x).tmod n
def pkS (l:List Int) (x:Sr) (n:Int):Sr:=if n<=1 then x else if n>200 then nxS l (nxS l x) else nxS l x
def byt (l:List Int):Prop:=l.length<=4096∧∀x,x∈l->0<=x∧x<=255
theorem aL6 {l:List Int} (h:byt l) (i:Nat):0<=l.getD i 0∧l.getD i 0<=255:=by
 by_cases hi:i<l.length
 .have e:l.getD i 0=l[i]:=by simp[List.getD,hi]
  rw[e];exact h.2 _ (Aa hi)
 .have e:l.getD i 0=0:=by simp[List.getD,List.getElem?_eq_none (Nat.le_of_not_lt hi)]
  omega
theorem aNt (a:Int):0<=fU .and .u64 a 255∧fU .and .u64 a 255<=255:=by
 unfold fU;simp only
 have h:(BitVec.ofInt IntKind.u64.bits a &&& BitVec.ofInt IntKind.u64.bits 255).toNat<=255:=by
  rw[BitVec.toNat_and];exact Bl Nat.and_le_right (by decide)
 generalize(BitVec.ofInt IntKind.u64.bits a &&& BitVec.ofInt IntKind.u64.bits 255).toNat=m at h
 have e:IntKind.u64.wrap (m:Int)=m:=by
  simp only[IntKind.wrap,IntKind.bits,IntKind.signed,Bool.false_and,AO,Bc];omega
 rw[e];omega
theorem aK2 {l:List Int} (h:byt l) (x:Sr):0<=nxV l x∧nxV l x<=255:=by
 unfold nxV;split
 .exact aL6 h _
 .have:=aNt ((nxS l x).s.fdiv (2 ^ 40));rw[aI (by omega) (by omega)];exact this
theorem aZ {l:List Int} (h:byt l) (x:Sr) {n:Int} (G:1<=n):0<=pkV l x n∧pkV l x n<n:=by
 have F:=aK2 h x;have h2:=aK2 h (nxS l x);unfold pkV;split
 .omega
 .split
  .rw[aI (n:=nxV l x*256) (by omega) (by omega),aI (by omega) (by omega)];exact⟨Int.tmod_nonneg _ (by omega),Int.tmod_lt_of_pos _ (by omega)⟩
  .exact⟨Int.tmod_nonneg _ (by omega),Int.tmod_lt_of_pos _ (by omega)⟩
theorem aO (l:List Int) (x:Sr) (n:Int):(pkS l x n).p<=x.p+2:=by
 unfold pkS;split
 .omega
 .split<;>simp[nxS]<;>omega
theorem nxS_p (l:List Int) (x:Sr):(nxS l x).p=x.p+1:=rfl
theorem aIk {a:Nat} (h:a<=4000000):IntKind.i64.wrap ((a:Int)+1)=((a+1:Nat):Int):=by rw[aI (by omega) (by omega)];omega
end
section
variable [Vs.Envs]
attribute [local irreducible] Vs.Fn
def nx0:aD:=
 (.region [⟨some 2,.mv (.const (.int .i64 (0))),none⟩] [0] [])
def nx1:aD:=
 (.region [⟨some 3,.mv (.const (.int .i64 (0))),none⟩] [0,3] [])
def nx2:aD:=
 (.seq (.region [⟨some 4,.mv (.tmp 0),none⟩,
       ⟨some 5,.nilc (.tmp 4),none⟩,
       ⟨some 6,.fieldAddr 1 (.tmp 5),none⟩,
       ⟨some 7,.load false 1 (.tmp 6),none⟩,
       ⟨some 8,.mv (.tmp 0),none⟩,
       ⟨some 9,.nilc (.tmp 8),none⟩,
       ⟨some 10,.fieldAddr 0 (.tmp 9),none⟩,
       ⟨some 11,.load false 1 (.tmp 10),none⟩,
       ⟨some 12,.len (.tmp 11),none⟩,
       ⟨some 13,.bin .lss (.tmp 7) (.tmp 12),none⟩] [0,3,13] [4,6,7,5,8,9,10,11,12,13]) <|
    .cond (.tmp 13)
      (.region [⟨some 14,.mv (.tmp 0),none⟩,
        ⟨some 15,.nilc (.tmp 14),none⟩,
        ⟨some 16,.fieldAddr 0 (.tmp 15),none⟩,
        ⟨some 17,.load false 1 (.tmp 16),none⟩,
        ⟨some 18,.mv (.tmp 0),none⟩,
        ⟨some 19,.nilc (.tmp 18),none⟩,
        ⟨some 20,.fieldAddr 1 (.tmp 19),none⟩,
        ⟨some 21,.load false 1 (.tmp 20),none⟩,
        ⟨some 22,.idxSl 1 (.tmp 17) (.tmp 21),none⟩,
        ⟨some 23,.load false 1 (.tmp 22),none⟩,
        ⟨some 24,.conv .i64 (.tmp 23),none⟩,
        ⟨some 3,.mv (.tmp 24),none⟩] [0,3] [14,16,17,15,18,19,20,21,22,23,24])
      (.skip))
def nx3:aD:=
 (.region [⟨some 25,.mv (.tmp 0),none⟩,
      ⟨some 26,.nilc (.tmp 25),none⟩,
      ⟨some 27,.fieldAddr 1 (.tmp 26),none⟩,
      ⟨some 28,.load false 1 (.tmp 27),none⟩,
      ⟨some 29,.bin .add (.tmp 28) (.const (.int .i64 (1))),none⟩,
      ⟨some 30,.nilc (.tmp 25),none⟩,
      ⟨some 31,.fieldAddr 1 (.tmp 30),none⟩,
      ⟨none,.store 1 (.tmp 31) (.tmp 29),none⟩] [0,3] [])
def nx4:aD:=
 (.region [⟨some 32,.mv (.tmp 0),none⟩,
      ⟨some 33,.mv (.tmp 0),none⟩,
      ⟨some 34,.nilc (.tmp 33),none⟩,
      ⟨some 35,.fieldAddr 2 (.tmp 34),none⟩,
      ⟨some 36,.load false 1 (.tmp 35),none⟩,
      ⟨some 37,.bin .mul (.tmp 36) (.const (.int .u64 (6364136223846793005))),none⟩,
      ⟨some 38,.mv (.tmp 3),none⟩,
      ⟨some 39,.conv .u64 (.tmp 38),none⟩,
      ⟨some 40,.bin .add (.tmp 37) (.tmp 39),none⟩,
      ⟨some 41,.bin .add (.tmp 40) (.const (.int .u64 (1442695040888963407))),none⟩,
      ⟨some 42,.nilc (.tmp 32),none⟩,
      ⟨some 43,.fieldAddr 2 (.tmp 42),none⟩,
      ⟨none,.store 1 (.tmp 43) (.tmp 41),none⟩] [0,3] [])
def nx5:aD:=
 (.seq (.region [⟨some 44,.mv (.tmp 0),none⟩,
       ⟨some 45,.nilc (.tmp 44),none⟩,
       ⟨some 46,.fieldAddr 1 (.tmp 45),none⟩,
       ⟨some 47,.load false 1 (.tmp 46),none⟩,
       ⟨some 48,.mv (.tmp 0),none⟩,
       ⟨some 49,.nilc (.tmp 48),none⟩,
       ⟨some 50,.fieldAddr 0 (.tmp 49),none⟩,
       ⟨some 51,.load false 1 (.tmp 50),none⟩,
       ⟨some 52,.len (.tmp 51),none⟩,
       ⟨some 53,.bin .leq (.tmp 47) (.tmp 52),none⟩] [0,3,53] [44,46,47,45,48,49,50,51,52,53]) <|
    .cond (.tmp 53)
      (.seq (.region [⟨some 54,.mv (.tmp 3),none⟩,
         ⟨some 2,.mv (.tmp 54),none⟩] [2] []) <|
      .ret)
      (.skip))
def nx6:aD:=
 (.region [⟨some 55,.mv (.tmp 0),none⟩,
      ⟨some 56,.nilc (.tmp 55),none⟩,
      ⟨some 57,.fieldAddr 2 (.tmp 56),none⟩,
      ⟨some 58,.load false 1 (.tmp 57),none⟩,
      ⟨some 59,.bin .shr (.tmp 58) (.const (.int .u64 (40))),none⟩,
      ⟨some 60,.bin .and (.tmp 59) (.const (.int .u64 (255))),none⟩,
      ⟨some 61,.conv .i64 (.tmp 60),none⟩,
      ⟨some 2,.mv (.tmp 61),none⟩] [2] [])
theorem aOh:Cd.fG=aD.seq nx0 (aD.seq nx1 (aD.seq nx2 (aD.seq nx3 (aD.seq nx4 (aD.seq nx5 (aD.seq nx6 (aD.ret))))))):=rfl
def nS (l:List Int) (v:Int) (y:Sr):St:=⟨[(0,.ptr (.b 0) 0 0),(3,.v (.int .i64 v))],[(.b 0,sB l y)]⟩
theorem aOq (X:Ctx) (N:St->Prop) (E:kW->St->Prop) (l:List Int) (x:Sr) (h:N ⟨[(0,.ptr (.b 0) 0 0)],[(.b 0,sB l x)]⟩):wpc Tryz.prog X (dF Tryz.prog) nx0 N E ⟨ini 0 [.ptr (.b 0) 0 0],xZ 0 [sB l x]⟩:=by
 unfold sB at h;unfold nx0
 repeat' first|simp -dsimp only[go_sem,sB,Ad,Al,Ac,Ai,BF,BG,aU,bF,aT,sB,Ar,Be,Aj,Ae]|apply Br.mk<;>intro h<;>try simp -dsimp only[h]|refine aC ?_|refine aC9 ?_|fail
 all_goals first|exact h|assumption
theorem aOp (X:Ctx) (N:St->Prop) (E:kW->St->Prop) (l:List Int) (x:Sr) (h:N (nS l 0 x)):wpc Tryz.prog X (dF Tryz.prog) nx1 N E ⟨[(0,.ptr (.b 0) 0 0)],[(.b 0,sB l x)]⟩:=by
 unfold nS sB at h;unfold nx1
 repeat' first|simp -dsimp only[go_sem,sB,nS,Ad,Al,Ac,Ai,BF,BG,aU,bF,aT,sB,Ar,Be,Aj,Ae]|apply Br.mk<;>intro h<;>try simp -dsimp only[h]|refine aC ?_|refine aC9 ?_|fail
 all_goals first|exact h|assumption
theorem aOn (X:Ctx) (N:St->Prop) (E:kW->St->Prop) (l:List Int) (x:Sr) (I:byt l) (V:x.p<=4000) (F:x.p<l.length) (h:N (nS l (l.getD x.p 0) x)):wpc Tryz.prog X (dF Tryz.prog) nx2 N E (nS l 0 x):=by
 have O:=aIk (a:=x.p) (by omega);have M:((x.p:Int)).toNat=x.p:=by omega
 have J:=aL6 I x.p;have G:decide ((x.p:Int)<((l.length:Nat):Int))=true:=by simp;omega
 have H:=aOR F;have U:IntKind.i64.wrap (l.getD x.p 0)=l.getD x.p 0:=aI (by omega) (by omega);unfold nS sB at h;unfold nx2
 repeat' first|simp -dsimp only[go_sem,sB,nS,O,M,G,aH,Ad,Al,Ac,Ai,BF,BG,aU,bF,aT,sB,Ar,Be,Aj,Ae,H,U]|apply Br.mk<;>intro h<;>try simp -dsimp only[h]|refine aC ?_|refine aC9 ?_|fail
 all_goals first|exact h|assumption
theorem aOo (X:Ctx) (N:St->Prop) (E:kW->St->Prop) (l:List Int) (x:Sr) (J:x.p<=4000) (G:¬x.p<l.length) (h:N ⟨[(0,.ptr (.b 0) 0 0),(3,.v (.int .i64 0)),(13,.v (.bool false))],[(.b 0,sB l x)]⟩):wpc Tryz.prog X (dF Tryz.prog) nx2 N E (nS l 0 x):=by
 have I:=aIk (a:=x.p) (by omega);have H:((x.p:Int)).toNat=x.p:=by omega
 have F:decide ((x.p:Int)<((l.length:Nat):Int))=false:=by simp;omega
 unfold sB at h;unfold nx2
 repeat' first|simp -dsimp only[go_sem,sB,nS,I,H,F,aH,Ad,Al,Ac,Ai,BF,BG,aU,bF,aT,sB,Ar,Be,Aj,Ae]|apply Br.mk<;>intro h<;>try simp -dsimp only[h]|refine aC ?_|refine aC9 ?_|fail
 all_goals first|exact h|assumption
theorem aOl (X:Ctx) (N:St->Prop) (E:kW->St->Prop) (l:List Int) (x:Sr) (v:Int) (G:x.p<=4000) (h:N (nS l v ⟨x.p+1,x.s⟩)):wpc Tryz.prog X (dF Tryz.prog) nx3 N E (nS l v x):=by
 have F:=aIk (a:=x.p) (by omega);unfold nS sB at h;unfold nx3
 repeat' first|simp -dsimp only[go_sem,sB,nS,F,aH,Ad,Al,Ac,Ai,BF,BG,aU,bF,aT,sB,Ar,Be,Aj,Ae]|apply Br.mk<;>intro h<;>try simp -dsimp only[h]|refine aC ?_|refine aC9 ?_|fail
 all_goals first|exact h|assumption
theorem aOm (X:Ctx) (N:St->Prop) (E:kW->St->Prop) (l:List Int) (x:Sr) (G:x.p<=4000) (h:N (nS l 0 ⟨x.p+1,x.s⟩)):wpc Tryz.prog X (dF Tryz.prog) nx3 N E ⟨[(0,.ptr (.b 0) 0 0),(3,.v (.int .i64 0)),(13,.v (.bool false))],[(.b 0,sB l x)]⟩:=by
 have F:=aIk (a:=x.p) (by omega);unfold nS sB at h;unfold nx3
 repeat' first|simp -dsimp only[go_sem,sB,nS,F,aH,Ad,Al,Ac,Ai,BF,BG,aU,bF,aT,sB,Ar,Be,Aj,Ae]|apply Br.mk<;>intro h<;>try simp -dsimp only[h]|refine aC ?_|refine aC9 ?_|fail
 all_goals first|exact h|assumption
theorem aK3 (X:Ctx) (N:St->Prop) (E:kW->St->Prop) (l:List Int) (x:Sr) (v G:Int) (F:IntKind.u64.wrap (IntKind.u64.wrap (IntKind.u64.wrap (x.s*6364136223846793005)+IntKind.u64.wrap v)+1442695040888963407)=G) (h:N (nS l v ⟨x.p,G⟩)):wpc Tryz.prog X (dF Tryz.prog) nx4 N E (nS l v x):=by
 unfold nS sB at h;unfold nx4
 repeat' first|simp -dsimp only[go_sem,sB,nS,F,Ad,Al,Ac,Ai,BF,BG,aU,bF,aT,sB,Ar,Be,Aj,Ae]|apply Br.mk<;>intro h<;>try simp -dsimp only[h]|refine aC ?_|refine aC9 ?_|fail
 all_goals first|exact h|assumption
theorem aOj (X:Ctx) (N:St->Prop) (E:kW->St->Prop) (l:List Int) (x:Sr) (v:Int) (G:x.p<=l.length) (h:E .ret ⟨[(2,.v (.int .i64 v))],[(.b 0,sB l x)]⟩):wpc Tryz.prog X (dF Tryz.prog) nx5 N E (nS l v x):=by
 have F:decide ((x.p:Int)<=((l.length:Nat):Int))=true:=by simp;omega
 unfold sB at h;unfold nx5
 repeat' first|simp -dsimp only[go_sem,sB,nS,F,aH,Ad,Al,Ac,Ai,BF,BG,aU,bF,aT,sB,Ar,Be,Aj,Ae]|apply Br.mk<;>intro h<;>try simp -dsimp only[h]|refine aC ?_|refine aC9 ?_|fail
 all_goals first|exact h|assumption
theorem aOk (X:Ctx) (N:St->Prop) (E:kW->St->Prop) (l:List Int) (x:Sr) (v:Int) (G:¬x.p<=l.length) (h:N ⟨[(0,.ptr (.b 0) 0 0),(3,.v (.int .i64 v)),(53,.v (.bool false))],[(.b 0,sB l x)]⟩):wpc Tryz.prog X (dF Tryz.prog) nx5 N E (nS l v x):=by
 have F:decide ((x.p:Int)<=((l.length:Nat):Int))=false:=by simp;omega
 unfold sB at h;unfold nx5
 repeat' first|simp -dsimp only[go_sem,sB,nS,F,aH,Ad,Al,Ac,Ai,BF,BG,aU,bF,aT,sB,Ar,Be,Aj,Ae]|apply Br.mk<;>intro h<;>try simp -dsimp only[h]|refine aC ?_|refine aC9 ?_|fail
 all_goals first|exact h|assumption
theorem aOi (X:Ctx) (N:St->Prop) (E:kW->St->Prop) (l:List Int) (x:Sr) (v H:Int) (G:IntKind.i64.wrap (fU .and .u64 (x.s.fdiv (2 ^ 40)) 255)=H) (h:N ⟨[(2,.v (.int .i64 H))],[(.b 0,sB l x)]⟩):wpc Tryz.prog X (dF Tryz.prog) nx6 N E ⟨[(0,.ptr (.b 0) 0 0),(3,.v (.int .i64 v)),(53,.v (.bool false))],[(.b 0,sB l x)]⟩:=by
 have F:(min 40 64:Nat)=40:=rfl;unfold sB at h;unfold nx6
 repeat' first|simp -dsimp only[go_sem,sB,nS,F,G,Ad,Al,Ac,Ai,BF,BG,aU,bF,aT,sB,Ar,Be,Aj,Ae]|apply Br.mk<;>intro h<;>try simp -dsimp only[h]|refine aC ?_|refine aC9 ?_|fail
 all_goals first|exact h|assumption
attribute [local irreducible] nx0 nx1 nx2 nx3 nx4 nx5 nx6
theorem next (l:List Int) (x:Sr) (O:byt l) (H:x.p<=4000):Vs.Fn Tryz.prog F.fG [sB l x] [.ptr (.b 0) 0 0] (.v (.int .i64 (nxV l x))) [some (sB l (nxS l x))]:=by
 refine fn1 Cd._s_l00Src__next_k [.b 0] [sB l (nxS l x)] λX=>?_;rw[aOh];refine aOq X _ _ l x (aOp X _ _ l x ?_);by_cases G:x.p<l.length
 .have I:nxV l x=l.getD x.p 0:=by unfold nxV;rw[AP (by omega)]
  rw[I];refine aOn X _ _ l x O H G (aOl X _ _ l x _ H (aK3 X _ _ l ⟨x.p+1,x.s⟩ _ _ rfl (aOj X _ _ l _ _ (by dsimp only;omega) ?_)));exact⟨_,_,rfl,rfl⟩
 .have J:l.getD x.p 0=0:=by simp[List.getD,List.getElem?_eq_none (Nat.le_of_not_lt G)]
  have M:nxS l x=⟨x.p+1,IntKind.u64.wrap (IntKind.u64.wrap (IntKind.u64.wrap (x.s*6364136223846793005)+IntKind.u64.wrap 0)+1442695040888963407)⟩:=by unfold nxS;rw[J]
  have I:nxV l x=IntKind.i64.wrap (fU .and .u64 ((nxS l x).s.fdiv (2 ^ 40)) 255):=by unfold nxV;rw[AC (by omega)]
  rw[I,M];refine aOo X _ _ l x H G (aOm X _ _ l x H (aK3 X _ _ l ⟨x.p+1,x.s⟩ _ _ rfl (aOk X _ _ l _ _ (by dsimp only;omega) (aOi X _ _ l _ _ _ rfl ?_))));exact⟨_,_,rfl,rfl⟩
end
section
variable [Vs.Envs]
attribute [local irreducible] Vs.Fn
attribute [local irreducible] nxV nxS
attribute [local go_sem] Ad Al Ac Ai BF BG aU bF aT Ar Be Aj Ae in
theorem pick (l:List Int) (x:Sr) (Y:byt l) (n:Int) (Z:x.p<=3990):Vs.Fn Tryz.prog F.aF [sB l x] [.ptr (.b 0) 0 0,.v (.int .i64 n)] (.v (.int .i64 (pkV l x n))) [some (sB l (pkS l x n))]:=by
 have hq:(nxS l x).p=x.p+1:=nxS_p l x;have U:=next l x Y (by omega)
 have V:=next l (nxS l x) Y (by omega)
 by_cases H:n<=1
 .have M:decide (n<=1)=true:=by simp[H]
  have J:pkV l x n=0:=by simp[pkV,H]
  have I:pkS l x n=x:=by simp[pkS,H]
  rw[J,I];refine fn1 Cd._s_l00Src__pick_k [.b 0] [sB l x] λX=>?_;unfold Cd.aF;simp -dsimp only[go_sem,M,sB];exact⟨_,_,rfl,rfl⟩
 .have M:decide (n<=1)=false:=by simp[H]
  have G:n≠0:=by omega
  by_cases h2:n>200
  .have O:decide (n>200)=true:=by simp[h2]
   have J:pkV l x n=(IntKind.i64.wrap (IntKind.i64.wrap (nxV l x*256)+nxV l (nxS l x))).tmod n:=by simp[pkV,H,h2]
   have I:pkS l x n=nxS l (nxS l x):=by simp[pkS,H,h2]
   rw[J,I];refine fn1 Cd._s_l00Src__pick_k [.b 0] [sB l (nxS l (nxS l x))] λX=>?_;unfold Cd.aF
   repeat' first|simp -dsimp only[go_sem,M,O,sB]|apply Br.mk<;>intro h<;>try simp -dsimp only[h]|refine RgK.mk rfl ?_|refine aA.bor (by first|exact U|exact V) rfl ?_|refine And.intro (by first|rfl|omega|decide|exact⟨rfl,G⟩|(refine⟨?_,?_⟩<;>(first|rfl|omega|decide|exact⟨rfl,G⟩))|(refine⟨?_,?_,?_⟩<;>(first|rfl|omega|decide|exact⟨rfl,G⟩))|(refine⟨?_,?_,?_,?_⟩<;>(first|rfl|omega|decide|exact⟨rfl,G⟩))) ?_|fail
   all_goals exact⟨_,_,rfl,rfl⟩
  .have O:decide (n>200)=false:=by simp;omega
   have J:pkV l x n=(nxV l x).tmod n:=by simp[pkV,H,h2]
   have I:pkS l x n=nxS l x:=by simp[pkS,H,h2]
   rw[J,I];refine fn1 Cd._s_l00Src__pick_k [.b 0] [sB l (nxS l x)] λX=>?_;unfold Cd.aF
   repeat' first|simp -dsimp only[go_sem,M,O,sB]|apply Br.mk<;>intro h<;>try simp -dsimp only[h]|refine RgK.mk rfl ?_|refine aA.bor (by first|exact U|exact V) rfl ?_|refine And.intro (by first|rfl|omega|decide|exact⟨rfl,G⟩|(refine⟨?_,?_⟩<;>(first|rfl|omega|decide|exact⟨rfl,G⟩))|(refine⟨?_,?_,?_⟩<;>(first|rfl|omega|decide|exact⟨rfl,G⟩))|(refine⟨?_,?_,?_,?_⟩<;>(first|rfl|omega|decide|exact⟨rfl,G⟩))) ?_|fail
   all_goals exact⟨_,_,rfl,rfl⟩
attribute [local irreducible] pkV pkS
theorem one (l:List Int) (x:Sr) (H:byt l) (n:Int) (I:x.p<=3990):Vs.Fn Tryz.prog F.bA [sB l x] [.ptr (.b 0) 0 0,.v (.int .i64 n)] (.v (.bool (pkV l x n==0))) [some (sB l (pkS l x n))]:=by
 have G:=pick l x H n I;refine fn1 Cd._s_l00Src__one_k [.b 0] [sB l (pkS l x n)] λX=>?_;unfold Cd.bA
 repeat' first|simp -dsimp only[go_sem,Ad,Al,Ac,Ai,BF,BG,aU,bF,aT,sB,Ar,Be,Aj,Ae]|apply Br.mk<;>intro h<;>try simp -dsimp only[h]|refine aA.bor (by first|exact G) rfl ?_|refine aC ?_|refine aC9 ?_|fail
 all_goals exact⟨_,_,rfl,rfl⟩
theorem among (l:List Int) (x:Sr) (H:byt l) (m:List Int) (U:x.p<=3990) (O:m≠[]) (Y:m.length<=1000):Vs.Fn Tryz.prog F.bE [sB l x] [.ptr (.b 0) 0 0,.sl 1 (E cI m)] (.v (.int .i64 (m.getD (pkV l x (m.length:Nat)).toNat 0))) [some (sB l (pkS l x (m.length:Nat)))]:=by
 have J:=pick l x H (m.length:Nat) U;have I:0<m.length:=BX.2 O;have V:=aZ H x (n:=(m.length:Nat)) (by omega)
 have M:(E cI m).getD (pkV l x (m.length:Nat)).toNat []=[.v (.int .i64 (m.getD (pkV l x (m.length:Nat)).toNat 0))]:=by
  have G:(pkV l x (m.length:Nat)).toNat<m.length:=by omega
  rw[aW G];simp[cI,List.getD,G]
 generalize pkV l x (m.length:Nat)=v at *
 refine fn1 Cd._s_l00Src__among_k [.b 0] [sB l (pkS l x (m.length:Nat))] λX=>?_;unfold Cd.bE
 repeat' first|simp -dsimp only[go_sem,aH,M,Ad,Al,Ac,Ai,BF,BG,aU,bF,aT,sB,Ar,Be,Aj,Ae]|apply Br.mk<;>intro h<;>try simp -dsimp only[h]|refine aA.bor (by first|exact J) rfl ?_|refine aC ?_|refine aC9 ?_|fail
 all_goals exact⟨_,_,rfl,rfl⟩
end
section
variable [Vs.Envs]
attribute [local irreducible] Vs.Fn
def pd:Nat->Nat->List Int
 |0,_=>[]
 |w+1,k=>pd w (k/10)++[aAu (k%10)]
theorem aBK:∀w k,(pd w k).length=w
 |0,_=>rfl
 |w+1,k=>by simp[pd,aBK w]
def aFi (l:List Int):List Int:=l.set (l.length-1) (fU .or .i64 (l.getD (l.length-1) 0) 2)
def pt (w:Nat) (n:Int):List Int:=if n<0 then aFi (pd w n.natAbs) else pd w n.natAbs
theorem aHn (w:Nat) (n:Int):(pt w n).length=w:=by unfold pt aFi;split<;>simp[aBK]
theorem aF0 (j:Nat) (done:List Int) (x:Int):(E cI (List.replicate (j+1) 0++done)).set j [.v (.int .i64 x)]=E cI (List.replicate j 0++x::done):=by
 have e:(List.replicate (j+1) (0:Int)++done).set j x=List.replicate j 0++x::done:=by
  rw[List.replicate_succ',Bz,Cy _ _ (by simp)];simp
 rw[←e];simp[E,cI,Dc]
theorem aA5 (w:Nat):List.replicate w [AV.v (.int .i64 0)]=E cI (List.replicate w 0++[]):=by simp[E,cI]
theorem aF1 (j:Nat) (done:List Int):(E cI (List.replicate (j+1) 0++done)).getD j []=[.v (.int .i64 0)]:=by
 rw[aW (by simp;omega)];simp[List.getElem_append,cI]
theorem aIQ (n a:Nat):n/10 ^ a/10=n/10 ^ (a+1):=by rw[Nat.div_div_eq_div_mul,Nat.pow_succ]
theorem aF6 {l:List Int} (h:l.length≠0):(E cI l).set (l.length-1) [.v (.int .i64 (fU .or .i64 (l.getD (l.length-1) 0) 2))]=E cI (aFi l):=by
 unfold aFi;simp[E,cI,Dc]
theorem aGh {l:List Int} (h:l.length≠0):(E cI l).getD (l.length-1) []=[.v (.int .i64 (l.getD (l.length-1) 0))]:=by
 have F:l.length-1<l.length:=by omega
 rw[dI F];simp[List.getD,F]
theorem aLo (n:Int) (w:Nat) (h0:-1000000000000<=n) (h1:n<=1000000000000) (ht:0<w) (hs:w<=20):Fz F.vI [.v (.int .i64 n),.v (.int .i64 w)] (.tup [.sl 1 (E cI (pt w n)),.v (.bool (((n.natAbs/10 ^ w:Nat):Int)==0))]):=by
 rcases Int.lt_or_le n 0 with hneg|hneg
 .have H:decide (n<0)=true:=A9 (by omega);have hf:pt w n=aFi (pd w n.natAbs):=by unfold pt;rw[AP (by omega)]
  have hp:IntKind.i64.wrap (0-n)=(n.natAbs:Int):=by rw[aI (by omega) (by omega)];omega
  have hr:IntKind.i64.wrap (-n)=(n.natAbs:Int):=by rw[aI (by omega) (by omega)];omega
  have ho:IntKind.i64.wrap ((w:Int)-1)=(w:Int)-1:=aI (by omega) (by omega);refine fn0 Cd.s_l03Put_k λX=>?_;simp -dsimp only[go_sem,H,aA5]
  repeat' first|simp -dsimp only[go_sem,H,aA5,ho,BR,hp,hr]|apply Br.mk<;>intro h<;>try simp -dsimp only[h]|refine aC ?_|refine aC9 ?_|fail
  refine aP.at dM (X:={G:Nat×Nat×List Int // G.1<=w∧G.2.2.length=w-G.1∧G.2.1=n.natAbs/10 ^ (w-G.1)∧pd G.1 G.2.1++G.2.2=pd w n.natAbs}) (λG=>[(7,.v (.int .i64 (G.1.2.1:Nat))),(8,.v (.int .i64 ((G.1.1:Int)-1)))]) (λG=>[(.t 10 0,.arr 1 (E cI (List.replicate G.1.1 0++G.1.2.2)) false)]) (λG=>G.1.1) ⟨(w,n.natAbs,[]),Au _,by simp,by simp,by simp⟩ ?_ ?_
  .simp[Vs.LeL,Vs.look,aB,aQ,aK,Vs.hset,aL,E]
   first|done|omega
  .rintro⟨⟨j1,k,done⟩,hj,hd,M,Y⟩;dsimp only at hj hd M Y;simp -dsimp only[go_sem,H];refine Br.mk (λZ=>?_) λZ=>?_
   .obtain⟨j,rfl⟩:∃j,j1=j+1:=⟨j1-1,by simp at Z;omega⟩;have e1:(((j+1:Nat):Int)-1)=(j:Int):=by omega
    have hn:IntKind.i64.wrap ((j:Int)-1)=(j:Int)-1:=aI (by omega) (by omega);have hq:k<=1000000000000:=by rw[M];exact Bl (Nat.div_le_self _ _) (by omega)
    have he:k/10=n.natAbs/10 ^ (w-j):=by rw[M,aIQ,show w-(j+1)+1=w-j by omega]
    have q1:((k:Int)).tmod 10=((k%10:Nat):Int):=by rw[Int.tmod_eq_emod_of_nonneg (by omega)];omega
    have q2:IntKind.i64.wrap (((k:Int)).tdiv 10)=((k/10:Nat):Int):=by rw[Int.tdiv_eq_ediv_of_nonneg (by omega),aI (by omega) (by omega)];omega
    have ha:=aF1 j done;have hb:=aF0 j done (aAu (k%10));rw[pd,Bz] at Y
    repeat' first|simp -dsimp only[go_sem,e1,ha,hb,hn,q1,q2,aH,AX,List.length_replicate,BR]|apply Br.mk<;>intro h<;>try simp -dsimp only[h]|refine aA.c (by first|exact aFq (k%10) (by omega)) ?_|refine aC ?_|refine aC9 ?_|fail
    all_goals(exact⟨⟨(j,k/10,aAu (k%10)::done),by omega,by simp only[Ac];omega,he,Y⟩,by simp[Vs.LeL,Vs.look,aB,aQ,aK,Vs.hset,aL],by simp only;omega⟩)
   .have hz:j1=0:=by simp at Z;omega
    subst hz;rw[Nat.sub_zero] at M;have J:done=pd w n.natAbs:=by simpa[pd] using Y
    subst J;have I:=aBK w n.natAbs;have U:(pd w n.natAbs).length≠0:=by omega
    have V:=aF6 U;have O:=aGh U;rw[I] at V O;have hm:IntKind.i64.wrap ((w:Int)-1)=((w-1:Nat):Int):=by rw[aI (by omega) (by omega)];omega
    have hl:List.take w (E cI (aFi (pd w n.natAbs)))=E cI (aFi (pd w n.natAbs)):=Ah (by simp[E,aFi,aBK]);simp -dsimp only[go_sem,H,V,O,hm,I,aH,BR,Ag,Aj,Ap];exact⟨⟨⟨by omega,by omega⟩,⟨by omega,by omega⟩,[.t 10 0],[],by rw[hl,hf,M],rfl⟩,λh=>h rfl⟩
 .have H:decide (n<0)=false:=AQ (by omega);have hf:pt w n=pd w n.natAbs:=by unfold pt;rw[AC (by omega)]
  have hp:n=(n.natAbs:Int):=by omega
  have ho:IntKind.i64.wrap ((w:Int)-1)=(w:Int)-1:=aI (by omega) (by omega);refine fn0 Cd.s_l03Put_k λX=>?_;simp -dsimp only[go_sem,H,aA5]
  repeat' first|simp -dsimp only[go_sem,H,aA5,ho,BR]|apply Br.mk<;>intro h<;>try simp -dsimp only[h]|refine aC ?_|refine aC9 ?_|fail
  refine aP.at dM (X:={G:Nat×Nat×List Int // G.1<=w∧G.2.2.length=w-G.1∧G.2.1=n.natAbs/10 ^ (w-G.1)∧pd G.1 G.2.1++G.2.2=pd w n.natAbs}) (λG=>[(7,.v (.int .i64 (G.1.2.1:Nat))),(8,.v (.int .i64 ((G.1.1:Int)-1)))]) (λG=>[(.t 10 0,.arr 1 (E cI (List.replicate G.1.1 0++G.1.2.2)) false)]) (λG=>G.1.1) ⟨(w,n.natAbs,[]),Au _,by simp,by simp,by simp⟩ ?_ ?_
  .simp[Vs.LeL,Vs.look,aB,aQ,aK,Vs.hset,aL,E]
   first|done|omega
  .rintro⟨⟨j1,k,done⟩,hj,hd,M,Y⟩;dsimp only at hj hd M Y;simp -dsimp only[go_sem,H];refine Br.mk (λZ=>?_) λZ=>?_
   .obtain⟨j,rfl⟩:∃j,j1=j+1:=⟨j1-1,by simp at Z;omega⟩;have e1:(((j+1:Nat):Int)-1)=(j:Int):=by omega
    have hn:IntKind.i64.wrap ((j:Int)-1)=(j:Int)-1:=aI (by omega) (by omega);have hq:k<=1000000000000:=by rw[M];exact Bl (Nat.div_le_self _ _) (by omega)
    have he:k/10=n.natAbs/10 ^ (w-j):=by rw[M,aIQ,show w-(j+1)+1=w-j by omega]
    have q1:((k:Int)).tmod 10=((k%10:Nat):Int):=by rw[Int.tmod_eq_emod_of_nonneg (by omega)];omega
    have q2:IntKind.i64.wrap (((k:Int)).tdiv 10)=((k/10:Nat):Int):=by rw[Int.tdiv_eq_ediv_of_nonneg (by omega),aI (by omega) (by omega)];omega
    have ha:=aF1 j done;have hb:=aF0 j done (aAu (k%10));rw[pd,Bz] at Y
    repeat' first|simp -dsimp only[go_sem,e1,ha,hb,hn,q1,q2,aH,AX,List.length_replicate,BR]|apply Br.mk<;>intro h<;>try simp -dsimp only[h]|refine aA.c (by first|exact aFq (k%10) (by omega)) ?_|refine aC ?_|refine aC9 ?_|fail
    all_goals(exact⟨⟨(j,k/10,aAu (k%10)::done),by omega,by simp only[Ac];omega,he,Y⟩,by simp[Vs.LeL,Vs.look,aB,aQ,aK,Vs.hset,aL],by simp only;omega⟩)
   .have hz:j1=0:=by simp at Z;omega
    subst hz;rw[Nat.sub_zero] at M;have J:done=pd w n.natAbs:=by simpa[pd] using Y
    subst J;have I:=aBK w n.natAbs;have U:(pd w n.natAbs).length≠0:=by omega
    have V:=aF6 U;have O:=aGh U;rw[I] at V O;have hm:IntKind.i64.wrap ((w:Int)-1)=((w-1:Nat):Int):=by rw[aI (by omega) (by omega)];omega
    have hl:List.take w (E cI (pd w n.natAbs))=E cI (pd w n.natAbs):=Ah (by simp[E,aFi,aBK]);simp -dsimp only[go_sem,H,V,O,hm,I,aH,BR,Ag,Aj,Ap];exact⟨⟨[.t 10 0],[],by rw[hl,hf,M],rfl⟩,λh=>h rfl⟩
end
section
variable [Vs.Envs]
attribute [local irreducible] Vs.Fn nxV nxS pkV pkS pt
def wT (b:ByteArray):List Int:=b.data.toList.map λx=>l03 x.toNat
theorem aGQ (b:ByteArray):(wT b).length=b.size:=by
 show(b.data.toList.map _).length=b.data.size
 rw[Bh,BP]
theorem aIV {b:ByteArray}{i:Nat} (h:i<b.size):l03 ((b.data.toList.getD i 0).toNat:Nat)=(wT b)[i]'(by rw[aGQ];exact h):=by
 have h':i<b.data.toList.length:=by rw[BP];exact h
 unfold wT;rw[DC,A8,Ba h'];rfl
def gvC (i:Nat):AV:=if i=0 then .v (.slice none 0 0) else .loc (.t 19 0) 0 i
def ghC (b:ByteArray) (i:Nat):List (Vs.Name×Blk):=if i=0 then[] else[(.t 19 0,.arr 1 (E cI ((wT b).take i)) false)]
attribute [local go_sem] Int.reduceBEq Int.reduceBNe cC aH Af Ag Ao Aq Ae Aj Ad Al Ac Ai Ap Av Am Ak AR BQ Vs.Name.t.injEq Ar AY in
theorem aLq (t:ByteArray) (h0:0<t.size) (h1:t.size<=20):Vs.Fn Tryz.prog F.pX [] [.v (.string t)] (.agg [.loc (.b 0) 0 t.size]) [some (.arr 1 (E cI (wT t)) false)]:=by
 have hcl:=aGQ t;refine fn1 Cd.s_l03Card_k [.t 19 0] [.arr 1 (E cI (wT t)) false] λX=>?_;unfold Cd.pX
 repeat' first|simp -dsimp only[go_sem]|apply Br.mk<;>intro h<;>try simp -dsimp only[h]|refine aC ?_|refine aC9 ?_|fail
 refine aP.intro dM (X:={i:Nat // i<=t.size}) (λi=>⟨[(0,.v (.string t)),(2,.ptr (.t 2 0) 0 0),(3,.ptr (.t 3 0) 0 0),(4,.v (.int .i64 (i.1:Nat)))],(.t 3 0,.var [gvC i.1] false)::(.t 2 0,.var [.v (.slice none 0 0)] false)::ghC t i.1⟩) (λi=>t.size-i.1) ⟨0,by omega⟩ ?_ ?_
 .simp[Vs.LeL,Vs.look,aB,aQ,aK,Vs.hset,aL,gvC,ghC]
 .rintro⟨i,hi⟩
  try dsimp only at hi
  rcases i with _|j
  .simp only[gvC,ghC,Bj]
   try simp -dsimp only[go_sem]
   refine Br.mk (λhc=>?_) λhc=>?_
   .have hlt:0<t.size:=h0;have hw:IntKind.i64.wrap (((0:Nat):Int)+1)=((1:Nat):Int):=rfl;have LC:=aBi ((t.data.toList.getD 0 0).toNat:Nat);rw[aIV hlt] at LC;have hap:[[AV.v (.int .i64 ((wT t)[0]'(by omega)))]]=E cI ((wT t).take 1):=by rw[bM (show 0<(wT t).length by omega)];rfl
    generalize(wT t)[0]'(by omega)=cc at *
    repeat' first|simp -dsimp only[go_sem,hw,hap]|apply Br.mk<;>intro h<;>try simp -dsimp only[h]|refine aA.c (by first|exact LC) ?_|refine aC ?_|refine aC9 ?_|fail
    all_goals first|omega|(refine⟨⟨1,by omega⟩,?_,by simp only;omega⟩;simp[Vs.LeL,Vs.look,aB,aQ,aK,Vs.hset,aL,gvC,ghC,hap];done)
   .have:¬0<t.size:=Dq;omega
  .have e0:¬j+1=0:=by omega
   simp only[gvC,ghC,AC e0];have hal:(E cI ((wT t).take (j+1))).length=j+1:=by rw[aH];simp;omega
   have htk:(E cI ((wT t).take (j+1))).take (j+1)=E cI ((wT t).take (j+1)):=Ah (by omega)
   try simp -dsimp only[go_sem,hal,htk]
   refine Br.mk (λhc=>?_) λhc=>?_
   .have hlt:j+1<t.size:=Dq;have hw:=aJ hlt (by omega);have LC:=aBi ((t.data.toList.getD (j+1) 0).toNat:Nat);rw[aIV hlt] at LC;have hap:E cI ((wT t).take (j+1))++[[AV.v (.int .i64 ((wT t)[j+1]'(by omega)))]]=E cI ((wT t).take (j+1+1)):=by rw[bM (show j+1<(wT t).length by omega),aV];rfl
    generalize(wT t)[j+1]'(by omega)=cc at *
    repeat' first|simp -dsimp only[go_sem,hw,hap,hal,htk]|apply Br.mk<;>intro h<;>try simp -dsimp only[h]|refine aA.c (by first|exact LC) ?_|refine aC ?_|refine aC9 ?_|fail
    all_goals first|omega|(refine⟨⟨j+1+1,by omega⟩,?_,by simp only;omega⟩;simp[Vs.LeL,Vs.look,aB,aQ,aK,Vs.hset,aL,gvC,ghC,hap];done)
   .have hge:j+1=t.size:=by
     have:¬j+1<t.size:=Dq;omega
    have hall:(wT t).take (j+1)=wT t:=Ah (by omega);rw[hall];rw[hall] at htk
    try simp -dsimp only[go_sem,hal,htk]
    all_goals first|omega|exact⟨_,_,rfl,rfl⟩|(refine⟨?_,λh=>h rfl⟩;rw[←hge];exact⟨_,_,rfl,rfl⟩)
def crd (c:List Int):Prop:=∃a n m:Int,(a=l03 65∨a=l03 66∨a=l03 49)∧(0<=n∧n<100)∧(-30<=m∧m<100)∧c=a::(pt 2 n++pt 2 m)
def kY (a z p0 p1 q0 q1:Int):Nat->List Int
 |0=>[a,z,z,z,z]
 |1=>[a,p0,z,q0,z]
 |_=>[a,p0,p1,q0,q1]
theorem aKk {u:List Int} (h:u.length=2):∃a b,u=[a,b]:=by
 match u,h with
 | [a,b],_=>exact⟨a,b,rfl⟩
theorem aDG (a:UInt8):Vs.Fn Tryz.prog F.pX [] [.v (.string ⟨#[a,48,48,48,48]⟩)] (.agg [.loc (.b 0) 0 5]) [some (.arr 1 (E cI [l03 a.toNat,l03 48,l03 48,l03 48,l03 48]) false)]:=
 aLq ⟨#[a,48,48,48,48]⟩ (Bd rfl) (Bd rfl)
attribute [local go_sem] Int.reduceBEq Int.reduceBNe aH Af Ag Ao Aq Ae Aj Ad Al Ac Ai Ap Av Am Ak AR BQ Vs.Name.t.injEq Ar AY aT aU bF Be BF BG Vs.E Bt BI in
theorem aM7 (l:List Int) (x:Sr) (hl:byt l) (hp:x.p<=3900):∃c z,crd c∧z.p<=x.p+6∧Vs.Fn Tryz.prog F.lZ [sB l x] [.ptr (.b 0) 0 0] (.agg (cC c)) [some (sB l z)]:=by
 have P1:=pick l x hl 3 (by omega);have q1:=aO l x 3;have h1:=aZ hl x (n:=3) (by omega);have P2:=pick l (pkS l x 3) hl 100 (by omega);have q2:=aO l (pkS l x 3) 100;have h2:=aZ hl (pkS l x 3) (n:=100) (by omega);have P3:=pick l (pkS l (pkS l x 3) 100) hl 130 (by omega);have q3:=aO l (pkS l (pkS l x 3) 100) 130;have h3:=aZ hl (pkS l (pkS l x 3) 100) (n:=130) (by omega);generalize pkV l (pkS l (pkS l x 3) 100) 130=v3 at *
 generalize pkS l (pkS l (pkS l x 3) 100) 130=z at *
 generalize pkV l (pkS l x 3) 100=v2 at *
 generalize pkS l (pkS l x 3) 100=y2 at *
 generalize pkV l x 3=v1 at *
 generalize pkS l x 3=y1 at *
 have Y:IntKind.i64.wrap (v3-30)=v3-30:=aI (by omega) (by omega);have hf:-30<=v3-30∧v3-30<100:=by omega
 have PA:=aLo v2 2 (by omega) (by omega) (by omega) (by omega);have PB:=aLo (v3-30) 2 (by omega) (by omega) (by omega) (by omega);obtain⟨p0,p1,hb⟩:=aKk (aHn 2 v2);obtain⟨q0,q9,hd⟩:=aKk (aHn 2 (v3-30));rw[hb] at PA;rw[hd] at PB;have M:IntKind.i64.wrap (1+((0:Nat):Int))=1:=rfl;have O:IntKind.i64.wrap (1+((1:Nat):Int))=2:=rfl;have U:IntKind.i64.wrap (3+((0:Nat):Int))=3:=rfl;have V:IntKind.i64.wrap (3+((1:Nat):Int))=4:=rfl;have hv:v1=0∨v1=1∨v1=2:=by omega
 rcases hv with rfl|rfl|rfl
 .have G:(⟨#[65,66,49]⟩:ByteArray).extract 0 3=⟨#[65,66,49]⟩:=by decide
  have H:(⟨#[65,66,49]⟩:ByteArray).extract 0 1=⟨#[65]⟩:=by decide
  have I:(⟨#[65]⟩++⟨#[48,48,48,48]⟩:ByteArray)=⟨#[65,48,48,48,48]⟩:=by decide
  have J:(⟨#[65,66,49]⟩:ByteArray).size=3:=rfl;have LC:=aDG 65;rw[show((65:UInt8).toNat:Int)=65 from rfl] at LC;refine⟨l03 65::([p0,p1]++[q0,q9]),z,⟨l03 65,v2,v3-30,.inl rfl,h2,hf,by rw[hb,hd]⟩,by omega,?_⟩;generalize hz:l03 48=z0 at *
  generalize ha:l03 65=a0 at *
  refine fn1 Cd.s_l13Card_k [.b 0] [sB l z] λX=>?_;unfold Cd.lZ
  repeat' first|simp -dsimp only[go_sem,cC,sB,J,G,H,I,M,O,U,V,Y]|apply Br.mk<;>intro h<;>try simp -dsimp only[h]|refine aA.bor (by first|exact P1|exact P2|exact P3) rfl ?_|refine aA.own (by first|exact LC) rfl ?_|refine aA.c (by first|exact PA|exact PB) ?_|refine aC ?_|refine aC9 ?_|fail
  refine aP.at dM (X:={k:Nat // k<=2}) (λk=>[(8,.v (.int .i64 (k.1:Nat)))]) (λk=>[(.t 14 0,.arr 1 (E cI (kY a0 z0 p0 p1 q0 q9 k.1)) false)]) (λk=>2-k.1) ⟨0,by omega⟩ ?_ ?_
  .simp[Vs.LeL,Vs.look,aB,aQ,aK,Vs.hset,aL,kY,Vs.E,cI,sB]
  .rintro⟨k,hk⟩
   try dsimp only at hk
   have he:k=0∨k=1∨k=2:=by omega
   rcases he with rfl|rfl|rfl
   .have hw:IntKind.i64.wrap (((0:Nat):Int)+1)=((1:Nat):Int):=rfl;simp -dsimp only[go_sem,cC,sB,J,G,H,I,M,O,U,V,Y,kY,cI,hw];refine Br.mk (λZ=>?_) λZ=>?_
    .try simp -dsimp only[go_sem,cC,sB,J,G,H,I,M,O,U,V,Y,kY,cI,hw]
     repeat' first|simp -dsimp only[go_sem,cC,sB,J,G,H,I,M,O,U,V,Y,kY,cI,hw]|apply Br.mk<;>intro h<;>try simp -dsimp only[h]|refine aC ?_|refine aC9 ?_|fail
     all_goals first|omega|(refine⟨⟨1,by omega⟩,?_,by simp only;omega⟩;simp[Vs.LeL,Vs.look,aB,aQ,aK,Vs.hset,aL,kY,Vs.E,cI,sB];done)
    .exact absurd Z (by decide)
   .have hw:IntKind.i64.wrap (((1:Nat):Int)+1)=((2:Nat):Int):=rfl;simp -dsimp only[go_sem,cC,sB,J,G,H,I,M,O,U,V,Y,kY,cI,hw];refine Br.mk (λZ=>?_) λZ=>?_
    .try simp -dsimp only[go_sem,cC,sB,J,G,H,I,M,O,U,V,Y,kY,cI,hw]
     repeat' first|simp -dsimp only[go_sem,cC,sB,J,G,H,I,M,O,U,V,Y,kY,cI,hw]|apply Br.mk<;>intro h<;>try simp -dsimp only[h]|refine aC ?_|refine aC9 ?_|fail
     all_goals first|omega|(refine⟨⟨2,by omega⟩,?_,by simp only;omega⟩;simp[Vs.LeL,Vs.look,aB,aQ,aK,Vs.hset,aL,kY,Vs.E,cI,sB];done)
    .exact absurd Z (by decide)
   .simp -dsimp only[go_sem,cC,sB,J,G,H,I,M,O,U,V,Y,kY];refine Br.mk (λZ=>absurd Z (by decide)) λZ=>?_
    try simp -dsimp only[go_sem,cC,sB,J,G,H,I,M,O,U,V,Y,kY]
    all_goals first|exact⟨⟨_,_,rfl,rfl⟩,λh=>h rfl⟩|exact⟨_,_,rfl,rfl⟩|(refine⟨?_,λh=>h rfl⟩;exact⟨_,_,rfl,rfl⟩)
 .have G:(⟨#[65,66,49]⟩:ByteArray).extract 1 3=⟨#[66,49]⟩:=by decide
  have H:(⟨#[66,49]⟩:ByteArray).extract 0 1=⟨#[66]⟩:=by decide
  have I:(⟨#[66]⟩++⟨#[48,48,48,48]⟩:ByteArray)=⟨#[66,48,48,48,48]⟩:=by decide
  have J:(⟨#[66,49]⟩:ByteArray).size=2:=rfl;have LC:=aDG 66;rw[show((66:UInt8).toNat:Int)=66 from rfl] at LC;refine⟨l03 66::([p0,p1]++[q0,q9]),z,⟨l03 66,v2,v3-30,.inr (.inl rfl),h2,hf,by rw[hb,hd]⟩,by omega,?_⟩;generalize hz:l03 48=z0 at *
  generalize ha:l03 66=a0 at *
  refine fn1 Cd.s_l13Card_k [.b 0] [sB l z] λX=>?_;unfold Cd.lZ
  repeat' first|simp -dsimp only[go_sem,cC,sB,J,G,H,I,M,O,U,V,Y]|apply Br.mk<;>intro h<;>try simp -dsimp only[h]|refine aA.bor (by first|exact P1|exact P2|exact P3) rfl ?_|refine aA.own (by first|exact LC) rfl ?_|refine aA.c (by first|exact PA|exact PB) ?_|refine aC ?_|refine aC9 ?_|fail
  refine aP.at dM (X:={k:Nat // k<=2}) (λk=>[(8,.v (.int .i64 (k.1:Nat)))]) (λk=>[(.t 14 0,.arr 1 (E cI (kY a0 z0 p0 p1 q0 q9 k.1)) false)]) (λk=>2-k.1) ⟨0,by omega⟩ ?_ ?_
  .simp[Vs.LeL,Vs.look,aB,aQ,aK,Vs.hset,aL,kY,Vs.E,cI,sB]
  .rintro⟨k,hk⟩
   try dsimp only at hk
   have he:k=0∨k=1∨k=2:=by omega
   rcases he with rfl|rfl|rfl
   .have hw:IntKind.i64.wrap (((0:Nat):Int)+1)=((1:Nat):Int):=rfl;simp -dsimp only[go_sem,cC,sB,J,G,H,I,M,O,U,V,Y,kY,cI,hw];refine Br.mk (λZ=>?_) λZ=>?_
    .try simp -dsimp only[go_sem,cC,sB,J,G,H,I,M,O,U,V,Y,kY,cI,hw]
     repeat' first|simp -dsimp only[go_sem,cC,sB,J,G,H,I,M,O,U,V,Y,kY,cI,hw]|apply Br.mk<;>intro h<;>try simp -dsimp only[h]|refine aC ?_|refine aC9 ?_|fail
     all_goals first|omega|(refine⟨⟨1,by omega⟩,?_,by simp only;omega⟩;simp[Vs.LeL,Vs.look,aB,aQ,aK,Vs.hset,aL,kY,Vs.E,cI,sB];done)
    .exact absurd Z (by decide)
   .have hw:IntKind.i64.wrap (((1:Nat):Int)+1)=((2:Nat):Int):=rfl;simp -dsimp only[go_sem,cC,sB,J,G,H,I,M,O,U,V,Y,kY,cI,hw];refine Br.mk (λZ=>?_) λZ=>?_
    .try simp -dsimp only[go_sem,cC,sB,J,G,H,I,M,O,U,V,Y,kY,cI,hw]
     repeat' first|simp -dsimp only[go_sem,cC,sB,J,G,H,I,M,O,U,V,Y,kY,cI,hw]|apply Br.mk<;>intro h<;>try simp -dsimp only[h]|refine aC ?_|refine aC9 ?_|fail
     all_goals first|omega|(refine⟨⟨2,by omega⟩,?_,by simp only;omega⟩;simp[Vs.LeL,Vs.look,aB,aQ,aK,Vs.hset,aL,kY,Vs.E,cI,sB];done)
    .exact absurd Z (by decide)
   .simp -dsimp only[go_sem,cC,sB,J,G,H,I,M,O,U,V,Y,kY];refine Br.mk (λZ=>absurd Z (by decide)) λZ=>?_
    try simp -dsimp only[go_sem,cC,sB,J,G,H,I,M,O,U,V,Y,kY]
    all_goals first|exact⟨⟨_,_,rfl,rfl⟩,λh=>h rfl⟩|exact⟨_,_,rfl,rfl⟩|(refine⟨?_,λh=>h rfl⟩;exact⟨_,_,rfl,rfl⟩)
 .have G:(⟨#[65,66,49]⟩:ByteArray).extract 2 3=⟨#[49]⟩:=by decide
  have H:(⟨#[49]⟩:ByteArray).extract 0 1=⟨#[49]⟩:=by decide
  have I:(⟨#[49]⟩++⟨#[48,48,48,48]⟩:ByteArray)=⟨#[49,48,48,48,48]⟩:=by decide
  have J:(⟨#[49]⟩:ByteArray).size=1:=rfl;have LC:=aDG 49;rw[show((49:UInt8).toNat:Int)=49 from rfl] at LC;refine⟨l03 49::([p0,p1]++[q0,q9]),z,⟨l03 49,v2,v3-30,.inr (.inr rfl),h2,hf,by rw[hb,hd]⟩,by omega,?_⟩;generalize hz:l03 48=z0 at *
  generalize ha:l03 49=a0 at *
  refine fn1 Cd.s_l13Card_k [.b 0] [sB l z] λX=>?_;unfold Cd.lZ
  repeat' first|simp -dsimp only[go_sem,cC,sB,J,G,H,I,M,O,U,V,Y]|apply Br.mk<;>intro h<;>try simp -dsimp only[h]|refine aA.bor (by first|exact P1|exact P2|exact P3) rfl ?_|refine aA.own (by first|exact LC) rfl ?_|refine aA.c (by first|exact PA|exact PB) ?_|refine aC ?_|refine aC9 ?_|fail
  refine aP.at dM (X:={k:Nat // k<=2}) (λk=>[(8,.v (.int .i64 (k.1:Nat)))]) (λk=>[(.t 14 0,.arr 1 (E cI (kY a0 z0 p0 p1 q0 q9 k.1)) false)]) (λk=>2-k.1) ⟨0,by omega⟩ ?_ ?_
  .simp[Vs.LeL,Vs.look,aB,aQ,aK,Vs.hset,aL,kY,Vs.E,cI,sB]
  .rintro⟨k,hk⟩
   try dsimp only at hk
   have he:k=0∨k=1∨k=2:=by omega
   rcases he with rfl|rfl|rfl
   .have hw:IntKind.i64.wrap (((0:Nat):Int)+1)=((1:Nat):Int):=rfl;simp -dsimp only[go_sem,cC,sB,J,G,H,I,M,O,U,V,Y,kY,cI,hw];refine Br.mk (λZ=>?_) λZ=>?_
    .try simp -dsimp only[go_sem,cC,sB,J,G,H,I,M,O,U,V,Y,kY,cI,hw]
     repeat' first|simp -dsimp only[go_sem,cC,sB,J,G,H,I,M,O,U,V,Y,kY,cI,hw]|apply Br.mk<;>intro h<;>try simp -dsimp only[h]|refine aC ?_|refine aC9 ?_|fail
     all_goals first|omega|(refine⟨⟨1,by omega⟩,?_,by simp only;omega⟩;simp[Vs.LeL,Vs.look,aB,aQ,aK,Vs.hset,aL,kY,Vs.E,cI,sB];done)
    .exact absurd Z (by decide)
   .have hw:IntKind.i64.wrap (((1:Nat):Int)+1)=((2:Nat):Int):=rfl;simp -dsimp only[go_sem,cC,sB,J,G,H,I,M,O,U,V,Y,kY,cI,hw];refine Br.mk (λZ=>?_) λZ=>?_
    .try simp -dsimp only[go_sem,cC,sB,J,G,H,I,M,O,U,V,Y,kY,cI,hw]
     repeat' first|simp -dsimp only[go_sem,cC,sB,J,G,H,I,M,O,U,V,Y,kY,cI,hw]|apply Br.mk<;>intro h<;>try simp -dsimp only[h]|refine aC ?_|refine aC9 ?_|fail
     all_goals first|omega|(refine⟨⟨2,by omega⟩,?_,by simp only;omega⟩;simp[Vs.LeL,Vs.look,aB,aQ,aK,Vs.hset,aL,kY,Vs.E,cI,sB];done)
    .exact absurd Z (by decide)
   .simp -dsimp only[go_sem,cC,sB,J,G,H,I,M,O,U,V,Y,kY];refine Br.mk (λZ=>absurd Z (by decide)) λZ=>?_
    try simp -dsimp only[go_sem,cC,sB,J,G,H,I,M,O,U,V,Y,kY]
    all_goals first|exact⟨⟨_,_,rfl,rfl⟩,λh=>h rfl⟩|exact⟨_,_,rfl,rfl⟩|(refine⟨?_,λh=>h rfl⟩;exact⟨_,_,rfl,rfl⟩)
end
section
variable [Vs.Envs]
attribute [local irreducible] Vs.Fn nxV nxS pkV pkS pt crd
def crT (l:List Int):Nat->Sr->List (List Int)->List (List Int)->Sr->Prop
 |0,x,o,o',x'=>o'=o∧x'=x
 |k+1,x,o,o',x'=>∃c x1,crd c∧x1.p<=x.p+6∧Vs.Fn Tryz.prog F.lZ [sB l x] [.ptr (.b 0) 0 0] (.agg (cC c)) [some (sB l x1)]∧crT l k x1 (o++[c]) o' x'
theorem aLW {l:List Int} (M:byt l):∀(k:Nat) (x:Sr) (o:List (List Int)),x.p+6*k<=3900->(∀c,c∈o->crd c)->∃G H,(H.p<=x.p+6*k∧G.length=o.length+k∧∀c,c∈G->crd c)∧crT l k x o G H
 |0,x,o,_,h=>⟨o,x,⟨by omega,rfl,h⟩,rfl,rfl⟩
 | k+1,x,o,h,ho=>by
  obtain⟨c,O,J,I,Y⟩:=aM7 l x M (by omega)
  obtain ⟨G,H,⟨Z,h2,U⟩,V⟩:=aLW M k O (o++[c]) (by omega) (λd F=>by
    rcases Bg.1 F with F|F
    . exact ho d F
    . rw[Av.1 F];exact J)
  exact⟨G,H,⟨by omega,by rw[h2,AX];simp only[Cf];omega,U⟩,c,O,J,I,Y,V⟩
theorem aJj {k:Nat} (h:k<=1000):IntKind.i64.wrap (((k+1:Nat):Int)-1)=(k:Int):=by rw[aI (by omega) (by omega)];omega
attribute [local go_sem] Int.reduceBEq Int.reduceBNe aH Af Ag Ao Aq Ae Aj Ad Al Ac Ai Ap Av Am Ak AR BQ Vs.Name.t.injEq Ar AY aT aU bF Be BF BG in
theorem aIB (l:List Int) (x:Sr) (Z:byt l) (n:Nat) (hn:n<=20) (hp:x.p<=3000):∃o z,(∀c,c∈o->crd c)∧o.length<=n∧z.p<=x.p+130∧Vs.Fn Tryz.prog F.pU [sB l x] [.ptr (.b 0) 0 0,.v (.int .i64 n)] (.sl 1 (E cC o)) [some (sB l z)]:=by
 have v:=aZ Z x (n:=(n+1:Nat)) (by omega);have hd:IntKind.i64.wrap ((n:Int)+1)=((n+1:Nat):Int):=by rw[aI (by omega) (by omega)];omega
 have P0:=pick l x Z (n+1:Nat) (by omega);have p0:=aO l x (n+1:Nat);obtain⟨k0,U⟩:∃k:Nat,pkV l x (n+1:Nat)=k:=⟨(pkV l x (n+1:Nat)).toNat,by omega⟩;rw[U] at P0 v;generalize pkS l x (n+1:Nat)=x0 at *
 obtain⟨J,z,⟨hz,ha,O⟩,hT⟩:=aLW Z k0 x0 [] (by omega) (λc H=>by cases H);simp only[Ai] at ha;refine⟨J,z,O,by omega,by omega,?_⟩;refine fn1 Cd.s_l13Deck_k [.b 0] [sB l z] λX=>?_;unfold Cd.pU
 repeat' first|simp -dsimp only[go_sem,cC,sB,hd]|apply Br.mk<;>intro h<;>try simp -dsimp only[h]|refine aA.bor (by first|exact P0) rfl ?_|refine aC ?_|refine aC9 ?_|fail
 refine aP.at dM (X:={G:Nat×Sr×List (List Int) // (G.2.1.p+6*G.1<=3500)∧(G.1+G.2.2.length=k0)∧crT l G.1 G.2.1 G.2.2 J z}) (λG=>[(5,.loc (.t 5 0) 0 G.1.2.2.length),(6,.v (.int .i64 (G.1.1:Nat)))]) (λG=>[(.b 0,sB l G.1.2.1),(.t 5 0,.arr 1 (E cC G.1.2.2) false)]) (λG=>G.1.1) ⟨(k0,x0,[]),by dsimp only;omega,by dsimp only;simp only[Ai];omega,hT⟩ ?_ ?_
 .simp[Vs.LeL,Vs.look,aB,aQ,aK,Vs.hset,aL,Vs.E,sB]
 .rintro⟨⟨k,y,o⟩,V,Y,I⟩;dsimp only at V Y I;simp -dsimp only[go_sem,cC,sB];refine Br.mk (λH=>?_) λH=>?_
  .obtain⟨k,rfl⟩:∃j,k=j+1:=⟨k-1,by simp at H;omega⟩;have w:=aJj (k:=k) (by omega);obtain⟨c,y1,he,hg,hf,I⟩:=I;have M:E cC o++[[.sl 1 (E cI c)]]=E cC (o++[c]):=by rw[aV];rfl
   repeat' first|simp -dsimp only[go_sem,w,M,cC,sB]|apply Br.mk<;>intro h<;>try simp -dsimp only[h]|refine aA.bor (by first|exact hf) rfl ?_|refine aC ?_|refine aC9 ?_|fail
   all_goals first|omega|(refine⟨⟨(k,y1,o++[c]),by dsimp only;omega,by dsimp only;rw[AX];simp only[Ac,Ai];omega,I⟩,?_,by simp only;omega⟩;simp[Vs.LeL,Vs.look,aB,aQ,aK,Vs.hset,aL,Vs.E,sB,cC];done)
  .obtain rfl:k=0:=by simp at H;omega
   obtain⟨rfl,rfl⟩:=I;have hb:(E cC J).take J.length=E cC J:=Ah (by rw[aH];exact Au _);simp -dsimp only[go_sem,cC,sB]
   first|exact⟨⟨_,_,rfl,rfl⟩,λh=>h rfl⟩|(rw[hb];exact⟨⟨_,_,rfl,rfl⟩,λh=>h rfl⟩)
def ORD:ByteArray:=⟨#[32,38,65,66,67,68,69,70,71,72,73,45,74,75,76,77,78,79,80,81,82,47,83,84,85,86,87,88,89,90,48,49,50,51,52,53,54,55,56,57]⟩
def SEV:ByteArray:=⟨#[65,66,48,49,32,74,90]⟩
theorem aO2:(⟨#[32,38,65,66,67,68,69,70,71,72,73,45,74,75,76,77,78,79,80,81,82,47,83,84,85,86,87,88,89,90,48,49,50,51,52,53,54,55,56,57]⟩:ByteArray)=ORD:=rfl
theorem aO1:(⟨#[65,66,48,49,32,74,90]⟩:ByteArray)=SEV:=rfl
theorem aMh:ORD.size=40:=rfl
theorem aMf:SEV.size=7:=rfl
def byA (b:ByteArray) (i:Int):Int:=((b.data.toList.getD i.toNat 0).toNat:Nat)
def dtU (l:List Int) (x:Sr):Int:=if pkV l x 3=0 then byA ORD (pkV l (pkS l x 3) 40) else byA SEV (pkV l (pkS l x 3) 7)
def dtS (l:List Int) (x:Sr):Sr:=if pkV l x 3=0 then pkS l (pkS l x 3) 40 else pkS l (pkS l x 3) 7
def dtF (l:List Int):Nat->Sr->List Int->List Int×Sr
 |0,x,o=>(o,x)
 |k+1,x,o=>dtF l k (dtS l x) (o++[dtU l x])
theorem aLR (l:List Int) (x:Sr):(dtS l x).p<=x.p+4:=by
 unfold dtS;have F:=aO l x 3;have h2:=aO l (pkS l x 3) 40;have G:=aO l (pkS l x 3) 7;split<;>omega
theorem aHK (l:List Int):∀(k:Nat) (x:Sr) (o:List Int),(dtF l k x o).1.length=o.length+k∧(dtF l k x o).2.p<=x.p+4*k
 |0,x,o=>⟨rfl,by simp[dtF]⟩
 | k+1,x,o=>by
  have F:=aHK l k (dtS l x) (o++[dtU l x]);have G:=aLR l x;rw[dtF];refine⟨?_,by omega⟩;rw[F.1,AX];simp only[Cf];omega
theorem aEi (o:List Int):(jD o).size=o.length:=by simp[jD,ByteArray.size]
attribute [local irreducible] ORD SEV dtU dtS
attribute [local go_sem] Int.reduceBEq Int.reduceBNe cC aH Af Ag Ao Aq Ae Aj Ad Al Ac Ai Ap Av Am Ak AR BQ Vs.Name.t.injEq Ar AY aT aU bF Be BF BG aO2 aO1 aMh aMf in
theorem aCk (l:List Int) (x:Sr) (O:byt l) (n:Nat) (hn:n<=20) (hp:x.p<=3000):Vs.Fn Tryz.prog F.jY [sB l x] [.ptr (.b 0) 0 0,.v (.int .i64 n)] (.v (.string (jD (dtF l n x []).1))) [some (sB l (dtF l n x []).2)]:=by
 have Z:=aDF;have hf:dtF l n x []=dtF l (n-0) x []:=rfl;generalize hR:dtF l n x []=R at *
 refine fn1 Cd.s_l03DrawText_k [.b 0] [sB l R.2] λX=>?_;unfold Cd.jY
 repeat' first|simp -dsimp only[go_sem,sB]|apply Br.mk<;>intro h<;>try simp -dsimp only[h]|refine aA.c (by first|exact Z) ?_|refine aC ?_|refine aC9 ?_|fail
 refine aP.at dM (X:={G:Nat×Sr×List Int // G.1<=n∧(G.2.1.p+4*(n-G.1)<=3100)∧(G.2.2.length=G.1)∧dtF l (n-G.1) G.2.1 G.2.2=R}) (λG=>[(6,.loc (.t 6 0) 0 G.1.2.2.length),(7,.v (.int .i64 (G.1.1:Nat)))]) (λG=>[(.b 0,sB l G.1.2.1),(.t 6 0,.arr 1 (E cU G.1.2.2) false)]) (λG=>n-G.1.1) ⟨(0,x,[]),by dsimp only;omega,by dsimp only;omega,rfl,by dsimp only;rw[←hR];rfl⟩ ?_ ?_
 .simp[Vs.LeL,Vs.look,aB,aQ,aK,Vs.hset,aL,Vs.E,sB]
 .rintro⟨⟨i,y,o⟩,hi,hb,hd,I⟩;dsimp only at hi hb hd I;simp -dsimp only[go_sem,sB];refine Br.mk (λhc=>?_) λhc=>?_
  .have hg:i<n:=Dq;have hw:IntKind.i64.wrap ((i:Int)+1)=((i+1:Nat):Int):=by rw[aI (by omega) (by omega)];omega
   rw[show n-i=(n-i-1)+1 by omega,dtF] at I;have q1:=aO l y 3;have Y:=one l y O 3 (by omega);by_cases M:pkV l y 3=0
   .have e1:(pkV l y 3==0)=true:=by simp[M]
    rw[e1] at Y;have v2:=aZ O (pkS l y 3) (n:=40) (by omega);have P2:=pick l (pkS l y 3) O 40 (by omega);have V:dtU l y=byA ORD (pkV l (pkS l y 3) 40):=by unfold dtU;rw[AP M]
    have U:dtS l y=pkS l (pkS l y 3) 40:=by unfold dtS;rw[AP M]
    unfold byA at V;have hq:=aLR l y;rw[U] at hq;rw[U,V] at I;generalize pkV l (pkS l y 3) 40=i2 at *
    generalize pkS l (pkS l y 3) 40=y2 at *
    obtain⟨u,H⟩:∃u:Nat,((ORD).data.toList.getD i2.toNat 0).toNat=u:=⟨_,rfl⟩;rw[H] at I;have J:E cU o++[[.v (.int .u8 (u:Nat))]]=E cU (o++[(u:Int)]):=by rw[aV];rfl
    repeat' first|simp -dsimp only[go_sem,hw,J,H,sB]|apply Br.mk<;>intro h<;>try simp -dsimp only[h]|refine aA.bor (by first|exact Y|exact P2) rfl ?_|refine aA.c (by first|exact Z) ?_|refine aC ?_|refine aC9 ?_|fail
    all_goals first|omega|(refine⟨⟨(i+1,y2,o++[(u:Int)]),by dsimp only;omega,by dsimp only;omega,by dsimp only;rw[AX];simp only[Cf];omega,by rw[show n-(i+1)=n-i-1 by omega];exact I⟩,?_,by simp only;omega⟩;simp[Vs.LeL,Vs.look,aB,aQ,aK,Vs.hset,aL,Vs.E,sB,cU];done)
   .have e1:(pkV l y 3==0)=false:=by simp[M]
    rw[e1] at Y;have v2:=aZ O (pkS l y 3) (n:=7) (by omega);have P2:=pick l (pkS l y 3) O 7 (by omega);have V:dtU l y=byA SEV (pkV l (pkS l y 3) 7):=by unfold dtU;rw[AC M]
    have U:dtS l y=pkS l (pkS l y 3) 7:=by unfold dtS;rw[AC M]
    unfold byA at V;have hq:=aLR l y;rw[U] at hq;rw[U,V] at I;generalize pkV l (pkS l y 3) 7=i2 at *
    generalize pkS l (pkS l y 3) 7=y2 at *
    obtain⟨u,H⟩:∃u:Nat,((SEV).data.toList.getD i2.toNat 0).toNat=u:=⟨_,rfl⟩;rw[H] at I;have J:E cU o++[[.v (.int .u8 (u:Nat))]]=E cU (o++[(u:Int)]):=by rw[aV];rfl
    repeat' first|simp -dsimp only[go_sem,hw,J,H,sB]|apply Br.mk<;>intro h<;>try simp -dsimp only[h]|refine aA.bor (by first|exact Y|exact P2) rfl ?_|refine aA.c (by first|exact Z) ?_|refine aC ?_|refine aC9 ?_|fail
    all_goals first|omega|(refine⟨⟨(i+1,y2,o++[(u:Int)]),by dsimp only;omega,by dsimp only;omega,by dsimp only;rw[AX];simp only[Cf];omega,by rw[show n-(i+1)=n-i-1 by omega];exact I⟩,?_,by simp only;omega⟩;simp[Vs.LeL,Vs.look,aB,aQ,aK,Vs.hset,aL,Vs.E,sB,cU];done)
  .have ha:i=n:=by
    have:¬i<n:=Dq;omega
   subst ha;rw[Cw,dtF] at I;subst I;have he:tJ (E cU o)=some o:=mK o;simp -dsimp only[go_sem,sB,he]
   all_goals first|exact⟨⟨_,_,rfl,rfl⟩,λh=>h rfl⟩
end
section
variable [Vs.Envs]
attribute [local irreducible] Vs.Fn nxV nxS pkV pkS pt crd gG dtF jD
theorem aA.borM {P:Program}{f:FuncId}{b:Blk}{ys:List AV}{L:List Vs.Name}{d:Option Nat}{σ:St}{n:Vs.Name}{K:St->Prop}{t:Tag K}{r:AV}{hout:List (Option Blk)} (F:Vs.Fn P f [b] ys r hout) (G:jB (d.getD 0) 1 hout.length σ=true)
  (H:K ⟨put d (rn (phi [n] (d.getD 0) hout.length) r) σ.s,yA σ.h [n] (d.getD 0) hout true L⟩):aA P f [b] ys L d σ [n] K t:=
 ⟨r,hout,true,F,λh=>(by cases h),G,H⟩
theorem text (l:List Int) (x:Sr) (H:byt l) (m:List ByteArray) (U:x.p<=3990) (O:m≠[]) (Y:m.length<=1000):Vs.Fn Tryz.prog F.dU [sB l x] [.ptr (.b 0) 0 0,.sl 1 (E cSt m)] (.v (.string (m.getD (pkV l x (m.length:Nat)).toNat ⟨#[]⟩))) [some (sB l (pkS l x (m.length:Nat)))]:=by
 have J:=pick l x H (m.length:Nat) U;have I:0<m.length:=BX.2 O;have V:=aZ H x (n:=(m.length:Nat)) (by omega)
 have M:(E cSt m).getD (pkV l x (m.length:Nat)).toNat []=[.v (.string (m.getD (pkV l x (m.length:Nat)).toNat ⟨#[]⟩))]:=by
  have G:(pkV l x (m.length:Nat)).toNat<m.length:=by omega
  rw[aW G];simp[cSt,List.getD,G]
 generalize pkV l x (m.length:Nat)=v at *
 refine fn1 Cd._s_l00Src__text_k [.b 0] [sB l (pkS l x (m.length:Nat))] λX=>?_;unfold Cd.dU
 repeat' first|simp -dsimp only[go_sem,aH,M,Int.reduceBEq,Int.reduceBNe,cC,aH,Af,Ag,Ao,Aq,Ae,Aj,Ad,Al,Ac,Ai,Ap,Av,Am,Ak,AR,BQ,Vs.Name.t.injEq,Ar,AY,aT,aU,bF,sB,Be,BF,BG]|apply Br.mk<;>intro h<;>try simp -dsimp only[h]|refine aA.bor (by first|exact J) rfl ?_|refine aC ?_|refine aC9 ?_|fail
 all_goals exact⟨_,_,rfl,rfl⟩
def abc:List ByteArray:=[⟨#[65]⟩,⟨#[66]⟩,⟨#[49]⟩]
theorem aNy:E cSt abc=[[.v (.string ⟨#[65]⟩)],[.v (.string ⟨#[66]⟩)],[.v (.string ⟨#[49]⟩)]]:=rfl
theorem aMd (i:Nat):(abc.getD i ⟨#[]⟩).size<=1:=by
 rcases i with _|_|_|i<;>first|decide|exact Nat.zero_le _
theorem dsW {p:Prop} (h:p:=by
  refine fn1 Cd.s_l15DrawStep_k [.b 0] [sB l z] λX=>?_;unfold Cd.fV
  repeat' first|simp -dsimp only[go_sem,Int.reduceBEq,Int.reduceBNe,cC,aH,Af,Ag,Ao,Aq,Ae,Aj,Ad,Al,Ac,Ai,Ap,Av,Am,Ak,AR,BQ,Vs.Name.t.injEq,Ar,AY,aT,aU,bF,sB,Be,BF,BG,cS,cSt,Int.reduceBEq,Int.reduceBNe,Bf,BA,Cj,Ce,AO,decide_true,decide_false,wk,wn]|apply Br.mk<;>intro h<;>try simp -dsimp only[h]|refine aA.bor (by first|exact P1|exact P2|exact P3|exact P4|exact DT|exact P9) rfl ?_|refine aA.borM (by first|exact TX) rfl ?_|refine aC ?_|refine aC9 ?_|fail
  all_goals first|omega|exact⟨_,_,rfl,rfl⟩):p:=h
theorem aGC (l:List Int) (x:Sr) (hl:byt l) (hp:x.p<=2900):∃s z,s.text.size<=2∧z.p<=x.p+30∧Vs.Fn Tryz.prog F.fV [sB l x] [.ptr (.b 0) 0 0] (.agg (cS s)) [some (sB l z)]:=by
 have P1:=pick l x hl 7 (by omega);have q1:=aO l x 7;have h1:=aZ hl x (n:=7) (by omega);generalize pkV l x 7=v1 at *
 generalize pkS l x 7=y1 at *
 have P2:=pick l y1 hl 3 (by omega);have q2:=aO l y1 3;generalize pkV l y1 3=va at *
 generalize pkS l y1 3=y2 at *
 have P3:=one l y2 hl 4 (by omega);have q3:=aO l y2 4;obtain⟨b4,hb4⟩:∃b,(pkV l y2 4==0)=b:=⟨_,rfl⟩;rw[hb4] at P3;generalize pkS l y2 4=y3 at *
 have hv:v1=0∨v1=1∨v1=2∨v1=3∨v1=4∨v1=5∨v1=6:=by omega
 rcases hv with rfl|rfl|rfl|rfl|rfl|rfl|rfl<;>cases b4
 .have wn:IntKind.i64.wrap (1-0)=((1:Nat):Int):=rfl;have wk:IntKind.i64.wrap (1+0)=1:=rfl;have P9:=pick l y3 hl 3 (by omega);have q9:=aO l y3 3;generalize pkV l y3 3=vt at *
  generalize pkS l y3 3=z at *
  refine⟨⟨1,va,0,vt,0,1,0,0,⟨#[]⟩⟩,z,Nat.zero_le _,by omega,?_⟩;exact dsW
 .have wn:IntKind.i64.wrap (1-0)=((1:Nat):Int):=rfl;have wk:IntKind.i64.wrap (1+0)=1:=rfl;have P9:=pick l y3 hl 3 (by omega);have q9:=aO l y3 3;generalize pkV l y3 3=vt at *
  generalize pkS l y3 3=z at *
  refine⟨⟨1,va,0,vt,1,3,0,0,⟨#[]⟩⟩,z,Nat.zero_le _,by omega,?_⟩;exact dsW
 .have wn:IntKind.i64.wrap (1-0)=((1:Nat):Int):=rfl;have wk:IntKind.i64.wrap (1+1)=2:=rfl;have P4:=pick l y3 hl 3 (by omega);have q4:=aO l y3 3;generalize pkV l y3 3=vb at *
  generalize pkS l y3 3=y4 at *
  have P9:=pick l y4 hl 3 (by omega);have q9:=aO l y4 3;generalize pkV l y4 3=vt at *
  generalize pkS l y4 3=z at *
  refine⟨⟨2,va,vb,vt,0,1,0,0,⟨#[]⟩⟩,z,Nat.zero_le _,by omega,?_⟩;exact dsW
 .have wn:IntKind.i64.wrap (1-0)=((1:Nat):Int):=rfl;have wk:IntKind.i64.wrap (1+1)=2:=rfl;have P4:=pick l y3 hl 3 (by omega);have q4:=aO l y3 3;generalize pkV l y3 3=vb at *
  generalize pkS l y3 3=y4 at *
  have P9:=pick l y4 hl 3 (by omega);have q9:=aO l y4 3;generalize pkV l y4 3=vt at *
  generalize pkS l y4 3=z at *
  refine⟨⟨2,va,vb,vt,1,3,0,0,⟨#[]⟩⟩,z,Nat.zero_le _,by omega,?_⟩;exact dsW
 .have wn:IntKind.i64.wrap (1-0)=((1:Nat):Int):=rfl;have wk:IntKind.i64.wrap (1+2)=3:=rfl;have P4:=pick l y3 hl 3 (by omega);have q4:=aO l y3 3;generalize pkV l y3 3=vb at *
  generalize pkS l y3 3=y4 at *
  have P9:=pick l y4 hl 3 (by omega);have q9:=aO l y4 3;generalize pkV l y4 3=vt at *
  generalize pkS l y4 3=z at *
  refine⟨⟨3,va,vb,vt,0,1,0,0,⟨#[]⟩⟩,z,Nat.zero_le _,by omega,?_⟩;exact dsW
 .have wn:IntKind.i64.wrap (1-0)=((1:Nat):Int):=rfl;have wk:IntKind.i64.wrap (1+2)=3:=rfl;have P4:=pick l y3 hl 3 (by omega);have q4:=aO l y3 3;generalize pkV l y3 3=vb at *
  generalize pkS l y3 3=y4 at *
  have P9:=pick l y4 hl 3 (by omega);have q9:=aO l y4 3;generalize pkV l y4 3=vt at *
  generalize pkS l y4 3=z at *
  refine⟨⟨3,va,vb,vt,1,3,0,0,⟨#[]⟩⟩,z,Nat.zero_le _,by omega,?_⟩;exact dsW
 .have wn:IntKind.i64.wrap (1-0)=((1:Nat):Int):=rfl;have wk:IntKind.i64.wrap (1+3)=4:=rfl;have P4:=pick l y3 hl 3 (by omega);have q4:=aO l y3 3;generalize pkV l y3 3=vb at *
  generalize pkS l y3 3=y4 at *
  have P9:=pick l y4 hl 3 (by omega);have q9:=aO l y4 3;generalize pkV l y4 3=vt at *
  generalize pkS l y4 3=z at *
  refine⟨⟨4,va,vb,vt,0,1,0,0,⟨#[]⟩⟩,z,Nat.zero_le _,by omega,?_⟩;exact dsW
 .have wn:IntKind.i64.wrap (1-0)=((1:Nat):Int):=rfl;have wk:IntKind.i64.wrap (1+3)=4:=rfl;have P4:=pick l y3 hl 3 (by omega);have q4:=aO l y3 3;generalize pkV l y3 3=vb at *
  generalize pkS l y3 3=y4 at *
  have P9:=pick l y4 hl 3 (by omega);have q9:=aO l y4 3;generalize pkV l y4 3=vt at *
  generalize pkS l y4 3=z at *
  refine⟨⟨4,va,vb,vt,1,3,0,0,⟨#[]⟩⟩,z,Nat.zero_le _,by omega,?_⟩;exact dsW
 .have wk:IntKind.i64.wrap (1+4)=5:=rfl;have wn:IntKind.i64.wrap (1-0)=((1:Nat):Int):=rfl;have DT:=aCk l y3 hl 1 (by omega) (by omega);have hd:=aHK l 1 y3 [];have hsz:=aEi (dtF l 1 y3 []).1;generalize jD (dtF l 1 y3 []).1=tx at *
  generalize(dtF l 1 y3 []).2=y4 at *
  have TX:=text l y4 hl abc (by omega) (by simp[abc]) (by simp[abc]);have hts:=aMd (pkV l y4 (abc.length:Nat)).toNat;have q5:=aO l y4 (abc.length:Nat);rw[aNy] at TX;generalize abc.getD (pkV l y4 (abc.length:Nat)).toNat ⟨#[]⟩=tt at *
  generalize pkS l y4 (abc.length:Nat)=y5 at *
  have P9:=pick l y5 hl 3 (by omega);have q9:=aO l y5 3;generalize pkV l y5 3=vt at *
  generalize pkS l y5 3=z at *
  refine⟨⟨5,va,0,vt,0,1,0,0,tt⟩,z,by show tt.size<=2;omega,by omega,?_⟩;exact dsW
 .have wk:IntKind.i64.wrap (1+4)=5:=rfl;have wn:IntKind.i64.wrap (3-1)=((2:Nat):Int):=rfl;have DT:=aCk l y3 hl 2 (by omega) (by omega);have hd:=aHK l 2 y3 [];have hsz:=aEi (dtF l 2 y3 []).1;generalize jD (dtF l 2 y3 []).1=tx at *
  generalize(dtF l 2 y3 []).2=y4 at *
  have P9:=pick l y4 hl 3 (by omega);have q9:=aO l y4 3;generalize pkV l y4 3=vt at *
  generalize pkS l y4 3=z at *
  refine⟨⟨5,va,0,vt,1,3,0,0,tx⟩,z,by show tx.size<=2;rw[hsz,hd.1];simp,by omega,?_⟩;exact dsW
 .have wn:IntKind.i64.wrap (1-0)=((1:Nat):Int):=rfl;have wk:IntKind.i64.wrap (1+5)=6:=rfl;have P9:=pick l y3 hl 3 (by omega);have q9:=aO l y3 3;generalize pkV l y3 3=vt at *
  generalize pkS l y3 3=z at *
  refine⟨⟨6,va,0,vt,0,1,0,0,⟨#[]⟩⟩,z,Nat.zero_le _,by omega,?_⟩;exact dsW
 .have wn:IntKind.i64.wrap (1-0)=((1:Nat):Int):=rfl;have wk:IntKind.i64.wrap (1+5)=6:=rfl;have P9:=pick l y3 hl 3 (by omega);have q9:=aO l y3 3;generalize pkV l y3 3=vt at *
  generalize pkS l y3 3=z at *
  refine⟨⟨6,va,0,vt,1,3,0,0,⟨#[]⟩⟩,z,Nat.zero_le _,by omega,?_⟩;exact dsW
 .have wn:IntKind.i64.wrap (1-0)=((1:Nat):Int):=rfl;have wk:IntKind.i64.wrap (1+6)=7:=rfl;have P4:=pick l y3 hl 2 (by omega);have q4:=aO l y3 2;have h4:=aZ hl y3 (n:=2) (by omega);generalize pkV l y3 2=vs at *
  generalize pkS l y3 2=z at *
  refine⟨⟨7,va,0,0,0,1,IntKind.i64.wrap (1+IntKind.i64.wrap (2*vs)),IntKind.i64.wrap (IntKind.i64.wrap (1+IntKind.i64.wrap (2*vs))+2),⟨#[]⟩⟩,z,Nat.zero_le _,by omega,?_⟩;exact dsW
 .have wn:IntKind.i64.wrap (1-0)=((1:Nat):Int):=rfl;have wk:IntKind.i64.wrap (1+6)=7:=rfl;have P4:=pick l y3 hl 2 (by omega);have q4:=aO l y3 2;have h4:=aZ hl y3 (n:=2) (by omega);generalize pkV l y3 2=vs at *
  generalize pkS l y3 2=z at *
  refine⟨⟨7,va,0,0,1,3,IntKind.i64.wrap (1+IntKind.i64.wrap (2*vs)),IntKind.i64.wrap (IntKind.i64.wrap (1+IntKind.i64.wrap (2*vs))+2),⟨#[]⟩⟩,z,Nat.zero_le _,by omega,?_⟩;exact dsW
end
end Go.Proofs.YtklmdppgonhflaaGreatDoor
