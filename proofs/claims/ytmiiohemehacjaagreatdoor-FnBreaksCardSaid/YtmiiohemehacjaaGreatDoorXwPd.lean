/- Steps that are drawn; decks and flows of a source. -/
import Derived.Test.YtmiiohemehacjaaGreatDoorXuB
import Derived.Test.YtmiiohemehacjaaGreatDoorXwQb
import Derived.Test.YtmiiohemehacjaaGreatDoorVtR
import Derived.Test.YtmiiohemehacjaaGreatDoorVtK
import Derived.Test.YtmiiohemehacjaaGreatDoorVtO
import Derived.Test.YtmiiohemehacjaaGreatDoorXwK
import Derived.Test.YtmiiohemehacjaaGreatDoorXuF
import Derived.Test.YtmiiohemehacjaaGreatDoorXwSh
import Derived.Test.YtmiiohemehacjaaGreatDoorXuO
set_option linter.all false
set_option maxHeartbeats 8000000
namespace Go.Proofs.YtmiiohemehacjaaGreatDoor
open Go.Vs
section
variable [Vs.Envs]
attribute [local irreducible] Vs.Fn
theorem aNe {l:List Int}{i:Nat} (h:i<l.length):(E cU l).getD i []=[.v (.int .u8 (l.getD i 0))]:=by
 rw[aR h];simp[cU,List.getD,h]
structure Sr where
 p:Nat
 s:Int
def sB (l:List Int) (x:Sr):Blk:=.var [.sl 1 (E cU l),.v (.int .i64 x.p),.v (.int .u64 x.s)] false
def nxS (l:List Int) (x:Sr):Sr:=⟨x.p+1,IntKind.u64.wrap (IntKind.u64.wrap (IntKind.u64.wrap (x.s*6364136223846793005)+IntKind.u64.wrap (l.getD x.p 0))+1442695040888963407)⟩
def nxV (l:List Int) (x:Sr):Int:=if x.p+1<=l.length then l.getD x.p 0 else IntKind.i64.wrap (gG .and .u64 ((nxS l x).s.fdiv (2 ^ 40)) 255)
def pkV (l:List Int) (x:Sr) (n:Int):Int:=if n<=1 then 0 else if n>200 then(IntKind.i64.wrap (IntKind.i64.wrap (nxV l x*256)+nxV l (nxS l x))).tmod n else(nxV l x).tmod n
def pkS (l:List Int) (x:Sr) (n:Int):Sr:=if n<=1 then x else if n>200 then nxS l (nxS l x) else nxS l x
def byt (l:List Int):Prop:=l.length<=4096∧∀x,x∈l->0<=x∧x<=255
theorem aKP {l:List Int} (h:byt l) (i:Nat):0<=l.getD i 0∧l.getD i 0<=255:=by
 by_cases hi:i<l.length
 .have e:l.getD i 0=l[i]:=by simp[List.getD,hi]
  rw[e];exact h.2 _ (Am hi)
 .have e:l.getD i 0=0:=by simp[List.getD,Cr (Nat.le_of_not_lt hi)]
  omega
theorem aL0 (a:Int):0<=gG .and .u64 a 255∧gG .and .u64 a 255<=255:=by
 unfold gG;simp only
 have h:(BitVec.ofInt IntKind.u64.bits a &&& BitVec.ofInt IntKind.u64.bits 255).toNat<=255:=by
  rw[BitVec.toNat_and];exact BJ Nat.and_le_right (by decide)
 generalize(BitVec.ofInt IntKind.u64.bits a &&& BitVec.ofInt IntKind.u64.bits 255).toNat=m at h
 have e:IntKind.u64.wrap (m:Int)=m:=by
  simp only[IntKind.wrap,IntKind.bits,IntKind.signed,Dy,A8,Bg];omega
 rw[e];omega
theorem aJM {l:List Int} (h:byt l) (x:Sr):0<=nxV l x∧nxV l x<=255:=by
 unfold nxV;split
 .exact aKP h _
 .have:=aL0 ((nxS l x).s.fdiv (2 ^ 40));rw[aM (by omega) (by omega)];exact this
theorem bC {l:List Int} (h:byt l) (x:Sr) {n:Int} (F:1<=n):0<=pkV l x n∧pkV l x n<n:=by
 have u:=aJM h x;have h2:=aJM h (nxS l x);unfold pkV;split
 .omega
 .split
  .rw[aM (n:=nxV l x*256) (by omega) (by omega),aM (by omega) (by omega)];exact⟨Int.tmod_nonneg _ (by omega),Int.tmod_lt_of_pos _ (by omega)⟩
  .exact⟨Int.tmod_nonneg _ (by omega),Int.tmod_lt_of_pos _ (by omega)⟩
theorem aQ (l:List Int) (x:Sr) (n:Int):(pkS l x n).p<=x.p+2:=by
 unfold pkS;split
 .omega
 .split<;>simp[nxS]<;>omega
theorem nxS_p (l:List Int) (x:Sr):(nxS l x).p=x.p+1:=rfl
theorem aHt {a:Nat} (h:a<=4000000):IntKind.i64.wrap ((a:Int)+1)=((a+1:Nat):Int):=by rw[aM (by omega) (by omega)];omega
end
section
variable [Vs.Envs]
attribute [local irreducible] Vs.Fn
def nx0:aF:=
 (.region [⟨some 2,.mv (.const (.int .i64 (0))),none⟩] [0] [])
def nx1:aF:=
 (.region [⟨some 3,.mv (.const (.int .i64 (0))),none⟩] [0,3] [])
def nx2:aF:=
 (.seq (.region [⟨some 4,.mv (.tmp 0),none⟩,
       ⟨some 5,.nilc (.tmp 4),none⟩,
       ⟨some 6,.fieldAddr 1 (.tmp 5),none⟩,
       ⟨some 7,.load false 1 (.tmp 6),none⟩,
       ⟨some 8,.mv (.tmp 0),none⟩,
       ⟨some 9,.nilc (.tmp 8),none⟩,
       ⟨some 10,.fieldAddr 0 (.tmp 9),none⟩,
       ⟨some 11,.load false 1 (.tmp 10),none⟩,
       ⟨some 12,.len (.tmp 11),none⟩,
       ⟨some 13,.bin .lss (.tmp 7) (.tmp 12),none⟩] [0,3,13] [4,6,7,5,8,9,10,11,12,13]) <|
    .cond (.tmp 13)
      (.region [⟨some 14,.mv (.tmp 0),none⟩,
        ⟨some 15,.nilc (.tmp 14),none⟩,
        ⟨some 16,.fieldAddr 0 (.tmp 15),none⟩,
        ⟨some 17,.load false 1 (.tmp 16),none⟩,
        ⟨some 18,.mv (.tmp 0),none⟩,
        ⟨some 19,.nilc (.tmp 18),none⟩,
        ⟨some 20,.fieldAddr 1 (.tmp 19),none⟩,
        ⟨some 21,.load false 1 (.tmp 20),none⟩,
        ⟨some 22,.idxSl 1 (.tmp 17) (.tmp 21),none⟩,
        ⟨some 23,.load false 1 (.tmp 22),none⟩,
        ⟨some 24,.conv .i64 (.tmp 23),none⟩,
        ⟨some 3,.mv (.tmp 24),none⟩] [0,3] [14,16,17,15,18,19,20,21,22,23,24])
      (.skip))
def nx3:aF:=
 (.region [⟨some 25,.mv (.tmp 0),none⟩,
      ⟨some 26,.nilc (.tmp 25),none⟩,
      ⟨some 27,.fieldAddr 1 (.tmp 26),none⟩,
      ⟨some 28,.load false 1 (.tmp 27),none⟩,
      ⟨some 29,.bin .add (.tmp 28) (.const (.int .i64 (1))),none⟩,
      ⟨some 30,.nilc (.tmp 25),none⟩,
      ⟨some 31,.fieldAddr 1 (.tmp 30),none⟩,
      ⟨none,.store 1 (.tmp 31) (.tmp 29),none⟩] [0,3] [])
def nx4:aF:=
 (.region [⟨some 32,.mv (.tmp 0),none⟩,
      ⟨some 33,.mv (.tmp 0),none⟩,
      ⟨some 34,.nilc (.tmp 33),none⟩,
      ⟨some 35,.fieldAddr 2 (.tmp 34),none⟩,
      ⟨some 36,.load false 1 (.tmp 35),none⟩,
      ⟨some 37,.bin .mul (.tmp 36) (.const (.int .u64 (6364136223846793005))),none⟩,
      ⟨some 38,.mv (.tmp 3),none⟩,
      ⟨some 39,.conv .u64 (.tmp 38),none⟩,
      ⟨some 40,.bin .add (.tmp 37) (.tmp 39),none⟩,
      ⟨some 41,.bin .add (.tmp 40) (.const (.int .u64 (1442695040888963407))),none⟩,
      ⟨some 42,.nilc (.tmp 32),none⟩,
      ⟨some 43,.fieldAddr 2 (.tmp 42),none⟩,
      ⟨none,.store 1 (.tmp 43) (.tmp 41),none⟩] [0,3] [])
def nx5:aF:=
 (.seq (.region [⟨some 44,.mv (.tmp 0),none⟩,
       ⟨some 45,.nilc (.tmp 44),none⟩,
       ⟨some 46,.fieldAddr 1 (.tmp 45),none⟩,
       ⟨some 47,.load false 1 (.tmp 46),none⟩,
       ⟨some 48,.mv (.tmp 0),none⟩,
       ⟨some 49,.nilc (.tmp 48),none⟩,
       ⟨some 50,.fieldAddr 0 (.tmp 49),none⟩,
       ⟨some 51,.load false 1 (.tmp 50),none⟩,
       ⟨some 52,.len (.tmp 51),none⟩,
       ⟨some 53,.bin .leq (.tmp 47) (.tmp 52),none⟩] [0,3,53] [44,46,47,45,48,49,50,51,52,53]) <|
    .cond (.tmp 53)
      (.seq (.region [⟨some 54,.mv (.tmp 3),none⟩,
         ⟨some 2,.mv (.tmp 54),none⟩] [2] []) <|
      .ret)
      (.skip))
def nx6:aF:=
 (.region [⟨some 55,.mv (.tmp 0),none⟩,
      ⟨some 56,.nilc (.tmp 55),none⟩,
      ⟨some 57,.fieldAddr 2 (.tmp 56),none⟩,
      ⟨some 58,.load false 1 (.tmp 57),none⟩,
      ⟨some 59,.bin .shr (.tmp 58) (.const (.int .u64 (40))),none⟩,
      ⟨some 60,.bin .and (.tmp 59) (.const (.int .u64 (255))),none⟩,
      ⟨some 61,.conv .i64 (.tmp 60),none⟩,
      ⟨some 2,.mv (.tmp 61),none⟩] [2] [])
theorem aMM:Cd.fO=aF.seq nx0 (aF.seq nx1 (aF.seq nx2 (aF.seq nx3 (aF.seq nx4 (aF.seq nx5 (aF.seq nx6 (aF.ret))))))):=rfl
def nS (l:List Int) (v:Int) (y:Sr):St:=⟨[(0,.ptr (.b 0) 0 0),(3,.v (.int .i64 v))],[(.b 0,sB l y)]⟩
theorem aMV (X:Ctx) (N:St->Prop) (E:kT->St->Prop) (l:List Int) (x:Sr) (h:N ⟨[(0,.ptr (.b 0) 0 0)],[(.b 0,sB l x)]⟩):wpc Tryz.prog X (fK Tryz.prog) nx0 N E ⟨ini 0 [.ptr (.b 0) 0 0],xW 0 [sB l x]⟩:=by
 unfold sB at h;unfold nx0
 repeat' first|simp -dsimp only[go_sem,sB,Ac,Ae,Aa,Ab,AO,AP,aX,bG,aW,sB,Ak,AA,Af,Ad]|apply Br.mk<;>intro h<;>try simp -dsimp only[h]|refine aC ?_|fail
 all_goals first|exact h|assumption
theorem aMU (X:Ctx) (N:St->Prop) (E:kT->St->Prop) (l:List Int) (x:Sr) (h:N (nS l 0 x)):wpc Tryz.prog X (fK Tryz.prog) nx1 N E ⟨[(0,.ptr (.b 0) 0 0)],[(.b 0,sB l x)]⟩:=by
 unfold nS sB at h;unfold nx1
 repeat' first|simp -dsimp only[go_sem,sB,nS,Ac,Ae,Aa,Ab,AO,AP,aX,bG,aW,sB,Ak,AA,Af,Ad]|apply Br.mk<;>intro h<;>try simp -dsimp only[h]|refine aC ?_|fail
 all_goals first|exact h|assumption
theorem aMS (X:Ctx) (N:St->Prop) (E:kT->St->Prop) (l:List Int) (x:Sr) (H:byt l) (O:x.p<=4000) (u:x.p<l.length) (h:N (nS l (l.getD x.p 0) x)):wpc Tryz.prog X (fK Tryz.prog) nx2 N E (nS l 0 x):=by
 have L:=aHt (a:=x.p) (by omega);have J:((x.p:Int)).toNat=x.p:=by omega
 have I:=aKP H x.p;have F:decide ((x.p:Int)<((l.length:Nat):Int))=true:=by simp;omega
 have G:=aNe u;have M:IntKind.i64.wrap (l.getD x.p 0)=l.getD x.p 0:=aM (by omega) (by omega);unfold nS sB at h;unfold nx2
 repeat' first|simp -dsimp only[go_sem,sB,nS,L,J,F,aH,Ac,Ae,Aa,Ab,AO,AP,aX,bG,aW,sB,Ak,AA,Af,Ad,G,M]|apply Br.mk<;>intro h<;>try simp -dsimp only[h]|refine aC ?_|fail
 all_goals first|exact h|assumption
theorem aMT (X:Ctx) (N:St->Prop) (E:kT->St->Prop) (l:List Int) (x:Sr) (I:x.p<=4000) (F:¬x.p<l.length) (h:N ⟨[(0,.ptr (.b 0) 0 0),(3,.v (.int .i64 0)),(13,.v (.bool false))],[(.b 0,sB l x)]⟩):wpc Tryz.prog X (fK Tryz.prog) nx2 N E (nS l 0 x):=by
 have H:=aHt (a:=x.p) (by omega);have G:((x.p:Int)).toNat=x.p:=by omega
 have u:decide ((x.p:Int)<((l.length:Nat):Int))=false:=by simp;omega
 unfold sB at h;unfold nx2
 repeat' first|simp -dsimp only[go_sem,sB,nS,H,G,u,aH,Ac,Ae,Aa,Ab,AO,AP,aX,bG,aW,sB,Ak,AA,Af,Ad]|apply Br.mk<;>intro h<;>try simp -dsimp only[h]|refine aC ?_|fail
 all_goals first|exact h|assumption
theorem aMQ (X:Ctx) (N:St->Prop) (E:kT->St->Prop) (l:List Int) (x:Sr) (v:Int) (F:x.p<=4000) (h:N (nS l v ⟨x.p+1,x.s⟩)):wpc Tryz.prog X (fK Tryz.prog) nx3 N E (nS l v x):=by
 have u:=aHt (a:=x.p) (by omega);unfold nS sB at h;unfold nx3
 repeat' first|simp -dsimp only[go_sem,sB,nS,u,aH,Ac,Ae,Aa,Ab,AO,AP,aX,bG,aW,sB,Ak,AA,Af,Ad]|apply Br.mk<;>intro h<;>try simp -dsimp only[h]|refine aC ?_|fail
 all_goals first|exact h|assumption
theorem aMR (X:Ctx) (N:St->Prop) (E:kT->St->Prop) (l:List Int) (x:Sr) (F:x.p<=4000) (h:N (nS l 0 ⟨x.p+1,x.s⟩)):wpc Tryz.prog X (fK Tryz.prog) nx3 N E ⟨[(0,.ptr (.b 0) 0 0),(3,.v (.int .i64 0)),(13,.v (.bool false))],[(.b 0,sB l x)]⟩:=by
 have u:=aHt (a:=x.p) (by omega);unfold nS sB at h;unfold nx3
 repeat' first|simp -dsimp only[go_sem,sB,nS,u,aH,Ac,Ae,Aa,Ab,AO,AP,aX,bG,aW,sB,Ak,AA,Af,Ad]|apply Br.mk<;>intro h<;>try simp -dsimp only[h]|refine aC ?_|fail
 all_goals first|exact h|assumption
theorem aJN (X:Ctx) (N:St->Prop) (E:kT->St->Prop) (l:List Int) (x:Sr) (v F:Int) (u:IntKind.u64.wrap (IntKind.u64.wrap (IntKind.u64.wrap (x.s*6364136223846793005)+IntKind.u64.wrap v)+1442695040888963407)=F) (h:N (nS l v ⟨x.p,F⟩)):wpc Tryz.prog X (fK Tryz.prog) nx4 N E (nS l v x):=by
 unfold nS sB at h;unfold nx4
 repeat' first|simp -dsimp only[go_sem,sB,nS,u,Ac,Ae,Aa,Ab,AO,AP,aX,bG,aW,sB,Ak,AA,Af,Ad]|apply Br.mk<;>intro h<;>try simp -dsimp only[h]|refine aC ?_|fail
 all_goals first|exact h|assumption
theorem aMO (X:Ctx) (N:St->Prop) (E:kT->St->Prop) (l:List Int) (x:Sr) (v:Int) (F:x.p<=l.length) (h:E .ret ⟨[(2,.v (.int .i64 v))],[(.b 0,sB l x)]⟩):wpc Tryz.prog X (fK Tryz.prog) nx5 N E (nS l v x):=by
 have u:decide ((x.p:Int)<=((l.length:Nat):Int))=true:=by simp;omega
 unfold sB at h;unfold nx5
 repeat' first|simp -dsimp only[go_sem,sB,nS,u,aH,Ac,Ae,Aa,Ab,AO,AP,aX,bG,aW,sB,Ak,AA,Af,Ad]|apply Br.mk<;>intro h<;>try simp -dsimp only[h]|refine aC ?_|fail
 all_goals first|exact h|assumption
theorem aMP (X:Ctx) (N:St->Prop) (E:kT->St->Prop) (l:List Int) (x:Sr) (v:Int) (F:¬x.p<=l.length) (h:N ⟨[(0,.ptr (.b 0) 0 0),(3,.v (.int .i64 v)),(53,.v (.bool false))],[(.b 0,sB l x)]⟩):wpc Tryz.prog X (fK Tryz.prog) nx5 N E (nS l v x):=by
 have u:decide ((x.p:Int)<=((l.length:Nat):Int))=false:=by simp;omega
 unfold sB at h;unfold nx5
 repeat' first|simp -dsimp only[go_sem,sB,nS,u,aH,Ac,Ae,Aa,Ab,AO,AP,aX,bG,aW,sB,Ak,AA,Af,Ad]|apply Br.mk<;>intro h<;>try simp -dsimp only[h]|refine aC ?_|fail
 all_goals first|exact h|assumption
theorem aMN (X:Ctx) (N:St->Prop) (E:kT->St->Prop) (l:List Int) (x:Sr) (v G:Int) (F:IntKind.i64.wrap (gG .and .u64 (x.s.fdiv (2 ^ 40)) 255)=G) (h:N ⟨[(2,.v (.int .i64 G))],[(.b 0,sB l x)]⟩):wpc Tryz.prog X (fK Tryz.prog) nx6 N E ⟨[(0,.ptr (.b 0) 0 0),(3,.v (.int .i64 v)),(53,.v (.bool false))],[(.b 0,sB l x)]⟩:=by
 have u:(min 40 64:Nat)=40:=rfl;unfold sB at h;unfold nx6
 repeat' first|simp -dsimp only[go_sem,sB,nS,u,F,Ac,Ae,Aa,Ab,AO,AP,aX,bG,aW,sB,Ak,AA,Af,Ad]|apply Br.mk<;>intro h<;>try simp -dsimp only[h]|refine aC ?_|fail
 all_goals first|exact h|assumption
attribute [local irreducible] nx0 nx1 nx2 nx3 nx4 nx5 nx6
theorem next (l:List Int) (x:Sr) (L:byt l) (G:x.p<=4000):Vs.Fn Tryz.prog F.fO [sB l x] [.ptr (.b 0) 0 0] (.v (.int .i64 (nxV l x))) [some (sB l (nxS l x))]:=by
 refine fn1 Cd._s_l00Src__next_k [.b 0] [sB l (nxS l x)] λX=>?_;rw[aMM];refine aMV X _ _ l x (aMU X _ _ l x ?_);by_cases u:x.p<l.length
 .have H:nxV l x=l.getD x.p 0:=by unfold nxV;rw[AY (by omega)]
  rw[H];refine aMS X _ _ l x L G u (aMQ X _ _ l x _ G (aJN X _ _ l ⟨x.p+1,x.s⟩ _ _ rfl (aMO X _ _ l _ _ (by dsimp only;omega) ?_)));exact⟨_,_,rfl,rfl⟩
 .have I:l.getD x.p 0=0:=by simp[List.getD,Cr (Nat.le_of_not_lt u)]
  have J:nxS l x=⟨x.p+1,IntKind.u64.wrap (IntKind.u64.wrap (IntKind.u64.wrap (x.s*6364136223846793005)+IntKind.u64.wrap 0)+1442695040888963407)⟩:=by unfold nxS;rw[I]
  have H:nxV l x=IntKind.i64.wrap (gG .and .u64 ((nxS l x).s.fdiv (2 ^ 40)) 255):=by unfold nxV;rw[AJ (by omega)]
  rw[H,J];refine aMT X _ _ l x G u (aMR X _ _ l x G (aJN X _ _ l ⟨x.p+1,x.s⟩ _ _ rfl (aMP X _ _ l _ _ (by dsimp only;omega) (aMN X _ _ l _ _ _ rfl ?_))));exact⟨_,_,rfl,rfl⟩
end
section
variable [Vs.Envs]
attribute [local irreducible] Vs.Fn
attribute [local irreducible] nxV nxS
attribute [local go_sem] Ac Ae Aa Ab AO AP aX bG aW Ak AA Af Ad in
theorem pick (l:List Int) (x:Sr) (U:byt l) (n:Int) (V:x.p<=3990):Vs.Fn Tryz.prog F.aD [sB l x] [.ptr (.b 0) 0 0,.v (.int .i64 n)] (.v (.int .i64 (pkV l x n))) [some (sB l (pkS l x n))]:=by
 have Y:(nxS l x).p=x.p+1:=nxS_p l x;have M:=next l x U (by omega)
 have O:=next l (nxS l x) U (by omega)
 by_cases G:n<=1
 .have J:decide (n<=1)=true:=by simp[G]
  have I:pkV l x n=0:=by simp[pkV,G]
  have H:pkS l x n=x:=by simp[pkS,G]
  rw[I,H];refine fn1 Cd._s_l00Src__pick_k [.b 0] [sB l x] λX=>?_;unfold Cd.aD;simp -dsimp only[go_sem,J,sB];exact⟨_,_,rfl,rfl⟩
 .have J:decide (n<=1)=false:=by simp[G]
  have u:n≠0:=by omega
  by_cases h2:n>200
  .have L:decide (n>200)=true:=by simp[h2]
   have I:pkV l x n=(IntKind.i64.wrap (IntKind.i64.wrap (nxV l x*256)+nxV l (nxS l x))).tmod n:=by simp[pkV,G,h2]
   have H:pkS l x n=nxS l (nxS l x):=by simp[pkS,G,h2]
   rw[I,H];refine fn1 Cd._s_l00Src__pick_k [.b 0] [sB l (nxS l (nxS l x))] λX=>?_;unfold Cd.aD
   repeat' first|simp -dsimp only[go_sem,J,L,sB]|apply Br.mk<;>intro h<;>try simp -dsimp only[h]|refine RgK.mk rfl ?_|refine aA.bor (by first|exact M|exact O) rfl ?_|refine And.intro (by first|rfl|omega|decide|exact⟨rfl,u⟩|(refine⟨?_,?_⟩<;>(first|rfl|omega|decide|exact⟨rfl,u⟩))|(refine⟨?_,?_,?_⟩<;>(first|rfl|omega|decide|exact⟨rfl,u⟩))|(refine⟨?_,?_,?_,?_⟩<;>(first|rfl|omega|decide|exact⟨rfl,u⟩))) ?_|fail
   all_goals exact⟨_,_,rfl,rfl⟩
  .have L:decide (n>200)=false:=by simp;omega
   have I:pkV l x n=(nxV l x).tmod n:=by simp[pkV,G,h2]
   have H:pkS l x n=nxS l x:=by simp[pkS,G,h2]
   rw[I,H];refine fn1 Cd._s_l00Src__pick_k [.b 0] [sB l (nxS l x)] λX=>?_;unfold Cd.aD
   repeat' first|simp -dsimp only[go_sem,J,L,sB]|apply Br.mk<;>intro h<;>try simp -dsimp only[h]|refine RgK.mk rfl ?_|refine aA.bor (by first|exact M|exact O) rfl ?_|refine And.intro (by first|rfl|omega|decide|exact⟨rfl,u⟩|(refine⟨?_,?_⟩<;>(first|rfl|omega|decide|exact⟨rfl,u⟩))|(refine⟨?_,?_,?_⟩<;>(first|rfl|omega|decide|exact⟨rfl,u⟩))|(refine⟨?_,?_,?_,?_⟩<;>(first|rfl|omega|decide|exact⟨rfl,u⟩))) ?_|fail
   all_goals exact⟨_,_,rfl,rfl⟩
attribute [local irreducible] pkV pkS
theorem one (l:List Int) (x:Sr) (G:byt l) (n:Int) (H:x.p<=3990):Vs.Fn Tryz.prog F.aV [sB l x] [.ptr (.b 0) 0 0,.v (.int .i64 n)] (.v (.bool (pkV l x n==0))) [some (sB l (pkS l x n))]:=by
 have u:=pick l x G n H;refine fn1 Cd._s_l00Src__one_k [.b 0] [sB l (pkS l x n)] λX=>?_;unfold Cd.aV
 repeat' first|simp -dsimp only[go_sem,Ac,Ae,Aa,Ab,AO,AP,aX,bG,aW,sB,Ak,AA,Af,Ad]|apply Br.mk<;>intro h<;>try simp -dsimp only[h]|refine aA.bor (by first|exact u) rfl ?_|refine aC ?_|fail
 all_goals exact⟨_,_,rfl,rfl⟩
theorem among (l:List Int) (x:Sr) (G:byt l) (m:List Int) (M:x.p<=3990) (L:m≠[]) (U:m.length<=1000):Vs.Fn Tryz.prog F.bA [sB l x] [.ptr (.b 0) 0 0,.sl 1 (E cI m)] (.v (.int .i64 (m.getD (pkV l x (m.length:Nat)).toNat 0))) [some (sB l (pkS l x (m.length:Nat)))]:=by
 have I:=pick l x G (m.length:Nat) M;have H:0<m.length:=BZ.2 L;have O:=bC G x (n:=(m.length:Nat)) (by omega)
 have J:(E cI m).getD (pkV l x (m.length:Nat)).toNat []=[.v (.int .i64 (m.getD (pkV l x (m.length:Nat)).toNat 0))]:=by
  have u:(pkV l x (m.length:Nat)).toNat<m.length:=by omega
  rw[aR u];simp[cI,List.getD,u]
 generalize pkV l x (m.length:Nat)=v at *
 refine fn1 Cd._s_l00Src__among_k [.b 0] [sB l (pkS l x (m.length:Nat))] λX=>?_;unfold Cd.bA
 repeat' first|simp -dsimp only[go_sem,aH,J,Ac,Ae,Aa,Ab,AO,AP,aX,bG,aW,sB,Ak,AA,Af,Ad]|apply Br.mk<;>intro h<;>try simp -dsimp only[h]|refine aA.bor (by first|exact I) rfl ?_|refine aC ?_|fail
 all_goals exact⟨_,_,rfl,rfl⟩
end
section
variable [Vs.Envs]
attribute [local irreducible] Vs.Fn
def pd:Nat->Nat->List Int
 |0,_=>[]
 |w+1,k=>pd w (k/10)++[aAc (k%10)]
theorem aBo:∀w k,(pd w k).length=w
 |0,_=>rfl
 |w+1,k=>by simp[pd,aBo w]
def aEL (l:List Int):List Int:=l.set (l.length-1) (gG .or .i64 (l.getD (l.length-1) 0) 2)
def ptN (w:Nat) (n:Int):List Int:=if n<0 then aEL (pd w n.natAbs) else pd w n.natAbs
theorem aGC (w:Nat) (n:Int):(ptN w n).length=w:=by unfold ptN aEL;split<;>simp[aBo]
theorem aFl (j:Nat) (done:List Int) (x:Int):(E cI (List.replicate (j+1) 0++done)).set j [.v (.int .i64 x)]=E cI (List.replicate j 0++x::done):=by
 have e:(List.replicate (j+1) (0:Int)++done).set j x=List.replicate j 0++x::done:=by
  rw[List.replicate_succ',Bp,Dz _ _ (by simp)];simp
 rw[←e];simp[E,cI,Db]
theorem aAR (w:Nat):List.replicate w [AV.v (.int .i64 0)]=E cI (List.replicate w 0++[]):=by simp[E,cI]
theorem aFm (j:Nat) (done:List Int):(E cI (List.replicate (j+1) 0++done)).getD j []=[.v (.int .i64 0)]:=by
 rw[aR (by simp;omega)];simp[List.getElem_append,cI]
theorem aHU (n a:Nat):n/10 ^ a/10=n/10 ^ (a+1):=by rw[Nat.div_div_eq_div_mul,Nat.pow_succ]
theorem aFr {l:List Int} (h:l.length≠0):(E cI l).set (l.length-1) [.v (.int .i64 (gG .or .i64 (l.getD (l.length-1) 0) 2))]=E cI (aEL l):=by
 unfold aEL;simp[E,cI,Db]
theorem aFD {l:List Int} (h:l.length≠0):(E cI l).getD (l.length-1) []=[.v (.int .i64 (l.getD (l.length-1) 0))]:=by
 have u:l.length-1<l.length:=by omega
 rw[dJ u];simp[List.getD,u]
theorem aJ5 (n:Int) (w:Nat) (h0:-1000000000000<=n) (h1:n<=1000000000000) (hw0:0<w) (hw20:w<=20):Fz F.uM [.v (.int .i64 n),.v (.int .i64 w)] (.tup [.sl 1 (E cI (ptN w n)),.v (.bool (((n.natAbs/10 ^ w:Nat):Int)==0))]):=by
 rcases Int.lt_or_le n 0 with hneg|hneg
 .have hd0:decide (n<0)=true:=AR (by omega);have hpt:ptN w n=aEL (pd w n.natAbs):=by unfold ptN;rw[AY (by omega)]
  have hn1:IntKind.i64.wrap (0-n)=(n.natAbs:Int):=by rw[aM (by omega) (by omega)];omega
  have hn2:IntKind.i64.wrap (-n)=(n.natAbs:Int):=by rw[aM (by omega) (by omega)];omega
  have hwm:IntKind.i64.wrap ((w:Int)-1)=(w:Int)-1:=aM (by omega) (by omega);refine fn0 Cd.s_l03Put_k λX=>?_;simp -dsimp only[go_sem,hd0,aAR]
  repeat' first|simp -dsimp only[go_sem,hd0,aAR,hwm,Bw,hn1,hn2]|apply Br.mk<;>intro h<;>try simp -dsimp only[h]|refine aC ?_|fail
  refine aO.at dM (X:={zz:Nat×Nat×List Int // zz.1<=w∧zz.2.2.length=w-zz.1∧zz.2.1=n.natAbs/10 ^ (w-zz.1)∧pd zz.1 zz.2.1++zz.2.2=pd w n.natAbs}) (λzz=>[(7,.v (.int .i64 (zz.1.2.1:Nat))),(8,.v (.int .i64 ((zz.1.1:Int)-1)))]) (λzz=>[(.t 10 0,.arr 1 (E cI (List.replicate zz.1.1 0++zz.1.2.2)) false)]) (λzz=>zz.1.1) ⟨(w,n.natAbs,[]),AL _,by simp,by simp,by simp⟩ ?_ ?_
  .simp[Vs.LeL,Vs.look,aB,aP,aJ,Vs.hset,aK,E]
   first|done|omega
  .rintro⟨⟨j1,k,done⟩,hj,hd,hk,hg⟩;dsimp only at hj hd hk hg;simp -dsimp only[go_sem,hd0];refine Br.mk (λhc=>?_) λhc=>?_
   .obtain⟨j,rfl⟩:∃j,j1=j+1:=⟨j1-1,by simp at hc;omega⟩;have e1:(((j+1:Nat):Int)-1)=(j:Int):=by omega
    have hwj:IntKind.i64.wrap ((j:Int)-1)=(j:Int)-1:=aM (by omega) (by omega);have hkb:k<=1000000000000:=by rw[hk];exact BJ (Nat.div_le_self _ _) (by omega)
    have hkd:k/10=n.natAbs/10 ^ (w-j):=by rw[hk,aHU,show w-(j+1)+1=w-j by omega]
    have q1:((k:Int)).tmod 10=((k%10:Nat):Int):=by rw[Int.tmod_eq_emod_of_nonneg (by omega)];omega
    have q2:IntKind.i64.wrap (((k:Int)).tdiv 10)=((k/10:Nat):Int):=by rw[Int.tdiv_eq_ediv_of_nonneg (by omega),aM (by omega) (by omega)];omega
    have hgr:=aFm j done;have hgs:=aFl j done (aAc (k%10));rw[pd,Bp] at hg
    repeat' first|simp -dsimp only[go_sem,e1,hgr,hgs,hwj,q1,q2,aH,AC,Dg,Bw]|apply Br.mk<;>intro h<;>try simp -dsimp only[h]|refine aA.c (by first|exact aER (k%10) (by omega)) ?_|refine aC ?_|fail
    all_goals(exact⟨⟨(j,k/10,aAc (k%10)::done),by omega,by simp only[Aa];omega,hkd,hg⟩,by simp[Vs.LeL,Vs.look,aB,aP,aJ,Vs.hset,aK],by simp only;omega⟩)
   .have hz:j1=0:=by simp at hc;omega
    subst hz;rw[Nat.sub_zero] at hk;have hdone:done=pd w n.natAbs:=by simpa[pd] using hg
    subst hdone;have hlen:=aBo w n.natAbs;have hne:(pd w n.natAbs).length≠0:=by omega
    have hnr:=aFr hne;have hlg:=aFD hne;rw[hlen] at hnr hlg;have hw1:IntKind.i64.wrap ((w:Int)-1)=((w-1:Nat):Int):=by rw[aM (by omega) (by omega)];omega
    have htk:List.take w (E cI (aEL (pd w n.natAbs)))=E cI (aEL (pd w n.natAbs)):=Ag (by simp[E,aEL,aBo]);simp -dsimp only[go_sem,hd0,hnr,hlg,hw1,hlen,aH,Bw,Ah,Af,Ao];exact⟨⟨⟨by omega,by omega⟩,⟨by omega,by omega⟩,[.t 10 0],[],by rw[htk,hpt,hk],rfl⟩,λh=>h rfl⟩
 .have hd0:decide (n<0)=false:=AX (by omega);have hpt:ptN w n=pd w n.natAbs:=by unfold ptN;rw[AJ (by omega)]
  have hn1:n=(n.natAbs:Int):=by omega
  have hwm:IntKind.i64.wrap ((w:Int)-1)=(w:Int)-1:=aM (by omega) (by omega);refine fn0 Cd.s_l03Put_k λX=>?_;simp -dsimp only[go_sem,hd0,aAR]
  repeat' first|simp -dsimp only[go_sem,hd0,aAR,hwm,Bw]|apply Br.mk<;>intro h<;>try simp -dsimp only[h]|refine aC ?_|fail
  refine aO.at dM (X:={zz:Nat×Nat×List Int // zz.1<=w∧zz.2.2.length=w-zz.1∧zz.2.1=n.natAbs/10 ^ (w-zz.1)∧pd zz.1 zz.2.1++zz.2.2=pd w n.natAbs}) (λzz=>[(7,.v (.int .i64 (zz.1.2.1:Nat))),(8,.v (.int .i64 ((zz.1.1:Int)-1)))]) (λzz=>[(.t 10 0,.arr 1 (E cI (List.replicate zz.1.1 0++zz.1.2.2)) false)]) (λzz=>zz.1.1) ⟨(w,n.natAbs,[]),AL _,by simp,by simp,by simp⟩ ?_ ?_
  .simp[Vs.LeL,Vs.look,aB,aP,aJ,Vs.hset,aK,E]
   first|done|omega
  .rintro⟨⟨j1,k,done⟩,hj,hd,hk,hg⟩;dsimp only at hj hd hk hg;simp -dsimp only[go_sem,hd0];refine Br.mk (λhc=>?_) λhc=>?_
   .obtain⟨j,rfl⟩:∃j,j1=j+1:=⟨j1-1,by simp at hc;omega⟩;have e1:(((j+1:Nat):Int)-1)=(j:Int):=by omega
    have hwj:IntKind.i64.wrap ((j:Int)-1)=(j:Int)-1:=aM (by omega) (by omega);have hkb:k<=1000000000000:=by rw[hk];exact BJ (Nat.div_le_self _ _) (by omega)
    have hkd:k/10=n.natAbs/10 ^ (w-j):=by rw[hk,aHU,show w-(j+1)+1=w-j by omega]
    have q1:((k:Int)).tmod 10=((k%10:Nat):Int):=by rw[Int.tmod_eq_emod_of_nonneg (by omega)];omega
    have q2:IntKind.i64.wrap (((k:Int)).tdiv 10)=((k/10:Nat):Int):=by rw[Int.tdiv_eq_ediv_of_nonneg (by omega),aM (by omega) (by omega)];omega
    have hgr:=aFm j done;have hgs:=aFl j done (aAc (k%10));rw[pd,Bp] at hg
    repeat' first|simp -dsimp only[go_sem,e1,hgr,hgs,hwj,q1,q2,aH,AC,Dg,Bw]|apply Br.mk<;>intro h<;>try simp -dsimp only[h]|refine aA.c (by first|exact aER (k%10) (by omega)) ?_|refine aC ?_|fail
    all_goals(exact⟨⟨(j,k/10,aAc (k%10)::done),by omega,by simp only[Aa];omega,hkd,hg⟩,by simp[Vs.LeL,Vs.look,aB,aP,aJ,Vs.hset,aK],by simp only;omega⟩)
   .have hz:j1=0:=by simp at hc;omega
    subst hz;rw[Nat.sub_zero] at hk;have hdone:done=pd w n.natAbs:=by simpa[pd] using hg
    subst hdone;have hlen:=aBo w n.natAbs;have hne:(pd w n.natAbs).length≠0:=by omega
    have hnr:=aFr hne;have hlg:=aFD hne;rw[hlen] at hnr hlg;have hw1:IntKind.i64.wrap ((w:Int)-1)=((w-1:Nat):Int):=by rw[aM (by omega) (by omega)];omega
    have htk:List.take w (E cI (pd w n.natAbs))=E cI (pd w n.natAbs):=Ag (by simp[E,aEL,aBo]);simp -dsimp only[go_sem,hd0,hnr,hlg,hw1,hlen,aH,Bw,Ah,Af,Ao];exact⟨⟨[.t 10 0],[],by rw[htk,hpt,hk],rfl⟩,λh=>h rfl⟩
end
section
variable [Vs.Envs]
attribute [local irreducible] Vs.Fn nxV nxS pkV pkS ptN
def vN (b:ByteArray):List Int:=b.data.toList.map λx=>l03 x.toNat
theorem aF9 (b:ByteArray):(vN b).length=b.size:=by
 show(b.data.toList.map _).length=b.data.size
 rw[BC,BK]
theorem aHX {b:ByteArray}{i:Nat} (h:i<b.size):l03 ((b.data.toList.getD i 0).toNat:Nat)=(vN b)[i]'(by rw[aF9];exact h):=by
 have h':i<b.data.toList.length:=by rw[BK];exact h
 unfold vN;rw[List.getElem_map,Bc,Bf h'];rfl
def gvC (i:Nat):AV:=if i=0 then .v (.slice none 0 0) else .loc (.t 19 0) 0 i
def ghC (b:ByteArray) (i:Nat):List (Vs.Name×Blk):=if i=0 then[] else[(.t 19 0,.arr 1 (E cI ((vN b).take i)) false)]
attribute [local go_sem] Int.reduceBEq Int.reduceBNe cC aH Ai Ah Al Aq Ad Af Ac Ae Aa Ab Ao Ar Ay Az Bo Bq Vs.Name.t.injEq Ak AB in
theorem aJ7 (t:ByteArray) (h0:0<t.size) (h1:t.size<=20):Vs.Fn Tryz.prog F.oO [] [.v (.string t)] (.agg [.loc (.b 0) 0 t.size]) [some (.arr 1 (E cI (vN t)) false)]:=by
 have hcl:=aF9 t;refine fn1 Cd.s_l03Card_k [.t 19 0] [.arr 1 (E cI (vN t)) false] λX=>?_;unfold Cd.oO
 repeat' first|simp -dsimp only[go_sem]|apply Br.mk<;>intro h<;>try simp -dsimp only[h]|refine aC ?_|fail
 refine aO.intro dM (X:={i:Nat // i<=t.size}) (λi=>⟨[(0,.v (.string t)),(2,.ptr (.t 2 0) 0 0),(3,.ptr (.t 3 0) 0 0),(4,.v (.int .i64 (i.1:Nat)))],(.t 3 0,.var [gvC i.1] false)::(.t 2 0,.var [.v (.slice none 0 0)] false)::ghC t i.1⟩) (λi=>t.size-i.1) ⟨0,by omega⟩ ?_ ?_
 .simp[Vs.LeL,Vs.look,aB,aP,aJ,Vs.hset,aK,gvC,ghC]
 .rintro⟨i,hi⟩
  try dsimp only at hi
  rcases i with _|j
  .simp only[gvC,ghC,Bt]
   try simp -dsimp only[go_sem]
   refine Br.mk (λhc=>?_) λhc=>?_
   .have hlt:0<t.size:=h0;have hw:IntKind.i64.wrap (((0:Nat):Int)+1)=((1:Nat):Int):=rfl;have LC:=aA2 ((t.data.toList.getD 0 0).toNat:Nat);rw[aHX hlt] at LC;have hap:[[AV.v (.int .i64 ((vN t)[0]'(by omega)))]]=E cI ((vN t).take 1):=by rw[bU (show 0<(vN t).length by omega)];rfl
    generalize(vN t)[0]'(by omega)=cc at *
    repeat' first|simp -dsimp only[go_sem,hw,hap]|apply Br.mk<;>intro h<;>try simp -dsimp only[h]|refine aA.c (by first|exact LC) ?_|refine aC ?_|fail
    all_goals first|omega|(refine⟨⟨1,by omega⟩,?_,by simp only;omega⟩;simp[Vs.LeL,Vs.look,aB,aP,aJ,Vs.hset,aK,gvC,ghC,hap];done)
   .have:¬0<t.size:=Dq;omega
  .have e0:¬j+1=0:=by omega
   simp only[gvC,ghC,AJ e0];have hal:(E cI ((vN t).take (j+1))).length=j+1:=by rw[aH];simp;omega
   have htk:(E cI ((vN t).take (j+1))).take (j+1)=E cI ((vN t).take (j+1)):=Ag (by omega)
   try simp -dsimp only[go_sem,hal,htk]
   refine Br.mk (λhc=>?_) λhc=>?_
   .have hlt:j+1<t.size:=Dq;have hw:=aI hlt (by omega);have LC:=aA2 ((t.data.toList.getD (j+1) 0).toNat:Nat);rw[aHX hlt] at LC;have hap:E cI ((vN t).take (j+1))++[[AV.v (.int .i64 ((vN t)[j+1]'(by omega)))]]=E cI ((vN t).take (j+1+1)):=by rw[bU (show j+1<(vN t).length by omega),aS];rfl
    generalize(vN t)[j+1]'(by omega)=cc at *
    repeat' first|simp -dsimp only[go_sem,hw,hap,hal,htk]|apply Br.mk<;>intro h<;>try simp -dsimp only[h]|refine aA.c (by first|exact LC) ?_|refine aC ?_|fail
    all_goals first|omega|(refine⟨⟨j+1+1,by omega⟩,?_,by simp only;omega⟩;simp[Vs.LeL,Vs.look,aB,aP,aJ,Vs.hset,aK,gvC,ghC,hap];done)
   .have hge:j+1=t.size:=by
     have:¬j+1<t.size:=Dq;omega
    have hall:(vN t).take (j+1)=vN t:=Ag (by omega);rw[hall];rw[hall] at htk
    try simp -dsimp only[go_sem,hal,htk]
    all_goals first|omega|exact⟨_,_,rfl,rfl⟩|(refine⟨?_,λh=>h rfl⟩;rw[←hge];exact⟨_,_,rfl,rfl⟩)
def crd (c:List Int):Prop:=∃a n m:Int,(a=l03 65∨a=l03 66∨a=l03 49)∧(0<=n∧n<100)∧(-30<=m∧m<100)∧c=a::(ptN 2 n++ptN 2 m)
def j6 (a z p0 p1 q0 q1:Int):Nat->List Int
 |0=>[a,z,z,z,z]
 |1=>[a,p0,z,q0,z]
 |_=>[a,p0,p1,q0,q1]
theorem aI9 {u:List Int} (h:u.length=2):∃a b,u=[a,b]:=by
 match u,h with
 | [a,b],_=>exact⟨a,b,rfl⟩
theorem aDe (a:UInt8):Vs.Fn Tryz.prog F.oO [] [.v (.string ⟨#[a,48,48,48,48]⟩)] (.agg [.loc (.b 0) 0 5]) [some (.arr 1 (E cI [l03 a.toNat,l03 48,l03 48,l03 48,l03 48]) false)]:=
 aJ7 ⟨#[a,48,48,48,48]⟩ (Cq rfl) (Cq rfl)
attribute [local go_sem] Int.reduceBEq Int.reduceBNe aH Ai Ah Al Aq Ad Af Ac Ae Aa Ab Ao Ar Ay Az Bo Bq Vs.Name.t.injEq Ak AB aW aX bG AA AO AP Vs.E AU Bh in
theorem aLH (l:List Int) (x:Sr) (hl:byt l) (hp:x.p<=3900):∃c z,crd c∧z.p<=x.p+6∧Vs.Fn Tryz.prog F.kV [sB l x] [.ptr (.b 0) 0 0] (.agg (cC c)) [some (sB l z)]:=by
 have P1:=pick l x hl 3 (by omega);have q1:=aQ l x 3;have h1:=bC hl x (n:=3) (by omega);have P2:=pick l (pkS l x 3) hl 100 (by omega);have q2:=aQ l (pkS l x 3) 100;have h2:=bC hl (pkS l x 3) (n:=100) (by omega);have P3:=pick l (pkS l (pkS l x 3) 100) hl 130 (by omega);have q3:=aQ l (pkS l (pkS l x 3) 100) 130;have h3:=bC hl (pkS l (pkS l x 3) 100) (n:=130) (by omega);generalize pkV l (pkS l (pkS l x 3) 100) 130=v3 at *
 generalize pkS l (pkS l (pkS l x 3) 100) 130=z at *
 generalize pkV l (pkS l x 3) 100=v2 at *
 generalize pkS l (pkS l x 3) 100=y2 at *
 generalize pkV l x 3=v1 at *
 generalize pkS l x 3=y1 at *
 have U:IntKind.i64.wrap (v3-30)=v3-30:=aM (by omega) (by omega);have he:-30<=v3-30∧v3-30<100:=by omega
 have PA:=aJ5 v2 2 (by omega) (by omega) (by omega) (by omega);have PB:=aJ5 (v3-30) 2 (by omega) (by omega) (by omega) (by omega);obtain⟨p0,p1,Z⟩:=aI9 (aGC 2 v2);obtain⟨q0,q9,hb⟩:=aI9 (aGC 2 (v3-30));rw[Z] at PA;rw[hb] at PB;have J:IntKind.i64.wrap (1+((0:Nat):Int))=1:=rfl;have L:IntKind.i64.wrap (1+((1:Nat):Int))=2:=rfl;have M:IntKind.i64.wrap (3+((0:Nat):Int))=3:=rfl;have O:IntKind.i64.wrap (3+((1:Nat):Int))=4:=rfl;have hv:v1=0∨v1=1∨v1=2:=by omega
 rcases hv with rfl|rfl|rfl
 .have u:(⟨#[65,66,49]⟩:ByteArray).extract 0 3=⟨#[65,66,49]⟩:=by decide
  have G:(⟨#[65,66,49]⟩:ByteArray).extract 0 1=⟨#[65]⟩:=by decide
  have H:(⟨#[65]⟩++⟨#[48,48,48,48]⟩:ByteArray)=⟨#[65,48,48,48,48]⟩:=by decide
  have I:(⟨#[65,66,49]⟩:ByteArray).size=3:=rfl;have LC:=aDe 65;rw[show((65:UInt8).toNat:Int)=65 from rfl] at LC;refine⟨l03 65::([p0,p1]++[q0,q9]),z,⟨l03 65,v2,v3-30,.inl rfl,h2,he,by rw[Z,hb]⟩,by omega,?_⟩;generalize hz:l03 48=z0 at *
  generalize ha:l03 65=a0 at *
  refine fn1 Cd.s_l13Card_k [.b 0] [sB l z] λX=>?_;unfold Cd.kV
  repeat' first|simp -dsimp only[go_sem,cC,sB,I,u,G,H,J,L,M,O,U]|apply Br.mk<;>intro h<;>try simp -dsimp only[h]|refine aA.bor (by first|exact P1|exact P2|exact P3) rfl ?_|refine aA.own (by first|exact LC) rfl ?_|refine aA.c (by first|exact PA|exact PB) ?_|refine aC ?_|fail
  refine aO.at dM (X:={k:Nat // k<=2}) (λk=>[(8,.v (.int .i64 (k.1:Nat)))]) (λk=>[(.t 14 0,.arr 1 (E cI (j6 a0 z0 p0 p1 q0 q9 k.1)) false)]) (λk=>2-k.1) ⟨0,by omega⟩ ?_ ?_
  .simp[Vs.LeL,Vs.look,aB,aP,aJ,Vs.hset,aK,j6,Vs.E,cI,sB]
  .rintro⟨k,hk⟩
   try dsimp only at hk
   have hd:k=0∨k=1∨k=2:=by omega
   rcases hd with rfl|rfl|rfl
   .have Y:IntKind.i64.wrap (((0:Nat):Int)+1)=((1:Nat):Int):=rfl;simp -dsimp only[go_sem,cC,sB,I,u,G,H,J,L,M,O,U,j6,cI,Y];refine Br.mk (λV=>?_) λV=>?_
    .try simp -dsimp only[go_sem,cC,sB,I,u,G,H,J,L,M,O,U,j6,cI,Y]
     repeat' first|simp -dsimp only[go_sem,cC,sB,I,u,G,H,J,L,M,O,U,j6,cI,Y]|apply Br.mk<;>intro h<;>try simp -dsimp only[h]|refine aC ?_|fail
     all_goals first|omega|(refine⟨⟨1,by omega⟩,?_,by simp only;omega⟩;simp[Vs.LeL,Vs.look,aB,aP,aJ,Vs.hset,aK,j6,Vs.E,cI,sB];done)
    .exact absurd V (by decide)
   .have Y:IntKind.i64.wrap (((1:Nat):Int)+1)=((2:Nat):Int):=rfl;simp -dsimp only[go_sem,cC,sB,I,u,G,H,J,L,M,O,U,j6,cI,Y];refine Br.mk (λV=>?_) λV=>?_
    .try simp -dsimp only[go_sem,cC,sB,I,u,G,H,J,L,M,O,U,j6,cI,Y]
     repeat' first|simp -dsimp only[go_sem,cC,sB,I,u,G,H,J,L,M,O,U,j6,cI,Y]|apply Br.mk<;>intro h<;>try simp -dsimp only[h]|refine aC ?_|fail
     all_goals first|omega|(refine⟨⟨2,by omega⟩,?_,by simp only;omega⟩;simp[Vs.LeL,Vs.look,aB,aP,aJ,Vs.hset,aK,j6,Vs.E,cI,sB];done)
    .exact absurd V (by decide)
   .simp -dsimp only[go_sem,cC,sB,I,u,G,H,J,L,M,O,U,j6];refine Br.mk (λV=>absurd V (by decide)) λV=>?_
    try simp -dsimp only[go_sem,cC,sB,I,u,G,H,J,L,M,O,U,j6]
    all_goals first|exact⟨⟨_,_,rfl,rfl⟩,λh=>h rfl⟩|exact⟨_,_,rfl,rfl⟩|(refine⟨?_,λh=>h rfl⟩;exact⟨_,_,rfl,rfl⟩)
 .have u:(⟨#[65,66,49]⟩:ByteArray).extract 1 3=⟨#[66,49]⟩:=by decide
  have G:(⟨#[66,49]⟩:ByteArray).extract 0 1=⟨#[66]⟩:=by decide
  have H:(⟨#[66]⟩++⟨#[48,48,48,48]⟩:ByteArray)=⟨#[66,48,48,48,48]⟩:=by decide
  have I:(⟨#[66,49]⟩:ByteArray).size=2:=rfl;have LC:=aDe 66;rw[show((66:UInt8).toNat:Int)=66 from rfl] at LC;refine⟨l03 66::([p0,p1]++[q0,q9]),z,⟨l03 66,v2,v3-30,.inr (.inl rfl),h2,he,by rw[Z,hb]⟩,by omega,?_⟩;generalize hz:l03 48=z0 at *
  generalize ha:l03 66=a0 at *
  refine fn1 Cd.s_l13Card_k [.b 0] [sB l z] λX=>?_;unfold Cd.kV
  repeat' first|simp -dsimp only[go_sem,cC,sB,I,u,G,H,J,L,M,O,U]|apply Br.mk<;>intro h<;>try simp -dsimp only[h]|refine aA.bor (by first|exact P1|exact P2|exact P3) rfl ?_|refine aA.own (by first|exact LC) rfl ?_|refine aA.c (by first|exact PA|exact PB) ?_|refine aC ?_|fail
  refine aO.at dM (X:={k:Nat // k<=2}) (λk=>[(8,.v (.int .i64 (k.1:Nat)))]) (λk=>[(.t 14 0,.arr 1 (E cI (j6 a0 z0 p0 p1 q0 q9 k.1)) false)]) (λk=>2-k.1) ⟨0,by omega⟩ ?_ ?_
  .simp[Vs.LeL,Vs.look,aB,aP,aJ,Vs.hset,aK,j6,Vs.E,cI,sB]
  .rintro⟨k,hk⟩
   try dsimp only at hk
   have hd:k=0∨k=1∨k=2:=by omega
   rcases hd with rfl|rfl|rfl
   .have Y:IntKind.i64.wrap (((0:Nat):Int)+1)=((1:Nat):Int):=rfl;simp -dsimp only[go_sem,cC,sB,I,u,G,H,J,L,M,O,U,j6,cI,Y];refine Br.mk (λV=>?_) λV=>?_
    .try simp -dsimp only[go_sem,cC,sB,I,u,G,H,J,L,M,O,U,j6,cI,Y]
     repeat' first|simp -dsimp only[go_sem,cC,sB,I,u,G,H,J,L,M,O,U,j6,cI,Y]|apply Br.mk<;>intro h<;>try simp -dsimp only[h]|refine aC ?_|fail
     all_goals first|omega|(refine⟨⟨1,by omega⟩,?_,by simp only;omega⟩;simp[Vs.LeL,Vs.look,aB,aP,aJ,Vs.hset,aK,j6,Vs.E,cI,sB];done)
    .exact absurd V (by decide)
   .have Y:IntKind.i64.wrap (((1:Nat):Int)+1)=((2:Nat):Int):=rfl;simp -dsimp only[go_sem,cC,sB,I,u,G,H,J,L,M,O,U,j6,cI,Y];refine Br.mk (λV=>?_) λV=>?_
    .try simp -dsimp only[go_sem,cC,sB,I,u,G,H,J,L,M,O,U,j6,cI,Y]
     repeat' first|simp -dsimp only[go_sem,cC,sB,I,u,G,H,J,L,M,O,U,j6,cI,Y]|apply Br.mk<;>intro h<;>try simp -dsimp only[h]|refine aC ?_|fail
     all_goals first|omega|(refine⟨⟨2,by omega⟩,?_,by simp only;omega⟩;simp[Vs.LeL,Vs.look,aB,aP,aJ,Vs.hset,aK,j6,Vs.E,cI,sB];done)
    .exact absurd V (by decide)
   .simp -dsimp only[go_sem,cC,sB,I,u,G,H,J,L,M,O,U,j6];refine Br.mk (λV=>absurd V (by decide)) λV=>?_
    try simp -dsimp only[go_sem,cC,sB,I,u,G,H,J,L,M,O,U,j6]
    all_goals first|exact⟨⟨_,_,rfl,rfl⟩,λh=>h rfl⟩|exact⟨_,_,rfl,rfl⟩|(refine⟨?_,λh=>h rfl⟩;exact⟨_,_,rfl,rfl⟩)
 .have u:(⟨#[65,66,49]⟩:ByteArray).extract 2 3=⟨#[49]⟩:=by decide
  have G:(⟨#[49]⟩:ByteArray).extract 0 1=⟨#[49]⟩:=by decide
  have H:(⟨#[49]⟩++⟨#[48,48,48,48]⟩:ByteArray)=⟨#[49,48,48,48,48]⟩:=by decide
  have I:(⟨#[49]⟩:ByteArray).size=1:=rfl;have LC:=aDe 49;rw[show((49:UInt8).toNat:Int)=49 from rfl] at LC;refine⟨l03 49::([p0,p1]++[q0,q9]),z,⟨l03 49,v2,v3-30,.inr (.inr rfl),h2,he,by rw[Z,hb]⟩,by omega,?_⟩;generalize hz:l03 48=z0 at *
  generalize ha:l03 49=a0 at *
  refine fn1 Cd.s_l13Card_k [.b 0] [sB l z] λX=>?_;unfold Cd.kV
  repeat' first|simp -dsimp only[go_sem,cC,sB,I,u,G,H,J,L,M,O,U]|apply Br.mk<;>intro h<;>try simp -dsimp only[h]|refine aA.bor (by first|exact P1|exact P2|exact P3) rfl ?_|refine aA.own (by first|exact LC) rfl ?_|refine aA.c (by first|exact PA|exact PB) ?_|refine aC ?_|fail
  refine aO.at dM (X:={k:Nat // k<=2}) (λk=>[(8,.v (.int .i64 (k.1:Nat)))]) (λk=>[(.t 14 0,.arr 1 (E cI (j6 a0 z0 p0 p1 q0 q9 k.1)) false)]) (λk=>2-k.1) ⟨0,by omega⟩ ?_ ?_
  .simp[Vs.LeL,Vs.look,aB,aP,aJ,Vs.hset,aK,j6,Vs.E,cI,sB]
  .rintro⟨k,hk⟩
   try dsimp only at hk
   have hd:k=0∨k=1∨k=2:=by omega
   rcases hd with rfl|rfl|rfl
   .have Y:IntKind.i64.wrap (((0:Nat):Int)+1)=((1:Nat):Int):=rfl;simp -dsimp only[go_sem,cC,sB,I,u,G,H,J,L,M,O,U,j6,cI,Y];refine Br.mk (λV=>?_) λV=>?_
    .try simp -dsimp only[go_sem,cC,sB,I,u,G,H,J,L,M,O,U,j6,cI,Y]
     repeat' first|simp -dsimp only[go_sem,cC,sB,I,u,G,H,J,L,M,O,U,j6,cI,Y]|apply Br.mk<;>intro h<;>try simp -dsimp only[h]|refine aC ?_|fail
     all_goals first|omega|(refine⟨⟨1,by omega⟩,?_,by simp only;omega⟩;simp[Vs.LeL,Vs.look,aB,aP,aJ,Vs.hset,aK,j6,Vs.E,cI,sB];done)
    .exact absurd V (by decide)
   .have Y:IntKind.i64.wrap (((1:Nat):Int)+1)=((2:Nat):Int):=rfl;simp -dsimp only[go_sem,cC,sB,I,u,G,H,J,L,M,O,U,j6,cI,Y];refine Br.mk (λV=>?_) λV=>?_
    .try simp -dsimp only[go_sem,cC,sB,I,u,G,H,J,L,M,O,U,j6,cI,Y]
     repeat' first|simp -dsimp only[go_sem,cC,sB,I,u,G,H,J,L,M,O,U,j6,cI,Y]|apply Br.mk<;>intro h<;>try simp -dsimp only[h]|refine aC ?_|fail
     all_goals first|omega|(refine⟨⟨2,by omega⟩,?_,by simp only;omega⟩;simp[Vs.LeL,Vs.look,aB,aP,aJ,Vs.hset,aK,j6,Vs.E,cI,sB];done)
    .exact absurd V (by decide)
   .simp -dsimp only[go_sem,cC,sB,I,u,G,H,J,L,M,O,U,j6];refine Br.mk (λV=>absurd V (by decide)) λV=>?_
    try simp -dsimp only[go_sem,cC,sB,I,u,G,H,J,L,M,O,U,j6]
    all_goals first|exact⟨⟨_,_,rfl,rfl⟩,λh=>h rfl⟩|exact⟨_,_,rfl,rfl⟩|(refine⟨?_,λh=>h rfl⟩;exact⟨_,_,rfl,rfl⟩)
end
section
variable [Vs.Envs]
attribute [local irreducible] Vs.Fn nxV nxS pkV pkS ptN crd
def crT (l:List Int):Nat->Sr->List (List Int)->List (List Int)->Sr->Prop
 |0,x,o,o',x'=>o'=o∧x'=x
 |k+1,x,o,o',x'=>∃c x1,crd c∧x1.p<=x.p+6∧Vs.Fn Tryz.prog F.kV [sB l x] [.ptr (.b 0) 0 0] (.agg (cC c)) [some (sB l x1)]∧crT l k x1 (o++[c]) o' x'
theorem aKD {l:List Int} (J:byt l):∀(k:Nat) (x:Sr) (o:List (List Int)),x.p+6*k<=3900->(∀c,c∈o->crd c)->∃F G,(G.p<=x.p+6*k∧F.length=o.length+k∧∀c,c∈F->crd c)∧crT l k x o F G
 |0,x,o,_,h=>⟨o,x,⟨by omega,rfl,h⟩,rfl,rfl⟩
 | k+1,x,o,h,ho=>by
  obtain⟨c,L,I,H,U⟩:=aLH l x J (by omega)
  obtain ⟨F,G,⟨V,h2,M⟩,O⟩:=aKD J k L (o++[c]) (by omega) (λd u=>by
    rcases Be.1 u with u|u
    . exact ho d u
    . rw[Ar.1 u];exact I)
  exact⟨F,G,⟨by omega,by rw[h2,AC];simp only[A9];omega,M⟩,c,L,I,H,U,O⟩
theorem aIi {k:Nat} (h:k<=1000):IntKind.i64.wrap (((k+1:Nat):Int)-1)=(k:Int):=by rw[aM (by omega) (by omega)];omega
attribute [local go_sem] Int.reduceBEq Int.reduceBNe aH Ai Ah Al Aq Ad Af Ac Ae Aa Ab Ao Ar Ay Az Bo Bq Vs.Name.t.injEq Ak AB aW aX bG AA AO AP in
theorem zJ (l:List Int) (x:Sr) (hl:byt l) (n:Nat) (hn:n<=20) (hp:x.p<=3000):∃o z,(∀c,c∈o->crd c)∧o.length<=n∧z.p<=x.p+130∧Vs.Fn Tryz.prog F.kU [sB l x] [.ptr (.b 0) 0 0,.v (.int .i64 n)] (.sl 1 (E cC o)) [some (sB l z)]:=by
 have v:=bC hl x (n:=(n+1:Nat)) (by omega);have hw0:IntKind.i64.wrap ((n:Int)+1)=((n+1:Nat):Int):=by rw[aM (by omega) (by omega)];omega
 have P0:=pick l x hl (n+1:Nat) (by omega);have p0:=aQ l x (n+1:Nat);obtain⟨k0,hk0⟩:∃k:Nat,pkV l x (n+1:Nat)=k:=⟨(pkV l x (n+1:Nat)).toNat,by omega⟩;rw[hk0] at P0 v;generalize pkS l x (n+1:Nat)=x0 at *
 obtain⟨o1,z,⟨hz,ho1,hcr⟩,hT⟩:=aKD hl k0 x0 [] (by omega) (λc hc=>by cases hc);simp only[Ab] at ho1;refine⟨o1,z,hcr,by omega,by omega,?_⟩;refine fn1 Cd.s_l13Deck_k [.b 0] [sB l z] λX=>?_;unfold Cd.kU
 repeat' first|simp -dsimp only[go_sem,cC,sB,hw0]|apply Br.mk<;>intro h<;>try simp -dsimp only[h]|refine aA.bor (by first|exact P0) rfl ?_|refine aC ?_|fail
 refine aO.at dM (X:={zz:Nat×Sr×List (List Int) // (zz.2.1.p+6*zz.1<=3500)∧(zz.1+zz.2.2.length=k0)∧crT l zz.1 zz.2.1 zz.2.2 o1 z}) (λzz=>[(5,.loc (.t 5 0) 0 zz.1.2.2.length),(6,.v (.int .i64 (zz.1.1:Nat)))]) (λzz=>[(.b 0,sB l zz.1.2.1),(.t 5 0,.arr 1 (E cC zz.1.2.2) false)]) (λzz=>zz.1.1) ⟨(k0,x0,[]),by dsimp only;omega,by dsimp only;simp only[Ab];omega,hT⟩ ?_ ?_
 .simp[Vs.LeL,Vs.look,aB,aP,aJ,Vs.hset,aK,Vs.E,sB]
 .rintro⟨⟨k,y,o⟩,hk1,hk2,hr⟩;dsimp only at hk1 hk2 hr;simp -dsimp only[go_sem,cC,sB];refine Br.mk (λhc=>?_) λhc=>?_
  .obtain⟨k,rfl⟩:∃j,k=j+1:=⟨k-1,by simp at hc;omega⟩;have w:=aIi (k:=k) (by omega);obtain⟨c,y1,hcc,hy1,hf,hr⟩:=hr;have hap:E cC o++[[.sl 1 (E cI c)]]=E cC (o++[c]):=by rw[aS];rfl
   repeat' first|simp -dsimp only[go_sem,w,hap,cC,sB]|apply Br.mk<;>intro h<;>try simp -dsimp only[h]|refine aA.bor (by first|exact hf) rfl ?_|refine aC ?_|fail
   all_goals first|omega|(refine⟨⟨(k,y1,o++[c]),by dsimp only;omega,by dsimp only;rw[AC];simp only[Aa,Ab];omega,hr⟩,?_,by simp only;omega⟩;simp[Vs.LeL,Vs.look,aB,aP,aJ,Vs.hset,aK,Vs.E,sB,cC];done)
  .obtain rfl:k=0:=by simp at hc;omega
   obtain⟨rfl,rfl⟩:=hr;have htk:(E cC o1).take o1.length=E cC o1:=Ag (by rw[aH];exact AL _);simp -dsimp only[go_sem,cC,sB]
   first|exact⟨⟨_,_,rfl,rfl⟩,λh=>h rfl⟩|(rw[htk];exact⟨⟨_,_,rfl,rfl⟩,λh=>h rfl⟩)
def ORD:ByteArray:=⟨#[32,38,65,66,67,68,69,70,71,72,73,45,74,75,76,77,78,79,80,81,82,47,83,84,85,86,87,88,89,90,48,49,50,51,52,53,54,55,56,57]⟩
def SEV:ByteArray:=⟨#[65,66,48,49,32,74,90]⟩
theorem aNo:(⟨#[32,38,65,66,67,68,69,70,71,72,73,45,74,75,76,77,78,79,80,81,82,47,83,84,85,86,87,88,89,90,48,49,50,51,52,53,54,55,56,57]⟩:ByteArray)=ORD:=rfl
theorem aNn:(⟨#[65,66,48,49,32,74,90]⟩:ByteArray)=SEV:=rfl
theorem aK0:ORD.size=40:=rfl
theorem aKY:SEV.size=7:=rfl
def byA (b:ByteArray) (i:Int):Int:=((b.data.toList.getD i.toNat 0).toNat:Nat)
def dtU (l:List Int) (x:Sr):Int:=if pkV l x 3=0 then byA ORD (pkV l (pkS l x 3) 40) else byA SEV (pkV l (pkS l x 3) 7)
def dtS (l:List Int) (x:Sr):Sr:=if pkV l x 3=0 then pkS l (pkS l x 3) 40 else pkS l (pkS l x 3) 7
def dtF (l:List Int):Nat->Sr->List Int->List Int×Sr
 |0,x,o=>(o,x)
 |k+1,x,o=>dtF l k (dtS l x) (o++[dtU l x])
theorem aKw (l:List Int) (x:Sr):(dtS l x).p<=x.p+4:=by
 unfold dtS;have u:=aQ l x 3;have h2:=aQ l (pkS l x 3) 40;have F:=aQ l (pkS l x 3) 7;split<;>omega
theorem aGW (l:List Int):∀(k:Nat) (x:Sr) (o:List Int),(dtF l k x o).1.length=o.length+k∧(dtF l k x o).2.p<=x.p+4*k
 |0,x,o=>⟨rfl,by simp[dtF]⟩
 | k+1,x,o=>by
  have u:=aGW l k (dtS l x) (o++[dtU l x]);have F:=aKw l x;rw[dtF];refine⟨?_,by omega⟩;rw[u.1,AC];simp only[A9];omega
theorem aDR (o:List Int):(lH o).size=o.length:=by simp[lH,ByteArray.size]
attribute [local irreducible] ORD SEV dtU dtS
attribute [local go_sem] Int.reduceBEq Int.reduceBNe cC aH Ai Ah Al Aq Ad Af Ac Ae Aa Ab Ao Ar Ay Az Bo Bq Vs.Name.t.injEq Ak AB aW aX bG AA AO AP aNo aNn aK0 aKY in
theorem aBX (l:List Int) (x:Sr) (hl:byt l) (n:Nat) (hn:n<=20) (hp:x.p<=3000):Vs.Fn Tryz.prog F.jO [sB l x] [.ptr (.b 0) 0 0,.v (.int .i64 n)] (.v (.string (lH (dtF l n x []).1))) [some (sB l (dtF l n x []).2)]:=by
 have OR:=aDd;have hall:dtF l n x []=dtF l (n-0) x []:=rfl;generalize hR:dtF l n x []=R at *
 refine fn1 Cd.s_l03DrawText_k [.b 0] [sB l R.2] λX=>?_;unfold Cd.jO
 repeat' first|simp -dsimp only[go_sem,sB]|apply Br.mk<;>intro h<;>try simp -dsimp only[h]|refine aA.c (by first|exact OR) ?_|refine aC ?_|fail
 refine aO.at dM (X:={zz:Nat×Sr×List Int // zz.1<=n∧(zz.2.1.p+4*(n-zz.1)<=3100)∧(zz.2.2.length=zz.1)∧dtF l (n-zz.1) zz.2.1 zz.2.2=R}) (λzz=>[(6,.loc (.t 6 0) 0 zz.1.2.2.length),(7,.v (.int .i64 (zz.1.1:Nat)))]) (λzz=>[(.b 0,sB l zz.1.2.1),(.t 6 0,.arr 1 (E cU zz.1.2.2) false)]) (λzz=>n-zz.1.1) ⟨(0,x,[]),by dsimp only;omega,by dsimp only;omega,rfl,by dsimp only;rw[←hR];rfl⟩ ?_ ?_
 .simp[Vs.LeL,Vs.look,aB,aP,aJ,Vs.hset,aK,Vs.E,sB]
 .rintro⟨⟨i,y,o⟩,hi,hk1,hk2,hr⟩;dsimp only at hi hk1 hk2 hr;simp -dsimp only[go_sem,sB];refine Br.mk (λhc=>?_) λhc=>?_
  .have hlt:i<n:=Dq;have hw:IntKind.i64.wrap ((i:Int)+1)=((i+1:Nat):Int):=by rw[aM (by omega) (by omega)];omega
   rw[show n-i=(n-i-1)+1 by omega,dtF] at hr;have q1:=aQ l y 3;have P1:=one l y hl 3 (by omega);by_cases hz:pkV l y 3=0
   .have e1:(pkV l y 3==0)=true:=by simp[hz]
    rw[e1] at P1;have v2:=bC hl (pkS l y 3) (n:=40) (by omega);have P2:=pick l (pkS l y 3) hl 40 (by omega);have hu:dtU l y=byA ORD (pkV l (pkS l y 3) 40):=by unfold dtU;rw[AY hz]
    have hs:dtS l y=pkS l (pkS l y 3) 40:=by unfold dtS;rw[AY hz]
    unfold byA at hu;have hq:=aKw l y;rw[hs] at hq;rw[hs,hu] at hr;generalize pkV l (pkS l y 3) 40=i2 at *
    generalize pkS l (pkS l y 3) 40=y2 at *
    obtain⟨u,hu0⟩:∃u:Nat,((ORD).data.toList.getD i2.toNat 0).toNat=u:=⟨_,rfl⟩;rw[hu0] at hr;have hap:E cU o++[[.v (.int .u8 (u:Nat))]]=E cU (o++[(u:Int)]):=by rw[aS];rfl
    repeat' first|simp -dsimp only[go_sem,hw,hap,hu0,sB]|apply Br.mk<;>intro h<;>try simp -dsimp only[h]|refine aA.bor (by first|exact P1|exact P2) rfl ?_|refine aA.c (by first|exact OR) ?_|refine aC ?_|fail
    all_goals first|omega|(refine⟨⟨(i+1,y2,o++[(u:Int)]),by dsimp only;omega,by dsimp only;omega,by dsimp only;rw[AC];simp only[A9];omega,by rw[show n-(i+1)=n-i-1 by omega];exact hr⟩,?_,by simp only;omega⟩;simp[Vs.LeL,Vs.look,aB,aP,aJ,Vs.hset,aK,Vs.E,sB,cU];done)
   .have e1:(pkV l y 3==0)=false:=by simp[hz]
    rw[e1] at P1;have v2:=bC hl (pkS l y 3) (n:=7) (by omega);have P2:=pick l (pkS l y 3) hl 7 (by omega);have hu:dtU l y=byA SEV (pkV l (pkS l y 3) 7):=by unfold dtU;rw[AJ hz]
    have hs:dtS l y=pkS l (pkS l y 3) 7:=by unfold dtS;rw[AJ hz]
    unfold byA at hu;have hq:=aKw l y;rw[hs] at hq;rw[hs,hu] at hr;generalize pkV l (pkS l y 3) 7=i2 at *
    generalize pkS l (pkS l y 3) 7=y2 at *
    obtain⟨u,hu0⟩:∃u:Nat,((SEV).data.toList.getD i2.toNat 0).toNat=u:=⟨_,rfl⟩;rw[hu0] at hr;have hap:E cU o++[[.v (.int .u8 (u:Nat))]]=E cU (o++[(u:Int)]):=by rw[aS];rfl
    repeat' first|simp -dsimp only[go_sem,hw,hap,hu0,sB]|apply Br.mk<;>intro h<;>try simp -dsimp only[h]|refine aA.bor (by first|exact P1|exact P2) rfl ?_|refine aA.c (by first|exact OR) ?_|refine aC ?_|fail
    all_goals first|omega|(refine⟨⟨(i+1,y2,o++[(u:Int)]),by dsimp only;omega,by dsimp only;omega,by dsimp only;rw[AC];simp only[A9];omega,by rw[show n-(i+1)=n-i-1 by omega];exact hr⟩,?_,by simp only;omega⟩;simp[Vs.LeL,Vs.look,aB,aP,aJ,Vs.hset,aK,Vs.E,sB,cU];done)
  .have hge:i=n:=by
    have:¬i<n:=Dq;omega
   subst hge;rw[C9,dtF] at hr;subst hr;have hno:rT (E cU o)=some o:=pO o;simp -dsimp only[go_sem,sB,hno]
   all_goals first|exact⟨⟨_,_,rfl,rfl⟩,λh=>h rfl⟩
end
section
variable [Vs.Envs]
attribute [local irreducible] Vs.Fn nxV nxS pkV pkS ptN crd dW dtF lH
theorem aA.borM {P:Program}{f:FuncId}{b:Blk}{ys:List AV}{L:List Vs.Name}{d:Option Nat}{σ:St}{n:Vs.Name}{K:St->Prop}{t:Tag K}{r:AV}{hout:List (Option Blk)} (u:Vs.Fn P f [b] ys r hout) (F:iR (d.getD 0) 1 hout.length σ=true)
  (G:K ⟨put d (rn (phi [n] (d.getD 0) hout.length) r) σ.s,xB σ.h [n] (d.getD 0) hout true L⟩):aA P f [b] ys L d σ [n] K t:=
 ⟨r,hout,true,u,λh=>(by cases h),F,G⟩
theorem text (l:List Int) (x:Sr) (G:byt l) (m:List ByteArray) (M:x.p<=3990) (L:m≠[]) (U:m.length<=1000):Vs.Fn Tryz.prog F.fM [sB l x] [.ptr (.b 0) 0 0,.sl 1 (E cSt m)] (.v (.string (m.getD (pkV l x (m.length:Nat)).toNat ⟨#[]⟩))) [some (sB l (pkS l x (m.length:Nat)))]:=by
 have I:=pick l x G (m.length:Nat) M;have H:0<m.length:=BZ.2 L;have O:=bC G x (n:=(m.length:Nat)) (by omega)
 have J:(E cSt m).getD (pkV l x (m.length:Nat)).toNat []=[.v (.string (m.getD (pkV l x (m.length:Nat)).toNat ⟨#[]⟩))]:=by
  have u:(pkV l x (m.length:Nat)).toNat<m.length:=by omega
  rw[aR u];simp[cSt,List.getD,u]
 generalize pkV l x (m.length:Nat)=v at *
 refine fn1 Cd._s_l00Src__text_k [.b 0] [sB l (pkS l x (m.length:Nat))] λX=>?_;unfold Cd.fM
 repeat' first|simp -dsimp only[go_sem,aH,J,Int.reduceBEq,Int.reduceBNe,cC,aH,Ai,Ah,Al,Aq,Ad,Af,Ac,Ae,Aa,Ab,Ao,Ar,Ay,Az,Bo,Bq,Vs.Name.t.injEq,Ak,AB,aW,aX,bG,sB,AA,AO,AP]|apply Br.mk<;>intro h<;>try simp -dsimp only[h]|refine aA.bor (by first|exact I) rfl ?_|refine aC ?_|fail
 all_goals exact⟨_,_,rfl,rfl⟩
def abc:List ByteArray:=[⟨#[65]⟩,⟨#[66]⟩,⟨#[49]⟩]
theorem aL5:E cSt abc=[[.v (.string ⟨#[65]⟩)],[.v (.string ⟨#[66]⟩)],[.v (.string ⟨#[49]⟩)]]:=rfl
theorem aKW (i:Nat):(abc.getD i ⟨#[]⟩).size<=1:=by
 rcases i with _|_|_|i<;>first|decide|exact BX _
theorem dsW {p:Prop} (h:p:=by
  refine fn1 Cd.s_l15DrawStep_k [.b 0] [sB l z] λX=>?_;unfold Cd.iI
  repeat' first|simp -dsimp only[go_sem,Int.reduceBEq,Int.reduceBNe,cC,aH,Ai,Ah,Al,Aq,Ad,Af,Ac,Ae,Aa,Ab,Ao,Ar,Ay,Az,Bo,Bq,Vs.Name.t.injEq,Ak,AB,aW,aX,bG,sB,AA,AO,AP,cS,cSt,Int.reduceBEq,Int.reduceBNe,Dk,CZ,DJ,Di,A8,decide_true,decide_false,wk,wn]|apply Br.mk<;>intro h<;>try simp -dsimp only[h]|refine aA.bor (by first|exact P1|exact P2|exact P3|exact P4|exact DT|exact P9) rfl ?_|refine aA.borM (by first|exact TX) rfl ?_|refine aC ?_|fail
  all_goals first|omega|exact⟨_,_,rfl,rfl⟩):p:=h
theorem aKz (l:List Int) (x:Sr) (hl:byt l) (hp:x.p<=2900):∃s z,s.text.size<=2∧z.p<=x.p+30∧Vs.Fn Tryz.prog F.iI [sB l x] [.ptr (.b 0) 0 0] (.agg (cS s)) [some (sB l z)]:=by
 have P1:=pick l x hl 7 (by omega);have q1:=aQ l x 7;have h1:=bC hl x (n:=7) (by omega);generalize pkV l x 7=v1 at *
 generalize pkS l x 7=y1 at *
 have P2:=pick l y1 hl 3 (by omega);have q2:=aQ l y1 3;generalize pkV l y1 3=va at *
 generalize pkS l y1 3=y2 at *
 have P3:=one l y2 hl 4 (by omega);have q3:=aQ l y2 4;obtain⟨b4,hb4⟩:∃b,(pkV l y2 4==0)=b:=⟨_,rfl⟩;rw[hb4] at P3;generalize pkS l y2 4=y3 at *
 have hv:v1=0∨v1=1∨v1=2∨v1=3∨v1=4∨v1=5∨v1=6:=by omega
 rcases hv with rfl|rfl|rfl|rfl|rfl|rfl|rfl<;>cases b4
 .have wn:IntKind.i64.wrap (1-0)=((1:Nat):Int):=rfl;have wk:IntKind.i64.wrap (1+0)=1:=rfl;have P9:=pick l y3 hl 3 (by omega);have q9:=aQ l y3 3;generalize pkV l y3 3=vt at *
  generalize pkS l y3 3=z at *
  refine⟨⟨1,va,0,vt,0,1,0,0,⟨#[]⟩⟩,z,BX _,by omega,?_⟩;exact dsW
 .have wn:IntKind.i64.wrap (1-0)=((1:Nat):Int):=rfl;have wk:IntKind.i64.wrap (1+0)=1:=rfl;have P9:=pick l y3 hl 3 (by omega);have q9:=aQ l y3 3;generalize pkV l y3 3=vt at *
  generalize pkS l y3 3=z at *
  refine⟨⟨1,va,0,vt,1,3,0,0,⟨#[]⟩⟩,z,BX _,by omega,?_⟩;exact dsW
 .have wn:IntKind.i64.wrap (1-0)=((1:Nat):Int):=rfl;have wk:IntKind.i64.wrap (1+1)=2:=rfl;have P4:=pick l y3 hl 3 (by omega);have q4:=aQ l y3 3;generalize pkV l y3 3=vb at *
  generalize pkS l y3 3=y4 at *
  have P9:=pick l y4 hl 3 (by omega);have q9:=aQ l y4 3;generalize pkV l y4 3=vt at *
  generalize pkS l y4 3=z at *
  refine⟨⟨2,va,vb,vt,0,1,0,0,⟨#[]⟩⟩,z,BX _,by omega,?_⟩;exact dsW
 .have wn:IntKind.i64.wrap (1-0)=((1:Nat):Int):=rfl;have wk:IntKind.i64.wrap (1+1)=2:=rfl;have P4:=pick l y3 hl 3 (by omega);have q4:=aQ l y3 3;generalize pkV l y3 3=vb at *
  generalize pkS l y3 3=y4 at *
  have P9:=pick l y4 hl 3 (by omega);have q9:=aQ l y4 3;generalize pkV l y4 3=vt at *
  generalize pkS l y4 3=z at *
  refine⟨⟨2,va,vb,vt,1,3,0,0,⟨#[]⟩⟩,z,BX _,by omega,?_⟩;exact dsW
 .have wn:IntKind.i64.wrap (1-0)=((1:Nat):Int):=rfl;have wk:IntKind.i64.wrap (1+2)=3:=rfl;have P4:=pick l y3 hl 3 (by omega);have q4:=aQ l y3 3;generalize pkV l y3 3=vb at *
  generalize pkS l y3 3=y4 at *
  have P9:=pick l y4 hl 3 (by omega);have q9:=aQ l y4 3;generalize pkV l y4 3=vt at *
  generalize pkS l y4 3=z at *
  refine⟨⟨3,va,vb,vt,0,1,0,0,⟨#[]⟩⟩,z,BX _,by omega,?_⟩;exact dsW
 .have wn:IntKind.i64.wrap (1-0)=((1:Nat):Int):=rfl;have wk:IntKind.i64.wrap (1+2)=3:=rfl;have P4:=pick l y3 hl 3 (by omega);have q4:=aQ l y3 3;generalize pkV l y3 3=vb at *
  generalize pkS l y3 3=y4 at *
  have P9:=pick l y4 hl 3 (by omega);have q9:=aQ l y4 3;generalize pkV l y4 3=vt at *
  generalize pkS l y4 3=z at *
  refine⟨⟨3,va,vb,vt,1,3,0,0,⟨#[]⟩⟩,z,BX _,by omega,?_⟩;exact dsW
 .have wn:IntKind.i64.wrap (1-0)=((1:Nat):Int):=rfl;have wk:IntKind.i64.wrap (1+3)=4:=rfl;have P4:=pick l y3 hl 3 (by omega);have q4:=aQ l y3 3;generalize pkV l y3 3=vb at *
  generalize pkS l y3 3=y4 at *
  have P9:=pick l y4 hl 3 (by omega);have q9:=aQ l y4 3;generalize pkV l y4 3=vt at *
  generalize pkS l y4 3=z at *
  refine⟨⟨4,va,vb,vt,0,1,0,0,⟨#[]⟩⟩,z,BX _,by omega,?_⟩;exact dsW
 .have wn:IntKind.i64.wrap (1-0)=((1:Nat):Int):=rfl;have wk:IntKind.i64.wrap (1+3)=4:=rfl;have P4:=pick l y3 hl 3 (by omega);have q4:=aQ l y3 3;generalize pkV l y3 3=vb at *
  generalize pkS l y3 3=y4 at *
  have P9:=pick l y4 hl 3 (by omega);have q9:=aQ l y4 3;generalize pkV l y4 3=vt at *
  generalize pkS l y4 3=z at *
  refine⟨⟨4,va,vb,vt,1,3,0,0,⟨#[]⟩⟩,z,BX _,by omega,?_⟩;exact dsW
 .have wk:IntKind.i64.wrap (1+4)=5:=rfl;have wn:IntKind.i64.wrap (1-0)=((1:Nat):Int):=rfl;have DT:=aBX l y3 hl 1 (by omega) (by omega);have hd:=aGW l 1 y3 [];have hsz:=aDR (dtF l 1 y3 []).1;generalize lH (dtF l 1 y3 []).1=tx at *
  generalize(dtF l 1 y3 []).2=y4 at *
  have TX:=text l y4 hl abc (by omega) (by simp[abc]) (by simp[abc]);have hts:=aKW (pkV l y4 (abc.length:Nat)).toNat;have q5:=aQ l y4 (abc.length:Nat);rw[aL5] at TX;generalize abc.getD (pkV l y4 (abc.length:Nat)).toNat ⟨#[]⟩=tt at *
  generalize pkS l y4 (abc.length:Nat)=y5 at *
  have P9:=pick l y5 hl 3 (by omega);have q9:=aQ l y5 3;generalize pkV l y5 3=vt at *
  generalize pkS l y5 3=z at *
  refine⟨⟨5,va,0,vt,0,1,0,0,tt⟩,z,by show tt.size<=2;omega,by omega,?_⟩;exact dsW
 .have wk:IntKind.i64.wrap (1+4)=5:=rfl;have wn:IntKind.i64.wrap (3-1)=((2:Nat):Int):=rfl;have DT:=aBX l y3 hl 2 (by omega) (by omega);have hd:=aGW l 2 y3 [];have hsz:=aDR (dtF l 2 y3 []).1;generalize lH (dtF l 2 y3 []).1=tx at *
  generalize(dtF l 2 y3 []).2=y4 at *
  have P9:=pick l y4 hl 3 (by omega);have q9:=aQ l y4 3;generalize pkV l y4 3=vt at *
  generalize pkS l y4 3=z at *
  refine⟨⟨5,va,0,vt,1,3,0,0,tx⟩,z,by show tx.size<=2;rw[hsz,hd.1];simp,by omega,?_⟩;exact dsW
 .have wn:IntKind.i64.wrap (1-0)=((1:Nat):Int):=rfl;have wk:IntKind.i64.wrap (1+5)=6:=rfl;have P9:=pick l y3 hl 3 (by omega);have q9:=aQ l y3 3;generalize pkV l y3 3=vt at *
  generalize pkS l y3 3=z at *
  refine⟨⟨6,va,0,vt,0,1,0,0,⟨#[]⟩⟩,z,BX _,by omega,?_⟩;exact dsW
 .have wn:IntKind.i64.wrap (1-0)=((1:Nat):Int):=rfl;have wk:IntKind.i64.wrap (1+5)=6:=rfl;have P9:=pick l y3 hl 3 (by omega);have q9:=aQ l y3 3;generalize pkV l y3 3=vt at *
  generalize pkS l y3 3=z at *
  refine⟨⟨6,va,0,vt,1,3,0,0,⟨#[]⟩⟩,z,BX _,by omega,?_⟩;exact dsW
 .have wn:IntKind.i64.wrap (1-0)=((1:Nat):Int):=rfl;have wk:IntKind.i64.wrap (1+6)=7:=rfl;have P4:=pick l y3 hl 2 (by omega);have q4:=aQ l y3 2;have h4:=bC hl y3 (n:=2) (by omega);generalize pkV l y3 2=vs at *
  generalize pkS l y3 2=z at *
  refine⟨⟨7,va,0,0,0,1,IntKind.i64.wrap (1+IntKind.i64.wrap (2*vs)),IntKind.i64.wrap (IntKind.i64.wrap (1+IntKind.i64.wrap (2*vs))+2),⟨#[]⟩⟩,z,BX _,by omega,?_⟩;exact dsW
 .have wn:IntKind.i64.wrap (1-0)=((1:Nat):Int):=rfl;have wk:IntKind.i64.wrap (1+6)=7:=rfl;have P4:=pick l y3 hl 2 (by omega);have q4:=aQ l y3 2;have h4:=bC hl y3 (n:=2) (by omega);generalize pkV l y3 2=vs at *
  generalize pkS l y3 2=z at *
  refine⟨⟨7,va,0,0,1,3,IntKind.i64.wrap (1+IntKind.i64.wrap (2*vs)),IntKind.i64.wrap (IntKind.i64.wrap (1+IntKind.i64.wrap (2*vs))+2),⟨#[]⟩⟩,z,BX _,by omega,?_⟩;exact dsW
end
end Go.Proofs.YtmiiohemehacjaaGreatDoor
