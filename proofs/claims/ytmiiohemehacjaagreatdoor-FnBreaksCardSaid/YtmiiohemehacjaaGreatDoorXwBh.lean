/- An office that is drawn: its trays handed over. -/
import Derived.Test.YtmiiohemehacjaaGreatDoorXwBg
import Derived.Test.YtmiiohemehacjaaGreatDoorVuW
set_option linter.all false
set_option maxHeartbeats 8000000
namespace Go.Proofs.YtmiiohemehacjaaGreatDoor
open Go.Vs
variable [Vs.Envs]
attribute [local irreducible] Vs.Fn nxV nxS pkV pkS ptN crd dW dtF lH run wO
attribute [local go_sem] Int.reduceBEq Int.reduceBNe cC cO cS cFd aH Ai Ah Al Aq Ad Af Ac Ae Aa Ab Ao Ar Ay Az Bo Bq Vs.Name.t.injEq Ak AB Vs.Name.b.injEq aW aX bG AA AO AP roV in
theorem aF1 (l:List Int) (x:Sr) (hl:byt l) (hp:x.p<=500):∃o z,okO 5 o∧z.p<=x.p+600∧Vs.Fn Tryz.prog F.oK [sB l x] [.ptr (.b 0) 0 0] (.agg [.loc (.b 1) 0 o.trays.length,roT o]) [some (sB l z),some (.arr 1 (E cD o.trays) false)]:=by
 obtain⟨d,y1,U,ha,hd,Z⟩:=zJ l x hl 6 (by omega) (by omega);obtain⟨u,z,V,hb,hz,DF⟩:=aDq l y1 hl (by omega);have I:=vK U (by omega);have J:=aJK (w:=5) (by omega) I;have Y:bE d:=bQ (w:=5) (by omega) I;have LN:=aJ2 d Y;have M:=aM2 4 (u.length:Nat);obtain⟨n,hn⟩:∃n:Nat,(if(4:Int)<(u.length:Nat) then(4:Int) else(u.length:Nat))=n:=⟨min 4 u.length,by split<;>omega⟩;rw[hn] at M;have hc:n<=u.length:=by split at hn<;>omega
 have H:=aLF (O0 d) 5 J rfl (u.take n) (λs hs=>by have:=V s (CQ hs);omega) (by rw[Ch];omega);have et:E cS (u.take n)=(E cS u).take n:=by simp[E,Cz]
 rw[et] at H;have L:=aJw (u.take n) (O0 d) J;generalize run (O0 d) (u.take n)=R at *
 refine⟨R.1,z,L.1,by omega,?_⟩;have O:(O0 d).trays=T0 d:=rfl;rw[O] at H;have G:(E cS u).length=u.length:=aH _;by_cases h0:R.1.totals.length=0
 .have e:=xM h0;rw[e];rw[e] at H;refine fn1 Cd.s_l15Draw_k [.b 0,.t 18 0] [sB l z,.arr 1 (E cD R.1.trays) false] λX=>?_;unfold Cd.oK
  repeat' first|simp -dsimp only[go_sem,sB,e,G]|apply Br.mk<;>intro h<;>try simp -dsimp only[h]|refine aA.bor (by first|exact Z|exact DF) rfl ?_|refine aA.ownL (by first|exact H) rfl ?_|refine aA.c (by first|exact LN|exact M) ?_|refine aC ?_|refine aC9 ?_|fail
  all_goals first|omega|exact⟨_,_,rfl,rfl⟩
 .have e:=xL h0;rw[e];rw[e] at H;refine fn1 Cd.s_l15Draw_k [.b 0,.t 18 0] [sB l z,.arr 1 (E cD R.1.trays) false] λX=>?_;unfold Cd.oK
  repeat' first|simp -dsimp only[go_sem,sB,e,G]|apply Br.mk<;>intro h<;>try simp -dsimp only[h]|refine aA.bor (by first|exact Z|exact DF) rfl ?_|refine aA.ownL (by first|exact H) rfl ?_|refine aA.c (by first|exact LN|exact M) ?_|refine aC ?_|refine aC9 ?_|fail
  all_goals first|omega|exact⟨_,_,rfl,rfl⟩
end Go.Proofs.YtmiiohemehacjaaGreatDoor
