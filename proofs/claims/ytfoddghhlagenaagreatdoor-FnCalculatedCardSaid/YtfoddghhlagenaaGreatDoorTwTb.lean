/- Cross foots, and the number in a field. -/
import Derived.Test.YtfoddghhlagenaaGreatDoorVsD
import Derived.Test.YtfoddghhlagenaaGreatDoorTwTa
import Derived.Test.YtfoddghhlagenaaGreatDoorTwY
set_option linter.all false
set_option maxHeartbeats 8000000
namespace Go.Proofs.YtfoddghhlagenaaGreatDoor
open Go.Vs
variable [Vs.Tab 0 Vs.powP]
attribute [local irreducible] Vs.Fn
attribute [local go_sem] Int.reduceBEq Int.reduceBNe cFd List.replicate_succ List.replicate_zero List.flatten_cons List.flatten_nil List.cons_append List.nil_append List.set_cons_zero List.set_cons_succ List.length_cons List.length_nil List.length_set List.mem_singleton List.mem_cons List.not_mem_nil or_false false_or Vs.Name.t.injEq and_true and_false true_and false_and
def cfB (c:List Int) (fs:List (Int×Int)):Bool:=fs.all λf=>(aL f.1 f.2 c).2
def cfS (c:List Int):List (Int×Int)->Int
 | []=>0
 |f::r=>(aL f.1 f.2 c).1+cfS c r
theorem wQ (c:List Int) (a b:List (Int×Int)):cfS c (a++b)=cfS c a+cfS c b:=by
 induction a with
 |nil=>simp[cfS]
 |cons x r ih=>rw[List.cons_append,cfS,cfS,ih];omega
theorem qJ {c:List Int}:∀{fs:List (Int×Int)},(∀f,f∈fs->okP f.1 f.2 c)->-(1000000000000*(fs.length:Int))<=cfS c fs∧cfS c fs<=1000000000000*(fs.length:Int)
 | [],_=>by simp[cfS]
 | f::r,h=>by
  have h1:=wI (h f List.mem_cons_self)
  have h2:=qJ (fs:=r) λg hg=>h g (List.mem_cons_of_mem _ hg)
  rw[cfS,List.length_cons]
  omega
def cfU (c:List Int) (n:Nat) (fs:List (Int×Int)):Int:=cfS c (fs.take n)-cfS c (fs.drop n)
theorem aGo {c:List Int}{n:Nat}{a:List (Int×Int)}{x:Int×Int} (h:a.length<n):cfU c n (a++[x])=cfU c n a+(aL x.1 x.2 c).1:=by
 have h1:(a++[x]).take n=a++[x]:=List.take_of_length_le (by simp;omega)
 have h2:(a++[x]).drop n=[]:=List.drop_of_length_le (by simp;omega)
 have h3:a.take n=a:=List.take_of_length_le (by omega)
 have h4:a.drop n=[]:=List.drop_of_length_le (by omega)
 unfold cfU
 rw[h1,h2,h3,h4,wQ]
 simp only[cfS];omega
theorem aGq {c:List Int}{n:Nat}{a:List (Int×Int)}{x:Int×Int} (h:n<=a.length):cfU c n (a++[x])=cfU c n a-(aL x.1 x.2 c).1:=by
 unfold cfU
 rw[List.take_append_of_le_length h,List.drop_append_of_le_length h,wQ]
 simp only[cfS];omega
theorem aGp {c:List Int}{n:Nat}{fs:List (Int×Int)} (h:∀f,f∈fs->okP f.1 f.2 c):-(1000000000000*(fs.length:Int))<=cfU c n fs∧cfU c n fs<=1000000000000*(fs.length:Int):=by
 have h1:=qJ (fs:=fs.take n) λf hf=>h f (List.mem_of_mem_take hf)
 have h2:=qJ (fs:=fs.drop n) λf hf=>h f (List.mem_of_mem_drop hf)
 have e:((fs.take n).length:Int)+((fs.drop n).length:Int)=fs.length:=by
  have:=congrArg List.length (List.take_append_drop n fs)
  rw[List.length_append] at this
  omega
 unfold cfU
 omega
theorem aFm (c:List Int) (p m:List (Int×Int)):cfU c p.length (p++m)=cfS c p-cfS c m:=by
 unfold cfU
 rw[List.take_left,List.drop_left]
def cfK (c:List Int) (p m:List (Int×Int)):Bool:=!decide (((p.length+m.length:Nat):Int)>6)&&(eY p c.length&&eY m c.length)
def cfT (c:List Int) (p m:List (Int×Int)):Int×Int:=
 if aT c then(if cfK c p m then(if cfB c p&&cfB c m then(cfS c p-cfS c m,0) else(0,8)) else(0,2)) else(0,1)
theorem aEw {c:List Int}{p m:List (Int×Int)} (hd:aT c=true) (hk:cfK c p m=true):p.length+m.length<=6∧(∀f,f∈p->okP f.1 f.2 c)∧∀f,f∈m->okP f.1 f.2 c:=by
 simp only[cfK,Bool.and_eq_true,Bool.not_eq_true',decide_eq_false_iff_not,eY,List.all_eq_true] at hk
 exact⟨by omega,λf hf=>kH hd (hk.2.1 f hf),λf hf=>kH hd (hk.2.2 f hf)⟩
theorem aEx {c:List Int}{p m:List (Int×Int)} (h:(cfT c p m).2=0):cfT c m p=(-(cfT c p m).1,0):=by
 unfold cfT at h⊢
 cases hd:aT c
 .rw[hd] at h;simp at h
 .rw[hd] at h
  have hs:cfK c m p=cfK c p m:=by unfold cfK;rw[Nat.add_comm,Bool.and_comm (eY m _)]
  cases hk:cfK c p m
  .rw[hk] at h;simp at h
  .rw[hk] at h
   rw[hs,hk]
   cases hb:cfB c p<;>cases hb2:cfB c m<;>simp[hb,hb2] at h⊢
   omega
theorem aFI {c:List Int}{p m:List (Int×Int)} (hd:aT c=false):cfT c p m=(0,1):=by simp[cfT,hd]
theorem zI {c:List Int}{p m:List (Int×Int)} (hd:aT c=true) (hk:cfK c p m=false):cfT c p m=(0,2):=by simp[cfT,hd,hk]
theorem aEy {c:List Int}{p m:List (Int×Int)} (hd:aT c=true) (hk:cfK c p m=true) (h:(cfB c p&&cfB c m)=false):cfT c p m=(0,8):=by simp[cfT,hd,hk,h]
theorem aFJ {c:List Int}{p m:List (Int×Int)} (hd:aT c=true) (hk:cfK c p m=true) (h:(cfB c p&&cfB c m)=true):cfT c p m=(cfS c p-cfS c m,0):=by simp[cfT,hd,hk,h]
theorem wT (c:List Int) (hc:c.length<=1048576) (p m:List (Int×Int)) (hp:p.length<=1000) (hm:m.length<=1000):Fz F.kF [.agg (cC c),.sl 2 (E cPf p),.sl 2 (E cPf m)] (.tup [.v (.int .i64 (cfT c p m).1),.v (.int .i64 (cfT c p m).2)]):=by
 have hw6:IntKind.i64.wrap ((p.length:Int)+(m.length:Int))=((p.length+m.length:Nat):Int):=by rw[aG (by omega) (by omega)];omega
 have hlp:(E cPf p).length=p.length:=aJ _
 have hlm:(E cPf m).length=m.length:=aJ _
 cases hd:aT c
 .have hT:=aFI (p:=p) (m:=m) hd
  rw[hT]
  refine fn0 Cd.s_CrossFoot_k λX=>?_
  simp -dsimp only[go_sem,cC,cPf,hd,hw6]
  repeat' first|simp -dsimp only[go_sem,cC,cPf,hw6,hlp,hlm,hd]|apply Br.mk<;>intro h<;>try simp -dsimp only[h]|refine aB.c (by first|exact pY c hc|exact aN p (c.length:Int) (by omega)|exact aN m (c.length:Int) (by omega)) ?_|refine aC ?_|refine aC9 ?_|fail
  all_goals first|omega|(simp[hT];done)|exact⟨_,_,rfl,rfl⟩
 .cases h6:decide (((p.length+m.length:Nat):Int)>6)
  rotate_left
  .have hT:=zI (m:=m) hd (p:=p) (by simp only[cfK,h6,Bool.not_true,Bool.false_and])
   rw[hT]
   refine fn0 Cd.s_CrossFoot_k λX=>?_
   simp -dsimp only[go_sem,cC,cPf,hd,hw6]
   repeat' first|simp -dsimp only[go_sem,cC,cPf,hw6,hlp,hlm,hd,h6]|apply Br.mk<;>intro h<;>try simp -dsimp only[h]|refine aB.c (by first|exact pY c hc|exact aN p (c.length:Int) (by omega)|exact aN m (c.length:Int) (by omega)) ?_|refine aC ?_|refine aC9 ?_|fail
   all_goals first|omega|(simp[hT];done)|exact⟨_,_,rfl,rfl⟩
  .cases h1:eY p c.length
   .have hT:=zI (m:=m) hd (p:=p) (by simp only[cfK,h1,Bool.false_and,Bool.and_false])
    rw[hT]
    refine fn0 Cd.s_CrossFoot_k λX=>?_
    simp -dsimp only[go_sem,cC,cPf,hd,hw6]
    repeat' first|simp -dsimp only[go_sem,cC,cPf,hw6,hlp,hlm,hd,h6,h1]|apply Br.mk<;>intro h<;>try simp -dsimp only[h]|refine aB.c (by first|exact pY c hc|exact aN p (c.length:Int) (by omega)|exact aN m (c.length:Int) (by omega)) ?_|refine aC ?_|refine aC9 ?_|fail
    all_goals first|omega|(simp[hT];done)|exact⟨_,_,rfl,rfl⟩
   .cases h2:eY m c.length
    .have hT:=zI (m:=m) hd (p:=p) (by simp only[cfK,h2,Bool.and_false])
     rw[hT]
     refine fn0 Cd.s_CrossFoot_k λX=>?_
     simp -dsimp only[go_sem,cC,cPf,hd,hw6]
     repeat' first|simp -dsimp only[go_sem,cC,cPf,hw6,hlp,hlm,hd,h6,h1,h2]|apply Br.mk<;>intro h<;>try simp -dsimp only[h]|refine aB.c (by first|exact pY c hc|exact aN p (c.length:Int) (by omega)|exact aN m (c.length:Int) (by omega)) ?_|refine aC ?_|refine aC9 ?_|fail
     all_goals first|omega|(simp[hT];done)|exact⟨_,_,rfl,rfl⟩
    .have hk:cfK c p m=true:=by simp only[cfK,h6,h1,h2,Bool.not_false,Bool.and_true]
     obtain⟨hn6,hpo,hmo⟩:=aEw hd hk
     refine fn0 Cd.s_CrossFoot_k λX=>?_
     simp -dsimp only[go_sem,cC,cPf,hd,hw6]
     repeat' first|simp -dsimp only[go_sem,cC,cPf,hw6,hlp,hlm,hd,h6,h1,h2]|apply Br.mk<;>intro h<;>try simp -dsimp only[h]|refine aB.c (by first|exact pY c hc|exact aN p (c.length:Int) (by omega)|exact aN m (c.length:Int) (by omega)) ?_|refine aC ?_|refine aC9 ?_|fail
     refine bA.at dM (X:={zz:Nat×(Int×Bool) // zz.1<=p.length∧((p.take zz.1).all (λf:Int×Int=>(aL f.1 f.2 c).2)=true∧zz.2.1=cfS c (p.take zz.1))}) (λzz=>[(9,.v (.int .i64 zz.1.1)),(8,.v (.int .i64 zz.1.2.1))]) (λzz=>[(.t 3 0,.var [.sl 1 (E cI c)] zz.1.2.2)]) (λzz=>p.length-zz.1.1) ⟨(0,(0,false)),by omega,⟨by simp,by simp[cfS]⟩⟩ ?_ ?_
     .exact le0
     .rintro⟨⟨i,a,fl⟩,hi,hg⟩
      dsimp only at hi hg
      simp -dsimp only[go_sem,cC,cPf,hlp,hlm]
      refine Br.mk (λhc=>?_) λhc=>?_
      .have hlt:i<p.length:=Dq
       have hw:=aQ hlt (by omega)
       have hok:=hpo p[i] (List.getElem_mem hlt)
       have hm2:(E cPf p).getD i []=[.v (.int .i64 p[i].1),.v (.int .i64 p[i].2)]:=bI hlt
       have hle:=wI hok
       obtain⟨hg1,hg2⟩:=hg
       have hb0:=qJ (fs:=p.take i) λf hf=>hpo f (List.mem_of_mem_take hf)
       have hti:(p.take i).length=i:=by simp;omega
       rw[hti] at hb0
       have PC:=aBY hok
       have NC:=oN hok
       cases hb:(aL p[i].1 p[i].2 c).2
       .have hB:cfB c p=false:=jY (p:=(λf:Int×Int=>(aL f.1 f.2 c).2)) hlt hb
        have hT:=aEy hd hk (by rw[hB];simp)
        repeat' first|simp -dsimp only[go_sem,hm2,hw,hb,hlp,hlm,cC,cPf]|apply Br.mk<;>intro h<;>try simp -dsimp only[h]|refine aB.c (by first|exact PC|exact NC) ?_|refine aC ?_|refine aC9 ?_|fail
        all_goals first|omega|(simp[hT];done)
       .have hsum:cfS c (p.take (i+1))=cfS c (p.take i)+(aL p[i].1 p[i].2 c).1:=by rw[dP hlt,wQ];simp only[cfS];omega
        have hws:IntKind.i64.wrap (a+(aL p[i].1 p[i].2 c).1)=a+(aL p[i].1 p[i].2 c).1:=aG (by omega) (by omega)
        repeat' first|simp -dsimp only[go_sem,hm2,hw,hb,hws,hlp,hlm,cC,cPf]|apply Br.mk<;>intro h<;>try simp -dsimp only[h]|refine aB.c (by first|exact PC|exact NC) ?_|refine aC ?_|refine aC9 ?_|fail
        all_goals first|omega|(exact nx (i+1,(a+(aL p[i].1 p[i].2 c).1,true)) (⟨bP (p:=(λf:Int×Int=>(aL f.1 f.2 c).2)) hlt hg1 hb,by dsimp only;rw[hsum];omega⟩))
      .have hge:i=p.length:=by
        have:¬i<p.length:=Dq
        omega
       subst hge
       simp -dsimp only[go_sem,cC,cPf,hlp,hlm]
       obtain⟨hB1,hg2⟩:=hg
       rw[List.take_length] at hB1 hg2
       subst hg2
       have hbp:=qJ hpo
       refine And.intro ?_ (λh=>absurd rfl h)
       refine bA.at dM (X:={zz:Nat×(Int×Bool) // zz.1<=m.length∧((m.take zz.1).all (λf:Int×Int=>(aL f.1 f.2 c).2)=true∧zz.2.1=cfS c p-cfS c (m.take zz.1))}) (λzz=>[(12,.v (.int .i64 zz.1.1)),(8,.v (.int .i64 zz.1.2.1))]) (λzz=>[(.t 3 0,.var [.sl 1 (E cI c)] zz.1.2.2)]) (λzz=>m.length-zz.1.1) ⟨(0,(cfS c p,fl)),by omega,⟨by simp,by simp[cfS]⟩⟩ ?_ ?_
       .exact le0
       .rintro⟨⟨i,a,fl⟩,hi,hg⟩
        dsimp only at hi hg
        simp -dsimp only[go_sem,cC,cPf,hlp,hlm]
        refine Br.mk (λhc=>?_) λhc=>?_
        .have hlt:i<m.length:=Dq
         have hw:=aQ hlt (by omega)
         have hok:=hmo m[i] (List.getElem_mem hlt)
         have hm2:(E cPf m).getD i []=[.v (.int .i64 m[i].1),.v (.int .i64 m[i].2)]:=bI hlt
         have hle:=wI hok
         obtain⟨hg1,hg2⟩:=hg
         have hb0:=qJ (fs:=m.take i) λf hf=>hmo f (List.mem_of_mem_take hf)
         have hti:(m.take i).length=i:=by simp;omega
         rw[hti] at hb0
         have PC:=aBY hok
         have NC:=oN hok
         cases hb:(aL m[i].1 m[i].2 c).2
         .have hB:cfB c m=false:=jY (p:=(λf:Int×Int=>(aL f.1 f.2 c).2)) hlt hb
          have hT:=aEy hd hk (by rw[hB];simp)
          repeat' first|simp -dsimp only[go_sem,hm2,hw,hb,hlp,hlm,cC,cPf]|apply Br.mk<;>intro h<;>try simp -dsimp only[h]|refine aB.c (by first|exact PC|exact NC) ?_|refine aC ?_|refine aC9 ?_|fail
          all_goals first|omega|(simp[hT];done)
         .have hsum:cfS c (m.take (i+1))=cfS c (m.take i)+(aL m[i].1 m[i].2 c).1:=by rw[dP hlt,wQ];simp only[cfS];omega
          have hws:IntKind.i64.wrap (a-(aL m[i].1 m[i].2 c).1)=a-(aL m[i].1 m[i].2 c).1:=aG (by omega) (by omega)
          repeat' first|simp -dsimp only[go_sem,hm2,hw,hb,hws,hlp,hlm,cC,cPf]|apply Br.mk<;>intro h<;>try simp -dsimp only[h]|refine aB.c (by first|exact PC|exact NC) ?_|refine aC ?_|refine aC9 ?_|fail
          all_goals first|omega|(exact nx (i+1,(a-(aL m[i].1 m[i].2 c).1,true)) (⟨bP (p:=(λf:Int×Int=>(aL f.1 f.2 c).2)) hlt hg1 hb,by dsimp only;rw[hsum];omega⟩))
        .have hge:i=m.length:=by
          have:¬i<m.length:=Dq
          omega
         subst hge
         simp -dsimp only[go_sem,cC,cPf,hlp,hlm]
         obtain⟨hg1,hg2⟩:=hg
         rw[List.take_length] at hg1 hg2
         have hT:=aFJ hd hk (by rw[show cfB c p=true from hB1,show cfB c m=true from hg1];rfl)
         rw[hT]
         all_goals first|(refine And.intro ?_ (λh=>absurd rfl h);rw[hg2];exact⟨_,_,rfl,rfl⟩)|(rw[hg2];exact⟨_,_,rfl,rfl⟩)|(simp[hg2];done)
def aFQ:Prop:=∀(p m:List (Int×Int)),p.length<=1000->m.length<=1000->Fz F.fI [.sl 1 [[.sl 2 (E cPf p)],[.sl 2 (E cPf m)]]] (.sl 2 (E cPf (p++m)))
theorem qB (HC:aFQ) (c:List Int) (hc:c.length<=1048576) (p m:List (Int×Int)) (hp:p.length<=1000) (hm:m.length<=1000):Fz F.gJ [.agg (cC c),.sl 2 (E cPf p),.sl 2 (E cPf m)] (.tup [.v (.int .i64 (cfT c p m).1),.v (.int .i64 (cfT c p m).2)]):=by
 have CT:=HC p m hp hm
 have hw6:IntKind.i64.wrap ((p.length:Int)+(m.length:Int))=((p.length+m.length:Nat):Int):=by rw[aG (by omega) (by omega)];omega
 have hlp:(E cPf p).length=p.length:=aJ _
 have hlm:(E cPf m).length=m.length:=aJ _
 have hpm:(p++m).length<=1048576:=by rw[List.length_append];omega
 have CD:=bQ 1 (c.length:Int) (p++m) hpm
 have hap:eY (p++m) (c.length:Int)=(eY p c.length&&eY m c.length):=by simp[eY]
 rw[hap,show inB 1 1 4=true from rfl,Bool.true_and] at CD
 cases hd:aT c
 .have hT:=aFI (p:=p) (m:=m) hd
  rw[hT]
  refine fn0 Cd.i_CrossFoot_k λX=>?_
  simp -dsimp only[go_sem,cC,cPf,hd,hw6]
  repeat' first|simp -dsimp only[go_sem,cC,cPf,hw6,hlp,hlm,hd]|apply Br.mk<;>intro h<;>try simp -dsimp only[h]|refine aB.c (by first|exact dV c hc|exact eB c|exact CT|exact CD) ?_|refine aC ?_|refine aC9 ?_|fail
  all_goals first|omega|(simp[hT];done)|exact⟨_,_,rfl,rfl⟩
 .cases h6:decide (((p.length+m.length:Nat):Int)>6)
  rotate_left
  .have hT:=zI (m:=m) hd (p:=p) (by simp only[cfK,h6,Bool.not_true,Bool.false_and])
   rw[hT]
   refine fn0 Cd.i_CrossFoot_k λX=>?_
   simp -dsimp only[go_sem,cC,cPf,hd,hw6]
   repeat' first|simp -dsimp only[go_sem,cC,cPf,hw6,hlp,hlm,hd,h6]|apply Br.mk<;>intro h<;>try simp -dsimp only[h]|refine aB.c (by first|exact dV c hc|exact eB c|exact CT|exact CD) ?_|refine aC ?_|refine aC9 ?_|fail
   all_goals first|omega|(simp[hT];done)|exact⟨_,_,rfl,rfl⟩
  .cases h1:eY p c.length
   .have hT:=zI (m:=m) hd (p:=p) (by simp only[cfK,h1,Bool.false_and,Bool.and_false])
    rw[hT]
    rw[h1,Bool.false_and,if_neg (by decide)] at CD
    refine fn0 Cd.i_CrossFoot_k λX=>?_
    simp -dsimp only[go_sem,cC,cPf,hd,hw6]
    repeat' first|simp -dsimp only[go_sem,cC,cPf,hw6,hlp,hlm,hd,h6,h1]|apply Br.mk<;>intro h<;>try simp -dsimp only[h]|refine aB.c (by first|exact dV c hc|exact eB c|exact CT|exact CD) ?_|refine aC ?_|refine aC9 ?_|fail
    all_goals first|omega|(simp[hT];done)|exact⟨_,_,rfl,rfl⟩
   .cases h2:eY m c.length
    .have hT:=zI (m:=m) hd (p:=p) (by simp only[cfK,h2,Bool.and_false])
     rw[hT]
     rw[h1,h2,Bool.true_and,if_neg (by decide)] at CD
     refine fn0 Cd.i_CrossFoot_k λX=>?_
     simp -dsimp only[go_sem,cC,cPf,hd,hw6]
     repeat' first|simp -dsimp only[go_sem,cC,cPf,hw6,hlp,hlm,hd,h6,h1,h2]|apply Br.mk<;>intro h<;>try simp -dsimp only[h]|refine aB.c (by first|exact dV c hc|exact eB c|exact CT|exact CD) ?_|refine aC ?_|refine aC9 ?_|fail
     all_goals first|omega|(simp[hT];done)|exact⟨_,_,rfl,rfl⟩
    .have hk:cfK c p m=true:=by simp only[cfK,h6,h1,h2,Bool.not_false,Bool.and_true]
     obtain⟨hn6,hpo,hmo⟩:=aEw hd hk
     rw[h1,h2,Bool.true_and,if_pos rfl] at CD
     refine fn0 Cd.i_CrossFoot_k λX=>?_
     simp -dsimp only[go_sem,cC,cPf,hd,hw6]
     repeat' first|simp -dsimp only[go_sem,cC,cPf,hw6,hlp,hlm,hd,h6,h1,h2]|apply Br.mk<;>intro h<;>try simp -dsimp only[h]|refine aB.c (by first|exact dV c hc|exact eB c|exact CT|exact CD) ?_|refine aC ?_|refine aC9 ?_|fail
     have hLo:∀f,f∈p++m->okP f.1 f.2 c:=λf hf=>(List.mem_append.1 hf).elim (hpo f) (hmo f)
     have hlL:(E cPf (p++m)).length=(p++m).length:=aJ _
     have hLn:(p++m).length<=6:=by rw[List.length_append];exact hn6
     generalize hL:p++m=L at *
     refine bA.at dM (X:={zz:Nat×(Int) // zz.1<=L.length∧((L.take zz.1).all (λf:Int×Int=>(aL f.1 f.2 c).2)=true∧zz.2=cfU c p.length (L.take zz.1))}) (λzz=>[(37,.v (.int .i64 zz.1.1)),(8,.v (.int .i64 zz.1.2))]) (λzz=>[]) (λzz=>L.length-zz.1.1) ⟨(0,0),by omega,⟨by simp,by simp[cfU,cfS]⟩⟩ ?_ ?_
     .exact le0
     .rintro⟨⟨i,a⟩,hi,hg⟩
      dsimp only at hi hg
      simp -dsimp only[go_sem,cC,cPf,hlp,hlm,hlL]
      refine Br.mk (λhc=>?_) λhc=>?_
      .have hlt:i<L.length:=Dq
       have hw:=aQ hlt (by omega)
       have hlt2:i<p.length+m.length:=by rw[←hL,List.length_append] at hlt;exact hlt
       have hok:=hLo L[i] (List.getElem_mem hlt)
       have hm2:(E cPf L).getD i []=[.v (.int .i64 L[i].1),.v (.int .i64 L[i].2)]:=bI hlt
       have hle:=wI hok
       obtain⟨hg1,hg2⟩:=hg
       have hti:(L.take i).length=i:=by simp;omega
       have hb0:=aGp (n:=p.length) (fs:=L.take i) λf hf=>hLo f (List.mem_of_mem_take hf)
       rw[hti,←hg2] at hb0
       have NC:=qW hok
       cases hb:(aL L[i].1 L[i].2 c).2
       .have hB:cfB c (p++m)=false:=by rw[hL];exact jY (p:=(λf:Int×Int=>(aL f.1 f.2 c).2)) hlt hb
        have hT:=aEy (p:=p) (m:=m) hd hk (by rw[←hB];simp[cfB])
        repeat' first|simp -dsimp only[go_sem,hm2,hw,hb,hlp,hlm,hlL,cC,cPf]|apply Br.mk<;>intro h<;>try simp -dsimp only[h]|refine aB.c (by first|exact NC) ?_|refine aC ?_|refine aC9 ?_|fail
        all_goals first|omega|(simp[hT];done)
       .by_cases hip:i<p.length
        .have eip:decide ((i:Int)≥(p.length:Int))=false:=decide_eq_false (by omega)
         have hsum:cfU c p.length (L.take (i+1))=cfU c p.length (L.take i)+(aL L[i].1 L[i].2 c).1:=by rw[dP hlt,aGo (by omega)]
         have hws:IntKind.i64.wrap (a+(aL L[i].1 L[i].2 c).1)=a+(aL L[i].1 L[i].2 c).1:=aG (by omega) (by omega)
         repeat' first|simp -dsimp only[go_sem,hm2,hw,hb,hws,eip,hlp,hlm,hlL,cC,cPf]|apply Br.mk<;>intro h<;>try simp -dsimp only[h]|refine aB.c (by first|exact NC) ?_|refine aC ?_|refine aC9 ?_|fail
         all_goals first|omega|(exact nx (i+1,a+(aL L[i].1 L[i].2 c).1) (⟨bP (p:=(λf:Int×Int=>(aL f.1 f.2 c).2)) hlt hg1 hb,by dsimp only;rw[hsum];omega⟩))
        .have eip:decide ((i:Int)≥(p.length:Int))=true:=decide_eq_true (by omega)
         have hsum:cfU c p.length (L.take (i+1))=cfU c p.length (L.take i)-(aL L[i].1 L[i].2 c).1:=by rw[dP hlt,aGq (by omega)]
         have hwn:IntKind.i64.wrap (-(aL L[i].1 L[i].2 c).1)=-(aL L[i].1 L[i].2 c).1:=aG (by omega) (by omega)
         have hwn2:IntKind.i64.wrap (0-(aL L[i].1 L[i].2 c).1)=-(aL L[i].1 L[i].2 c).1:=by rw[aG (by omega) (by omega)];omega
         have hws:IntKind.i64.wrap (a + -(aL L[i].1 L[i].2 c).1)=a-(aL L[i].1 L[i].2 c).1:=by rw[aG (by omega) (by omega)];omega
         repeat' first|simp -dsimp only[go_sem,hm2,hw,hb,hws,hwn,hwn2,eip,hlp,hlm,hlL,cC,cPf]|apply Br.mk<;>intro h<;>try simp -dsimp only[h]|refine aB.c (by first|exact NC) ?_|refine aC ?_|refine aC9 ?_|fail
         all_goals first|omega|(exact nx (i+1,a-(aL L[i].1 L[i].2 c).1) (⟨bP (p:=(λf:Int×Int=>(aL f.1 f.2 c).2)) hlt hg1 hb,by dsimp only;rw[hsum];omega⟩))
      .have hge:i=L.length:=by
        have:¬i<L.length:=Dq
        omega
       subst hge
       simp -dsimp only[go_sem,cC,cPf,hlp,hlm,hlL]
       obtain⟨hg1,hg2⟩:=hg
       rw[List.take_length,←hL] at hg1
       rw[List.take_length,←hL,aFm] at hg2
       have hT:=aFJ (p:=p) (m:=m) hd hk (by rw[List.all_append] at hg1;exact hg1)
       rw[hT]
       all_goals first|(refine And.intro ?_ (λh=>absurd rfl h);rw[hg2];exact⟨_,_,rfl,rfl⟩)|(rw[hg2];exact⟨_,_,rfl,rfl⟩)|(simp[hg2];done)
theorem aFi {fr to:Int}{c:List Int} (h:okP fr to c):sG fr to c.length=true:=by
 obtain⟨h1,h2,h3,_⟩:=h
 simp[sG,h1,h2,h3]
theorem aCW (c:List Int) (hc:c.length<=1048576) (p:Int×Int) (hd:aT c=true) (hk:okP p.1 p.2 c):Fz F.kK [.agg (cC c),.agg (cPf p)] (.v (.int .i64 0)):=by
 have hf:=aFi hk
 refine fn0 Cd.i_fieldCode_k λX=>?_
 simp -dsimp only[go_sem,cC,cPf]
 repeat' first|simp -dsimp only[go_sem,cC,cPf,hd,hf]|apply Br.mk<;>intro h<;>try simp -dsimp only[h]|refine aB.c (by first|exact dV c hc|exact eB c|exact aCg p.1 p.2 (c.length:Int)) ?_|refine aC ?_|refine aC9 ?_|fail
 all_goals first|exact⟨_,_,rfl,rfl⟩|(simp;done)
theorem mK (c:List Int) (hc:c.length<=1048576) (p:Int×Int) (hd:aT c=true) (hk:okP p.1 p.2 c) (hn:(aL p.1 p.2 c).2=true):Fz F.bD [.agg (cC c),.agg (cPf p)] (.tup [.v (.int .i64 (aL p.1 p.2 c).1),.v (.int .i64 0)]):=by
 have FC:=aCW c hc p hd hk
 have NC:=qW hk
 obtain⟨h1,h2,h3,h4,h5,_⟩:=hk
 have hw:IntKind.i64.wrap (p.2-p.1)=p.2-p.1:=aG (by omega) (by omega)
 have e12:decide (p.2-p.1>12)=false:=decide_eq_false (by omega)
 refine fn0 Cd.i_NumberIn_k λX=>?_
 simp -dsimp only[go_sem,cC,cPf]
 repeat' first|simp -dsimp only[go_sem,cC,cPf,hw,e12,hn]|apply Br.mk<;>intro h<;>try simp -dsimp only[h]|refine aB.c (by first|exact FC|exact NC) ?_|refine aC ?_|refine aC9 ?_|fail
 all_goals first|exact⟨_,_,rfl,rfl⟩|(simp;done)
end Go.Proofs.YtfoddghhlagenaaGreatDoor
