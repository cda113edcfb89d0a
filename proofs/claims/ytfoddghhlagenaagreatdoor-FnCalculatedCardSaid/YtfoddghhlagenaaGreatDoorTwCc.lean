/- CalculateDeck, as the program does it, in memory of its own. -/
import Derived.Test.YtfoddghhlagenaaGreatDoorVsD
import Derived.Test.YtfoddghhlagenaaGreatDoorTwCd
import Derived.Test.YtfoddghhlagenaaGreatDoorVuX
set_option linter.all false
set_option maxHeartbeats 8000000
namespace Go.Proofs.YtfoddghhlagenaaGreatDoor
open Go.Vs
variable [Vs.Tab 0 Vs.powP]
attribute [local irreducible] Vs.Fn cdH cdC
abbrev Sl:=Option Addr×Nat×Nat
def slW (x:Sl):Value:=.slice x.1 x.2.1 x.2.2
def sV (x:Sl):List AV:=[.v (.slice x.1 x.2.1 x.2.2)]
theorem sU {V:List Sl}:∀r,r∈E sV V->Vs.iD r=true:=λr hr=>by
 obtain⟨x,_,rfl⟩:=List.mem_map.1 hr
 rfl
theorem aFq {l:List Int}:∀r,r∈E cI l->Vs.iD r=true:=λr hr=>by
 obtain⟨x,_,rfl⟩:=List.mem_map.1 hr
 rfl
theorem aFU (V:List Sl):(V.map slW).map (λs=>[AV.v s])=E sV V:=by rw[List.map_map];rfl
theorem aFV (V:List Sl) (x:Sl):E sV V++[[.v (.slice x.1 x.2.1 x.2.2)]]=E sV (V++[x]):=by rw[bR];rfl
theorem At.naming {P:Program}{nt:Nat}{dr:Nat->Array Oper->Option (List Nat)}{n:Nat}{x:aD}{Q:Exit->Act->World->Prop}{a:Act}{w:World} (h:At P nt dr x Q a w):At P nt dr (.naming n x) Q a w:=h
theorem aFf {S:Nat->Prop}{w:World} (hdom:∀b,S b->b<w.heap.size) (h:S 0∧Vs.powP w.heap[0]?):∀S' w',@Vs.Env (Vs.keepE S w) S' w'->S' 0∧Vs.powP w'.heap[0]?:=λS' w' he=>by
 have g:=he _ (Vs.aCS h.1 (hdom _ h.1))
 exact⟨g.1,by have e:w'.heap[0]? = w.heap[0]?:=g.2;rw[e];exact h.2⟩
attribute [local go_sem] Int.reduceBEq Int.reduceBNe cFd List.replicate_succ List.replicate_zero List.flatten_cons List.flatten_nil List.cons_append List.nil_append List.set_cons_zero List.set_cons_succ List.length_cons List.length_nil List.length_set aJ in
theorem aA8 (k:Int) (p q:Int×Int) (fr wd:Nat) (l:List (List Int)) (hs:∀x,x∈l->x.length<=1048576) (hl:l.length<=1048576) (hd:dO l=true) (hk1:inB k 1 4=true) (hk2:eY [p,q,((fr:Int),((fr+wd:Nat):Int))] (dW l)=true) (hok:∀c,c∈l->okP p.1 p.2 c∧okP q.1 q.2 c∧fr+wd<=c.length∧c.length<=20) (hw00:0<wd) (hw12:wd<=12) (hall:∀c,c∈l->cdC k p q fr wd c=0) {S:Nat->Prop}{w:World}{vs:Array Value} (hS:∀b,S b->b<w.heap.size) (he:Env S w) (hvs:vs.size=5) (hargs:∀j,j<5->RC S w (([.v (.int .i64 k),.sl 1 (E cC l),.agg (cPf p),.agg (cPf q),.agg (cPf ((fr:Int),((fr+wd:Nat):Int)))]:List AV).getD j .junk) (vs.getD j undef)):Calls Tryz.prog F.bE vs w (Vs.DkRes w ((l.map (cdH k p q fr wd)).map (E cI))):=by
 have hl3:[p,q,((fr:Int),((fr+wd:Nat):Int))].length<=1048576:=by simp
 have VD:=iP l hs hl
 have DC:=eQ l
 have CK:=bQ k (dW l) [p,q,((fr:Int),((fr+wd:Nat):Int))] hl3
 rw[hd] at VD
 simp only[hk1,hk2,Bool.and_true,if_true] at CK
 obtain⟨h1,h2,_⟩:=Cd.i_CalculateDeck_k.o
 obtain⟨body,hb,hc⟩:=Option.bind_eq_some_iff.1 h2
 have hz:(Tryz.f9.body.map (zB Tryz.f9.ntmps (bV Tryz.prog)))=some true:=by kernel_rfl
 rw[hb] at hz
 have hdr:=jH Tryz.mixed
 refine Vs.Pt.calls (dr:=bV Tryz.prog) (ac:=Cd.bE) h1 hb hc (by simpa using hz) (args:=[.v (.int .i64 k),.sl 1 (E cC l),.agg (cPf p),.agg (cPf q),.agg (cPf ((fr:Int),((fr+wd:Nat):Int)))]) (by rw[Cd.i_CalculateDeck_k.n];exact Nat.le_of_ble_eq_true rfl) hS he hvs hargs λC1 a hnt hw0 hS0 hp=>?_
 unfold Cd.bE
 refine hp.go dM hnt 4 _ (τ:=⟨[(0,.v (.int .i64 k)),(7,.ptr (.t 7 0) 0 0),(8,.ptr (.t 8 0) 0 0),(9,.ptr (.t 9 0) 0 0),(1,.sl 1 (E cC l)),(13,.loc (.t 13 0) 0 0)],[(.t 13 0,.arr 1 [] false),(.t 7 0,.var [.v (.int .i64 p.1),.v (.int .i64 p.2)] false),(.t 8 0,.var [.v (.int .i64 q.1),.v (.int .i64 q.2)] false),(.t 9 0,.var [.v (.int .i64 (fr:Nat)),.v (.int .i64 (fr+wd:Nat))] false)]⟩) (X:=True) (E:=λ_ _=>False) (λp hp=>by
       simp only[List.mem_cons,List.not_mem_nil,or_false] at hp
       rcases hp with rfl|rfl|rfl|rfl
       . exact⟨λr hr=>(by cases hr),rfl⟩
       . exact⟨rfl,rfl⟩
       . exact⟨rfl,rfl⟩
       . exact⟨rfl,rfl⟩) (λC hC=>?_) (λi σ h=>h) (λC a w hl hg=>hg.no.elim) λa1 w1 S1 p1 hp1 _=>?_
 .simp -dsimp only[go_sem,cC,cPf]
  repeat' first|simp -dsimp only[go_sem,cC,cPf]|apply Br.mk<;>intro h<;>try simp -dsimp only[h]|refine aB.c (by first|exact VD|exact DC|exact CK) ?_|refine aC ?_|refine aC9 ?_|fail
  all_goals first|(simp[Vs.LeL,Vs.look,Vs.aA];done)|exact⟨by simp[Vs.LeL,Vs.look,Vs.aA],trivial⟩|omega
 refine At.seq (?_)
 refine hp1.go dM hnt 1 _ (τ:=⟨[(0,.v (.int .i64 k)),(7,.ptr (.t 7 0) 0 0),(8,.ptr (.t 8 0) 0 0),(9,.ptr (.t 9 0) 0 0),(13,.loc (.t 13 0) 0 (([]:List Sl)).length),(33,.sl 1 (E cC l)),(34,.v (.int .i64 (l.length:Nat))),(35,.v (.int .i64 (0:Nat)))],[(.t 13 0,.arr 1 (E sV (([]:List Sl))) false),(.t 7 0,.var [.v (.int .i64 p.1),.v (.int .i64 p.2)] false),(.t 8 0,.var [.v (.int .i64 q.1),.v (.int .i64 q.2)] false),(.t 9 0,.var [.v (.int .i64 (fr:Nat)),.v (.int .i64 (fr+wd:Nat))] false)]⟩) (X:=True) (E:=λ_ _=>False) (λp hp=>by
       simp only[List.mem_cons,List.not_mem_nil,or_false] at hp
       rcases hp with rfl|rfl|rfl|rfl
       . exact⟨λr hr=>sU r hr,rfl⟩
       . exact⟨rfl,rfl⟩
       . exact⟨rfl,rfl⟩
       . exact⟨rfl,rfl⟩) (λC hC=>?_) (λi σ h=>h) (λC a w hl hg=>hg.no.elim) λa2 w2 S2 p2 hp2 _=>?_
 .simp -dsimp only[go_sem,E,List.map_nil,cC,cPf]
  repeat' first|simp -dsimp only[go_sem,E,List.map_nil,cC,cPf]|apply Br.mk<;>intro h<;>try simp -dsimp only[h]|refine aC ?_|refine aC9 ?_|fail
  all_goals first|(simp[Vs.LeL,Vs.look,Vs.aA];done)|exact⟨by simp[Vs.LeL,Vs.look,Vs.aA],trivial⟩|omega
 let IV:Nat->Act->World->Prop:=λnn a' w'=>∃(i:Nat) (V:List Sl) (S':Nat->Prop) (I':Vs.Envs) (xs:Nat->Option Nat) (cs:Nat->Nat),nn=l.length-i∧i<=l.length∧V.length=i∧(∀S w,@Vs.Env I' S w->S 0∧Vs.powP w.heap[0]?)∧Vs.Pt I' C1 (⟨[(0,.v (.int .i64 k)),(7,.ptr (.t 7 0) 0 0),(8,.ptr (.t 8 0) 0 0),(9,.ptr (.t 9 0) 0 0),(13,.loc (.t 13 0) 0 (V).length),(33,.sl 1 (E cC l)),(34,.v (.int .i64 (l.length:Nat))),(35,.v (.int .i64 (i:Nat)))],[(.t 13 0,.arr 1 (E sV (V)) false),(.t 7 0,.var [.v (.int .i64 p.1),.v (.int .i64 p.2)] false),(.t 8 0,.var [.v (.int .i64 q.1),.v (.int .i64 q.2)] false),(.t 9 0,.var [.v (.int .i64 (fr:Nat)),.v (.int .i64 (fr+wd:Nat))] false)]⟩:St) a' w' S'∧Vs.sI (λ_=>False) w' 1 ((l.take i).map λc=>E cI (cdH k p q fr wd c)) (V.map slW) xs cs∧∀j b,j<V.length->xs j=some b->S' b∧C1.w0.heap.size<=b
 refine At.block (At.loop IV (λnn a1 w1 hI=>?_) (n:=l.length) ⟨0,[],S2,_,λ_=>none,λ_=>0,by omega,by omega,rfl,λS w he=>Vs.Tab.has S w he,hp2,⟨rfl,by simp,by simp⟩,by simp⟩)
 obtain⟨i,V,S1,I1,xs,cs,hn,hi,hVl,hT,hp1,hown,hxS⟩:=hI
 refine hp1.go dM hnt 1 _ (τ:=⟨[(36,.v (.bool (decide ((i:Nat)<(l.length:Nat))))),(0,.v (.int .i64 k)),(7,.ptr (.t 7 0) 0 0),(8,.ptr (.t 8 0) 0 0),(9,.ptr (.t 9 0) 0 0),(13,.loc (.t 13 0) 0 (V).length),(33,.sl 1 (E cC l)),(34,.v (.int .i64 (l.length:Nat))),(35,.v (.int .i64 (i:Nat)))],[(.t 13 0,.arr 1 (E sV (V)) false),(.t 7 0,.var [.v (.int .i64 p.1),.v (.int .i64 p.2)] false),(.t 8 0,.var [.v (.int .i64 q.1),.v (.int .i64 q.2)] false),(.t 9 0,.var [.v (.int .i64 (fr:Nat)),.v (.int .i64 (fr+wd:Nat))] false)]⟩) (X:=True) (E:=λ_ _=>False) (λp hp=>by
       simp only[List.mem_cons,List.not_mem_nil,or_false] at hp
       rcases hp with rfl|rfl|rfl|rfl
       . exact⟨λr hr=>sU r hr,rfl⟩
       . exact⟨rfl,rfl⟩
       . exact⟨rfl,rfl⟩
       . exact⟨rfl,rfl⟩) (λC hC=>?_) (λi σ h=>h) (λC a w hl hg=>hg.no.elim) λa2 w2 S2 p2 hp2 _=>?_
 .simp -dsimp only[go_sem,cC,cPf]
  repeat' first|simp -dsimp only[go_sem,cC,cPf]|apply Br.mk<;>intro h<;>try simp -dsimp only[h]|refine aC ?_|refine aC9 ?_|fail
  all_goals first|(simp[Vs.LeL,Vs.look,Vs.aA];done)|exact⟨by simp[Vs.LeL,Vs.look,Vs.aA],trivial⟩|omega
 refine At.seq (hp2.cond (b:=decide ((i:Nat)<(l.length:Nat))) rfl (λht=>At.skip ?_) (λhf=>At.exit ?_))
 .have hlt:i<l.length:=of_decide_eq_true ht
  have hm:(E cC l).getD i []=[.sl 1 (E cI l[i])]:=bI hlt
  have hw9:=aQ hlt (by omega)
  obtain⟨okp,okq,hf,hc20⟩:=hok l[i] (List.getElem_mem hlt)
  letI IT:Vs.Tab 0 Vs.powP:=@Vs.Tab.mk 0 Vs.powP I1 hT
  have CC:=aC8 k p q fr wd l[i] hk1 okp okq hf hw00 hw12 hc20 (hall _ (List.getElem_mem hlt))
  have hclen:(E cI (cdH k p q fr wd l[i])).length=l[i].length:=by rw[aJ];exact aCp hf
  refine At.seq (At.block ?_)
  refine hp2.go dM hnt 3 _ (τ:=⟨[(0,.v (.int .i64 k)),(7,.ptr (.t 7 0) 0 0),(8,.ptr (.t 8 0) 0 0),(9,.ptr (.t 9 0) 0 0),(13,.loc (.t 13 0) 0 V.length),(16,.ptr (.t 16 0) 0 0),(33,.sl 1 (E cC l)),(34,.v (.int .i64 (l.length:Nat))),(35,.v (.int .i64 (i:Nat)))],[(.t 16 0,.var [.loc (.t 45 0) 0 l[i].length] false),(.t 45 0,.arr 1 (E cI (cdH k p q fr wd l[i])) false),(.t 13 0,.arr 1 (E sV V) false),(.t 7 0,.var [.v (.int .i64 p.1),.v (.int .i64 p.2)] false),(.t 8 0,.var [.v (.int .i64 q.1),.v (.int .i64 q.2)] false),(.t 9 0,.var [.v (.int .i64 (fr:Nat)),.v (.int .i64 (fr+wd:Nat))] false)]⟩) (X:=True) (E:=λ_ _=>False) (λp hp=>by
        simp only[List.mem_cons,List.not_mem_nil,or_false] at hp
        rcases hp with rfl|rfl|rfl|rfl|rfl|rfl
        . exact⟨rfl,rfl⟩
        . exact⟨λr hr=>aFq r hr,rfl⟩
        . exact⟨λr hr=>sU r hr,rfl⟩
        . exact⟨rfl,rfl⟩
        . exact⟨rfl,rfl⟩
        . exact⟨rfl,rfl⟩) (λC hC=>?_) (λi σ h=>h) (λC a w hl hg=>hg.no.elim) λa3 w3 S3 p3 hp3 _=>?_
  .simp -dsimp only[go_sem,hm,cC,cPf]
   repeat' first|simp -dsimp only[go_sem,hm,cC,cPf]|apply Br.mk<;>intro h<;>try simp -dsimp only[h]|refine aC ?_|refine aC9 ?_|fail
   refine aB.own CC rfl ?_
   repeat' first|simp -dsimp only[go_sem,hm,cC,cPf]|apply Br.mk<;>intro h<;>try simp -dsimp only[h]|refine aC ?_|refine aC9 ?_|fail
   all_goals first|(simp[Vs.LeL,Vs.look,Vs.aA];done)|exact⟨by simp[Vs.LeL,Vs.look,Vs.aA],trivial⟩|omega
  refine At.naming (At.rg (hp3.rg hnt (pre:=[⟨some 51,.mv (.tmp 13),none⟩,⟨some 52,.load true 1 (.tmp 16),none⟩]) (post:=[⟨some 53,.bslice 1 1 [.v (.slice none 0 0)] [(0,(.tmp 52))],none⟩,⟨some 54,.append 1 24 (.tmp 51) (.tmp 53),none⟩,⟨some 13,.mv (.tmp 54),none⟩]) (τ:=⟨[(52,.agg [.loc (.t 45 0) 0 l[i].length]),(51,.loc (.t 13 0) 0 V.length),(0,.v (.int .i64 k)),(7,.ptr (.t 7 0) 0 0),(8,.ptr (.t 8 0) 0 0),(9,.ptr (.t 9 0) 0 0),(33,.sl 1 (E cC l)),(34,.v (.int .i64 (l.length:Nat))),(35,.v (.int .i64 (i:Nat)))],[(.t 45 0,.arr 1 (E cI (cdH k p q fr wd l[i])) false),(.t 13 0,.arr 1 (E sV V) false),(.t 7 0,.var [.v (.int .i64 p.1),.v (.int .i64 p.2)] false),(.t 8 0,.var [.v (.int .i64 q.1),.v (.int .i64 q.2)] false),(.t 9 0,.var [.v (.int .i64 (fr:Nat)),.v (.int .i64 (fr+wd:Nat))] false)]⟩) (λp hp=>by
      simp only[List.mem_cons,List.not_mem_nil,or_false] at hp
      rcases hp with rfl|rfl|rfl|rfl|rfl
      . exact⟨λr hr=>aFq r hr,rfl⟩
      . exact⟨λr hr=>sU r hr,rfl⟩
      . exact⟨rfl,rfl⟩
      . exact⟨rfl,rfl⟩
      . exact⟨rfl,rfl⟩) ?_ λa4 w4 S4 p4 hp4=>?_))
  .simp -dsimp only[go_sem,cC,cPf]
   first|(simp[Vs.LeL,Vs.look,Vs.aA];done)
  rw[←hclen] at hp4
  obtain ⟨s,x6,c6,⟨sb,sm,sc,rfl⟩,how6,hx6,hP6⟩:=hp4.bury (n:=.t 45 0) (k:=1) (rows:=E cI (cdH k p q fr wd l[i])) rfl aFq (t:=52) rfl (by
    simp only[Vs.dA]
    intro p hp
    simp[Vs.rR] at hp
    rcases hp with rfl|rfl|rfl|rfl
    . exact⟨λr hr=>sU r hr,rfl⟩
    . exact⟨rfl,rfl⟩
    . exact⟨rfl,rfl⟩
    . exact⟨rfl,rfl⟩)
  have hp6:=hP6 [(52,.agg [.v (.slice sb sm sc)]),(51,.loc (.t 13 0) 0 V.length),(0,.v (.int .i64 k)),(7,.ptr (.t 7 0) 0 0),(8,.ptr (.t 8 0) 0 0),(9,.ptr (.t 9 0) 0 0),(33,.sl 1 (E cC l)),(34,.v (.int .i64 (l.length:Nat))),(35,.v (.int .i64 (i:Nat)))] (λp hp=>by
      simp only[List.mem_cons,List.not_mem_nil,or_false] at hp
      rcases hp with rfl|rfl|rfl|rfl|rfl|rfl|rfl|rfl|rfl
      . exact .inr (.inr rfl)
      all_goals first|exact .inl ⟨rfl,rfl⟩|exact .inr (.inl ⟨rfl,rfl⟩))
  have hT6:=aFf (S:=λb=>S4 b∨x6=some b) (w:=w4) (λb hb=>hb.elim (hp4.dom b) λh=>(hx6 b h).2.1) (by
    have g:=hT _ _ hp4.env
    exact⟨.inl g.1,g.2⟩)
  letI I6:=Vs.keepE (λb=>S4 b∨x6=some b) w4
  have hap:=aFV V (sb,sm,sc)
  have hlv:(E sV V).length=V.length:=aJ _
  have hp6':=hp6.le (τ:=⟨[(52,.agg [.v (.slice sb sm sc)]),(51,.loc (.t 13 0) 0 V.length),(0,.v (.int .i64 k)),(7,.ptr (.t 7 0) 0 0),(8,.ptr (.t 8 0) 0 0),(9,.ptr (.t 9 0) 0 0),(33,.sl 1 (E cC l)),(34,.v (.int .i64 (l.length:Nat))),(35,.v (.int .i64 (i:Nat)))],[(.t 13 0,.arr 1 (E sV V) false),(.t 7 0,.var [.v (.int .i64 p.1),.v (.int .i64 p.2)] false),(.t 8 0,.var [.v (.int .i64 q.1),.v (.int .i64 q.2)] false),(.t 9 0,.var [.v (.int .i64 (fr:Nat)),.v (.int .i64 (fr+wd:Nat))] false)]⟩) (by simp[Vs.LeL,Vs.look,Vs.aA,Vs.dA,Vs.rR,Vs.scr,Vs.AV.has]) (λp hp=>by
      simp only[List.mem_cons,List.not_mem_nil,or_false] at hp
      rcases hp with rfl|rfl|rfl|rfl
      . exact⟨λr hr=>sU r hr,rfl⟩
      . exact⟨rfl,rfl⟩
      . exact⟨rfl,rfl⟩
      . exact⟨rfl,rfl⟩)
  refine hp6'.rg (pre:=[⟨some 53,.bslice 1 1 [.v (.slice none 0 0)] [(0,(.tmp 52))],none⟩,⟨some 54,.append 1 24 (.tmp 51) (.tmp 53),none⟩,⟨some 13,.mv (.tmp 54),none⟩]) (post:=[]) hnt (τ:=⟨[(13,.loc (.t 54 0) 0 (V.length+1)),(0,.v (.int .i64 k)),(7,.ptr (.t 7 0) 0 0),(8,.ptr (.t 8 0) 0 0),(9,.ptr (.t 9 0) 0 0),(33,.sl 1 (E cC l)),(34,.v (.int .i64 (l.length:Nat))),(35,.v (.int .i64 (i:Nat)))],[(.t 54 0,.arr 1 (E sV (V++[(sb,sm,sc)])) false),(.t 7 0,.var [.v (.int .i64 p.1),.v (.int .i64 p.2)] false),(.t 8 0,.var [.v (.int .i64 q.1),.v (.int .i64 q.2)] false),(.t 9 0,.var [.v (.int .i64 (fr:Nat)),.v (.int .i64 (fr+wd:Nat))] false)]⟩) (λp hp=>by
      simp only[List.mem_cons,List.not_mem_nil,or_false] at hp
      rcases hp with rfl|rfl|rfl|rfl
      . exact⟨λr hr=>sU r hr,rfl⟩
      . exact⟨rfl,rfl⟩
      . exact⟨rfl,rfl⟩
      . exact⟨rfl,rfl⟩) ?_ λa7 w7 S7 p7 hp7=>RgL.nil ?_
  .simp -dsimp only[go_sem,hap,hlv,cC,cPf]
   and_intros
   all_goals first|omega|(simp[Vs.LeL,Vs.look,Vs.aA];done)
  have hp8:=(hp7.ren (n:=.t 54 0) (m:=.t 13 0) (by decide) (by rfl) (λpp hp=>by
    have e:pp∈[((.t 13 0:Vs.Name),Blk.arr 1 (E sV (V++[(sb,sm,sc)])) false),(.t 7 0,.var [.v (.int .i64 p.1),.v (.int .i64 p.2)] false),(.t 8 0,.var [.v (.int .i64 q.1),.v (.int .i64 q.2)] false),(.t 9 0,.var [.v (.int .i64 (fr:Nat)),.v (.int .i64 (fr+wd:Nat))] false)]:=by simpa[Vs.oJ,Vs.rnB,Vs.nmF,Vs.rn,Vs.rnL] using hp
    simp only[List.mem_cons,List.not_mem_nil,or_false] at e
    rcases e with rfl|rfl|rfl|rfl
    . exact⟨λr hr=>sU r hr,rfl⟩
    . exact⟨rfl,rfl⟩
    . exact⟨rfl,rfl⟩
    . exact⟨rfl,rfl⟩)).le (τ:=⟨[(13,.loc (.t 13 0) 0 (V.length+1)),(0,.v (.int .i64 k)),(7,.ptr (.t 7 0) 0 0),(8,.ptr (.t 8 0) 0 0),(9,.ptr (.t 9 0) 0 0),(33,.sl 1 (E cC l)),(34,.v (.int .i64 (l.length:Nat))),(35,.v (.int .i64 (i:Nat)))],[(.t 13 0,.arr 1 (E sV (V++[(sb,sm,sc)])) false),(.t 7 0,.var [.v (.int .i64 p.1),.v (.int .i64 p.2)] false),(.t 8 0,.var [.v (.int .i64 q.1),.v (.int .i64 q.2)] false),(.t 9 0,.var [.v (.int .i64 (fr:Nat)),.v (.int .i64 (fr+wd:Nat))] false)]⟩) (by simp[Vs.LeL,Vs.look,Vs.aA,Vs.oJ,Vs.rnB,Vs.nmF,Vs.rn,Vs.rnL]) (λp hp=>by
      simp only[List.mem_cons,List.not_mem_nil,or_false] at hp
      rcases hp with rfl|rfl|rfl|rfl
      . exact⟨λr hr=>sU r hr,rfl⟩
      . exact⟨rfl,rfl⟩
      . exact⟨rfl,rfl⟩
      . exact⟨rfl,rfl⟩)
  show Vs.At Tryz.prog Tryz.f9.ntmps (bV Tryz.prog) (.region [⟨some 55,.bin .add (.tmp 35) (.const (.int .i64 (1))),none⟩,⟨some 35,.mv (.tmp 55),none⟩] [0,7,8,9,13,33,34,35] []) _ a7 w7
  refine At.rg (hp8.rg hnt (pre:=[⟨some 55,.bin .add (.tmp 35) (.const (.int .i64 (1))),none⟩,⟨some 35,.mv (.tmp 55),none⟩]) (post:=[]) (τ:=⟨[(0,.v (.int .i64 k)),(7,.ptr (.t 7 0) 0 0),(8,.ptr (.t 8 0) 0 0),(9,.ptr (.t 9 0) 0 0),(13,.loc (.t 13 0) 0 ((V++[(sb,sm,sc)])).length),(33,.sl 1 (E cC l)),(34,.v (.int .i64 (l.length:Nat))),(35,.v (.int .i64 (i+1:Nat)))],[(.t 13 0,.arr 1 (E sV ((V++[(sb,sm,sc)]))) false),(.t 7 0,.var [.v (.int .i64 p.1),.v (.int .i64 p.2)] false),(.t 8 0,.var [.v (.int .i64 q.1),.v (.int .i64 q.2)] false),(.t 9 0,.var [.v (.int .i64 (fr:Nat)),.v (.int .i64 (fr+wd:Nat))] false)]⟩) (λp hp=>by
      simp only[List.mem_cons,List.not_mem_nil,or_false] at hp
      rcases hp with rfl|rfl|rfl|rfl
      . exact⟨λr hr=>sU r hr,rfl⟩
      . exact⟨rfl,rfl⟩
      . exact⟨rfl,rfl⟩
      . exact⟨rfl,rfl⟩) ?_ λa9 w9 S9 p9 hp9=>RgL.nil ?_)
  .simp -dsimp only[go_sem,hw9,List.length_append,cC,cPf]
   first|(simp[Vs.LeL,Vs.look,Vs.aA];done)
  have q24:Vs.Past S1 w1 S4 w4:=(p2.trans p3).trans p4
  have pS9:∀b,(S4 b∨x6=some b)->S9 b:=λb hb=>p9.sub b (p7.sub b hb)
  have old9:∀b,(S4 b∨x6=some b)->w9.heap[b]? = w4.heap[b]?:=λb hb=>(p9.old b (p7.sub b hb)).trans (p7.old b hb)
  have hVs:(V.map slW).length=V.length:=List.length_map _
  have hown4:=hown.mono (w':=w4) (λj b hj hb h=>h) λj b hj hb=>q24.old b (hxS j b (by omega) hb).1
  have hsn:=hown4.snoc how6 (λj b hj hb e=>(hx6 b e).2.2 (q24.sub b (hxS j b (by omega) hb).1))
  refine⟨l.length-(i+1),by omega,i+1,V++[(sb,sm,sc)],S9,I6,λj=>if j=(V.map slW).length then x6 else xs j,λj=>if j=(V.map slW).length then c6 else cs j,rfl,by omega,by simp[hVl],hT6,hp9,?_,λj b hj hb=>?_⟩
  .have e:(l.take (i+1)).map (λc=>E cI (cdH k p q fr wd c))=(l.take i).map (λc=>E cI (cdH k p q fr wd c))++[E cI (cdH k p q fr wd l[i])]:=by rw[dP hlt,List.map_append];rfl
   rw[e,List.map_append]
   exact hsn.mono (λj b hj hb h=>h) λj b hj hb=>old9 b (by
     try dsimp only at hb
     split at hb
     . exact .inr hb
     . exact .inl (q24.sub b (hxS j b (by simp at hj;omega) hb).1))
  .try dsimp only at hb
   split at hb
   .exact⟨pS9 b (.inr hb),(hx6 b hb).1⟩
   .have g:=hxS j b (by simp at hj;omega) hb
    exact⟨pS9 b (.inl (q24.sub b g.1)),g.2⟩
 .have hge:i=l.length:=by have:=of_decide_eq_false hf;omega
  subst hge
  simp only[Exit.then,Exit.inBlock,if_true]
  have hsv:(E sV V).take V.length=E sV V:=List.take_of_length_le (by rw[aJ];exact Nat.le_refl _)
  refine At.seq (At.rg (hp2.rg hnt (pre:=[⟨some 56,.mv (.tmp 13),none⟩,⟨some 10,.mv (.tmp 56),none⟩,⟨some 11,.mv (.const (.int .i64 (0))),none⟩]) (post:=[]) (τ:=⟨[(10,.loc (.t 13 0) 0 V.length),(11,.v (.int .i64 0))],[(.t 13 0,.arr 1 (E sV V) false)]⟩) (λp hp=>by
      simp only[List.mem_cons,List.not_mem_nil,or_false] at hp
      subst hp
      exact⟨λr hr=>sU r hr,rfl⟩) ?_ λa5 w5 S5 p5 hp5=>RgL.nil ?_))
  .simp -dsimp only[go_sem,cC,cPf]
   first|(simp[Vs.LeL,Vs.look,Vs.aA];done)
  obtain ⟨hdf,u,x,hrun,hroot,hxx⟩:=hp5.resRow (fn:=Tryz.f9) (n:=.t 13 0) rfl (λr hr=>sU r hr) (c:=.int .i64 0) (len:=V.length) (by
    show Vs.tL Tryz.prog _ _ [_,_]
    simp[Vs.tL,Vs.aBl,Vs.look,Vs.tT])
  rw[hsv] at hroot
  have hS5:∀j b,j<V.length->xs j=some b->S5 b∧w5.heap[b]? = w1.heap[b]?∧C1.w0.heap.size<=b:=λj b hj hb=>by
   obtain⟨g1,g2⟩:=hxS j b hj hb
   exact⟨p5.sub b (p2.sub b g1),(p5.old b (p2.sub b g1)).trans (p2.old b g1),g2⟩
  refine At.ret ⟨.inl rfl,hdf,_,hrun,u,rfl,hw0 ▸ hp5.out,⟨x,V.map slW,xs,cs⟩,⟨?_,?_,λb hb=>?_⟩,λb hb=>?_⟩
  .show RC _ w5 (.sl 1 ((V.map slW).map λs=>[AV.v s])) u
   rw[aFU]
   exact hroot
  .show Vs.sI _ w5 1 ((l.map (cdH k p q fr wd)).map (E cI)) (V.map slW) xs cs
   rw[List.take_length] at hown
   rw[List.map_map]
   exact hown.mono (λi b hi hb e=>(hxx b e).2.2 (hS5 i b (by simpa using hi) hb).1) λi b hi hb=>(hS5 i b (by simpa using hi) hb).2.1
  .rcases hb with hb|⟨i,hi,hb⟩
   .exact(hxx b hb).2.1
   .exact hp5.dom b (hS5 i b (by simpa using hi) hb).1
  .rcases hb with hb|⟨i,hi,hb⟩
   .rw[←hw0];exact(hxx b hb).1
   .rw[←hw0];exact(hS5 i b (by simpa using hi) hb).2.2
end Go.Proofs.YtfoddghhlagenaaGreatDoor
