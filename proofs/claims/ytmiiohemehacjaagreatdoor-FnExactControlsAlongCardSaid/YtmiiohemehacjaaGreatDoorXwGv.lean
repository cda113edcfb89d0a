/- Offices of the laws by value: sizes, copies, comparisons; what a size tells of marks. -/
import Derived.Test.YtmiiohemehacjaaGreatDoorXwMa
import Derived.Test.YtmiiohemehacjaaGreatDoorXwD
import Derived.Test.YtmiiohemehacjaaGreatDoorXwRe
import Derived.Test.YtmiiohemehacjaaGreatDoorXwMb
import Derived.Test.YtmiiohemehacjaaGreatDoorVuS
import Derived.Test.YtmiiohemehacjaaGreatDoorXuO
import Derived.Test.YtmiiohemehacjaaGreatDoorXwVr
import Derived.Test.YtmiiohemehacjaaGreatDoorVtO
set_option linter.all false
set_option maxHeartbeats 8000000
namespace Go.Proofs.YtmiiohemehacjaaGreatDoor
open Go.Vs
section
variable [Vs.Envs]
attribute [local irreducible] Vs.Fn
abbrev Sl:=Option Addr×Nat×Nat
def slW (x:Sl):Value:=.slice x.1 x.2.1 x.2.2
def sV (x:Sl):List AV:=[.v (.slice x.1 x.2.1 x.2.2)]
theorem tK {V:List Sl}:∀r,r∈E sV V->Vs.iV r=true:=λr F=>by
 obtain⟨x,_,rfl⟩:=List.mem_map.1 F;rfl
theorem aJ2 (V:List Sl):(V.map slW).map (λs=>[AV.v s])=E sV V:=by rw[List.map_map];rfl
theorem aAL {f:FuncId}{fn:Func}{ac:aF} (h:bW Tryz.prog f fn ac):jL Tryz.prog f:=Vs.bW.has h
structure OM where
 xt:Option Nat
 ct:Nat
 TV:List Sl
 M:Nat->Vs.Mem
 xs:Option Nat
 cx:Nat
 SV:List Sl
 ys:Nat->Option Nat
 cs:Nat->Nat
def OM.DT (m:OM) (b:Nat):Prop:=m.xt=some b∨∃i,i<m.TV.length∧(m.M i).D b
def OM.DS (m:OM) (b:Nat):Prop:=m.xs=some b∨∃i,i<m.SV.length∧m.ys i=some b
def OM.D (m:OM) (b:Nat):Prop:=m.DT b∨m.DS b
structure OfM (w:World) (o:Off) (tv sv:Value) (m:OM):Prop where
 tr:Vs.Own (λ_=>False) w m.xt m.ct 1 (E sV m.TV) tv
 tn:o.trays.length=m.TV.length
 dk:∀i,i<m.TV.length->Vs.Dk w ((o.trays.getD i []).map (E cI)) (slW (m.TV.getD i default)) (m.M i)
 tdis:∀i j b,i<m.TV.length->j<m.TV.length->(m.M i).D b->(m.M j).D b->i=j
 tout:∀i b,i<m.TV.length->(m.M i).D b->m.xt≠some b
 sr:Vs.Own (λ_=>False) w m.xs m.cx 1 (E sV m.SV) sv
 sl:Vs.wQ (λ_=>False) w 2 (o.totals.map (E cT)) (m.SV.map slW) m.ys m.cs
 sout:∀i b,i<m.SV.length->m.ys i=some b->m.xs≠some b
 dis:∀b,m.DT b->¬m.DS b
 lt:∀b,m.D b->b<w.heap.size
theorem OfM.same {w w':World}{o:Off}{L J:Value}{m:OM} (h:OfM w o L J m) (I:w.heap.size<=w'.heap.size) (H:∀b,m.D b->w'.heap[b]? = w.heap[b]?):OfM w' o L J m:=
 ⟨h.tr.mono (λ_ _ h=>h) λb F=>H b (.inl (.inl F)),h.tn,λi hi=>(h.dk i hi).same I λb F=>H b (.inl (.inr ⟨i,hi,F⟩)),h.tdis,h.tout,h.sr.mono (λ_ _ h=>h) λb F=>H b (.inr (.inl F)),
   h.sl.mono (λ_ _ _ _ h=>h) λi b hi F=>H b (.inr (.inr ⟨i,by simpa using hi,F⟩)),h.sout,h.dis,λb F=>Nat.lt_of_lt_of_le (h.lt b F) I⟩
theorem OfM.past {w w':World}{S S':Nat->Prop}{o:Off}{I H:Value}{m:OM} (h:OfM w o I H m) (J:∀b,m.D b->S b) (F:Vs.Past S w S' w'):OfM w' o I H m:=h.same F.size λb L=>F.old b (J b L)
theorem OfM.sn {w:World}{o:Off}{H F:Value}{m:OM} (h:OfM w o H F m):o.totals.length=m.SV.length:=by simpa using h.sl.len
theorem aMp (l:List (List Tot)):(l.map λt=>AV.sl 2 (E cT t)).map (λx=>[x])=E cTs l:=by rw[List.map_map];rfl
theorem aNE (l:List (List (List Int))):(l.map λd=>AV.sl 1 (E cC d)).map (λx=>[x])=E cD l:=by rw[List.map_map];rfl
theorem OfM.rdT {w:World}{o:Off}{I Z:Value}{m:OM} (h:OfM w o I Z m):RC m.DT w (.sl 1 (E cD o.trays)) I:=by
 have:=Vs.aCu (D:=λb=>∃i,i<m.TV.length∧(m.M i).D b) (ss:=m.TV.map slW) (xs:=o.trays.map λd=>AV.sl 1 (E cC d)) (by rw[aJ2];exact h.tr.rc) (by simp[h.tn]) λj Y=>by
  have F:j<m.TV.length:=by simpa using Y
  have H:j<o.trays.length:=by rw[h.tn];exact F
  have J:(o.trays.map λd=>AV.sl 1 (E cC d)).getD j .junk=.sl 1 (E cC o.trays[j]):=by simp[H]
  have L:(m.TV.map slW).getD j undef=slW (m.TV.getD j default):=by simp[F]
  have O:o.trays.getD j []=o.trays[j]:=by simp[H]
  rw[J,L,←deckE,←O];exact(h.dk j F).rd.mono (λb U=>⟨j,F,U⟩) λ_ _=>rfl
 rw[aNE] at this;exact this.mono (λ_ h=>h) λ_ _=>rfl
theorem OfM.rdS {w:World}{o:Off}{Z L:Value}{m:OM} (h:OfM w o Z L m):RC m.DS w (.sl 1 (E cTs o.totals)) L:=by
 have J:=h.sn
 have:=Vs.aCu (D:=λb=>∃i,i<m.SV.length∧m.ys i=some b) (ss:=m.SV.map slW) (xs:=o.totals.map λt=>AV.sl 2 (E cT t)) (by rw[aJ2];exact h.sr.rc) (by simp[J]) λj I=>by
  have F:j<m.SV.length:=by simpa using I
  have H:j<o.totals.length:=by rw[J];exact F
  have O:(o.totals.map λt=>AV.sl 2 (E cT t)).getD j .junk=.sl 2 (E cT o.totals[j]):=by simp[H]
  have U:(o.totals.map (E cT)).getD j []=E cT o.totals[j]:=by simp[H]
  rw[O,←U];exact(h.sl.row j I).rc.mono (λb Y=>⟨j,F,Y⟩) λ_ _=>rfl
 rw[aMp] at this;exact this.mono (λ_ h=>h) λ_ _=>rfl
theorem OfM.rd {w:World}{o:Off}{H F:Value}{m:OM} (h:OfM w o H F m):RC m.D w (.agg (cO o)) (.agg #[H,F]):=
 .agg _ _ rfl λj I=>by
  match j,I with
  |0,_=>exact h.rdT.mono (λ_ h=>.inl h) λ_ _=>rfl
  |1,_=>exact h.rdS.mono (λ_ h=>.inr h) λ_ _=>rfl
def OfNew (w w':World) (o:Off) (tv sv:Value):Prop:=∃m,OfM w' o tv sv m∧∀b,m.D b->w.heap.size<=b
theorem aJt {vs:Array Value} (h:2=vs.size):vs=#[vs.getD 0 undef,vs.getD 1 undef]:=by
 obtain⟨l⟩:=vs
 match l,h with
 | [x,y],_=>rfl
theorem gV {S:Nat->Prop}{w:World}{x y u:Value} (h:RC S w (.agg [.v x,.v y]) u):u=.agg #[x,y]:=by
 cases h with
 | agg _ vs hl hr =>
  have F:=hr 0 (by simp);have H:=hr 1 (by simp)
  have I:vs.getD 0 undef=x:=by
   generalize vs.getD 0 undef=z at F;cases F;rfl
  have J:vs.getD 1 undef=y:=by
   generalize vs.getD 1 undef=z at H;cases H;rfl
  rw[aJt hl,I,J]
theorem aFw {S:Nat->Prop}{w:World} (x y:Value):RC S w (.agg [.v x,.v y]) (.agg #[x,y]):=.agg _ _ rfl λj F=>by
 match j,F with
 |0,_=>exact .v _
 |1,_=>exact .v _
end
section
variable [Vs.Envs]
attribute [local irreducible] Vs.Fn chOK areCh chTo chAt l03 chB rk cd3 chI stp stpTo
def lpCp (f:FuncId):aF:=
 .seq (.region [⟨some 2,.mv (.const (.slice none 0 0)),none⟩] [0] []) <|
 .seq (.region [⟨some 5,.mv (.tmp 0),none⟩,
    ⟨some 6,.len (.tmp 5),none⟩,
    ⟨some 7,.mk 1 24 [.v (.slice none 0 0)] (.tmp 6),none⟩,
    ⟨some 3,.mv (.tmp 7),none⟩] [0,3] []) <|
 .seq (.seq (.region [⟨some 4,.mv (.const (.int .i64 (0))),none⟩] [0,3,4] []) <|
  .block 0 (
    .loop (
      .seq (.seq (.region [⟨some 8,.mv (.tmp 4),none⟩,
          ⟨some 9,.mv (.tmp 0),none⟩,
          ⟨some 10,.len (.tmp 9),none⟩,
          ⟨some 11,.bin .lss (.tmp 8) (.tmp 10),none⟩] [0,3,4,11] []) <|
       .cond (.tmp 11)
         (.skip)
         (.exit 0)) <|
      .seq (.block 1 (
         .region [⟨some 14,.mv (.tmp 3),none⟩,
           ⟨some 15,.mv (.tmp 4),none⟩,
           ⟨some 16,.mv (.tmp 0),none⟩,
           ⟨some 17,.mv (.tmp 4),none⟩,
           ⟨some 18,.idxSl 1 (.tmp 16) (.tmp 17),none⟩,
           ⟨some 19,.load false 1 (.tmp 18),none⟩,
           ⟨some 20,.call (.func f) [(.tmp 19)] [],none⟩,
           ⟨some 21,.idxSl 1 (.tmp 14) (.tmp 15),none⟩,
           ⟨none,.store 1 (.tmp 21) (.tmp 20),none⟩] [0,3,4] [])) <|
      .region [⟨some 12,.mv (.tmp 4),none⟩,
        ⟨some 13,.bin .add (.tmp 12) (.const (.int .i64 (1))),none⟩,
        ⟨some 4,.mv (.tmp 13),none⟩] [0,3,4] []))) <|
 .seq (.region [⟨some 22,.mv (.tmp 3),none⟩,
    ⟨some 2,.mv (.tmp 22),none⟩] [2] []) <|
 .ret
def lpMk (f:FuncId):aF:=
 .seq (.region [⟨some 4,.mv (.const (.int .i64 (0))),none⟩] [0,1] []) <|
 .seq (.seq (.region [⟨some 5,.mv (.const (.int .i64 (0))),none⟩] [0,1,5] []) <|
  .block 0 (
    .loop (
      .seq (.seq (.region [⟨some 6,.mv (.tmp 5),none⟩,
          ⟨some 7,.mv (.tmp 0),none⟩,
          ⟨some 8,.len (.tmp 7),none⟩,
          ⟨some 9,.bin .lss (.tmp 6) (.tmp 8),none⟩] [0,1,5,9] []) <|
       .cond (.tmp 9)
         (.skip)
         (.exit 0)) <|
      .seq (.block 1 (
         .region [⟨some 12,.mv (.tmp 0),none⟩,
           ⟨some 13,.mv (.tmp 5),none⟩,
           ⟨some 14,.idxSl 1 (.tmp 12) (.tmp 13),none⟩,
           ⟨some 15,.load false 1 (.tmp 14),none⟩,
           ⟨some 16,.mv (.tmp 1),none⟩,
           ⟨some 17,.call (.func f) [(.tmp 15),(.tmp 16)] [0],none⟩,
           ⟨some 1,.mv (.tmp 17),none⟩] [0,1,5] [])) <|
      .region [⟨some 10,.mv (.tmp 5),none⟩,
        ⟨some 11,.bin .add (.tmp 10) (.const (.int .i64 (1))),none⟩,
        ⟨some 5,.mv (.tmp 11),none⟩] [0,1,5] []))) <|
 .seq (.region [⟨some 18,.mv (.tmp 1),none⟩,
    ⟨some 4,.mv (.tmp 18),none⟩] [4] []) <|
 .ret
theorem aLA (V:List Sl) (i:Nat) (s:Sl):(E sV V).set i [.v (.slice s.1 s.2.1 s.2.2)]=E sV (V.set i s):=by simp[E,List.map_set,sV]
abbrev aLk {α β:Type} (D:β->Nat->Prop) (G:World->α->Sl->β->Prop) (l:List α) (w:World) (e:Ending) (w':World):Prop:=∃(v:Value) (x0:Option Nat) (c0:Nat) (V:List Sl) (M:Nat->β),e=.returned v∧Vs.tF w w'∧Vs.Own (λ_=>False) w' x0 c0 1 (E sV V) v∧V.length=l.length∧(∀i (h:i<l.length),G w' l[i] (V.getD i default) (M i))∧(∀i j b,i<V.length->j<V.length->D (M i) b->D (M j) b->i=j)∧(∀i b,i<V.length->D (M i) b->x0≠some b)∧∀b,(x0=some b∨∃i,i<V.length∧D (M i) b)->w.heap.size<=b∧b<w'.heap.size
theorem nilS (n:Nat):E sV (List.replicate n (default:Sl))=List.replicate n [.v (.slice none 0 0)]:=by simp only[E,List.map_replicate];rfl
set_option maxRecDepth 20000 in
attribute [local go_sem] List.take_succ_cons List.take_zero Int.reduceBEq Int.reduceBNe cC aI List.replicate_succ List.replicate_zero List.flatten_cons List.flatten_nil List.cons_append List.nil_append List.set_cons_zero List.set_cons_succ List.length_cons List.length_nil List.length_set List.mem_singleton List.mem_cons List.not_mem_nil or_false false_or Vs.Name.t.injEq List.getD_cons_zero List.getD_cons_succ Vs.Name.b.injEq List.getElem?_cons_zero List.getElem?_cons_succ in
theorem aK1 {fid f:FuncId}{fn:Func} (ho:bW Tryz.prog fid fn (lpCp f)) (hn:fn.ntmps=23) (hs:fn.results.toList=[.tmp 2]) (hz:(fn.body.map (zB fn.ntmps (bG Tryz.prog)))=some true) (hf:jL Tryz.prog f)
  {α β:Type}{l:List α}{c:α->AV} (hc:∀x,fO (c x)=true) (hl:l.length<=1048576) {D:β->Nat->Prop}{G:World->α->Sl->β->Prop} (m0:β)
  (hG:∀w w' x s m,G w x s m->w.heap.size<=w'.heap.size->(∀b,D m b->w'.heap[b]? = w.heap[b]?)->G w' x s m) (hL:∀w x s m,G w x s m->∀b,D m b->b<w.heap.size)
  (hF:∀x,x∈l->∀(S:Nat->Prop) (w:World) (v:Value),(∀b,S b->b<w.heap.size)->RC S w (c x) v->Calls Tryz.prog f #[v] w λe w'=>∃s m,e=.returned (slW s)∧Vs.tF w w'∧G w' x s m∧∀b,D m b->w.heap.size<=b)
  {S:Nat->Prop}{w:World}{v0:Value} (hS:∀b,S b->b<w.heap.size) (he:Env S w) (h0:RC S w (.sl 1 (E (λx=>[c x]) l)) v0) :
  Calls Tryz.prog fid #[v0] w (aLk D G l w):=by
 obtain⟨h1,h2,_⟩:=ho;obtain⟨body,hb,hcc⟩:=Option.bind_eq_some_iff.1 h2;rw[hb] at hz;have hdr:=bZ Tryz.mixed;have hlE:(E (λx=>[c x]) l).length=l.length:=aI _
 refine Vs.Pt.calls (dr:=bG Tryz.prog) (ac:=lpCp f) h1 hb hcc (by simpa using hz) (args:=[.sl 1 (E (λx=>[c x]) l)]) (by rw[hn];exact Nat.le_of_ble_eq_true rfl) hS he rfl (λj hj=>by
   match j,hj with
   |0,_=>exact h0) λC1 a hnt hw0 hS0 hp=>?_
 unfold lpCp;refine hp.goT dM hnt 2 _ (τ:=⟨[(0,.sl 1 (E (λx=>[c x]) l)),(3,.loc (.t 7 0) 0 l.length)],[(.t 7 0,.arr 1 (E sV (List.replicate l.length (default:Sl))) false)]⟩) (hτ:=λp hp=>by rw[List.mem_singleton.1 hp];exact⟨λr hr=>tK r hr,rfl⟩) (λC hC=>?_) λa2 w2 S2 p2 hp2=>?_
 .rw[nilS]
  repeat' first|simp -dsimp only[go_sem,hlE]|refine RgK.mk rfl ?_|fail
  all_goals first|(simp[Vs.LeL,Vs.look,Vs.aB];done)|exact⟨by simp[Vs.LeL,Vs.look,Vs.aB],trivial⟩|omega|(and_intros<;>first|omega|trivial|(simp[Vs.LeL,Vs.look,Vs.aB];done))
 refine At.seq (?_);refine hp2.goT dM hnt 1 _ (τ:=⟨[(0,.sl 1 (E (λx=>[c x]) l)),(3,.loc (.t 7 0) 0 l.length),(4,.v (.int .i64 (0:Nat)))],[(.t 7 0,.arr 1 (E sV (List.replicate l.length (default:Sl))) false)]⟩) (hτ:=λp hp=>by rw[List.mem_singleton.1 hp];exact⟨λr hr=>tK r hr,rfl⟩) (λC hC=>?_) λa3 w3 S3 p3 hp3=>?_
 .rw[nilS]
  repeat' first|simp -dsimp only[go_sem,hlE]|refine RgK.mk rfl ?_|fail
  all_goals first|(simp[Vs.LeL,Vs.look,Vs.aB];done)|exact⟨by simp[Vs.LeL,Vs.look,Vs.aB],trivial⟩|omega|(and_intros<;>first|omega|trivial|(simp[Vs.LeL,Vs.look,Vs.aB];done))
 let IV:Nat->Act->World->Prop:=λnn a' w'=>∃(i:Nat) (W:List Sl) (S':Nat->Prop) (I':Vs.Envs) (M:Nat->β),nn=l.length-i∧i<=l.length∧W.length=l.length∧Vs.Pt I' C1 (⟨[(0,.sl 1 (E (λx=>[c x]) l)),(3,.loc (.t 7 0) 0 l.length),(4,.v (.int .i64 (i:Nat)))],[(.t 7 0,.arr 1 (E sV (W)) false)]⟩:St) a' w' S'∧(∀j (h:j<l.length),j<i->G w' l[j] (W.getD j default) (M j))∧(∀j b,j<i->D (M j) b->S' b∧C1.w0.heap.size<=b)∧∀j k b,j<i->k<i->D (M j) b->D (M k) b->j=k
 refine At.block (At.loop IV (λnn a1 w1 hI=>?_) (n:=l.length) ⟨0,List.replicate l.length default,S3,_,λ_=>m0,by omega,by omega,by simp,hp3,by simp,by simp,by simp⟩);obtain⟨i,W,S1,I1,M,hni,hi,hWl,hp1,hdk,hMS,hMd⟩:=hI;refine At.seq (?_);refine hp1.goT dM hnt 1 _ (τ:=⟨[(11,.v (.bool (decide ((i:Nat)<(l.length:Nat))))),(0,.sl 1 (E (λx=>[c x]) l)),(3,.loc (.t 7 0) 0 l.length),(4,.v (.int .i64 (i:Nat)))],[(.t 7 0,.arr 1 (E sV (W)) false)]⟩) (hτ:=λp hp=>by rw[List.mem_singleton.1 hp];exact⟨λr hr=>tK r hr,rfl⟩) (λC hC=>?_) λa2 w2 S2 p2 hp2=>?_
 .simp -dsimp only[go_sem,hlE]
  repeat' first|simp -dsimp only[go_sem,hlE]|refine RgK.mk rfl ?_|fail
  all_goals first|(simp[Vs.LeL,Vs.look,Vs.aB];done)|exact⟨by simp[Vs.LeL,Vs.look,Vs.aB],trivial⟩|omega|(and_intros<;>first|omega|trivial|(simp[Vs.LeL,Vs.look,Vs.aB];done))
 refine hp2.cond (b:=decide ((i:Nat)<(l.length:Nat))) rfl (λht=>At.skip ?_) (λhf=>At.exit ?_)
 .have hlt:i<l.length:=by have:=of_decide_eq_true ht;omega
  have hw9:=aH hlt hl;have hm:(E (λx=>[c x]) l).getD i []=[c l[i]]:=aQ hlt;have hlV:(E sV W).length=l.length:=by rw[aI];exact hWl
  have hwi:i<W.length:=by omega
  have hgV:(E sV W).getD i []=[.v (.slice W[i].1 W[i].2.1 W[i].2.2)]:=aQ hwi;refine At.seq (At.block (At.rg (hp2.rgN hnt 6 (τ:=⟨[(19,c l[i]),(14,.loc (.t 7 0) 0 l.length),(15,.v (.int .i64 (i:Nat))),(0,.sl 1 (E (λx=>[c x]) l)),(3,.loc (.t 7 0) 0 l.length),(4,.v (.int .i64 (i:Nat)))],[(.t 7 0,.arr 1 (E sV W) false)]⟩) (hτ:=λp hp=>by rw[List.mem_singleton.1 hp];exact⟨λr hr=>tK r hr,rfl⟩) ?_ λa3 w3 S3 p3 hp3=>hp3.rgcall hnt (ts:=[19]) (ys:=[c l[i]]) hf rfl (λi hi=>by match i,hi with|0,_=>rfl) (λi hi=>by match i,hi with|0,_=>exact hc _) λus hus hr=>?_)))
  .simp -dsimp only[go_sem,hm,hlE]
   first|(simp[Vs.LeL,Vs.look,Vs.aB];done)|exact⟨⟨by omega,by omega⟩,by simp[Vs.LeL,Vs.look,Vs.aB]⟩
  obtain⟨u0,rfl⟩:∃u0,us=#[u0]:=⟨_,Vs.us1 hus rfl⟩;refine(hF _ (List.getElem_mem hlt) S3 w3 u0 hp3.dom (hr 0 Nat.zero_lt_one)).mono ?_;rintro e w4 ⟨s,m,rfl,hg,hg4,hnew⟩;refine⟨_,rfl,?_⟩
  have hp4:=(hp3.grow hg (D:=D m) (λb hb=>⟨hnew b hb,hL _ _ _ _ hg4 b hb⟩) [(14,.loc (.t 7 0) 0 l.length),(15,.v (.int .i64 (i:Nat))),(0,.sl 1 (E (λx=>[c x]) l)),(3,.loc (.t 7 0) 0 l.length),(4,.v (.int .i64 (i:Nat)))] (λp hp=>by
    simp only[List.mem_cons,List.not_mem_nil,or_false] at hp;rcases hp with rfl|rfl|rfl|rfl|rfl
    . exact⟨rfl,.inl rfl⟩
    . exact⟨rfl,.inl rfl⟩
    . exact ⟨rfl,.inr (by
        simp only[fO])⟩
    . exact⟨rfl,.inl rfl⟩
    . exact⟨rfl,.inl rfl⟩)).put (d:=20) (by rw[hnt,hn];omega) (slW s)
  letI I4:=Vs.keepE (λb=>S3 b∨D m b) w4
  refine hp4.rgN hnt 2 (τ:=⟨[(0,.sl 1 (E (λx=>[c x]) l)),(3,.loc (.t 7 0) 0 l.length),(4,.v (.int .i64 (i:Nat)))],[(.t 7 0,.arr 1 (E sV (W.set i s)) false)]⟩) (hτ:=λp hp=>by rw[List.mem_singleton.1 hp];exact⟨λr hr=>tK r hr,rfl⟩) ?_ λa5 w5 S5 p5 hp5=>RgL.nil ?_
  .rw[←aLA];simp only[slW];simp -dsimp only[go_sem,hgV,hlV,hlE]
   first|(simp[Vs.LeL,Vs.look,Vs.aB];done)|exact⟨⟨by omega,by omega⟩,by simp[Vs.LeL,Vs.look,Vs.aB]⟩|(and_intros<;>first|omega|rfl|(simp[Vs.LeL,Vs.look,Vs.aB];done))
  simp only[Exit.inBlock,Exit.then];show Vs.At Tryz.prog _ _ (.region [⟨some 12,.mv (.tmp 4),none⟩,⟨some 13,.bin .add (.tmp 12) (.const (.int .i64 (1))),none⟩,⟨some 4,.mv (.tmp 13),none⟩] _ []) _ a5 w5
  refine At.rg (hp5.rgN hnt 3 (τ:=⟨[(0,.sl 1 (E (λx=>[c x]) l)),(3,.loc (.t 7 0) 0 l.length),(4,.v (.int .i64 (i+1:Nat)))],[(.t 7 0,.arr 1 (E sV (W.set i s)) false)]⟩) (hτ:=λp hp=>by rw[List.mem_singleton.1 hp];exact⟨λr hr=>tK r hr,rfl⟩) ?_ λa9 w9 S9 p9 hp9=>RgL.nil ?_)
  .simp -dsimp only[go_sem,hw9,hlE]
   first|(simp[Vs.LeL,Vs.look,Vs.aB];done)
  have pA:Vs.Past S1 w1 S3 w3:=p2.trans p3;have p4:Vs.Past S3 w3 (λb=>S3 b∨D m b) w4:=Vs.Past.grow hg hp3.dom;have p49:Vs.Past (λb=>S3 b∨D m b) w4 S9 w9:=p5.trans p9;have pB:Vs.Past S1 w1 S9 w9:=(pA.trans p4).trans p49;have hsz:C1.w0.heap.size<=w3.heap.size:=hp3.size
  have hold:∀j b,j<i->D (M j) b->D m b->False:=λj b hj hb hm=>by
   have h2:=hp3.dom b (pA.sub b (hMS j b hj hb).1);have h3:=hnew b hm;omega
  refine⟨l.length-(i+1),by omega,i+1,W.set i s,S9,_,λj=>if j=i then m else M j,rfl,by omega,by simp[hWl],hp9,λj hjl hj=>?_,λj b hj hb=>?_,λj k b hj hk hb1 hb2=>?_⟩
  .by_cases e:j=i
   .subst e;have e1:(W.set j s).getD j default=s:=by simp[hwi]
    simp only[if_true];rw[e1];exact hG _ _ _ _ _ hg4 p49.size λb hb=>p49.old b (.inr hb)
   .have e1:(W.set i s).getD j default=W.getD j default:=by
     simp only[List.getD_eq_getElem?_getD];rw[List.getElem?_set_ne (Ne.symm e)]
    simp only[e,if_false];rw[e1];exact hG _ _ _ _ _ (hdk j hjl (by omega)) pB.size λb hb=>pB.old b (hMS j b (by omega) hb).1
  .by_cases e:j=i
   .simp only[e,if_true] at hb;exact⟨p49.sub b (.inr hb),by have:=hnew b hb;omega⟩
   .simp only[e,if_false] at hb;exact⟨pB.sub b (hMS j b (by omega) hb).1,(hMS j b (by omega) hb).2⟩
  .by_cases e:j=i<;>by_cases e':k=i
   .rw[e,e']
   .simp only[e,e',if_true,if_false] at hb1 hb2;exact(hold k b (by omega) hb2 hb1).elim
   .simp only[e,e',if_true,if_false] at hb1 hb2;exact(hold j b (by omega) hb1 hb2).elim
   .simp only[e,e',if_false] at hb1 hb2;exact hMd j k b (by omega) (by omega) hb1 hb2
 .have hge:i=l.length:=by have:=of_decide_eq_false hf;omega
  subst hge;simp only[Exit.then,Exit.inBlock,if_true];refine At.seq (At.rg (hp2.rgN hnt 2 (τ:=⟨[(2,.loc (.t 7 0) 0 l.length)],[(.t 7 0,.arr 1 (E sV W) false)]⟩) (hτ:=λp hp=>by rw[List.mem_singleton.1 hp];exact⟨λr hr=>tK r hr,rfl⟩) ?_ λa5 w5 S5 p5 hp5=>RgL.nil ?_))
  .simp -dsimp only[go_sem,hlE]
   first|(simp[Vs.LeL,Vs.look,Vs.aB];done)
  obtain ⟨hdf,u,ρ,κ,hrun,hxu,hOw,hNw,_⟩:=hp5.resX (fn:=fn) (x:=.loc (.t 7 0) 0 l.length) (by
    rw[hs];show Vs.uE Tryz.prog _ _ [_]
    simp[Vs.uE,Vs.aDu,Vs.look,Vs.uZ])
  have hlv:(E sV W).length=l.length:=by rw[aI];exact hWl
  have o0:=hOw (.t 7 0) 1 (E sV W) u rfl (λr hr=>tK r hr) (by rw[hlv];exact hxu);have n0:=λb=>hNw (.t 7 0) b rfl;have p15:=p2.trans p5;have hM5:∀j b,j<W.length->D (M j) b->S5 b:=λj b hj hb=>p15.sub b (hMS j b (by omega) hb).1;refine At.ret ⟨.inl rfl,hdf,_,hrun,u,ρ (.t 7 0),κ (.t 7 0),W,M,rfl,hw0 ▸ hp5.out,o0,hWl,λj hj=>hG _ _ _ _ _ (hdk j hj hj) p15.size λb hb=>p15.old b (hMS j b hj hb).1,λj k b hj hk=>hMd j k b (by omega) (by omega),λj b hj hb e=>(n0 b e).2.2 (hM5 j b hj hb),λb hb=>?_⟩;rw[←hw0];rcases hb with hb|⟨j,hj,hb⟩
  .exact⟨(n0 b hb).1,(n0 b hb).2.1⟩
  .exact⟨(hMS j b (by omega) hb).2,hp5.dom b (hM5 j b hj hb)⟩
def gN {α:Type} (tot:α->Nat):List α->Nat
 | []=>0
 |x::r=>tot x+gN tot r
def mkQ {α:Type} (mk:Nat->α->α) (tot:α->Nat) (k:Nat):List α->List α
 | []=>[]
 |x::r=>mk k x::mkQ mk tot (k+tot x) r
theorem aDG {α:Type}{tot:α->Nat}{l:List α}{x:α}:gN tot (l++[x])=gN tot l+tot x:=by
 induction l with
 |nil=>simp[gN]
 |cons y r ih=>simp only[List.cons_append,gN,ih];omega
theorem aA1 {α:Type}{tot:α->Nat}:∀(l:List α) (i:Nat),gN tot (l.take i)<=gN tot l
 | [],i=>by simp[gN]
 |y::r,0=>by simp[gN]
 |y::r,i+1=>by have:=aA1 (tot:=tot) r i;simp only[List.take_succ_cons,gN];omega
theorem aB2 {α:Type}{mk:Nat->α->α}{tot:α->Nat}:∀(k:Nat) (l:List α),(mkQ mk tot k l).length=l.length
 |_,[]=>rfl
 |k,x::r=>by simp[mkQ,aB2 _ r]
theorem aFx {α:Type}{mk:Nat->α->α}{tot:α->Nat}{x:α}:∀(k:Nat) (l:List α),mkQ mk tot k (l++[x])=mkQ mk tot k l++[mk (k+gN tot l) x]
 |k,[]=>by simp[mkQ,gN]
 |k,d::r=>by simp only[List.cons_append,mkQ,aFx _ r,gN,Nat.add_assoc]
set_option maxRecDepth 20000 in
attribute [local go_sem] Int.reduceBEq Int.reduceBNe cC aI List.replicate_succ List.replicate_zero List.flatten_cons List.flatten_nil List.cons_append List.nil_append List.set_cons_zero List.set_cons_succ List.length_cons List.length_nil List.length_set List.mem_singleton List.mem_cons List.not_mem_nil or_false false_or Vs.Name.t.injEq List.getD_cons_zero List.getD_cons_succ Vs.Name.b.injEq List.getElem?_cons_zero List.getElem?_cons_succ in
theorem aKm {qb f:FuncId}{fn:Func} (ho:bW Tryz.prog qb fn (lpMk f)) (hn:fn.ntmps=19) (hs:fn.results.toList=[.tmp 4]) (hz:(fn.body.map (zB fn.ntmps (bG Tryz.prog)))=some true) (hf:jL Tryz.prog f)
  {α β:Type}{D:β->Nat->Prop}{G:World->α->Sl->β->Prop}{mk:Nat->α->α}{tot:α->Nat}{K:Nat} (hK:K<=2 ^ 62)
  (hG:∀w w' x s m,G w x s m->w.heap.size<=w'.heap.size->(∀b,D m b->w'.heap[b]? = w.heap[b]?)->G w' x s m) (hL:∀w x s m,G w x s m->∀b,D m b->b<w.heap.size)
  {l:List α} (hF:∀x,x∈l->∀(k:Nat) (S:Nat->Prop) (w:World) (s:Sl) (m:β),0<k->k+tot x<=K->(∀b,S b->b<w.heap.size)->(∀b,D m b->¬S b)->G w x s m->Calls Tryz.prog f #[slW s,.int .i64 (k:Nat)] w λe w'=>e=.returned (.int .i64 (k+tot x:Nat))∧w.heap.size<=w'.heap.size∧(∀b,b<w.heap.size->¬D m b->w'.heap[b]? = w.heap[b]?)∧(w'.os=w.os∧w'.output=w.output)∧G w' (mk k x) s m)
  {V:List Sl}{M:Nat->β} (hl:l.length=V.length) (hV:V.length<=1048576) {k0:Nat} (qx:0<k0) (hk:k0+gN tot l<=K) {S:Nat->Prop}{w:World}{v:Value} (hS:∀b,S b->b<w.heap.size) (he:Env S w) (qq:∀i b,i<V.length->D (M i) b->¬S b) (h0:RC S w (.sl 1 (E sV V)) v)
  (hg:∀i (h:i<l.length),G w l[i] (V.getD i default) (M i)) (hd:∀i j b,i<V.length->j<V.length->D (M i) b->D (M j) b->i=j) :
  Calls Tryz.prog qb #[v,.int .i64 (k0:Nat)] w λe w'=>e=.returned (.int .i64 (k0+gN tot l:Nat))∧w.heap.size<=w'.heap.size∧(∀b,b<w.heap.size->(∀i,i<V.length->¬D (M i) b)->w'.heap[b]? = w.heap[b]?)∧(w'.os=w.os∧w'.output=w.output)∧∀i (h:i<(mkQ mk tot k0 l).length),G w' (mkQ mk tot k0 l)[i] (V.getD i default) (M i):=by
 obtain⟨wO,rfl⟩:∃x,x=w:=⟨_,rfl⟩;obtain⟨h1,h2,_⟩:=ho;obtain⟨qw,H,hc⟩:=Option.bind_eq_some_iff.1 h2;rw[H] at hz;have hm:=bZ Tryz.mixed;have O:(E sV V).length=V.length:=aI _
 let DD:Nat->Prop:=λb=>∃i,i<V.length∧D (M i) b
 have hA:∀b,DD b->b<wO.heap.size:=by
  rintro b ⟨i,hi,H⟩;exact hL _ _ _ _ (hg i (Nat.lt_of_lt_of_eq hi hl.symm)) b H
 have hB:∀b,DD b->¬S b:=by
  rintro b ⟨i,hi,H⟩;exact qq i b hi H
 refine yC (dr:=bG Tryz.prog) (ac:=lpMk f) (S:=S) h1 H hc (by simpa using hz) (args:=[.sl 1 (E sV V),.v (.int .i64 (k0:Int))]) (by rw[hn];exact Nat.le_of_ble_eq_true rfl) hS he rfl (λj hj=>?_) DD λa F=>?_
 .match j,hj with
  |0,_=>exact h0
  |1,_=>exact .v _
 generalize ht:(⟨fn.ntmps,wO,S,DD,λ_=>none,λ_=>0,λ_=>none⟩:Ctx)=C0 at F;have qr:C0.nt=fn.ntmps:=by rw[←ht]
 have hw:C0.w0=wO:=by rw[←ht]
 have hM:∀b,DD b->C0.Mut b:=λb h=>by rw[←ht];exact h
 have h7:=F.later;have qe:=F.hid (D:=DD) hA hB (λb _ n hn=>by simp[St.f,Vs.aB] at hn);have hy:=F.anew
 let GG:World->List α->Prop:=λw m=>m.length=V.length∧∀i (h:i<m.length),G w m[i] (V.getD i default) (M i)
 generalize qi:C0.anew wO S _ _=C1 at h7 qe hy;have qk:GG C1.w0 l:=by rw[←qi];exact⟨hl,hg⟩
 have ha:C1.nt=fn.ntmps:=h7.nt.trans qr;unfold lpMk;refine At.step ⟨[(0,.sl 1 (E sV V)),(1,.v (.int .i64 (k0:Int)))],[]⟩ hm hy ha ?_ λa w1 S1 ρ1 κ1 F=>?_
 .simp -dsimp only[go_sem,O]
  try simp[Vs.LeL,Vs.look,Vs.aB]
 refine At.seq (At.step ⟨[(0,.sl 1 (E sV V)),(1,.v (.int .i64 (k0:Int))),(5,.v (.int .i64 ((0:Nat):Int)))],[]⟩ hm F ha ?_ λa w3 S3 ρ3 κ3 F=>?_)
 .simp -dsimp only[go_sem,O]
  try simp[Vs.LeL,Vs.look,Vs.aB]
 refine At.block ?_
 let T:Nat->Nat->St:=λi Y=>⟨[(0,.sl 1 (E sV V)),(1,.v (.int .i64 (Y:Int))),(5,.v (.int .i64 (i:Int)))],[]⟩
 let I:Nat->Act->World->Prop:=λn a w=>∃(i Y:Nat) (m:List α) (C:Ctx) (S:Nat->Prop) (ρ:Vs.Name->Option Nat) (κ:Vs.Name->Nat),n=V.length-i∧i<=V.length∧Y=k0+gN tot (l.take i)∧m=mkQ mk tot k0 (l.take i)++l.drop i∧C.nt=fn.ntmps∧Later C0 C∧OK C (T i Y).f a w S ρ κ∧Hid C DD (.v undef) undef∧GG C.w0 m
 refine At.loop I (λn a w hI=>?_) (n:=V.length) ⟨0,k0,l,C1,S3,ρ3,κ3,by omega,by omega,by simp[gN],by simp[mkQ],ha,h7,F,qe,qk⟩;obtain⟨i,Y,m,C,S,ρ,κ,qz,hi,h6,hv,J,hu,F,hh,L⟩:=hI;have qy:=aA1 (tot:=tot) l i;refine At.seq (At.fw hm F J (N:=fun σ'=>LeL σ' (T i Y)∧i<V.length) (E:=λe σ'=>match e with|.exit j=>j=0∧LeL σ' (T i Y)∧i=V.length|.ret=>False) ?_ (λa w hg=>?_) (λj a w hg=>?_) (λa w hg=>hg.no.elim))
 .simp only[T];simp -dsimp only[go_sem,O];refine Br.mk (λhc=>?_) λhc=>?_
  .have U:i<V.length:=by have:=of_decide_eq_true hc;omega
   try simp -dsimp only[go_sem,O]
   exact⟨by simp[Vs.LeL,Vs.look,Vs.aB],U⟩
  .have qm:i=V.length:=by have:=of_decide_eq_false hc;omega
   try simp -dsimp only[go_sem,O]
   exact⟨by simp[Vs.LeL,Vs.look,Vs.aB],qm⟩
 rotate_left
 .obtain⟨σ',S',ρ',κ',⟨rfl,h8,rfl⟩,hr⟩:=hg;have F:=hr.le h8;simp only[Exit.then,Exit.inBlock,if_true];refine At.step ⟨[(4,.v (.int .i64 (Y:Int)))],[]⟩ hm F J ?_ λa w4 S4 ρ4 κ4 Z=>?_
  .simp only[T]
   try simp -dsimp only[go_sem,O]
   simp[Vs.LeL,Vs.look,Vs.aB]
  refine At.ret ⟨.inl rfl,Z.defers,?_⟩
  obtain ⟨x,v,qu,qv,qh⟩:=Vs.tL Z (fn:=fn) (K:=λx=>x=.v (.int .i64 (Y:Int))) (by
    rw[hs];show Vs.uE Tryz.prog _ _ [_]
    simp[Vs.uE,Vs.aDu,Vs.look,Vs.uZ])
  subst qu;have h3:=Z.back hu;refine⟨v,qh,by rw[bL qv,h6,←hl,List.take_length],by have:=h3.size;rw[hw] at this;exact this,λb H qf=>?_,by have:=h3.out;rw[hw] at this;exact this,?_⟩
  .have:=h3.old b (by rw[hw];exact H) (by rw[←ht];rintro⟨i,hi,H⟩;exact qf i hi H);rw[hw] at this;exact this
  .rw[←hl,List.take_length,List.drop_length,List.append_nil] at hv;subst hv;exact λi hi=>hG _ _ _ _ _ (L.2 i hi) (by have:=Z.size;exact this) λb H=>(hh.same Z).1 b ⟨i,by rw[←L.1];exact hi,H⟩
 obtain⟨σ',S',ρ',κ',⟨h8,U⟩,hr⟩:=hg;have F:=hr.le h8;have h4:(E sV V).getD i []=[.v (slW V[i])]:=aQ U;have hp:i<l.length:=by omega
 have hq:(mkQ mk tot k0 (l.take i)).length=i:=by rw[aB2,List.length_take];omega
 have qo:i<m.length:=by rw[L.1];exact U
 have qp:m[i]=l[i]:=by
  subst hv;rw[List.getElem_append_right (by omega)];simp[hq]
 have qc:V.getD i default=V[i]:=by simp[U]
 have qn:Y+tot l[i]<=K:=by
  have:=aA1 (tot:=tot) l (i+1);rw[bB hp,aDG] at this;omega
 have qt:=aH U hV;show At Tryz.prog _ _ (.seq _ _) _ a w
 refine At.seq (At.block (At.mark (R:=λw'=>GG w' (m.set i (mk Y l[i]))) (τ:=⟨[(15,.v (slW V[i])),(16,.v (.int .i64 (Y:Int))),(0,.sl 1 (E sV V)),(1,.v (.int .i64 (Y:Int))),(5,.v (.int .i64 (i:Int)))],[]⟩) (τ':=T i (Y+tot l[i])) F J hu hh hM (pre:=[⟨some 12,.mv (.tmp 0),none⟩,⟨some 13,.mv (.tmp 5),none⟩,⟨some 14,.idxSl 1 (.tmp 12) (.tmp 13),none⟩,⟨some 15,.load false 1 (.tmp 14),none⟩,⟨some 16,.mv (.tmp 1),none⟩]) (post:=[⟨some 1,.mv (.tmp 17),none⟩]) (ts:=[15,16]) (vs:=[slW V[i],.int .i64 (Y:Int)]) (u:=.int .i64 ((Y+tot l[i]:Nat):Int)) hf (by rw[hn];omega) ?_ rfl (λj hj=>by match j,hj with|0,_=>rfl|1,_=>rfl) (λw S qd he qj qs h9=>?_) ?_ λa w C S ρ κ F J hu hh L=>?_))
 .simp only[T];simp -dsimp only[go_sem,h4,O];exact⟨⟨by omega,by omega⟩,by simp[Vs.LeL,Vs.look,Vs.aB]⟩
 .have qa:∀j (h:j<m.length),G w m[j] (V.getD j default) (M j):=λj h=>hG _ _ _ _ _ (L.2 j h) qs λb H=>h9 b ⟨j,by rw[←L.1];exact h,H⟩;have ql:G w l[i] V[i] (M i):=by have:=qa i qo;rwa [qp,qc] at this
  refine(hF _ (List.getElem_mem hp) Y S w V[i] (M i) (by omega) qn qd (λb H=>qj b ⟨i,U,H⟩) ql).mono ?_;rintro e w' ⟨rfl,q1,q2,q3,q4⟩;refine⟨rfl,q1,λb H hd=>q2 b H λhx=>hd ⟨i,U,hx⟩,q3,by rw[List.length_set];exact L.1,λj hj=>?_⟩;have h5:j<m.length:=by simpa using hj
  rw[List.getElem_set];split
  .subst_vars;rw[qc];exact q4
  .rename_i e;exact hG _ _ _ _ _ (qa j h5) q1 λb H=>q2 b (hL _ _ _ _ (qa j h5) b H) λhx=>e (hd i j b U (by rw[←L.1];exact h5) hx H)
 .simp only[T];simp -dsimp only[go_sem,h4,O];simp[Vs.LeL,Vs.look,Vs.aB]
 show At Tryz.prog _ _ (.region _ _ _) _ a w
 refine At.fw hm F J (N:=fun σ'=>LeL σ' (T (i+1) (Y+tot l[i]))) (E:=λ_ _=>False) ?_ (λa w hg=>?_) (λj a w hg=>hg.no.elim) (λa w hg=>hg.no.elim)
 .simp only[T];simp -dsimp only[go_sem,h4,O];simp[Vs.LeL,Vs.look,Vs.aB,qt]
 obtain⟨S6,ρ6,κ6,qg⟩:=hg.le;refine⟨V.length-(i+1),by omega,i+1,Y+tot l[i],_,C,S6,ρ6,κ6,rfl,by omega,?_,?_,J,hu,qg,hh,L⟩
 .rw[bB hp,aDG,h6];omega
 .rw[bB hp,aFx,hv,←h6,List.set_append_right _ _ (by omega),hq,Nat.sub_self,List.drop_eq_getElem_cons hp,List.set_cons_zero];simp
end
section
variable [Vs.Envs]
attribute [local irreducible] Vs.Fn mkD gW chOK areCh chTo chAt l03 chB rk cd3 chI stp stpTo
theorem aA5 {S:Nat->Prop}{w:World}{k:Nat}{r:List (List AV)}{v:Value} (h:RC S w (.sl k r) v):∃s:Sl,v=slW s:=by
 cases h with
 |sl _ _ base cap=>exact⟨(base,_,cap),rfl⟩
def Gd (w:World) (d:List (List Int)) (s:Sl) (m:Vs.Mem):Prop:=Vs.Dk w (d.map (E cI)) (slW s) m
def Dt (m:Option Nat×Nat) (b:Nat):Prop:=m.1=some b
def Gt (w:World) (t:List Tot) (s:Sl) (m:Option Nat×Nat):Prop:=Vs.Own (λ_=>False) w m.1 m.2 2 (E cT t) (slW s)∧∀b,m.1=some b->b<w.heap.size
theorem aIv (w w':World) (d:List (List Int)) (s:Sl) (m:Vs.Mem) (h:Gd w d s m) (F:w.heap.size<=w'.heap.size) (H:∀b,m.D b->w'.heap[b]? = w.heap[b]?):Gd w' d s m:=h.same F H
theorem aE0 (w w':World) (t:List Tot) (s:Sl) (m:Option Nat×Nat) (h:Gt w t s m) (H:w.heap.size<=w'.heap.size) (I:∀b,Dt m b->w'.heap[b]? = w.heap[b]?):Gt w' t s m:=
 ⟨h.1.mono (λ_ _ h=>h) I,λb F=>Nat.lt_of_lt_of_le (h.2 b F) H⟩
theorem aMO (t:List Tot):∀r,r∈E cT t->Vs.iV r=true:=λr F=>by
 obtain⟨x,_,rfl⟩:=List.mem_map.1 F;rfl
theorem aJy (l:List Tot) (H:l.length<=1048576):Vs.Fn Tryz.prog F.lQ [] [.sl 2 (E cT l)] (.loc (.b 0) 0 l.length) [some (.arr 2 (E cT l) false)]:=
 aHD Tryz.mixed (g:=F.nP) (k:=2) (y:=24) (z:=[.v (.string ⟨#[]⟩),.v (.int .i64 0)]) Cd.l_toTotalS_k.o Cd.l_toTotalS_k.n Cd.l_toTotalS_k.r rfl (λ_=>rfl) (by decide) rfl rfl (λ_=>rfl) (λx I=>aHC x.1 x.2) H (by decide)
theorem aE8 (l:List (List (List Int))) (J:aCq l) {S:Nat->Prop}{w:World}{L:Value} (H:∀b,S b->b<w.heap.size) (I:Env S w) (O:RC S w (.sl 1 (E cD l)) L):Calls Tryz.prog F.nR #[L] w (aLk Vs.Mem.D Gd l w):=
 aK1 Cd.l_toCardSS_k.o Cd.l_toCardSS_k.n Cd.l_toCardSS_k.r (by kernel_rfl) (aAL Cd.l_toCardS_k.o) (l:=l) (c:=λd=>.sl 1 (E cC d)) (λ_=>rfl) J.1 (D:=Vs.Mem.D) (G:=Gd) ⟨none,[],λ_=>none,λ_=>0⟩ aIv (λw d s m h=>h.lt)
  (λd U S w v H Z=>(@aGz ⟨[]⟩ d (J.2 d U) S w v H (λp Y=>by cases Y) Z).mono λe w' ⟨u,I,hg,m,hdk,hn⟩=>by
    obtain⟨s,rfl⟩:=aA5 hdk.rd;exact⟨s,m,I,hg,hdk,hn⟩) H I O
theorem aEp (l:List (List Tot)) (L:aAj l) {S:Nat->Prop}{w:World}{O:Value} (H:∀b,S b->b<w.heap.size) (J:Env S w) (U:RC S w (.sl 1 (E cTs l)) O):Calls Tryz.prog F.lZ #[O] w (aLk Dt Gt l w):=
 aK1 Cd.l_toTotalSS_k.o Cd.l_toTotalSS_k.n Cd.l_toTotalSS_k.r (by kernel_rfl) (aAL Cd.l_toTotalS_k.o) (l:=l) (c:=λt=>.sl 2 (E cT t)) (λ_=>rfl) L.1 (D:=Dt) (G:=Gt) (none,0) aE0 (λw d s m h=>h.2)
  (λt ht S w v H hv=>(@Vs.aJk Tryz.prog ⟨[]⟩ _ _ _ _ _ (@aJy ⟨[]⟩ t (L.2 t ht).1) (aI _).symm (aMO t) S w #[v] H (λp Z=>by cases Z) rfl (λj Y=>by
    match j,Y with
    |0,_=>exact hv)).mono λe w' ⟨u,x,c,J,hg,ho,hn⟩=>by
    obtain⟨s,rfl⟩:=aA5 ho.rc;exact⟨s,(x,c),J,hg,⟨ho,λb I=>(hn b I).2⟩,λb I=>(hn b I).1⟩) H J U
theorem aLB {S:Nat->Prop}{w:World}{ρ:Vs.Name->Option Nat}{κ:Vs.Name->Nat}{g:Vs.Name->Option Vs.Blk}{x y u:Value} (h:RV S w ρ κ g (.agg [.v x,.v y]) u):u=.agg #[x,y]:=by
 obtain⟨vs,rfl,H,F⟩:=qJ h;rw[aJt H,show vs.getD 0 undef=x from bL (F 0 (by simp)),show vs.getD 1 undef=y from bL (F 1 (by simp))]
attribute [local go_sem] List.take_succ_cons List.take_zero Int.reduceBEq Int.reduceBNe cC aI List.replicate_succ List.replicate_zero List.flatten_cons List.flatten_nil List.cons_append List.nil_append List.set_cons_zero List.set_cons_succ List.length_cons List.length_nil List.length_set List.mem_singleton List.mem_cons List.not_mem_nil or_false false_or Vs.Name.t.injEq List.getD_cons_zero List.getD_cons_succ Vs.Name.b.injEq List.getElem?_cons_zero List.getElem?_cons_succ cD cTs cO in
set_option maxRecDepth 20000 in
theorem aBx (o:Off) (ho:dD o) {S:Nat->Prop}{w:World}{vs:Array Value} (hS:∀b,S b->b<w.heap.size) (he:Env S w) (h0:vs.size=1) (Z:∀j,j<1->RC S w (([.agg (cO o)]:List AV).getD j .junk) (vs.getD j undef)):Calls Tryz.prog F.fJ vs w (λe0 w0=>∃tv sv,e0=.returned (.agg #[slW tv,slW sv])∧Vs.tF w w0∧OfNew w w0 o (slW tv) (slW sv)):=by
 obtain⟨h1,h2,_⟩:=Cd.l_toOffice_k.o;obtain⟨h5,H,hc⟩:=Option.bind_eq_some_iff.1 h2;have hz:(Tryz.f8.body.map (zB Tryz.f8.ntmps (bG Tryz.prog)))=some true:=by kernel_rfl
 rw[H] at hz;have hq:=bZ Tryz.mixed;refine Vs.Pt.calls (dr:=bG Tryz.prog) (ac:=Cd.fJ) h1 H hc (by simpa using hz) (args:=[.agg (cO o)]) (by rw[Cd.l_toOffice_k.n];exact Nat.le_of_ble_eq_true rfl) hS he h0 Z λC1 a I hf h6 hp=>?_;unfold Cd.fJ
 refine hp.goS (τ:=⟨[(1,.ptr (.t 1 0) 0 0),(2,.ptr (.t 2 0) 0 0),(3,.ptr (.t 3 0) 0 0)],[(.t 1 0,.var [.sl 1 (E cD o.trays),.sl 1 (E cTs o.totals)] false),(.t 2 0,.var [.v (.slice none 0 0),.v (.slice none 0 0)] false),(.t 3 0,.var [.v (.slice none 0 0),.v (.slice none 0 0)] false)]⟩) hq I 2 _ (E:=λ_ _=>False) [(.t 2 0,.var [.v (.slice none 0 0),.v (.slice none 0 0)] false),(.t 3 0,.var [.v (.slice none 0 0),.v (.slice none 0 0)] false)] (λp hp=>by
     simp only[List.mem_cons,List.not_mem_nil,or_false] at hp;rcases hp with rfl|rfl<;>exact⟨rfl,rfl,rfl⟩) [(1,.ro [.sl 1 (E cD o.trays),.sl 1 (E cTs o.totals)]),(2,.ptr (.t 2 0) 0 0),(3,.ptr (.t 3 0) 0 0)] (λp hp=>?_) (λC hC=>?_) (λi σ h=>h) (λC a w hl hg=>hg.no.elim) λI1 a1 w1 S1 p1 hs=>?_
 .simp only[List.mem_cons,List.not_mem_nil,or_false] at hp;rcases hp with rfl|rfl|rfl
  .exact .inr ⟨rfl,_,rfl,λn hn=>by
     have:n=.t 1 0:=by simpa using hn
     subst this;rfl⟩
  .exact .inl ⟨rfl,rfl⟩
  .exact .inl ⟨rfl,rfl⟩
 .simp -dsimp only[go_sem,slW]
  repeat' first|simp -dsimp only[go_sem,slW]|refine RgK.mk rfl ?_|fail
  all_goals first|(simp[Vs.LeL,Vs.look,Vs.aB];done)|exact⟨by simp[Vs.LeL,Vs.look,Vs.aB],trivial⟩|omega|(and_intros<;>first|trivial|omega|(simp[Vs.LeL,Vs.look,Vs.aB];done))
 refine At.seq (At.rg (hs.rgN I 2 (τ:=⟨[(5,.sl 1 (E cD o.trays)),(1,.ro [.sl 1 (E cD o.trays),.sl 1 (E cTs o.totals)]),(2,.ptr (.t 2 0) 0 0),(3,.ptr (.t 3 0) 0 0)],[(.t 2 0,.var [.v (.slice none 0 0),.v (.slice none 0 0)] false),(.t 3 0,.var [.v (.slice none 0 0),.v (.slice none 0 0)] false)]⟩) ?_ λa2 w2 S2 p2 O=>O.rgc I (ts:=[5]) (ys:=[.sl 1 (E cD o.trays)]) (aAL Cd.l_toCardSS_k.o) rfl rfl λus hd hr=>?_))
 .simp -dsimp only[go_sem,slW]
  first|(simp[Vs.LeL,Vs.look,Vs.aB];done)|(and_intros<;>first|omega|rfl|(simp[Vs.LeL,Vs.look,Vs.aB];done))
 obtain⟨u0,rfl⟩:∃u0,us=#[u0]:=⟨_,Vs.us1 hd rfl⟩;refine(aE8 o.trays ho.1 O.dom O.env (hr 0 Nat.zero_lt_one)).mono ?_;rintro e w3 ⟨v,x0,c0,V,M,rfl,hg,hOw,hVl,hGd,hdis,hout,hnew⟩;obtain⟨s,rfl⟩:=aA5 hOw.rc;refine⟨_,rfl,?_⟩;have ht:=(O.grow hg (D:=λb=>x0=some b∨∃i,i<V.length∧(M i).D b) hnew [(1,.ro [.sl 1 (E cD o.trays),.sl 1 (E cTs o.totals)]),(2,.ptr (.t 2 0) 0 0),(3,.ptr (.t 3 0) 0 0)] (fvC ⟨rfl,.inr rfl⟩ (fvC ⟨rfl,.inl rfl⟩ (fvC ⟨rfl,.inl rfl⟩ fvN)))).put (d:=6) (by rw[I,Cd.l_toOffice_k.n];omega) (slW s)
 letI I3:=Vs.keepE (λb=>S2 b∨x0=some b∨∃i,i<V.length∧(M i).D b) w3
 refine ht.rgN I 2 (τ:=⟨[(1,.ro [.sl 1 (E cD o.trays),.sl 1 (E cTs o.totals)]),(2,.ptr (.t 2 0) 0 0),(3,.ptr (.t 3 0) 0 0)],[(.t 2 0,.var [.v (.slice none 0 0),.v (.slice none 0 0)] false),(.t 3 0,.var [.v (slW s),.v (.slice none 0 0)] false)]⟩) ?_ λa4 w4 S4 p4 hv=>RgL.nil ?_
 .simp -dsimp only[go_sem,slW]
  first|(simp[Vs.LeL,Vs.look,Vs.aB];done)|(and_intros<;>first|omega|rfl|(simp[Vs.LeL,Vs.look,Vs.aB];done))
 refine At.seq (At.rg (hv.rgN I 2 (τ:=⟨[(9,.sl 1 (E cTs o.totals)),(2,.ptr (.t 2 0) 0 0),(3,.ptr (.t 3 0) 0 0)],[(.t 2 0,.var [.v (.slice none 0 0),.v (.slice none 0 0)] false),(.t 3 0,.var [.v (slW s),.v (.slice none 0 0)] false)]⟩) ?_ λa5 w5 S5 p5 J=>J.rgc I (ts:=[9]) (ys:=[.sl 1 (E cTs o.totals)]) (aAL Cd.l_toTotalSS_k.o) rfl rfl λus hd hr=>?_))
 .simp -dsimp only[go_sem,slW]
  first|(simp[Vs.LeL,Vs.look,Vs.aB];done)|(and_intros<;>first|omega|rfl|(simp[Vs.LeL,Vs.look,Vs.aB];done))
 obtain⟨u1,rfl⟩:∃u1,us=#[u1]:=⟨_,Vs.us1 hd rfl⟩;refine(aEp o.totals ho.2 J.dom J.env (hr 0 Nat.zero_lt_one)).mono ?_;rintro e w6 ⟨v,y0,d0,V2,M2,rfl,hg2,hOw2,hVl2,hGt,hdis2,hout2,hnew2⟩;obtain⟨s2,rfl⟩:=aA5 hOw2.rc;refine⟨_,rfl,?_⟩;have hw:=(J.grow hg2 (D:=λb=>y0=some b∨∃i,i<V2.length∧Dt (M2 i) b) hnew2 [(2,.ptr (.t 2 0) 0 0),(3,.ptr (.t 3 0) 0 0)] (fvC ⟨rfl,.inl rfl⟩ (fvC ⟨rfl,.inl rfl⟩ fvN))).put (d:=10) (by rw[I,Cd.l_toOffice_k.n];omega) (slW s2)
 letI I6:=Vs.keepE (λb=>S5 b∨y0=some b∨∃i,i<V2.length∧Dt (M2 i) b) w6
 refine hw.rgN I 2 (τ:=⟨[(2,.ptr (.t 2 0) 0 0),(3,.ptr (.t 3 0) 0 0)],[(.t 2 0,.var [.v (.slice none 0 0),.v (.slice none 0 0)] false),(.t 3 0,.var [.v (slW s),.v (slW s2)] false)]⟩) ?_ λa7 w7 S7 p7 hx=>RgL.nil ?_
 .simp -dsimp only[go_sem,slW]
  first|(simp[Vs.LeL,Vs.look,Vs.aB];done)|(and_intros<;>first|omega|rfl|(simp[Vs.LeL,Vs.look,Vs.aB];done))
 refine At.seq (At.rg (hx.rgN I 2 (τ:=⟨[(2,.ptr (.t 2 0) 0 0)],[(.t 2 0,.var [.v (slW s),.v (slW s2)] false)]⟩) ?_ λa8 w8 S8 p8 Y=>RgL.nil ?_))
 .simp -dsimp only[go_sem,slW]
  first|(simp[Vs.LeL,Vs.look,Vs.aB];done)|(and_intros<;>first|omega|rfl|(simp[Vs.LeL,Vs.look,Vs.aB];done))
 obtain ⟨hm,u,ρ,κ,hy,h3,_⟩:=Y.resX (fn:=Tryz.f8) (x:=.agg [.v (slW s),.v (slW s2)]) (by
   show Vs.uE Tryz.prog _ _ [_]
   simp -dsimp only[go_sem,slW]
   try simp[Vs.uZ])
 have hu:=aLB h3;subst hu;have hh:Vs.Past (λb=>S2 b∨x0=some b∨∃i,i<V.length∧(M i).D b) w3 S5 w5:=p4.trans p5;have h4:Vs.Past S5 w5 (λb=>S5 b∨y0=some b∨∃i,i<V2.length∧Dt (M2 i) b) w6:=Vs.Past.grow hg2 J.dom;have U:Vs.Past (λb=>S5 b∨y0=some b∨∃i,i<V2.length∧Dt (M2 i) b) w6 S8 w8:=p7.trans p8;have pA:=(hh.trans h4).trans U;have h7:w.heap.size<=w2.heap.size:=hf ▸ O.size;have h8:w.heap.size<=w5.heap.size:=hf ▸ J.size;refine At.ret ⟨.inl rfl,hm,_,hy,s,s2,rfl,hf ▸ Y.out,⟨x0,c0,V,M,y0,d0,V2,λi=>(M2 i).1,λi=>(M2 i).2⟩,⟨hOw.mono (λ_ _ h=>h) λb H=>pA.old b (.inr (.inl H)),hVl.symm,λi hi=>?_,hdis,λi b hi H=>hout i b hi H,hOw2.mono (λ_ _ h=>h) λb H=>U.old b (.inr (.inl H)),⟨by simp[hVl2],λi hi=>?_,λi j b hi hj=>hdis2 i j b (by simpa using hi) (by simpa using hj)⟩,λi b hi H=>hout2 i b hi H,λb h1 h2=>?_,λb H=>?_⟩,λb H=>?_⟩
 .have L:i<o.trays.length:=by rw[←hVl];exact hi
  have:=(hGd i L).same (w':=w8) pA.size λb H=>pA.old b (.inr (.inr ⟨i,hi,H⟩))
  rwa [show o.trays.getD i []=o.trays[i] by simp[L]]
 .have ha:i<V2.length:=by simpa using hi
  have L:i<o.totals.length:=by rw[←hVl2];exact ha
  have:=(aE0 _ w8 _ _ _ (hGt i L) U.size λb H=>U.old b (.inr (.inr ⟨i,ha,H⟩))).1;rw[show(o.totals.map (E cT)).getD i []=E cT o.totals[i] by simp[L],show(V2.map slW).getD i undef=slW (V2.getD i default) by simp[ha]];exact this
 .have hk:S5 b:=hh.sub b (.inr h1);have:=J.dom b hk;have:=(hnew2 b h2).1;omega
 .rcases H with H|H
  .exact Y.dom b (pA.sub b (.inr H))
  .exact Y.dom b (U.sub b (.inr H))
 .rcases H with H|H
  .have:=(hnew b H).1;omega
  .have:=(hnew2 b H).1;omega
end
section
variable [Vs.Envs]
attribute [local irreducible] Vs.Fn mkD gW mtx chOK areCh chTo chAt l03 chB rk cd3 chI stp stpTo
def aDq (t:List Tot):Nat:=2*t.length
def mkT (k:Nat) (t:List Tot):List Tot:=mkR (mT k) t t.length
def pW (o:Off):Nat:=gN gW o.trays+gN aDq o.totals
def mkO (k:Nat) (o:Off):Off:=⟨mkQ mkD gW k o.trays,mkQ mkT aDq (k+gN gW o.trays) o.totals⟩
theorem OfM.markT {w w':World}{o:Off}{Y U:Value}{m:OM} (h:OfM w o Y U m) {T:List (List (List Int))} (L:T.length=o.trays.length) (hs:w.heap.size<=w'.heap.size) (O:∀b,b<w.heap.size->(∀i,i<m.TV.length->¬(m.M i).D b)->w'.heap[b]? = w.heap[b]?) (Z:∀i (h:i<T.length),Gd w' T[i] (m.TV.getD i default) (m.M i)):OfM w' ⟨T,o.totals⟩ Y U m:=by
 have J:∀b,m.DS b->w'.heap[b]? = w.heap[b]?:=λb F=>O b (h.lt b (.inr F)) λi hi I=>h.dis b (.inr ⟨i,hi,I⟩) F;refine⟨h.tr.mono (λ_ _ h=>h) λb F=>O b (h.lt b (.inl (.inl F))) λi hi I=>h.tout i b hi I F,by show T.length=_;rw[L];exact h.tn,λi hi=>?_,h.tdis,h.tout,h.sr.mono (λ_ _ h=>h) λb F=>J b (.inl F),h.sl.mono (λ_ _ _ _ h=>h) λi b hi F=>J b (.inr ⟨i,by simpa using hi,F⟩),h.sout,h.dis,λb F=>Nat.lt_of_lt_of_le (h.lt b F) hs⟩;have H:i<T.length:=by rw[L,h.tn];exact hi
 show Vs.Dk w' ((T.getD i []).map (E cI)) _ _
 rw[show T.getD i []=T[i] by simp[H]];exact Z i H
theorem OfM.markS {w w':World}{o:Off}{tv sv:Value}{m:OM} (h:OfM w o tv sv m) {U:List (List Tot)} (O:U.length=o.totals.length) (Y:w.heap.size<=w'.heap.size) (Z:∀b,b<w.heap.size->(∀i,i<m.SV.length->m.ys i≠some b)->w'.heap[b]? = w.heap[b]?) (hd:∀i (h:i<U.length),Gt w' U[i] (m.SV.getD i default) (m.ys i,m.cs i)):OfM w' ⟨o.trays,U⟩ tv sv m:=by
 have L:∀b,m.DT b->w'.heap[b]? = w.heap[b]?:=λb F=>Z b (h.lt b (.inl F)) λi hi J=>h.dis b F (.inr ⟨i,hi,J⟩);refine⟨h.tr.mono (λ_ _ h=>h) λb F=>L b (.inl F),h.tn,λi hi=>(h.dk i hi).same Y λb F=>L b (.inr ⟨i,hi,F⟩),h.tdis,h.tout,h.sr.mono (λ_ _ h=>h) λb F=>Z b (h.lt b (.inr (.inl F))) λi hi J=>h.sout i b hi J F,⟨by simp[O,h.sn],λi hi=>?_,h.sl.dif⟩,h.sout,h.dis,λb F=>Nat.lt_of_lt_of_le (h.lt b F) Y⟩;have I:i<m.SV.length:=by simpa using hi
 have H:i<U.length:=by rw[O,h.sn];exact I
 have:=(hd i H).1;rw[show(U.map (E cT)).getD i []=E cT U[i] by simp[H],show(m.SV.map slW).getD i undef=slW (m.SV.getD i default) by simp[I]];exact this
theorem aDw (l:List (List (List Int))) (hl:aCq l) {V:List Sl}{M:Nat->Vs.Mem} (H:l.length=V.length) {J:Nat} (L:0<J) (Z:J+gN gW l<=900000000) {S:Nat->Prop}{w:World}{v:Value} (O:∀b,S b->b<w.heap.size) (he:Env S w) (I:∀i b,i<V.length->(M i).D b->¬S b) (h0:RC S w (.sl 1 (E sV V)) v)
  (Y:∀i (h:i<l.length),Gd w l[i] (V.getD i default) (M i)) (U:∀i j b,i<V.length->j<V.length->(M i).D b->(M j).D b->i=j) :
  Calls Tryz.prog F.mU #[v,.int .i64 (J:Nat)] w λe w'=>e=.returned (.int .i64 (J+gN gW l:Nat))∧w.heap.size<=w'.heap.size∧(∀b,b<w.heap.size->(∀i,i<V.length->¬(M i).D b)->w'.heap[b]? = w.heap[b]?)∧(w'.os=w.os∧w'.output=w.output)∧∀i (h:i<(mkQ mkD gW J l).length),Gd w' (mkQ mkD gW J l)[i] (V.getD i default) (M i):=
 aKm Cd.l_markCardSS_k.o Cd.l_markCardSS_k.n Cd.l_markCardSS_k.r (by kernel_rfl) (aAL Cd.l_markCardS_k.o) (D:=Vs.Mem.D) (G:=Gd) (mk:=mkD) (tot:=gW) (K:=900000000) (by decide) aIv (λw d s m h=>h.lt)
  (λd U k S w s m L Z O I Y=>@aEJ ⟨[]⟩ k (by omega) S w (slW s) d m (hl.2 d U) O (λp hp=>by cases hp) I Y) H (by rw[←H];exact hl.1) L Z O he I h0 Y U
theorem aCM (l:List (List Tot)) (hl:aAj l) {V:List Sl}{M:Nat->Option Nat×Nat} (H:l.length=V.length) {L:Nat} (I:0<L) (hk:L+gN aDq l<=900000000) {S:Nat->Prop}{w:World}{v:Value} (U:∀b,S b->b<w.heap.size) (he:Env S w) (J:∀i b,i<V.length->Dt (M i) b->¬S b) (h0:RC S w (.sl 1 (E sV V)) v)
  (O:∀i (h:i<l.length),Gt w l[i] (V.getD i default) (M i)) (hd:∀i j b,i<V.length->j<V.length->Dt (M i) b->Dt (M j) b->i=j) :
  Calls Tryz.prog F.kV #[v,.int .i64 (L:Nat)] w λe w'=>e=.returned (.int .i64 (L+gN aDq l:Nat))∧w.heap.size<=w'.heap.size∧(∀b,b<w.heap.size->(∀i,i<V.length->¬Dt (M i) b)->w'.heap[b]? = w.heap[b]?)∧(w'.os=w.os∧w'.output=w.output)∧∀i (h:i<(mkQ mkT aDq L l).length),Gt w' (mkQ mkT aDq L l)[i] (V.getD i default) (M i):=
 aKm Cd.l_markTotalSS_k.o Cd.l_markTotalSS_k.n Cd.l_markTotalSS_k.r (by kernel_rfl) (aAL Cd.l_markTotalS_k.o) (D:=Dt) (G:=Gt) (mk:=mkT) (tot:=aDq) (K:=900000000) (by decide) aE0 (λw d s m h=>h.2)
  (λt ht k S w s m I hk U J O=>by
    have h1:=O.1;have hF:=@aGU ⟨[]⟩ t k (hl.2 t ht).1 I (by omega);have Z:(E cT t).length=t.length:=aI _;refine(@Vs.aEc ⟨[]⟩ Tryz.prog w S _ _ _ _ _ _ (by rw[Z];exact hF) (aMO _) m.1 m.2 (slW s) (h1.mono (λb Y=>J b Y) λ_ _=>rfl) U (λp hp=>by cases hp)).mono ?_;rintro e w' ⟨rfl,q1,q2,q3,q4,_⟩;exact⟨rfl,q1,q2,q3,q4.mono (λ_ _ h=>h) λ_ _=>rfl,λb Y=>Nat.lt_of_lt_of_le (O.2 b Y) q1⟩) H (by rw[←H];exact hl.1) I hk U he J h0 O hd
attribute [local go_sem] Int.reduceBEq Int.reduceBNe cC aI List.replicate_succ List.replicate_zero List.flatten_cons List.flatten_nil List.cons_append List.nil_append List.set_cons_zero List.set_cons_succ List.length_cons List.length_nil List.length_set List.mem_singleton List.mem_cons List.not_mem_nil or_false false_or Vs.Name.t.injEq List.getD_cons_zero List.getD_cons_succ Vs.Name.b.injEq List.getElem?_cons_zero List.getElem?_cons_succ cD cTs cO in
set_option maxRecDepth 20000 in
theorem zH (o:Off) (ho:dD o) {tv sv:Sl}{m:OM}{I:Nat} (h3:0<I) (hk:I+pW o<=900000000) {S:Nat->Prop}{w:World} (hS:∀b,S b->b<w.heap.size) (he:Env S w) (h5:∀b,m.D b->¬S b) (hv:OfM w o (slW tv) (slW sv) m) :
  Calls Tryz.prog F.iI #[.agg #[slW tv,slW sv],.int .i64 (I:Nat)] w λe w'=>e=.returned (.int .i64 (I+pW o:Nat))∧w.heap.size<=w'.heap.size∧(∀b,b<w.heap.size->¬m.D b->w'.heap[b]? = w.heap[b]?)∧(w'.os=w.os∧w'.output=w.output)∧OfM w' (mkO I o) (slW tv) (slW sv) m:=by
 obtain⟨wO,rfl⟩:∃x,x=w:=⟨_,rfl⟩;obtain⟨h1,h2,_⟩:=Cd.l_markOffice_k.o;obtain⟨h9,L,hc⟩:=Option.bind_eq_some_iff.1 h2;have hz:(Tryz.f15.body.map (zB Tryz.f15.ntmps (bG Tryz.prog)))=some true:=by kernel_rfl
 rw[L] at hz;have hs:=bZ Tryz.mixed;refine yC (dr:=bG Tryz.prog) (ac:=Cd.iI) h1 L hc (by simpa using hz) (args:=[.agg [.v (slW tv),.v (slW sv)],.v (.int .i64 (I:Nat))]) (by rw[Cd.l_markOffice_k.n];exact Nat.le_of_ble_eq_true rfl) hS he rfl (λj hj=>?_) m.D λa J=>?_
 .match j,hj with
  |0,_=>exact aFw _ _
  |1,_=>exact .v _
 generalize hd:(⟨Tryz.f15.ntmps,wO,S,m.D,λ_=>none,λ_=>0,λ_=>none⟩:Ctx)=C0 at J;have h6:C0.nt=Tryz.f15.ntmps:=by rw[←hd]
 have hg:C0.w0=wO:=by rw[←hd]
 have hM:∀b,m.D b->C0.Mut b:=λb h=>by rw[←hd];exact h
 have hq:=J.later;have ht:=J.hid (D:=m.D) hv.lt h5 (λb _ n hn=>by simp[St.f,Vs.aB] at hn);have hl:=J.anew;generalize hy:C0.anew wO S _ _=C1 at hq ht hl;have h0:C1.w0=wO:=by rw[←hy];rfl
 have Z:C1.nt=Tryz.f15.ntmps:=hq.nt.trans h6;unfold Cd.iI;refine At.step ⟨[(1,.v (.int .i64 (I:Nat))),(2,.ptr (.t 2 0) 0 0)],[(.t 2 0,.var [.v (slW tv),.v (slW sv)] false)]⟩ hs hl Z ?_ λa w1 S1 ρ1 κ1 J=>?_
 .simp -dsimp only[go_sem,slW]
  try simp[Vs.LeL,Vs.look,Vs.aB]
 have h4:I+gN gW o.trays<=900000000:=by unfold pW at hk;omega
 refine At.seq (At.mark (R:=λw'=>OfM w' ⟨mkQ mkD gW I o.trays,o.totals⟩ (slW tv) (slW sv) m) (τ:=⟨[(6,.v (slW tv)),(7,.v (.int .i64 (I:Nat))),(2,.ptr (.t 2 0) 0 0)],[(.t 2 0,.var [.v (slW tv),.v (slW sv)] false)]⟩) (τ':=⟨[(1,.v (.int .i64 (I+gN gW o.trays:Nat))),(2,.ptr (.t 2 0) 0 0)],[(.t 2 0,.var [.v (slW tv),.v (slW sv)] false)]⟩) J Z hq ht hM (pre:=[⟨some 5,.fieldAddr 0 (.tmp 2),none⟩,⟨some 6,.load false 1 (.tmp 5),none⟩,⟨some 7,.mv (.tmp 1),none⟩]) (post:=[⟨some 1,.mv (.tmp 8),none⟩]) (ts:=[6,7]) (vs:=[slW tv,.int .i64 (I:Nat)]) (u:=.int .i64 (I+gN gW o.trays:Nat)) (aAL Cd.l_markCardSS_k.o) (by rw[Cd.l_markOffice_k.n];omega) ?_ rfl (λi hi=>by match i,hi with|0,_=>rfl|1,_=>rfl) (λw S ha he hm hf O=>?_) ?_ λa w C S ρ κ J Y hr hh hR=>?_)
 .simp -dsimp only[go_sem,slW]
  first|(simp[Vs.LeL,Vs.look,Vs.aB];done)|(and_intros<;>first|omega|rfl|(simp[Vs.LeL,Vs.look,Vs.aB];done))
 .rw[h0] at hf O;have H:=hv.same hf O
  refine (aDw o.trays ho.1 (M:=m.M) (S:=λb=>S b∨m.xt=some b) H.tn h3 h4 (λb L=>L.elim (ha b) λh=>H.lt b (.inl (.inl h))) (he.mono (λ_ h=>.inl h) λ_ _=>rfl) (λi b hi L h=>h.elim (hm b (.inl (.inr ⟨i,hi,L⟩))) (H.tout i b hi L)) (H.tr.rc.mono (λ_ h=>.inr h) λ_ _=>rfl) (λi h=>by
    have:=H.dk i (by rw[←H.tn];exact h)
    rwa [show o.trays.getD i []=o.trays[i] by simp[h]] at this) H.tdis).mono ?_
  rintro e w' ⟨rfl,q1,q2,q3,q4⟩;exact⟨rfl,q1,λb L hD=>q2 b L λi hi h=>hD (.inl (.inr ⟨i,hi,h⟩)),q3,H.markT (aB2 _ _) q1 q2 q4⟩
 .simp -dsimp only[go_sem,slW]
  first|(simp[Vs.LeL,Vs.look,Vs.aB];done)|(and_intros<;>first|omega|rfl|(simp[Vs.LeL,Vs.look,Vs.aB];done))
 refine At.seq (At.mark (R:=λw'=>OfM w' (mkO I o) (slW tv) (slW sv) m) (τ:=⟨[(10,.v (slW sv)),(11,.v (.int .i64 (I+gN gW o.trays:Nat)))],[]⟩) (τ':=⟨[(1,.v (.int .i64 (I+pW o:Nat)))],[]⟩) J Y hr hh hM (pre:=[⟨some 9,.fieldAddr 1 (.tmp 2),none⟩,⟨some 10,.load false 1 (.tmp 9),none⟩,⟨some 11,.mv (.tmp 1),none⟩]) (post:=[⟨some 1,.mv (.tmp 12),none⟩]) (ts:=[10,11]) (vs:=[slW sv,.int .i64 (I+gN gW o.trays:Nat)]) (u:=.int .i64 (I+pW o:Nat)) (aAL Cd.l_markTotalSS_k.o) (by rw[Cd.l_markOffice_k.n];omega) ?_ rfl (λi hi=>by match i,hi with|0,_=>rfl|1,_=>rfl) (λw S ha he hm hf O=>?_) ?_ λa w C S ρ κ J Y hr hh hR=>?_)
 .simp -dsimp only[go_sem,slW]
  first|(simp[Vs.LeL,Vs.look,Vs.aB];done)|(and_intros<;>first|omega|rfl|(simp[Vs.LeL,Vs.look,Vs.aB];done))
 .have H:=hR.same hf O;have eT:I+pW o=I+gN gW o.trays+gN aDq o.totals:=by unfold pW;omega
  have hx:o.totals.length=m.SV.length:=H.sn;refine(aCM o.totals ho.2 (V:=m.SV) (M:=λi=>(m.ys i,m.cs i)) (S:=λb=>S b∨m.xs=some b) hx (by omega) (by omega) (λb L=>L.elim (ha b) λh=>H.lt b (.inr (.inl h))) (he.mono (λ_ h=>.inl h) λ_ _=>rfl) (λi b hi L h=>h.elim (hm b (.inr (.inr ⟨i,hi,L⟩))) (H.sout i b hi L)) (H.sr.rc.mono (λ_ h=>.inr h) λ_ _=>rfl) (λi h=>?_) (λi j b hi hj=>H.sl.dif i j b (by simpa using hi) (by simpa using hj))).mono ?_
  .have hi:i<m.SV.length:=by rw[←hx];exact h
   have:=H.sl.row i (by simpa using hi);rw[show(o.totals.map (E cT)).getD i []=E cT o.totals[i] by simp[h],show(m.SV.map slW).getD i undef=slW (m.SV.getD i default) by simp[hi]] at this;exact⟨this,λb L=>H.lt b (.inr (.inr ⟨i,hi,L⟩))⟩
  .rintro e w' ⟨rfl,q1,q2,q3,q4⟩;exact⟨by rw[eT],q1,λb L hD=>q2 b L λi hi h=>hD (.inr (.inr ⟨i,hi,h⟩)),q3,H.markS (aB2 _ _) q1 q2 q4⟩
 .simp -dsimp only[go_sem,slW]
  first|(simp[Vs.LeL,Vs.look,Vs.aB];done)|(and_intros<;>first|omega|rfl|(simp[Vs.LeL,Vs.look,Vs.aB];done))
 refine At.step ⟨[(4,.v (.int .i64 (I+pW o:Nat)))],[]⟩ hs J Y ?_ λa w7 S7 ρ7 κ7 U=>?_
 .simp -dsimp only[go_sem,slW];simp[Vs.LeL,Vs.look,Vs.aB]
 refine At.ret ⟨.inl rfl,U.defers,?_⟩
 obtain ⟨x,v,h7,h8,hw⟩:=Vs.tL U (fn:=Tryz.f15) (K:=λx=>x=.v (.int .i64 (I+pW o:Nat))) (by
   show Vs.uE Tryz.prog _ _ [_]
   simp[Vs.uE,Vs.aDu,Vs.look,Vs.uZ])
 subst h7;have hp:=U.back hr;refine⟨v,hw,by rw[bL h8],by have:=hp.size;rw[hg] at this;exact this,λb L hu=>?_,by have:=hp.out;rw[hg] at this;exact this,hR.same U.size (hh.same U).1⟩;have:=hp.old b (by rw[hg];exact L) (by rw[←hd];exact hu);rw[hg] at this;exact this
end
section
variable [Vs.Envs]
attribute [local irreducible] Vs.Fn mkD gW mtx chOK areCh chTo chAt l03 chB rk cd3 chI stp stpTo
theorem aCn {l:List Int}{n:Int} (H:l.length<2 ^ 63) (F:0<=n) (I:n<=1048576) (h:0<=szI l n):szI l n<=n:=(aGD H F I h).1
def aLb (l:List (List Int)):Prop:=l.length<2 ^ 63∧∀c,c∈l->c.length<2 ^ 63
def bigD (l:List (List (List Int))):Prop:=l.length<2 ^ 63∧∀c,c∈l->aLb c
def bigT (l:List Tot):Prop:=l.length<2 ^ 63∧∀c,c∈l->c.1.size<2 ^ 63
def aMQ (l:List (List Tot)):Prop:=l.length<2 ^ 63∧∀c,c∈l->bigT c
def aEY (o:Off):Prop:=bigD o.trays∧aMQ o.totals
def zN (l:List (List Int)) (n:Int):Int:=szL szI l n
def aDr (l:List Tot) (n:Int):Int:=szL aDD l n
theorem yI {l:List (List Int)} (F:aLb l) (n:Int) (H:0<=n) (I:n<=1048576) (h:0<=zN l n):zN l n<=n:=
 (rD (λx J _ a b c=>aCn (F.2 x J) a b c) F.1 H I h).1
theorem aA0 {l:List Tot} (F:bigT l) (n:Int) (H:0<=n) (I:n<=1048576) (h:0<=aDr l n):aDr l n<=n:=
 (rD (λx J _ a b c=>xB (F.2 x J) a b c) F.1 H I h).1
theorem aGE {l:List (List Int)} (F:aLb l) {n:Int} (I:0<=n) (L:n<=1048576) (h:0<=zN l n):bJ l:=by
 refine⟨?_,λc J=>?_⟩
 .have:=(rD (λx H _ a b c=>aCn (F.2 x H) a b c) F.1 I L h).2;omega
 .obtain⟨m,O,h2,U⟩:=aEs (λx H _ a b c=>aCn (F.2 x H) a b c) F.1 I L h c J;have:=(aGD (F.2 c J) O h2 U).2;omega
theorem aGA {l:List Tot} (F:bigT l) {n:Int} (I:0<=n) (L:n<=1048576) (h:0<=aDr l n):aEx l:=by
 refine⟨?_,λc J=>?_⟩
 .have:=(rD (λx H _ a b c=>xB (F.2 x H) a b c) F.1 I L h).2;omega
 .obtain⟨m,O,h2,U⟩:=aEs (λx H _ a b c=>xB (F.2 x H) a b c) F.1 I L h c J;have:=(aEq (F.2 c J) O h2 U).2;omega
def dB (o:Off) (n:Int):Int:=if szL zN o.trays n<0 then -1 else if szL aDr o.totals (szL zN o.trays n)<0 then -1 else szL aDr o.totals (szL zN o.trays n)
theorem aGC {o:Off} (F:aEY o) {n:Int} (U:0<=n) (Y:n<=1048576) (h:0<=dB o n):dB o n<=n∧dD o:=by
 unfold dB at h⊢;split at h
 .omega
 .rename_i Z;rw[if_neg Z];split at h
  .omega
  .rename_i h2;rw[if_neg h2];obtain⟨a1,a2⟩:=rD (λx H n a b c=>yI (F.1.2 x H) n a b c) F.1.1 U Y (by omega:0<=szL zN o.trays n);obtain⟨b1,b2⟩:=rD (λx H n a b c=>aA0 (F.2.2 x H) n a b c) F.2.1 (by omega) (by omega) h;refine⟨by omega,⟨by omega,λd I=>?_⟩,⟨by omega,λd I=>?_⟩⟩
   .obtain⟨m,J,L,O⟩:=aEs (λx H n a b c=>yI (F.1.2 x H) n a b c) F.1.1 U Y (by omega:0<=szL zN o.trays n) d I;exact aGE (F.1.2 d I) J L O
   .obtain⟨m,J,L,O⟩:=aEs (λx H n a b c=>aA0 (F.2.2 x H) n a b c) F.2.1 (by omega) (by omega) h d I;exact aGA (F.2.2 d I) J L O
theorem aJJ (l:List (List (List Int))) (n:Int) (H:bigD l) (J:0<=n∧n<=1048576):Fz F.rZ [.sl 1 (E cD l),.v (.int .i64 n)] (.v (.int .i64 (szL zN l n))):=
 aJG Tryz.mixed (d:=λx=>.sl 1 (E cC x)) (g:=F.qU) Cd.l_szCardSS_k.o Cd.l_szCardSS_k.n Cd.l_szCardSS_k.r rfl zN (λ_=>rfl) (λx I n L J=>aLu x n (H.2 x I).2 (H.2 x I).1 ⟨L,J⟩) (λx I n a b c=>yI (H.2 x I) n a b c) n H.1 J
theorem aIB (l:List (List Tot)) (n:Int) (H:aMQ l) (J:0<=n∧n<=1048576):Fz F.oW [.sl 1 (E cTs l),.v (.int .i64 n)] (.v (.int .i64 (szL aDr l n))):=
 aJG Tryz.mixed (d:=λx=>.sl 2 (E cT x)) (g:=F.nS) Cd.l_szTotalSS_k.o Cd.l_szTotalSS_k.n Cd.l_szTotalSS_k.r rfl aDr (λ_=>rfl) (λx I n L J=>aJE x n (H.2 x I).2 (H.2 x I).1 ⟨L,J⟩) (λx I n a b c=>aA0 (H.2 x I) n a b c) n H.1 J
theorem aJC (l:List (List (List Int))) (H:aCq l):Fz F.nR [.sl 1 (E cD l)] (.sl 1 (E cD l)):=
 aJA Tryz.mixed (d:=λx=>.sl 1 (E cC x)) (y:=24) (z:=[.v (.slice none 0 0)]) (g:=F.jC) Cd.l_toCardSS_k.o Cd.l_toCardSS_k.n Cd.l_toCardSS_k.r rfl rfl rfl (λ_=>⟨_,_,rfl⟩) (λx I=>aLp x (H.2 x I).2 (H.2 x I).1) H.1 (by omega)
theorem aIA (l:List (List Tot)) (H:aAj l):Fz F.lZ [.sl 1 (E cTs l)] (.sl 1 (E cTs l)):=
 aJA Tryz.mixed (d:=λx=>.sl 2 (E cT x)) (y:=24) (z:=[.v (.slice none 0 0)]) (g:=F.lQ) Cd.l_toTotalSS_k.o Cd.l_toTotalSS_k.n Cd.l_toTotalSS_k.r rfl rfl rfl (λ_=>⟨_,_,rfl⟩) (λx I=>aJx x (H.2 x I).1) H.1 (by omega)
theorem aKT (l:List (List (List Int))) (H:aCq l):Fz F.sF [.sl 1 (E cD l),.sl 1 (E cD l)] (.v (.bool true)):=
 aKR Tryz.mixed (d:=λx=>.sl 1 (E cC x)) (g:=F.qX) Cd.l_eqCardSS_k.o Cd.l_eqCardSS_k.n Cd.l_eqCardSS_k.r rfl (λ_=>rfl) (λx I=>aMj x (H.2 x I).2 (H.2 x I).1) H.1
theorem aJc (l:List (List Tot)) (H:aAj l):Fz F.oZ [.sl 1 (E cTs l),.sl 1 (E cTs l)] (.v (.bool true)):=
 aKR Tryz.mixed (d:=λx=>.sl 2 (E cT x)) (g:=F.nU) Cd.l_eqTotalSS_k.o Cd.l_eqTotalSS_k.n Cd.l_eqTotalSS_k.r rfl (λ_=>rfl) (λx I=>aKQ x (H.2 x I).1) H.1
theorem aAf (o:Off) (n:Int) (H:aEY o) (I:0<=n∧n<=1048576):Fz F.rX [.agg (cO o),.v (.int .i64 n)] (.v (.int .i64 (dB o n))):=by
 refine fn0 Cd.l_szOffice_k λX=>?_;simp -dsimp only[go_sem,cO];refine aD.flat (aJJ _ _ H.1 I) rfl ?_;simp -dsimp only[go_sem];refine Br.mk (λh=>?_) λh=>?_
 .simp -dsimp only[go_sem];simp only[decide_eq_true_eq] at h;simp[dB,h]
 .simp only[decide_eq_false_iff_not] at h;have L:=(rD (λx J n a b c=>yI (H.1.2 x J) n a b c) H.1.1 I.1 I.2 (by omega:0<=szL zN o.trays n)).1;simp -dsimp only[go_sem];refine aD.flat (aIB _ _ H.2 ⟨by omega,by omega⟩) rfl ?_;simp -dsimp only[go_sem];refine Br.mk (λh2=>?_) λh2=>?_
  .simp -dsimp only[go_sem];simp only[decide_eq_true_eq] at h2;simp[dB,h,h2]
  .simp -dsimp only[go_sem];simp only[decide_eq_false_iff_not] at h2;simp[dB,h,h2]
theorem uL (o:Off) (H:dD o):Fz F.fJ [.agg (cO o)] (.agg (cO o)):=by
 refine fn0 Cd.l_toOffice_k λX=>?_
 repeat' first|simp -dsimp only[go_sem,cO]|apply Br.mk<;>intro h<;>try simp -dsimp only[h]|refine aD.c (by first|exact aJC _ H.1|exact aIA _ H.2) ?_|refine aC ?_|fail
 all_goals(exact⟨_,_,rfl,rfl⟩)
theorem aF7 (o:Off) (H:dD o):Fz F.r9 [.agg (cO o),.agg (cO o)] (.v (.bool true)):=by
 refine fn0 Cd.l_eqOffice_k λX=>?_
 repeat' first|simp -dsimp only[go_sem,cO]|apply Br.mk<;>intro h<;>try simp -dsimp only[h]|refine aD.c (by first|exact aKT _ H.1|exact aJc _ H.2) ?_|refine aC ?_|fail
 all_goals(simp_all)
def gTot (p:S63×I64):Tot:=(p.1.1,p.2.1)
abbrev ACard:={l:List I64 // l.length<2 ^ 63}
abbrev aE4:={l:List ACard // l.length<2 ^ 63}
abbrev aE3:={l:List aE4 // l.length<2 ^ 63}
abbrev aMA:={l:List (S63×I64) // l.length<2 ^ 63}
abbrev aDo:={l:List aMA // l.length<2 ^ 63}
def aCV (d:aE4):List (List Int):=d.1.map λc=>c.1.map λn=>n.1
def gOff (p:aE3×aDo):Off:=⟨p.1.1.map aCV,p.2.1.map λt=>t.1.map gTot⟩
theorem aHa (d:aE4):aLb (aCV d):=by
 refine⟨by simpa[aCV] using d.2,λc F=>?_⟩;obtain⟨x,_,rfl⟩:=List.mem_map.1 F;simpa using x.2
theorem gOff_big (p:aE3×aDo):aEY (gOff p):=by
 refine⟨⟨by simpa[gOff] using p.1.2,λd F=>?_⟩,⟨by simpa[gOff] using p.2.2,λd F=>?_⟩⟩
 .obtain⟨x,_,rfl⟩:=List.mem_map.1 F;exact aHa x
 .obtain⟨x,_,rfl⟩:=List.mem_map.1 F;refine⟨by simpa using x.2,λt H=>?_⟩;obtain⟨y,_,rfl⟩:=List.mem_map.1 H;exact y.1.2
theorem aG9 (d:aE4):E cC (aCV d)=d.1.map aD4:=by
 simp only[aCV,E_map];congr 1
 funext c
 simp only[cC,E_map];rfl
theorem gOff_enc (p:aE3×aDo):cO (gOff p)=aIe p:=by
 simp only[cO,gOff,E_map,cD,cTs,aG9];rfl
theorem aFd {α:Type}{f:α->Int->Int}{g:α->Nat}:∀{l:List α}{n:Int},(∀x,x∈l->∀n,0<=n->n<=1048576->0<=f x n->f x n+g x<=n)->0<=n->n<=1048576->0<=vX f l n->vX f l n+gN g l<=n
 | [],n,_,_,_,_=>by simp[vX,gN]
 | x::r,n,hf,h0,hn,h=>by
  simp only[vX] at h⊢;split
  .rename_i F;rw[if_pos F] at h;omega
  .rename_i F;rw[if_neg F] at h;have h2:=hf x (by simp) n h0 hn (by omega);have:=aFd (g:=g) (λy H=>hf y (by simp[H])) (by omega) (by omega) h;simp only[gN];omega
theorem aBU {α:Type}{f:α->Int->Int}{g:α->Nat}{l:List α}{n:Int} (H:∀x,x∈l->∀n,0<=n->n<=1048576->0<=f x n->f x n+g x<=n) (J:l.length<2 ^ 63) (I:0<=n) (L:n<=1048576) (h:0<=szL f l n):szL f l n+l.length+gN g l<=n:=by
 unfold szL at h⊢;split
 .rename_i F;rw[if_pos F] at h;omega
 .rename_i F;rw[if_neg F] at h;rw[aO (by omega) (by omega)] at h F⊢;have:=aFd (g:=g) H (by omega) (by omega) h;omega
theorem aIE {α:Type} (l:List α):gN (λ_=>0) l=0:=by
 induction l with
 |nil=>rfl
 |cons x r ih=>simp[gN,ih]
theorem aJw (d:List (List Int)):gW d=gN List.length d:=by
 induction d with
 |nil=>simp[gN,gW]
 |cons x r ih=>simp[gN,gW,ih]
theorem aJv (l:List (List Tot)):gN aDq l=2*gN List.length l:=by
 induction l with
 |nil=>rfl
 |cons x r ih=>simp only[gN,aDq,ih];omega
theorem aLt {l:List Int}{n:Int} (I:l.length<2 ^ 63) (H:0<=n) (J:n<=1048576) (h:0<=szI l n):szI l n+l.length<=n:=by
 unfold szI at h⊢;split
 .rename_i F;rw[if_pos F] at h;omega
 .rename_i F;rw[if_neg F] at h;rw[aO (by omega) (by omega)] at h F⊢;omega
theorem aJI {d:List (List Int)} (F:aLb d) (n:Int) (H:0<=n) (I:n<=1048576) (h:0<=zN d n):zN d n+gW d<=n:=by
 rw[aJw];have:=aBU (f:=szI) (g:=List.length) (λx J n a b c=>aLt (F.2 x J) a b c) F.1 H I h;unfold zN;omega
theorem aJF {t:List Tot} (F:bigT t) (n:Int) (H:0<=n) (I:n<=1048576) (h:0<=aDr t n):aDr t n+t.length<=n:=by
 have:=aBU (f:=aDD) (g:=λ_=>0) (λx J n a b c=>by have:=xB (F.2 x J) a b c;simpa using this) F.1 H I h;rw[aIE] at this;unfold aDr;omega
theorem aDE {o:Off} (F:aEY o) {n:Int} (I:0<=n) (J:n<=1048576) (h:0<=dB o n):1+pW o<=900000000:=by
 unfold dB at h;split at h
 .omega
 .rename_i L;split at h
  .omega
  .rename_i h2;have a:=aBU (g:=gW) (λx H n a b c=>aJI (F.1.2 x H) n a b c) F.1.1 I J (by omega:0<=szL zN o.trays n);have b:=aBU (g:=List.length) (λx H n a b c=>aJF (F.2.2 x H) n a b c) F.2.1 (by omega) (by omega) h;have c:=aJv o.totals;unfold pW;omega
end
end Go.Proofs.YtmiiohemehacjaaGreatDoor
