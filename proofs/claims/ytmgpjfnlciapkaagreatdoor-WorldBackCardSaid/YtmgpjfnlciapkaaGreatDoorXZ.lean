/- Drawn regions where a row of one's own grows beside looks at blocks that nothing turns. No condition, no program. (Printed by xz.py.) -/
import Derived.Test.YtmgpjfnlciapkaaGreatDoorXU
set_option linter.unusedVariables false
set_option linter.unusedSimpArgs false
noncomputable section
namespace Go.CM
section
variable {h h' H:Heap} {lo z:Nat} {v:CV} {l:List (List CV)} {E:Env} {tm:Tm} {Q:R->Prop} {all rest:List Oper} {o:Oper} {B:Nat->Prop} {bs:List Bits} {recs:List Rec} {i:Nat} {idx nr:List Nat}
structure DV (B:Nat->Prop) (h:Heap) (idx nr:List Nat) (recs:List Rec):Prop where
 d:DY B h idx recs
 r:∀r∈recs,recIdx r∈nr\/∃i fp lo,r= .op i fp false lo lo/\(∀k∈fp,B k)/\∀k∈fp,k<h.next
theorem DV.start (hb:∀b,B b->b<h.next):DV B h [] [] []:=⟨DY.start hb,λ_ h=>by cases h⟩
theorem DV.more {h':Heap} {idx' nr':List Nat} {r0:Rec} (dv:DV B h idx nr recs) (d:DY B h' idx' (r0::recs)) (hn:h.next<=h'.next) (h0:recIdx r0∈nr'\/∃i fp lo,r0= .op i fp false lo lo/\(∀k∈fp,B k)/\∀k∈fp,k<h'.next) (hs:∀j∈nr,j∈nr'):DV B h' idx' nr' (r0::recs):=⟨d,λr hr=>by
 rcases List.mem_cons.1 hr with rfl|hr
 ·exact h0
 ·rcases dv.r r hr with h1|⟨i,fp,lo,h1,h2,h3⟩
  ·exact .inl (hs _ h1)
  ·exact .inr ⟨i,fp,lo,h1,h2,λk hk=>Nat.lt_of_lt_of_le (h3 k hk) hn⟩⟩
theorem DV.pairs {ahead:Bits} {fp:List Nat} {news:List Nat} (hB:∀b,B b->b∉fp) (hnew:∀k∈news,h.next<=k) (hnr:∀j∈nr,bit j ahead=true):∀{recs:List Rec},(∀r∈recs,recIdx r∈nr\/∃i fp lo,r= .op i fp false lo lo/\(∀k∈fp,B k)/\∀k∈fp,k<h.next)->okPairs ahead fp true news recs=true
 |[],_=>rfl
 |r::rs,hr=>by
  unfold okPairs
  have ih:=DV.pairs (fp:=fp) (news:=news) hB hnew hnr (recs:=rs) λx hx=>hr x (List.mem_cons_of_mem _ hx)
  rcases hr r (by simp)with h1|⟨i,fp',lo,rfl,h2,h3⟩
  ·rw[hnr _ h1,ih]
   cases okPair fp true news r<;>rfl
  ·have:okPair fp true news (.op i fp' false lo lo)=true:=by
     rw[okPair_op,all1_each λk hk=>by
      unfold opApart
      rw[within_self]
      show(!mem k fp')=true
      rw[mem_false λx hx e=>hB x (h2 x hx) (by rw[e];exact hk)];rfl]
     show all1 news (λk=> !mem k fp')=true
     refine all1_each λk hk=> ?_
     rw[mem_false λx hx e=>by have:=h3 x hx;have:=hnew k hk;omega];rfl
   rw[this]
   exact ih
theorem W.ldV {t:TypeId} {x:Operand} {id off k:Nat} {e:List CV} {s:TyS} {v:CV} (dv:DV B h idx nr recs) (hB:B id) (L:LocE h id off e) (hgd:guardOn all tm o=some true) (hop:o.op= .load t x) (hx:cvOf E.globs tm x= .ptr (some (id,off+k))) (hs:E.ty t=some s) (h1:s.size=1) (h2:s.agg=false) (he:e[k]? =some v)
  (w:∀recs' h',DV B h' (i::idx) nr recs'->Same h h'->LocE h' id off e->W E (.draw bs all rest (i+1) recs') (putTmp tm o.dst v) h' Q):W E (.draw bs all (o::rest) i recs) tm h Q:=by
 obtain⟨cs,ro,g1,g2,g3⟩:=L
 have hn:=cut_nth g3 he
 have hfp:fpAny E o tm=[id]:=by
  unfold fpAny
  rw[hop]
  show idOf (cvOf E.globs tm x)=[id]
  rw[hx];rfl
 have hwr:wrOf o.op=false:=by rw[hop];rfl
 have hget:(only h [id]).get id=some (.cells cs ro):=by rw[only_get];simpa using g1
 have ho:opAny E o tm (only h (fpAny E o tm))=some (v,only h [id]):=by
  rw[hfp]
  unfold opAny
  rw[hop]
  show oLoad E t (cvOf E.globs tm x) (only h [id])=_
  rw[hx]
  have hp:CM.part cs (off+k) s.size s.agg=some v:=by rw[h1,h2];exact hn
  unfold oLoad CM.load loadB
  simp only[hget,hs,hp,withH]
 have hsame:Same h (back h (only h [id]) ([id]++span h.next 0)):=by
  refine⟨by rw[back_next,only_next],λk=> ?_⟩
  rw[back_get]
  split
  ·rename_i hk
   have:k=id:=by
    have hk:k∈[id]:=hk
    simpa using hk
   subst this
   rw[hget,g1]
  ·rfl
 obtain⟨r,⟨N,e⟩,q⟩:=w (.op i [id] false h.next h.next::recs) _ (dv.more ((dv.d.cons (Nat.le_refl _) (λk hk=>by rw[List.mem_singleton]at hk;rw[hk];exact g2) λb hb=>⟨dv.d.b b hb,λh=>by cases h⟩).same hsame.next) (Nat.le_of_eq hsame.next.symm) (.inr ⟨i,[id],h.next,rfl,λk hk=>by rw[List.mem_singleton]at hk;rw[hk];exact hB,λk hk=>by rw[List.mem_singleton]at hk;rw[hk,hsame.next];exact g2⟩) λj hj=>hj) hsame (LocE.ext ⟨cs,ro,g1,g2,g3⟩ hsame.ext)
 refine⟨r,.step ⟨N,λm hm=> ?_⟩,q⟩
 show(match guardOn all tm o with
  |some true=>dOp E (run E m) bs all rest o i recs tm h
  |some false=>run E m (.draw bs all rest (i+1) recs) (putTmp tm o.dst (.tup [])) h
  |none=> .stop)=r
 rw[hgd]
 show dOp E (run E m) bs all rest o i recs tm h=r
 rw[dOp_any ho,hfp,hwr]
 have hnx:(only h [id]).next=h.next:=only_next _ _
 show(match okPairs ((nth bs i).getD Bits.nil) [id] false (span h.next ((only h [id]).next-h.next)) recs with
  |true=>run E m (.draw bs all rest (i+1) (.op i [id] false h.next (only h [id]).next::recs)) (putTmp tm o.dst v) (back h (only h [id]) ([id]++span h.next ((only h [id]).next-h.next)))
  |false=> .stop)=r
 rw[hnx,Nat.sub_self]
 have:okPairs ((nth bs i).getD Bits.nil) [id] false (span h.next 0) recs=true:=DY.pairs_read hB dv.d
 rw[this]
 exact e m hm
theorem W.newV {b:Blk} {v:CV} (dv:DV B h idx nr recs) (hgd:guardOn all tm o=some true) (hfp:fpAny E o tm=[]) (hwr:wrOf o.op=false) (ho:opAny E o tm (only h [])=some (v,(only h []).new b))
  (w:∀recs' h',DV B h' (i::idx) (i::nr) recs'->Ext h h'->h'.next=h.next+1->h'.get h.next=some b->W E (.draw bs all rest (i+1) recs') (putTmp tm o.dst v) h' Q):W E (.draw bs all (o::rest) i recs) tm h Q:=by
 have ho:opAny E o tm (only h (fpAny E o tm))=some (v,(only h []).new b):=by rw[hfp];exact ho
 have hb:∀k,(back h ((only h []).new b) ([]++[h.next])).get k=if k=h.next then some b else h.get k:=by
  intro k
  rw[back_get]
  by_cases e:k=h.next
  ·subst e
   rw[if_pos (by simp),if_pos rfl]
   exact new_same (only h []) _
  ·rw[if_neg (by simpa using e),if_neg e]
 have hnx:(back h ((only h []).new b) ([]++[h.next])).next=h.next+1:=by rw[back_next];rfl
 have hx:Ext h (back h ((only h []).new b) ([]++[h.next])):=by
  refine⟨by omega,λk hk=> ?_,λf k hk=> ?_⟩
  ·rw[hb,if_neg (by omega)]
  ·rw[hnx]at hk
   rw[hb,if_neg (by omega)]
   exact f k (by omega)
 obtain⟨r,⟨N,e⟩,q⟩:=w (.op i [] false h.next (h.next+1)::recs) _ (dv.more (dv.d.cons (by omega) (λk hk=>by cases hk) λb hb=>⟨dv.d.b b hb,λh=>by cases h⟩) (by omega) (.inl (by simp[recIdx])) λj hj=>List.mem_cons_of_mem _ hj) hx hnx (by rw[hb,if_pos rfl])
 refine⟨r,.step ⟨N,λm hm=> ?_⟩,q⟩
 show(match guardOn all tm o with
  |some true=>dOp E (run E m) bs all rest o i recs tm h
  |some false=>run E m (.draw bs all rest (i+1) recs) (putTmp tm o.dst (.tup [])) h
  |none=> .stop)=r
 rw[hgd]
 show dOp E (run E m) bs all rest o i recs tm h=r
 rw[dOp_any ho,hfp,hwr]
 have hnb:Nat.beq (h.next+1) h.next=false:=by
  cases hb:Nat.beq (h.next+1) h.next with
  |true=>have:=Nat.eq_of_beq_eq_true hb;omega
  |false=>rfl
 have hsp:span h.next (h.next+1-h.next)=[h.next]:=by
  rw[show h.next+1-h.next=1 by omega];rfl
 show(match isNil ([]:List Nat)&&Nat.beq (h.next+1) h.next with
  |true=>_
  |false=>match okPairs ((nth bs i).getD Bits.nil) [] false (span h.next (h.next+1-h.next)) recs with
   |true=>run E m (.draw bs all rest (i+1) (.op i [] false h.next (h.next+1)::recs)) (putTmp tm o.dst v) (back h ((only h []).new b) ([]++span h.next (h.next+1-h.next)))
   |false=> .stop)=r
 rw[hnb,hsp,DY.pairs_new dv.d]
 exact e m hm
theorem W.apV {c:Call} {t t2 e:TypeId} {ts es t2s:TyS} {s s2:CV} {l2:List (List CV)} (dv:DV B h idx nr recs) (X:Ext H h) (so:OwnR h H.next z s l) (s2l:SlG h z s2 l2) (hB:∀b,B b->b∉idOf s++idOf s2) (hid:(nr.all λj=>bit j ((nth bs i).getD Bits.nil))=true)
  (hgd:guardOn all tm o=some true) (hop:o.op= .call c) (hb:c.callee= .builtin .append) (hty:c.argTypes.toList=[t,t2]) (ha:c.args.toList.map (cvOf E.globs tm)=[s,s2])
  (hts:E.ty t=some ts) (hk:ts.kind= .slice e) (hes:E.ty e=some es) (hz:es.size=z) (hz0:(Nat.beq es.size 0||Nat.beq es.bytes 0)=false) (ht2:E.ty t2=some t2s) (hk2:t2s.kind= .slice e) (hm:(l.length+l2.length)*es.bytes<=70368744177664)
  (w:∀recs' v' h',DV B h' (i::idx) (i::nr) recs'->Ext H h'->(∀b,B b->h'.get b=h.get b)->h.next<=h'.next->OwnR h' H.next z v' (l++l2)->(∀c,c<h.next->idOf s≠[c]->idOf v'≠[c])->W E (.draw bs all rest (i+1) recs') (putTmp tm o.dst v') h' Q):W E (.draw bs all (o::rest) i recs) tm h Q:=by
 have d:=dv.d
 have hfp:fpAny E o tm=idOf s++idOf s2:=by
  unfold fpAny
  rw[hop]
  simp only[fpOf,hb]
  rw[show(c.args.toList.map λx=>idOf (cvOf E.globs tm x))=(c.args.toList.map (cvOf E.globs tm)).map idOf by rw[List.map_map];rfl,ha]
  simp
 have hwr:wrOf o.op=true:=by rw[hop];simp only[wrOf,hb]
 obtain⟨fp,hfpe⟩:∃fp,fp=idOf s++idOf s2:=⟨_,rfl⟩
 rw[<-hfpe]at hfp hB
 have g0:∀k,k∈fp->(only h fp).get k=h.get k:=λk hk=>by rw[only_get,if_pos hk]
 have nx:(only h fp).next=h.next:=only_next _ _
 have so':OwnR (only h fp) H.next z s l:=so.other (by rw[nx];exact Nat.le_refl _) λk _ _ hk=>g0 k (by rw[hfpe,hk];simp)
 have s2':SlG (only h fp) z s2 l2:=by
  rcases s2l with⟨rfl,rfl⟩|⟨rfl,rfl⟩|⟨i,o,c,x,cs,ro,rfl,g2,g3,g4,g5,g6⟩
  ·exact .inl ⟨rfl,rfl⟩
  ·exact .inr (.inl ⟨rfl,rfl⟩)
  ·exact .inr (.inr ⟨i,o,c,x,cs,ro,rfl,by rw[nx];exact g2,(g0 i (by rw[hfpe];simp[idOf])).trans g3,g4,g5,g6⟩)
 have hlt:∀k,k∈fp->k<h.next:=λk hk=>by
  rw[hfpe]at hk
  rcases List.mem_append.1 hk with hk|hk
  ·rcases so with⟨rfl,rfl⟩|⟨i,y,ro,rfl,h1,h2,_⟩
   ·cases hk
   ·have:k=i:=by simpa[idOf]using hk
    rw[this];exact h2
  ·rcases s2l with⟨rfl,rfl⟩|⟨rfl,rfl⟩|⟨i,o,c,x,cs,ro,rfl,g2,g3,g4,g5,g6⟩
   ·cases hk
   ·cases hk
   ·have:k=i:=by simpa[idOf]using hk
    rw[this];exact g2
 obtain⟨v',hh,k1,k2,k2b,k3,k4,k5,k6,k7⟩:=append_own (by rw[nx];exact X.next) so' s2' hts hk hes hz hz0 ht2 hk2 hm
 rw[nx]at k2 k2b k3
 have ho:opAny E o tm (only h (fpAny E o tm))=some (v',hh):=by
  rw[hfp]
  unfold opAny
  rw[hop]
  simp only[hb]
  show builtinV E _ .append c.argTypes.toList (c.args.toList.map (cvOf E.globs tm))=_
  rw[hty,ha]
  exact k1
 have hbk:∀k,k<h.next->k<H.next\/idOf s≠[k]->(back h hh (fp++span h.next (hh.next-h.next))).get k=h.get k:=by
  intro k hk hc
  rw[back_get]
  split
  ·rename_i hm
   rcases List.mem_append.1 hm with hm|hm
   ·rw[k3 k hk hc,g0 k hm]
   ·exfalso
    have:hh.next=h.next\/hh.next=h.next+1:=by omega
    rcases this with e|e
    ·rw[e,Nat.sub_self]at hm;cases hm
    ·rw[e,show h.next+1-h.next=1 by omega]at hm
     have:k=h.next:=by
      have hm:k∈[h.next+0]:=hm
      simpa using hm
     omega
  ·rfl
 have hbn:(back h hh (fp++span h.next (hh.next-h.next))).next=hh.next:=back_next _ _ _
 have X':Ext H (back h hh (fp++span h.next (hh.next-h.next))):=by
  refine⟨by rw[hbn];exact Nat.le_trans X.next k2,λk hk=>(hbk k (Nat.lt_of_lt_of_le hk X.next) (.inl hk)).trans (X.old k hk),λf k hk=> ?_⟩
  rw[hbn]at hk
  rw[back_get]
  have fh:=X.fr f
  split
  ·rename_i hm
   rcases List.mem_append.1 hm with hm|hm
   ·have:=hlt k hm;omega
   ·exfalso
    have:hh.next=h.next\/hh.next=h.next+1:=by omega
    rcases this with e|e
    ·rw[e,Nat.sub_self]at hm;cases hm
    ·rw[e,show h.next+1-h.next=1 by omega]at hm
     have:k=h.next:=by
      have hm:k∈[h.next+0]:=hm
      simpa using hm
     omega
  ·exact fh k (by omega)
 have k5':OwnR (back h hh (fp++span h.next (hh.next-h.next))) H.next z v' (l++l2):=by
  have gg:∀k,k∈fp\/(h.next<=k/\k<hh.next)->(back h hh (fp++span h.next (hh.next-h.next))).get k=hh.get k:=by
   intro k hc
   rw[back_get,if_pos]
   rcases hc with hc|⟨c1,c2⟩
   ·exact List.mem_append_left _ hc
   ·refine List.mem_append_right _ ?_
    have:k=h.next:=by omega
    rw[show hh.next-h.next=1 by omega,this]
    show h.next∈[h.next+0]
    simp
  rw[nx]at k7
  have inn:∀i,idOf v'=[i]->i<hh.next->i∈fp\/(h.next<=i/\i<hh.next):=by
   intro i hi hlt2
   by_cases hl2:l2=[]
   ·left
    rw[hfpe,<-(k6 hl2).1,hi]
    simp
   ·right
    have:=(k7 hl2).1
    rw[hi]at this
    have:i=h.next:=by simpa using this
    omega
  rcases k5 with⟨e0,rfl⟩|⟨i,y,ro,rfl,h1,h2,h3,h4,h5⟩
  ·exact .inl ⟨e0,rfl⟩
  ·exact .inr ⟨i,y,ro,rfl,h1,by rw[hbn];exact h2,(gg i (inn i rfl h2)).trans h3,h4,h5⟩
 have hall:okPairs ((nth bs i).getD Bits.nil) fp true (span h.next (hh.next-h.next)) recs=true:=DV.pairs hB (λk hk=>by
  have:hh.next=h.next\/hh.next=h.next+1:=by omega
  rcases this with e|e
  ·rw[e,Nat.sub_self]at hk;cases hk
  ·rw[e,show h.next+1-h.next=1 by omega]at hk
   have hk:k∈[h.next+0]:=hk
   have:k=h.next:=by simpa using hk
   omega) (λj hj=>List.all_eq_true.1 hid j hj) dv.r
 have kid:∀c,c<h.next->idOf s≠[c]->idOf v'≠[c]:=by
  intro c hc hs
  by_cases hl2:l2=[]
  ·rw[(k6 hl2).1];exact hs
  ·have:=(k7 hl2).1
   rw[nx]at this
   rw[this]
   intro e
   have:h.next=c:=by simpa using e
   omega
 by_cases hno:fp=[]/\hh.next=h.next
 ·have hl2:l2=[]:=by
    by_cases hl2:l2=[]
    ·exact hl2
    ·have:=(k7 hl2).2
     rw[nx]at this
     omega
  have hv:=(k6 hl2).1
  obtain⟨r,⟨N,e⟩,q⟩:=w recs v' h ⟨⟨λr hr=>⟨List.mem_cons_of_mem _ (d.r r hr).1,(d.r r hr).2⟩,d.b⟩,λr hr=>(dv.r r hr).imp (List.mem_cons_of_mem _) id⟩ X (λ_ _=>rfl) (Nat.le_refl _) (by rw[hl2,List.append_nil,hv];exact so) (λc _ hc=>by rw[hv];exact hc)
  refine⟨r,.step ⟨N,λm hm=> ?_⟩,q⟩
  show(match guardOn all tm o with
   |some true=>dOp E (run E m) bs all rest o i recs tm h
   |some false=>run E m (.draw bs all rest (i+1) recs) (putTmp tm o.dst (.tup [])) h
   |none=> .stop)=r
  rw[hgd]
  show dOp E (run E m) bs all rest o i recs tm h=r
  rw[dOp_any ho,hfp,hwr,hno.1]
  show(match isNil ([]:List Nat)&&Nat.beq hh.next h.next with
   |true=>run E m (.draw bs all rest (i+1) recs) (putTmp tm o.dst v') h
   |false=>_)=r
  rw[hno.2,Nat.beq_refl]
  exact e m hm
 ·obtain⟨r,⟨N,e⟩,q⟩:=w (.op i fp true h.next hh.next::recs) v' _ (dv.more (d.cons (by rw[hbn];exact k2) (λk hk=>Nat.lt_of_lt_of_le (hlt k hk) (by rw[hbn];exact k2)) λb hb=>⟨d.b b hb,λ_=>hB b hb⟩) (by rw[hbn];exact k2) (.inl (by simp[recIdx])) λj hj=>List.mem_cons_of_mem _ hj) X' (λb hb=>hbk b (d.b b hb) (.inr (λe=>hB b hb (by rw[hfpe,e];simp)))) (by rw[hbn];exact k2) k5' kid
  refine⟨r,.step ⟨N,λm hm=> ?_⟩,q⟩
  show(match guardOn all tm o with
   |some true=>dOp E (run E m) bs all rest o i recs tm h
   |some false=>run E m (.draw bs all rest (i+1) recs) (putTmp tm o.dst (.tup [])) h
   |none=> .stop)=r
  rw[hgd]
  show dOp E (run E m) bs all rest o i recs tm h=r
  rw[dOp_any ho,hfp,hwr]
  have hcond:(isNil fp&&Nat.beq hh.next h.next)=false:=by
   cases hf:fp with
   |cons a b=>rfl
   |nil=>
    cases hb:Nat.beq hh.next h.next with
    |false=>rfl
    |true=>exact absurd ⟨hf,Nat.eq_of_beq_eq_true hb⟩ hno
  show(match isNil fp&&Nat.beq hh.next h.next with
   |true=>run E m (.draw bs all rest (i+1) recs) (putTmp tm o.dst v') h
   |false=>match okPairs ((nth bs i).getD Bits.nil) fp true (span h.next (hh.next-h.next)) recs with
    |true=>run E m (.draw bs all rest (i+1) (.op i fp true h.next hh.next::recs)) (putTmp tm o.dst v') (back h hh (fp++span h.next (hh.next-h.next)))
    |false=> .stop)=r
  rw[hcond,hall]
  exact e m hm
theorem W.dput {id:Nat} {B1 B2:Blk} {v:CV} (hri:∀r∈recs,recIdx r∈idx) (hid:(idx.all λj=>bit j ((nth bs i).getD Bits.nil))=true) (hgd:guardOn all tm o=some true) (hfp:fpAny E o tm=[id]) (hwr:wrOf o.op=true) (hg:h.get id=some B1)
  (ho:∀h0:Heap,h0.get id=some B1->opAny E o tm h0=some (v,h0.put id B2))
  (w:∀recs' h',(∀r∈recs',recIdx r∈i::idx)->Same (h.put id B2) h'->W E (.draw bs all rest (i+1) recs') (putTmp tm o.dst v) h' Q):W E (.draw bs all (o::rest) i recs) tm h Q:=by
 have hget:(only h [id]).get id=some B1:=by rw[only_get];simpa using hg
 have ho:opAny E o tm (only h (fpAny E o tm))=some (v,(only h [id]).put id B2):=by
  rw[hfp]
  exact ho _ hget
 have hnx:((only h [id]).put id B2).next=h.next:=only_next _ _
 have hsame:Same (h.put id B2) (back h ((only h [id]).put id B2) ([id]++span h.next 0)):=by
  refine⟨by rw[back_next,hnx];rfl,λk=> ?_⟩
  rw[back_get,Heap.get_put,Heap.get_put]
  split
  ·rename_i hk
   have:k=id:=by
    have hk:k∈[id]:=hk
    simpa using hk
   subst this
   simp
  ·rename_i hk
   have:¬id=k:=by
    intro e;subst e
    exact hk (by show id∈[id];simp)
   rw[if_neg this]
 have hall:∀r∈recs,bit (recIdx r) ((nth bs i).getD Bits.nil)=true:=λr hm=>List.all_eq_true.1 hid _ (hri r hm)
 obtain⟨r,⟨N,e⟩,q⟩:=w (.op i [id] true h.next h.next::recs) _ (λr hm=>by
  rcases List.mem_cons.1 hm with rfl|hm
  ·simp[recIdx]
  ·exact List.mem_cons_of_mem _ (hri r hm)) hsame
 refine⟨r,.step ⟨N,λm hm=> ?_⟩,q⟩
 show(match guardOn all tm o with
  |some true=>dOp E (run E m) bs all rest o i recs tm h
  |some false=>run E m (.draw bs all rest (i+1) recs) (putTmp tm o.dst (.tup [])) h
  |none=> .stop)=r
 rw[hgd]
 show dOp E (run E m) bs all rest o i recs tm h=r
 rw[dOp_any ho,hfp,hwr]
 show(match okPairs ((nth bs i).getD Bits.nil) [id] true (span h.next (((only h [id]).put id B2).next-h.next)) recs with
  |true=>run E m (.draw bs all rest (i+1) (.op i [id] true h.next ((only h [id]).put id B2).next::recs)) (putTmp tm o.dst v) (back h ((only h [id]).put id B2) ([id]++span h.next (((only h [id]).put id B2).next-h.next)))
  |false=> .stop)=r
 rw[hnx,Nat.sub_self,okPairs_ahead hall]
 exact e m hm
end
end Go.CM
