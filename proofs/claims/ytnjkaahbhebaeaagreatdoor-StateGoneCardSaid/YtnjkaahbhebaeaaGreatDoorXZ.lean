/- Drawn regions where a row of one's own grows beside looks at blocks that nothing turns. No condition, no program. (Printed by xz.py.) -/
import Derived.Test.YtnjkaahbhebaeaaGreatDoorXU
import Derived.Test.YtnjkaahbhebaeaaGreatDoorXNa
set_option linter.unusedVariables false
set_option linter.unusedSimpArgs false
noncomputable section
namespace Go.CM
section
variable {h h' H:Heap} {lo z:Nat} {v:CV} {l:List (List CV)} {E:Env} {tm:Tm} {Q:R->Prop} {all rest:List Oper} {o:Oper} {B:Nat->Prop} {bs:List Bits} {recs:List Rec} {i:Nat} {idx nr:List Nat}
structure DV (B:Nat->Prop) (h:Heap) (idx nr:List Nat) (recs:List Rec):Prop where
 d:DY B h idx recs
 r:∀r∈recs,recIdx r∈nr\/∃i fp lo,r= .op i fp false lo lo/\(∀k∈fp,B k)/\∀k∈fp,k<h.next
theorem DV.start (hb:∀b,B b->b<h.next):DV B h [] [] []:=⟨DY.start hb,λ_ h=>by cases h⟩
theorem DV.more {h':Heap} {idx' nr':List Nat} {r0:Rec} (dv:DV B h idx nr recs) (d:DY B h' idx' (r0::recs)) (hn:h.next<=h'.next) (h0:recIdx r0∈nr'\/∃i fp lo,r0= .op i fp false lo lo/\(∀k∈fp,B k)/\∀k∈fp,k<h'.next) (hs:∀j∈nr,j∈nr'):DV B h' idx' nr' (r0::recs):=⟨d,λr hr=>by
 rcases List.mem_cons.1 hr with rfl|hr
 ·exact h0
 ·rcases dv.r r hr with h1|⟨i,fp,lo,h1,h2,h3⟩
  ·exact .inl (hs _ h1)
  ·exact .inr ⟨i,fp,lo,h1,h2,λk hk=>Nat.lt_of_lt_of_le (h3 k hk) hn⟩⟩
theorem DV.pairs {ahead:Bits} {fp:List Nat} {wr:Bool} {news:List Nat} (hB:∀b,B b->b∉fp) (hnew:∀k∈news,h.next<=k) (hnr:∀j∈nr,bit j ahead=true):∀{recs:List Rec},(∀r∈recs,recIdx r∈nr\/∃i fp lo,r= .op i fp false lo lo/\(∀k∈fp,B k)/\∀k∈fp,k<h.next)->okPairs ahead fp wr news recs=true
 |[],_=>rfl
 |r::rs,hr=>by
  unfold okPairs;have ih:=DV.pairs (fp:=fp) (wr:=wr) (news:=news) hB hnew hnr (recs:=rs) λx hx=>hr x (List.mem_cons_of_mem _ hx);rcases hr r (by simp)with h1|⟨i,fp',lo,rfl,h2,h3⟩
  ·rw[hnr _ h1,ih]
   cases okPair fp wr news r<;>rfl
  ·have:okPair fp wr news (.op i fp' false lo lo)=true:=by
     rw[okPair_op,all1_each λk hk=>by
      unfold opApart;rw[within_self];cases wr with
      |false=>rfl
      |true=>
      show(!mem k fp')=true;rw[mem_false λx hx e=>hB x (h2 x hx) (by rw[e];exact hk)];rfl]
     show all1 news (λk=> !mem k fp')=true;refine all1_each λk hk=> ?_;rw[mem_false λx hx e=>by have:=h3 x hx;have:=hnew k hk;omega];rfl
   rw[this];exact ih
theorem W.ldV {t:TypeId} {x:Operand} {id off k:Nat} {e:List CV} {s:TyS} {v:CV} (dv:DV B h idx nr recs) (hB:B id) (L:LocE h id off e) (hgd:guardOn all tm o=some true) (hop:o.op= .load t x) (hx:cvOf E.globs tm x= .ptr (some (id,off+k))) (hs:E.ty t=some s) (h1:s.size=1) (h2:s.agg=false) (he:e[k]? =some v)
  (w:∀recs' h',DV B h' (i::idx) nr recs'->Same h h'->LocE h' id off e->W E (.draw bs all rest (i+1) recs') (putTmp tm o.dst v) h' Q):W E (.draw bs all (o::rest) i recs) tm h Q:=by
 obtain⟨cs,ro,g1,g2,g3⟩:=L;have hn:=cut_nth g3 he
 have hfp:fpAny E o tm=[id]:=by
  unfold fpAny;rw[hop];show idOf (cvOf E.globs tm x)=[id];rw[hx];rfl
 have hwr:wrOf o.op=false:=by rw[hop];rfl
 have hget:(only h [id]).get id=some (.cells cs ro):=by rw[only_get];simpa using g1
 have ho:opAny E o tm (only h (fpAny E o tm))=some (v,only h [id]):=by
  rw[hfp];unfold opAny;rw[hop];show oLoad E t (cvOf E.globs tm x) (only h [id])=_;rw[hx];have hp:CM.part cs (off+k) s.size s.agg=some v:=by rw[h1,h2];exact hn
  unfold oLoad CM.load loadB;simp only[hget,hs,hp,withH]
 have hsame:Same h (back h (only h [id]) ([id]++span h.next 0)):=by
  refine⟨by rw[back_next,only_next],λk=> ?_⟩;rw[back_get];split
  ·rename_i hk
   have:k=id:=by
    have hk:k∈[id]:=hk;simpa using hk
   subst this;rw[hget,g1]
  ·rfl
 obtain⟨r,⟨N,e⟩,q⟩:=w (.op i [id] false h.next h.next::recs) _ (dv.more ((dv.d.cons (Nat.le_refl _) (λk hk=>by rw[List.mem_singleton]at hk;rw[hk];exact g2) λb hb=>⟨dv.d.b b hb,λh=>by cases h⟩).same hsame.next) (Nat.le_of_eq hsame.next.symm) (.inr ⟨i,[id],h.next,rfl,λk hk=>by rw[List.mem_singleton]at hk;rw[hk];exact hB,λk hk=>by rw[List.mem_singleton]at hk;rw[hk,hsame.next];exact g2⟩) λj hj=>hj) hsame (LocE.ext ⟨cs,ro,g1,g2,g3⟩ hsame.ext);refine⟨r,.step ⟨N,λm hm=> ?_⟩,q⟩
 show(match guardOn all tm o with
  |some true=>dOp E (run E m) bs all rest o i recs tm h
  |some false=>run E m (.draw bs all rest (i+1) recs) (putTmp tm o.dst (.tup [])) h
  |none=> .stop)=r
 rw[hgd];show dOp E (run E m) bs all rest o i recs tm h=r;rw[dOp_any ho,hfp,hwr];have hnx:(only h [id]).next=h.next:=only_next _ _
 show(match okPairs ((nth bs i).getD Bits.nil) [id] false (span h.next ((only h [id]).next-h.next)) recs with
  |true=>run E m (.draw bs all rest (i+1) (.op i [id] false h.next (only h [id]).next::recs)) (putTmp tm o.dst v) (back h (only h [id]) ([id]++span h.next ((only h [id]).next-h.next)))
  |false=> .stop)=r
 rw[hnx,Nat.sub_self];have:okPairs ((nth bs i).getD Bits.nil) [id] false (span h.next 0) recs=true:=DY.pairs_read hB dv.d;rw[this];exact e m hm
theorem W.newV {b:Blk} {v:CV} (dv:DV B h idx nr recs) (hgd:guardOn all tm o=some true) (hfp:fpAny E o tm=[]) (hwr:wrOf o.op=false) (ho:opAny E o tm (only h [])=some (v,(only h []).new b))
  (w:∀recs' h',DV B h' (i::idx) (i::nr) recs'->Ext h h'->h'.next=h.next+1->h'.get h.next=some b->W E (.draw bs all rest (i+1) recs') (putTmp tm o.dst v) h' Q):W E (.draw bs all (o::rest) i recs) tm h Q:=by
 have ho:opAny E o tm (only h (fpAny E o tm))=some (v,(only h []).new b):=by rw[hfp];exact ho
 have hb:∀k,(back h ((only h []).new b) ([]++[h.next])).get k=if k=h.next then some b else h.get k:=by
  intro k;rw[back_get];by_cases e:k=h.next
  ·subst e
   rw[if_pos (by simp),if_pos rfl];exact new_same (only h []) _
  ·rw[if_neg (by simpa using e),if_neg e]
 have hnx:(back h ((only h []).new b) ([]++[h.next])).next=h.next+1:=by rw[back_next];rfl
 have hx:Ext h (back h ((only h []).new b) ([]++[h.next])):=by
  refine⟨by omega,λk hk=> ?_,λf k hk=> ?_⟩
  ·rw[hb,if_neg (by omega)]
  ·rw[hnx]at hk
   rw[hb,if_neg (by omega)];exact f k (by omega)
 obtain⟨r,⟨N,e⟩,q⟩:=w (.op i [] false h.next (h.next+1)::recs) _ (dv.more (dv.d.cons (by omega) (λk hk=>by cases hk) λb hb=>⟨dv.d.b b hb,λh=>by cases h⟩) (by omega) (.inl (by simp[recIdx])) λj hj=>List.mem_cons_of_mem _ hj) hx hnx (by rw[hb,if_pos rfl]);refine⟨r,.step ⟨N,λm hm=> ?_⟩,q⟩
 show(match guardOn all tm o with
  |some true=>dOp E (run E m) bs all rest o i recs tm h
  |some false=>run E m (.draw bs all rest (i+1) recs) (putTmp tm o.dst (.tup [])) h
  |none=> .stop)=r
 rw[hgd];show dOp E (run E m) bs all rest o i recs tm h=r;rw[dOp_any ho,hfp,hwr]
 have hnb:Nat.beq (h.next+1) h.next=false:=by
  cases hb:Nat.beq (h.next+1) h.next with
  |true=>have:=Nat.eq_of_beq_eq_true hb;omega
  |false=>rfl
 have hsp:span h.next (h.next+1-h.next)=[h.next]:=by
  rw[show h.next+1-h.next=1 by omega];rfl
 show(match isNil ([]:List Nat)&&Nat.beq (h.next+1) h.next with
  |true=>_
  |false=>match okPairs ((nth bs i).getD Bits.nil) [] false (span h.next (h.next+1-h.next)) recs with
   |true=>run E m (.draw bs all rest (i+1) (.op i [] false h.next (h.next+1)::recs)) (putTmp tm o.dst v) (back h ((only h []).new b) ([]++span h.next (h.next+1-h.next)))
   |false=> .stop)=r
 rw[hnb,hsp,DY.pairs_new dv.d];exact e m hm
theorem W.apV {c:Call} {t t2 e:TypeId} {ts es t2s:TyS} {s s2:CV} {l2:List (List CV)} (dv:DV B h idx nr recs) (X:Ext H h) (so:OwnR h H.next z s l) (s2l:SlG h z s2 l2) (hB:∀b,B b->b∉idOf s++idOf s2) (hid:(nr.all λj=>bit j ((nth bs i).getD Bits.nil))=true)
  (hgd:guardOn all tm o=some true) (hop:o.op= .call c) (hb:c.callee= .builtin .append) (hty:c.argTypes.toList=[t,t2]) (ha:c.args.toList.map (cvOf E.globs tm)=[s,s2])
  (hts:E.ty t=some ts) (hk:ts.kind= .slice e) (hes:E.ty e=some es) (hz:es.size=z) (hz0:(Nat.beq es.size 0||Nat.beq es.bytes 0)=false) (ht2:E.ty t2=some t2s) (hk2:t2s.kind= .slice e) (hm:(l.length+l2.length)*es.bytes<=70368744177664)
  (w:∀recs' v' h',DV B h' (i::idx) (i::nr) recs'->Ext H h'->(∀b,B b->h'.get b=h.get b)->h.next<=h'.next->OwnR h' H.next z v' (l++l2)->(∀c,c<h.next->idOf s≠[c]->idOf v'≠[c])->W E (.draw bs all rest (i+1) recs') (putTmp tm o.dst v') h' Q):W E (.draw bs all (o::rest) i recs) tm h Q:=by
 have d:=dv.d;have hn:∀(fp:List Nat) (wr:Bool) (n:Nat),(∀b,B b->b∉fp)->okPairs ((nth bs i).getD Bits.nil) fp wr (span h.next n) recs=true:=λfp wr n hf=>DV.pairs hf (λk hk=>((mem_span _ _ _).1 hk).1) (λj hj=>List.all_eq_true.1 hid j hj) dv.r;refine W.apC (λn _=>⟨hn _ _ _ hB,hn _ _ _ λb hb h=>hB b hb (List.mem_append_left _ h)⟩) X so s2l hgd hop hb hty ha hts hk hes hz hz0 ht2 hk2 hm λrecs' v' h' hr hlt X' nn kk O' kid _=> ?_;refine w recs' v' h' ?_ X' (λb hb=>kk b (d.b b hb) (.inr λe=>hB b hb (by rw[e];simp))) nn O' kid;rcases hr with rfl|⟨lo,hi,rfl,rfl⟩
 ·exact⟨⟨λr hr=>⟨List.mem_cons_of_mem _ (d.r r hr).1,by obtain⟨i,fp,ws,lo,hi,h2,h3,h4⟩:=(d.r r hr).2;exact⟨i,fp,ws,lo,hi,h2,λk hk=>Nat.lt_of_lt_of_le (h3 k hk) nn,h4⟩⟩,λb hb=>Nat.lt_of_lt_of_le (d.b b hb) nn⟩,λr hr=>(dv.r r hr).imp (List.mem_cons_of_mem _) λ⟨i,fp,lo,h1,h2,h3⟩=>⟨i,fp,lo,h1,h2,λk hk=>Nat.lt_of_lt_of_le (h3 k hk) nn⟩⟩
 ·exact dv.more (d.tail nn rfl ⟨_,_,_,_,_,.inl rfl,λk hk=>Nat.lt_of_lt_of_le (hlt k hk) nn,λb hb=>⟨d.b b hb,λh=>hB b hb (List.mem_append_left _ h)⟩⟩) nn (.inl (by simp[recIdx])) λj hj=>List.mem_cons_of_mem _ hj
theorem W.dput {id:Nat} {B1 B2:Blk} {v:CV} (hri:∀r∈recs,recIdx r∈idx) (hid:(idx.all λj=>bit j ((nth bs i).getD Bits.nil))=true) (hgd:guardOn all tm o=some true) (hfp:fpAny E o tm=[id]) (hwr:wrOf o.op=true) (hg:h.get id=some B1)
  (ho:∀h0:Heap,h0.get id=some B1->opAny E o tm h0=some (v,h0.put id B2))
  (w:∀recs' h',(∀r∈recs',recIdx r∈i::idx)->Same (h.put id B2) h'->W E (.draw bs all rest (i+1) recs') (putTmp tm o.dst v) h' Q) (hna:isAppO o.op=false:=by rw[‹o.op=_›];rfl):W E (.draw bs all (o::rest) i recs) tm h Q:=by
 have hget:(only h [id]).get id=some B1:=by rw[only_get];simpa using hg
 have ho:opAny E o tm (only h (fpAny E o tm))=some (v,(only h [id]).put id B2):=by
  rw[hfp];exact ho _ hget
 have hnx:((only h [id]).put id B2).next=h.next:=only_next _ _
 have hsame:Same (h.put id B2) (back h ((only h [id]).put id B2) ([id]++span h.next 0)):=by
  refine⟨by rw[back_next,hnx];rfl,λk=> ?_⟩;rw[back_get,Heap.get_put,Heap.get_put];split
  ·rename_i hk
   have:k=id:=by
    have hk:k∈[id]:=hk;simpa using hk
   subst this;simp
  ·rename_i hk
   have:¬id=k:=by
    intro e;subst e;exact hk (by show id∈[id];simp)
   rw[if_neg this]
 have hall:∀r∈recs,bit (recIdx r) ((nth bs i).getD Bits.nil)=true:=λr hm=>List.all_eq_true.1 hid _ (hri r hm)
 obtain⟨r,⟨N,e⟩,q⟩:=w (.op i [id] true h.next h.next::recs) _ (λr hm=>by
  rcases List.mem_cons.1 hm with rfl|hm
  ·simp[recIdx]
  ·exact List.mem_cons_of_mem _ (hri r hm)) hsame
 refine⟨r,.step ⟨N,λm hm=> ?_⟩,q⟩
 show(match guardOn all tm o with
  |some true=>dOp E (run E m) bs all rest o i recs tm h
  |some false=>run E m (.draw bs all rest (i+1) recs) (putTmp tm o.dst (.tup [])) h
  |none=> .stop)=r
 rw[hgd];show dOp E (run E m) bs all rest o i recs tm h=r;rw[dOp_any ho hna,hfp,hwr]
 show(match okPairs ((nth bs i).getD Bits.nil) [id] true (span h.next (((only h [id]).put id B2).next-h.next)) recs with
  |true=>run E m (.draw bs all rest (i+1) (.op i [id] true h.next ((only h [id]).put id B2).next::recs)) (putTmp tm o.dst v) (back h ((only h [id]).put id B2) ([id]++span h.next (((only h [id]).put id B2).next-h.next)))
  |false=> .stop)=r
 rw[hnx,Nat.sub_self,okPairs_ahead hall];exact e m hm
end
end Go.CM

noncomputable section
namespace Go.CM
section
variable {h h' H:Heap} {lo z:Nat} {v:CV} {l:List (List CV)} {E:Env} {tm:Tm} {Q:R->Prop} {all rest:List Oper} {o:Oper} {bs:List Bits} {recs:List Rec} {i:Nat} {idx:List Nat}
theorem W.apD {c:Call} {t t2 e:TypeId} {ts es t2s:TyS} {s s2:CV} {l2:List (List CV)} (hri:∀r∈recs,recIdx r∈idx) (X:Ext H h) (so:OwnR h H.next z s l) (s2l:SlG h z s2 l2) (hid:(idx.all λj=>bit j ((nth bs i).getD Bits.nil))=true)
  (hgd:guardOn all tm o=some true) (hop:o.op= .call c) (hb:c.callee= .builtin .append) (hty:c.argTypes.toList=[t,t2]) (ha:c.args.toList.map (cvOf E.globs tm)=[s,s2])
  (hts:E.ty t=some ts) (hk:ts.kind= .slice e) (hes:E.ty e=some es) (hz:es.size=z) (hz0:(Nat.beq es.size 0||Nat.beq es.bytes 0)=false) (ht2:E.ty t2=some t2s) (hk2:t2s.kind= .slice e) (hm:(l.length+l2.length)*es.bytes<=70368744177664)
  (w:∀recs' v' h',(∀r∈recs',recIdx r∈i::idx)->Ext H h'->h.next<=h'.next->(∀k,k<h.next->k<H.next\/idOf s≠[k]->h'.get k=h.get k)->OwnR h' H.next z v' (l++l2)->(∀c,c<h.next->idOf s≠[c]->idOf v'≠[c])->(l2≠[]->idOf v'=[h.next])->W E (.draw bs all rest (i+1) recs') (putTmp tm o.dst v') h' Q):W E (.draw bs all (o::rest) i recs) tm h Q:=by
 have hall:∀r∈recs,bit (recIdx r) ((nth bs i).getD Bits.nil)=true:=λr hm=>List.all_eq_true.1 hid _ (hri r hm);refine W.apC (λn _=>⟨okPairs_ahead hall,okPairs_ahead hall⟩) X so s2l hgd hop hb hty ha hts hk hes hz hz0 ht2 hk2 hm λrecs' v' h' hr hlt X' nn kk O' kid k7=>w recs' v' h' (λr h=> ?_) X' nn kk O' kid k7;rcases hr with rfl|⟨lo,hi,rfl,rfl⟩
 ·exact List.mem_cons_of_mem _ (hri r h)
 ·rcases List.mem_cons.1 h with rfl|h
  ·simp[recIdx]
  ·exact List.mem_cons_of_mem _ (hri r h)
end
end Go.CM

noncomputable section
namespace Go.CM
section
variable {h h' H:Heap} {lo z:Nat} {v:CV} {l:List (List CV)} {E:Env} {tm:Tm} {Q:R->Prop} {all rest:List Oper} {o:Oper} {B:Nat->Prop} {bs:List Bits} {recs:List Rec} {i:Nat} {idx nr:List Nat}
theorem W.ldVw {t:TypeId} {x:Operand} {id off:Nat} {e:List CV} {s:TyS} (dv:DV B h idx nr recs) (hB:B id) (L:LocE h id off e) (hgd:guardOn all tm o=some true) (hop:o.op= .load t x) (hx:cvOf E.globs tm x= .ptr (some (id,off))) (hs:E.ty t=some s) (h1:e.length=s.size) (h2:s.agg=true)
  (w:∀recs' h',DV B h' (i::idx) nr recs'->Same h h'->LocE h' id off e->W E (.draw bs all rest (i+1) recs') (putTmp tm o.dst (.agg e)) h' Q):W E (.draw bs all (o::rest) i recs) tm h Q:=by
 obtain⟨cs,ro,g1,g2,g3⟩:=L
 have hfp:fpAny E o tm=[id]:=by
  unfold fpAny;rw[hop];show idOf (cvOf E.globs tm x)=[id];rw[hx];rfl
 have hwr:wrOf o.op=false:=by rw[hop];rfl
 have hget:(only h [id]).get id=some (.cells cs ro):=by rw[only_get];simpa using g1
 have ho:opAny E o tm (only h (fpAny E o tm))=some (.agg e,only h [id]):=by
  rw[hfp];unfold opAny;rw[hop];show oLoad E t (cvOf E.globs tm x) (only h [id])=_;rw[hx]
  have hp:CM.part cs off s.size s.agg=some (.agg e):=by
   unfold CM.part;rw[h2,<-h1,g3];rfl
  unfold oLoad CM.load loadB;simp only[hget,hs,hp,withH]
 have hsame:Same h (back h (only h [id]) ([id]++span h.next 0)):=by
  refine⟨by rw[back_next,only_next],λk=> ?_⟩;rw[back_get];split
  ·rename_i hk
   have:k=id:=by
    have hk:k∈[id]:=hk;simpa using hk
   subst this;rw[hget,g1]
  ·rfl
 obtain⟨r,⟨N,e⟩,q⟩:=w (.op i [id] false h.next h.next::recs) _ (dv.more ((dv.d.cons (Nat.le_refl _) (λk hk=>by rw[List.mem_singleton]at hk;rw[hk];exact g2) λb hb=>⟨dv.d.b b hb,λh=>by cases h⟩).same hsame.next) (Nat.le_of_eq hsame.next.symm) (.inr ⟨i,[id],h.next,rfl,λk hk=>by rw[List.mem_singleton]at hk;rw[hk];exact hB,λk hk=>by rw[List.mem_singleton]at hk;rw[hk,hsame.next];exact g2⟩) λj hj=>hj) hsame (LocE.ext ⟨cs,ro,g1,g2,g3⟩ hsame.ext);refine⟨r,.step ⟨N,λm hm=> ?_⟩,q⟩
 show(match guardOn all tm o with
  |some true=>dOp E (run E m) bs all rest o i recs tm h
  |some false=>run E m (.draw bs all rest (i+1) recs) (putTmp tm o.dst (.tup [])) h
  |none=> .stop)=r
 rw[hgd];show dOp E (run E m) bs all rest o i recs tm h=r;rw[dOp_any ho,hfp,hwr];have hnx:(only h [id]).next=h.next:=only_next _ _
 show(match okPairs ((nth bs i).getD Bits.nil) [id] false (span h.next ((only h [id]).next-h.next)) recs with
  |true=>run E m (.draw bs all rest (i+1) (.op i [id] false h.next (only h [id]).next::recs)) (putTmp tm o.dst (.agg _)) (back h (only h [id]) ([id]++span h.next ((only h [id]).next-h.next)))
  |false=> .stop)=r
 rw[hnx,Nat.sub_self];have:okPairs ((nth bs i).getD Bits.nil) [id] false (span h.next 0) recs=true:=DY.pairs_read hB dv.d;rw[this];exact e m hm
theorem W.stV {t:TypeId} {x y:Operand} {id off:Nat} {cs cs' vs:List CV} {s:TyS} (dv:DV B h idx nr recs) (hB:¬B id) (hid:(nr.all λj=>bit j ((nth bs i).getD Bits.nil))=true) (hgd:guardOn all tm o=some true) (hop:o.op= .store t x y) (hx:cvOf E.globs tm x= .ptr (some (id,off))) (hy:(cvOf E.globs tm y).cells=some vs)
  (hs:E.ty t=some s) (hl:Nat.beq (len vs) s.size=true) (hg:h.get id=some (.cells cs false)) (hp:setAt cs vs off=some cs')
  (w:∀recs' h',(∀r∈recs',recIdx r∈i::idx)->Same (h.put id (.cells cs' false)) h'->W E (.draw bs all rest (i+1) recs') (putTmp tm o.dst .undef) h' Q):W E (.draw bs all (o::rest) i recs) tm h Q:=by
 have hri:∀r∈recs,recIdx r∈idx:=λr hr=>(dv.d.r r hr).1
 have hfp:fpAny E o tm=[id]:=by
  unfold fpAny;rw[hop];show idOf (cvOf E.globs tm x)=[id];rw[hx];rfl
 have hwr:wrOf o.op=true:=by rw[hop];rfl
 have hget:(only h [id]).get id=some (.cells cs false):=by rw[only_get];simpa using hg
 have ho:opAny E o tm (only h (fpAny E o tm))=some (.undef,(only h [id]).put id (.cells cs' false)):=by
  rw[hfp];unfold opAny;rw[hop];show oStore E t (cvOf E.globs tm x) (cvOf E.globs tm y) (only h [id])=_;rw[hx];unfold oStore CM.store storeV;simp only[hs,hy,hl];unfold putCells;simp only[hget,hp,Option.map_some,ofH]
 have hnx:((only h [id]).put id (.cells cs' false)).next=h.next:=only_next _ _
 have hsame:Same (h.put id (.cells cs' false)) (back h ((only h [id]).put id (.cells cs' false)) ([id]++span h.next 0)):=by
  refine⟨by rw[back_next,hnx];rfl,λk=> ?_⟩;rw[back_get,Heap.get_put,Heap.get_put];split
  ·rename_i hk
   have:k=id:=by
    have hk:k∈[id]:=hk;simpa using hk
   subst this;simp
  ·rename_i hk
   have:¬id=k:=by
    intro e;subst e;exact hk (by show id∈[id];simp)
   rw[if_neg this]
 have hall:okPairs ((nth bs i).getD Bits.nil) [id] true (span h.next 0) recs=true:=DV.pairs (λb hb hm=>hB (by rw[List.mem_singleton]at hm;rw[<-hm];exact hb)) (λk hk=>(by cases hk)) (λj hj=>List.all_eq_true.1 hid _ hj) dv.r
 obtain⟨r,⟨N,e⟩,q⟩:=w (.op i [id] true h.next h.next::recs) _ (λr hm=>by
  rcases List.mem_cons.1 hm with rfl|hm
  ·simp[recIdx]
  ·exact List.mem_cons_of_mem _ (hri r hm)) hsame
 refine⟨r,.step ⟨N,λm hm=> ?_⟩,q⟩
 show(match guardOn all tm o with
  |some true=>dOp E (run E m) bs all rest o i recs tm h
  |some false=>run E m (.draw bs all rest (i+1) recs) (putTmp tm o.dst (.tup [])) h
  |none=> .stop)=r
 rw[hgd];show dOp E (run E m) bs all rest o i recs tm h=r;rw[dOp_any ho,hfp,hwr]
 show(match okPairs ((nth bs i).getD Bits.nil) [id] true (span h.next (((only h [id]).put id (.cells cs' false)).next-h.next)) recs with
  |true=>run E m (.draw bs all rest (i+1) (.op i [id] true h.next ((only h [id]).put id (.cells cs' false)).next::recs)) (putTmp tm o.dst .undef) (back h ((only h [id]).put id (.cells cs' false)) ([id]++span h.next (((only h [id]).put id (.cells cs' false)).next-h.next)))
  |false=> .stop)=r
 rw[hnx,Nat.sub_self,hall];exact e m hm
theorem W.dixR {α:Type} [Rp α] {l:List α} {v:CV} {t:TypeId} {x y:Operand} {s:TyS} {et j:Nat} {kk:IntKind} (sl:Sl H v l) (hj:j<l.length) (hgd:guardOn all tm o=some true) (hop:o.op= .indexAddr t x y) (hx:cvOf E.globs tm x=v) (hy:cvOf E.globs tm y= .int kk (j:Int)) (hs:E.ty t=some s) (hk:s.kind= .slice et) (hz:sizeOf? E et=some (Rp.z α))
  (w:∀id off e,LocE H id off e->Rp.R H e l[j]->W E (.draw bs all rest (i+1) recs) (putTmp tm o.dst (.ptr (some (id,off)))) h Q):W E (.draw bs all (o::rest) i recs) tm h Q:=by
 obtain⟨id,off,c,x',e,rfl,L,r⟩:=sl.at hj;exact W.dix hgd hop hx hy hs hk hz (place_of rfl hj) (w _ _ e L r)
end
theorem BodyQ.cell2 {E:Env} {tm:Tm} {h:Heap} {Q:R->Prop} {rs:List ResultVar} {a b i off j off2:Nat} {t t2:TypeId} {s s2:TyS} {cs cs2:List CV} {ro ro2:Bool} {v v2:CV} (hrs:rs=[.cell a t,.cell b t2]) (ha:tm.look a= .ptr (some (i,off))) (hb:tm.look b= .ptr (some (j,off2))) (hg:h.get i=some (.cells cs ro)) (hg2:h.get j=some (.cells cs2 ro2)) (hs:E.ty t=some s) (hs2:E.ty t2=some s2) (hp:CM.part cs off s.size s.agg=some v) (hp2:CM.part cs2 off2 s2.size s2.agg=some v2)
  (q:Q (.val (.tup [v,v2]) h)):BodyQ E rs Q (.code .ret tm h):=by
 show Q (kBody E rs (.code .ret tm h))
 have e:resultVals E h tm rs=some [v,v2]:=by
  subst hrs
  have hl:CM.load E h t i off=some v:=by
   unfold CM.load loadB;simp only[hg,hs,hp]
  have hl2:CM.load E h t2 j off2=some v2:=by
   unfold CM.load loadB;simp only[hg2,hs2,hp2]
  have h3:tm.get a=some (.ptr (some (i,off))):=by
   have:tm.get a=some (tm.look a):=rfl;rw[this,ha]
  have h4:tm.get b=some (.ptr (some (j,off2))):=by
   have:tm.get b=some (tm.look b):=rfl;rw[this,hb]
  unfold resultVals;simp only[h3,hl];unfold resultVals;simp only[h4,hl2,resultVals]
 unfold kBody;simp only[e];exact q
end Go.CM

noncomputable section
namespace Go.CM
theorem findKey_str {E:Env} {kt:TypeId} (hq:∀a b:Str,eqT E 20 kt (.str a) (.str b)=some (bytesEq a b)) {s:Str}:∀{es:List ME} {names:List Str} {i:Nat},es.map (·.key)=names.map CV.str->
  (s∈names->∃p,findKey E kt (.str s) es i=some (some p))/\(s∉names->findKey E kt (.str s) es i=some none)
 |[],[],i,_=>⟨λh=>(by cases h),λ_=>rfl⟩
 |[],a::names,i,h=>by simp at h
 |e::es,[],i,h=>by simp at h
 |e::es,a::names,i,h=>by
  have h1:e.key= .str a:=by simpa using(List.cons.inj h).1
  have h2:es.map (·.key)=names.map CV.str:=(List.cons.inj h).2;have ih:=findKey_str hq (s:=s) (es:=es) (names:=names) (i:=i+1) h2;unfold findKey;rw[h1,hq,bytesEq_eq];by_cases c:s=a
  ·rw[decide_eq_true c]
   exact⟨λ_=>⟨_,rfl⟩,λh=>absurd (by rw[c];simp) h⟩
  ·rw[decide_eq_false c]
   refine⟨λh=>ih.1 ?_,λh=>ih.2 λh2=>h (List.mem_cons_of_mem _ h2)⟩;rcases List.mem_cons.1 h with h|h
   ·exact absurd h c
   ·exact h
theorem findBorn_some {n:Nat}:∀{es:List ME} {j:Nat},(∃e∈es,e.born=n)->∃i,findBorn (Int.ofNat n) es j=some i
 |[],j,h=>by obtain⟨e,he,_⟩:=h;cases he
 |e::es,j,h=>by
  unfold findBorn;cases hb:intEq (Int.ofNat e.born) (Int.ofNat n)with
  |true=>exact⟨j,rfl⟩
  |false=>
   obtain⟨e',he,hn⟩:=h;rcases List.mem_cons.1 he with rfl|he
   ·rw[hn,intEq_eq]at hb
    simp at hb
   ·exact findBorn_some ⟨e',he,hn⟩
theorem setME_keys {f:ME->ME} (hf:∀e,(f e).key=e.key):∀(es:List ME) (i:Nat),(setME es f i).map (·.key)=es.map (·.key)
 |[],_=>rfl
 |e::es,0=>by show((f e)::es).map (·.key)=_;simp[hf]
 |e::es,i+1=>by show(e::setME es f i).map (·.key)=_;rw[List.map_cons,setME_keys hf es i];rfl
section
variable {E:Env} {tm:Tm} {h:Heap} {Q:R->Prop} {all rest:List Oper} {o:Oper} {bs:List Bits} {recs:List Rec} {i:Nat} {idx:List Nat}
theorem W.look {t:TypeId} {x y:Operand} {st:TyS} {kt et:TypeId} {es:List ME} {clock mb:Nat} {s:Str} {r:Option (Nat×CV)} {v:CV} (hgd:guardOn all tm o=some true) (hop:o.op= .lookup t x y true) (hx:cvOf E.globs tm x= .map (some mb)) (hy:cvOf E.globs tm y= .str s) (hg:h.get mb=some (.map es clock)) (hs:E.ty t=some st) (hk:st.kind= .map kt et) (hkey:keyOk E kt (.str s)=true) (hf:findKey E kt (.str s) es 0=some r) (hv:found E et true (some r)=some v)
  (w:W E (.ops all rest) (putTmp tm o.dst v) h Q):W E (.ops all (o::rest)) tm h Q:=by
 refine W.op hgd (v:=v) (h1:=h) ?_ w;unfold opAny;rw[hop];show withH h (oLookup E (E.ty t) (cvOf E.globs tm x) (cvOf E.globs tm y) true h)=_;rw[hx,hy,hs];unfold oLookup mapEs;simp only[hk,hkey,hg,hf,hv,withH]
theorem W.dment {t:TypeId} {x y:Operand} {st:TyS} {kt et:TypeId} {es:List ME} {clock mb:Nat} {s:Str} {z:CV} (hri:∀r∈recs,recIdx r∈idx) (hid:(idx.all λj=>bit j ((nth bs i).getD Bits.nil))=true) (hgd:guardOn all tm o=some true) (hop:o.op= .mapEntry t x y) (hx:cvOf E.globs tm x= .map (some mb)) (hy:cvOf E.globs tm y= .str s) (hg:h.get mb=some (.map es clock)) (hs:E.ty t=some st) (hk:st.kind= .map kt et) (hkey:keyOk E kt (.str s)=true) (hf:findKey E kt (.str s) es 0=some none) (hz:zeroV E et=some z)
  (w:∀recs' h',(∀r∈recs',recIdx r∈i::idx)->Same (h.put mb (.map (es++[⟨.str s,z,clock⟩]) (clock+1))) h'->W E (.draw bs all rest (i+1) recs') (putTmp tm o.dst (.tup [z,.int .i64 (Int.ofNat clock)])) h' Q):W E (.draw bs all (o::rest) i recs) tm h Q:=by
 refine W.dput (B1:= .map es clock) hri hid hgd (by unfold fpAny;rw[hop];show idOf (cvOf E.globs tm x)=[mb];rw[hx];rfl) (by rw[hop];rfl) hg (λh0 g0=> ?_) w;unfold opAny;rw[hop];show oMapEntry E (E.ty t) (cvOf E.globs tm x) (cvOf E.globs tm y) h0=_;rw[hx,hy,hs];unfold oMapEntry;simp only[hk,hkey,g0,hf,hz]
theorem W.dest {t:TypeId} {x y u:Operand} {es:List ME} {clock mb b:Nat} {kk:IntKind} {v:CV} (hri:∀r∈recs,recIdx r∈idx) (hid:(idx.all λj=>bit j ((nth bs i).getD Bits.nil))=true) (hgd:guardOn all tm o=some true) (hop:o.op= .entryStore t x y u) (hx:cvOf E.globs tm x= .map (some mb)) (hy:cvOf E.globs tm y= .int kk (Int.ofNat b)) (hu:cvOf E.globs tm u=v) (hg:h.get mb=some (.map es clock)) (hb:∃e∈es,e.born=b)
  (w:∀recs' h' es',(∀r∈recs',recIdx r∈i::idx)->es'.map (·.key)=es.map (·.key)->Same (h.put mb (.map es' clock)) h'->W E (.draw bs all rest (i+1) recs') (putTmp tm o.dst .undef) h' Q):W E (.draw bs all (o::rest) i recs) tm h Q:=by
 obtain⟨j,hj⟩:=findBorn_some (j:=0) hb;refine W.dput (B1:= .map es clock) (B2:= .map (setME es (λe=>⟨e.key,v,e.born⟩) j) clock) hri hid hgd (by unfold fpAny;rw[hop];show idOf (cvOf E.globs tm x)=[mb];rw[hx];rfl) (by rw[hop];rfl) hg (λh0 g0=> ?_) λrecs' h' h1 h2=>w recs' h' (setME es (λe=>⟨e.key,v,e.born⟩) j) h1 (setME_keys (f:=λe=>⟨e.key,v,e.born⟩) (λe=>rfl) es j) h2;unfold opAny;rw[hop];show oEntryStore (cvOf E.globs tm x) (cvOf E.globs tm y) (cvOf E.globs tm u) h0=_;rw[hx,hy,hu];unfold oEntryStore;simp only[g0,hj]
end
end Go.CM

noncomputable section
namespace Go.CM
theorem W.ixv {E:Env} {tm:Tm} {h:Heap} {Q:R->Prop} {all rest:List Oper} {o:Oper} {t e:TypeId} {x y:Operand} {cs:List CV} {s es:TyS} {kk:IntKind} {j n:Nat} {m:Int} {v:CV} (hgd:guardOn all tm o=some true) (hop:o.op= .index t x y) (hx:cvOf E.globs tm x= .agg cs) (hy:cvOf E.globs tm y= .int kk m) (hs:E.ty t=some s) (hk:s.kind= .array n e) (hes:E.ty e=some es) (hz:es.size=1) (hag:es.agg=false) (hn:place m n=some j) (hv:nth cs j=some v)
  (w:W E (.ops all rest) (putTmp tm o.dst v) h Q):W E (.ops all (o::rest)) tm h Q:=by
 refine W.op hgd (v:=v) (h1:=h) ?_ w;unfold opAny;rw[hop];show oIndex E (E.ty t) (cvOf E.globs tm x) (cvOf E.globs tm y) h=_;rw[hx,hy,hs];unfold oIndex
 have hp:CM.part cs (j*es.size) es.size es.agg=some v:=by
  rw[hag,hz,Nat.mul_one];exact hv
 simp only[hk,hn,hes,hp,withH]
end Go.CM

noncomputable section
namespace Go.CM
theorem W.ixp {E:Env} {tm:Tm} {h:Heap} {Q:R->Prop} {all rest:List Oper} {o:Oper} {t e:TypeId} {x y:Operand} {s:TyS} {kk:IntKind} {i off j n:Nat} {m:Int} (hgd:guardOn all tm o=some true) (hop:o.op= .indexAddr t x y) (hx:cvOf E.globs tm x= .ptr (some (i,off))) (hy:cvOf E.globs tm y= .int kk m) (hs:E.ty t=some s) (hk:s.kind= .array n e) (hz:sizeOf? E e=some 1) (hn:place m n=some j)
  (w:W E (.ops all rest) (putTmp tm o.dst (.ptr (some (i,off+j)))) h Q):W E (.ops all (o::rest)) tm h Q:=by
 refine W.op hgd (v:= .ptr (some (i,off+j))) (h1:=h) ?_ w;unfold opAny;rw[hop];show oIndexAddr E (E.ty t) (cvOf E.globs tm x) (cvOf E.globs tm y) h=_;rw[hx,hy,hs];unfold oIndexAddr;simp only[hk,hz,hn,addrAt,Nat.mul_one]
end Go.CM

noncomputable section
namespace Go.CM
section
variable {E:Env} {tm:Tm} {H h:Heap} {Q:R->Prop} {all rest:List Oper} {o:Oper} {bs:List Bits} {recs:List Rec} {i:Nat} {idx nr:List Nat}
theorem W.cutB {t:Task} (P:Tm->Heap->Prop) (w:W E t tm h (CutQ P)) (k:∀tm' h',P tm' h'->Q (.code .normal tm' h')):W E t tm h Q:=by
 refine w.mono λr q=> ?_;cases r with
 |code e tm' h'=>
  cases e with
  |normal=>exact k tm' h' q
  |_=>exact q.elim
 |_=>exact q.elim
end
end Go.CM

noncomputable section
namespace Go.CM
abbrev Tag:=Nat×Nat
section
variable {h h':Heap} {own own':Nat->Tag} {lo z:Nat} {t t':Tag} {v:CV} {l:List (List CV)}
theorem flat_set {f:Nat} {x:CV}:∀{l:List (List CV)} {k:Nat} {e:List CV},(∀e∈l,e.length=z)->f<z->l[k]? =some e->l.flatten.set (k*z+f) x=(l.set k (e.set f x)).flatten
 |[],k,e,_,_,h=>by simp at h
 |a::l,0,e,hz,hf,h=>by
  simp at h;subst h;have:=hz a (by simp);rw[Nat.zero_mul,Nat.zero_add,List.flatten_cons,List.set_append_left _ _ (by omega)];rfl
 |a::l,k+1,e,hz,hf,h=>by
  have ih:=flat_set (l:=l) (k:=k) (e:=e) (x:=x) (λx hx=>hz x (List.mem_cons_of_mem _ hx)) hf (by simpa using h);have:=hz a (by simp);rw[Nat.succ_mul,List.flatten_cons,List.set_append_right _ _ (by omega),show k*z+z+f-a.length=k*z+f by omega,ih];rfl
theorem setAt_one {cs:List CV} {x:CV} {o:Nat} (h:o<cs.length):setAt cs [x] o=some (cs.set o x):=by
 rw[setAt_eq,if_pos (by simp only[List.length_cons,List.length_nil];omega)]
 congr 1
 rw[List.set_eq_take_append_cons_drop,if_pos h];simp
theorem flat_len2 {k:Nat} {e:List CV} {f:Nat} (hz:∀e∈l,e.length=z) (hf:f<z) (hk:l[k]? =some e):k*z+f<l.flatten.length:=by
 rw[flat_len hz];have hk:=(List.getElem?_eq_some_iff.1 hk).1;have:(k+1)*z<=l.length*z:=Nat.mul_le_mul_right _ hk;rw[Nat.succ_mul]at this;omega
theorem flat_setAt {k:Nat} {e:List CV} {f:Nat} {x:CV} (hz:∀e∈l,e.length=z) (hf:f<z) (hk:l[k]? =some e):setAt l.flatten [x] (0+k*z+f)=some (l.set k (e.set f x)).flatten:=by
 rw[Nat.zero_add,setAt_one (flat_len2 hz hf hk),flat_set hz hf hk]
theorem flat_get {k:Nat} {e:List CV} {f:Nat} {x:CV} (hz:∀e∈l,e.length=z) (hk:l[k]? =some e) (hx:e[f]? =some x):nth l.flatten (0+k*z+f)=some x:=cut_nth (flat_cut hz hk) hx
end
section
variable {E:Env} {tm:Tm} {h:Heap} {own:Nat->Tag} {Q:R->Prop} {all rest:List Oper} {o:Oper}
end
end Go.CM

noncomputable section
namespace Go.CM
section
variable {h h' H:Heap} {lo z:Nat} {v:CV} {l:List (List CV)} {E:Env} {tm:Tm} {Q:R->Prop} {all rest:List Oper} {o:Oper} {bs:List Bits} {recs:List Rec} {i:Nat} {idx nr:List Nat}
theorem OwnR.at (s:OwnR h lo z v l) {j:Nat} (hj:j<l.length):∃i c x,v= .slice (some (i,0)) l.length c x/\lo<=i/\i<h.next/\idOf v=[i]/\h.get i=some (.cells l.flatten false)/\(∀e∈l,e.length=z):=by
 rcases s with⟨rfl,_⟩|⟨i,x,ro,rfl,h1,h2,h3,h4,h5⟩
 ·simp at hj
 ·have hl:l≠[]:=λe=>by rw[e]at hj;simp at hj
  have hro:ro=false:=by
   rcases h5 with⟨_,h5|h5⟩|⟨_,h5,_⟩
   ·exact absurd h5 hl
   ·exact h5
   ·exact h5
  subst hro;exact⟨i,_,_,rfl,h1,h2,rfl,h3,h4⟩
theorem OwnR.set (s:OwnR h lo z v l) {j i:Nat} {e:List CV} (hj:j<l.length) (he:e.length=z) (hn:h'.next=h.next) (hi:idOf v=[i]) (hg:h'.get i=some (.cells (l.set j e).flatten false)):OwnR h' lo z v (l.set j e):=by
 rcases s with⟨rfl,_⟩|⟨i',x,ro,rfl,h1,h2,h3,h4,h5⟩
 ·simp at hj
 ·have:i'=i:=by simpa[idOf]using hi
  subst this;refine .inr ⟨i',x,false,by rw[List.length_set],h1,by omega,hg,λa ha=> ?_,?_⟩
  ·rcases List.mem_or_eq_of_mem_set ha with ha|rfl
   ·exact h4 a ha
   ·exact he
  ·rcases h5 with⟨h5,_⟩|⟨h5,_,_⟩
   ·exact .inl ⟨h5,.inr rfl⟩
   ·exact .inr ⟨h5,rfl,λe0=>by
     have:=congrArg List.length e0;rw[List.length_set]at this;simp at this;rw[this]at hj;simp at hj⟩
end
end Go.CM

noncomputable section
namespace Go.CM
section
variable {E:Env} {tm:Tm} {H h:Heap} {Q:R->Prop} {all rest:List Oper} {o:Oper} {bs:List Bits} {recs:List Rec} {i:Nat} {idx nr nx:List Nat} {v:CV}
theorem W.dldE (ds:DX H h idx nx recs) {t:TypeId} {x:Operand} {id off:Nat} {cs:List CV} {ro:Bool} {s:TyS} (hgd:guardOn all tm o=some true) (hop:o.op= .load t x) (hx:cvOf E.globs tm x= .ptr (some (id,off))) (hg:H.get id=some (.cells cs ro)) (hid:id<H.next) (hs:E.ty t=some s) (hp:part cs off s.size s.agg=some v)
  (w:∀h',Same h h'->Ext H h'->W E (.draw bs all rest (i+1) (.op i [id] false h.next h.next::recs)) (putTmp tm o.dst v) h' Q):W E (.draw bs all (o::rest) i recs) tm h Q:=by
 have hfp:fpAny E o tm=[id]:=by
  unfold fpAny;rw[hop];show idOf (cvOf E.globs tm x)=[id];rw[hx];rfl
 have hwr:wrOf o.op=false:=by rw[hop];rfl
 have hgh:h.get id=some (.cells cs ro):=(ds.x.old id hid).trans hg;have hget:(only h [id]).get id=some (.cells cs ro):=by rw[only_get];simpa using hgh
 have ho:opAny E o tm (only h (fpAny E o tm))=some (v,only h [id]):=by
  rw[hfp];unfold opAny;rw[hop];show oLoad E t (cvOf E.globs tm x) (only h [id])=_;rw[hx];unfold oLoad CM.load loadB;simp only[hget,hs,hp,withH]
 have hsame:Same h (back h (only h [id]) ([id]++span h.next 0)):=by
  refine⟨by rw[back_next,only_next],λk=> ?_⟩;rw[back_get];split
  ·rename_i hk
   have:k=id:=by
    have hk:k∈[id]:=hk;simpa using hk
   subst this;rw[hget,hgh]
  ·rfl
 have hfc:∀k∈[id],k<H.next/\CellsAt H k:=λk hk=>by rw[List.mem_singleton]at hk;subst hk;exact⟨hid,cs,ro,hg⟩
 obtain⟨r,⟨N,e⟩,q⟩:=w _ hsame (ds.x.trans hsame.ext);refine⟨r,.step ⟨N,λm hm=> ?_⟩,q⟩
 show(match guardOn all tm o with
  |some true=>dOp E (run E m) bs all rest o i recs tm h
  |some false=>run E m (.draw bs all rest (i+1) recs) (putTmp tm o.dst (.tup [])) h
  |none=> .stop)=r
 rw[hgd];show dOp E (run E m) bs all rest o i recs tm h=r;rw[dOp_any ho,hfp,hwr];have hnx:(only h [id]).next=h.next:=only_next _ _
 show(match okPairs ((nth bs i).getD Bits.nil) [id] false (span h.next ((only h [id]).next-h.next)) recs with
  |true=>run E m (.draw bs all rest (i+1) (.op i [id] false h.next (only h [id]).next::recs)) (putTmp tm o.dst v) (back h (only h [id]) ([id]++span h.next ((only h [id]).next-h.next)))
  |false=> .stop)=r
 rw[hnx,Nat.sub_self];have:okPairs ((nth bs i).getD Bits.nil) [id] false (span h.next 0) recs=true:=okX_read hfc λr hm=>(ds.r r hm).1;rw[this];exact e m hm
theorem W.dstG {t:TypeId} {x y:Operand} {id off:Nat} {cs cs' vs:List CV} {s:TyS} (hri:∀r∈recs,recIdx r∈idx) (hrr:∀r∈recs,recIdx r∈nr\/∃i fp lo,r= .op i fp false lo lo/\(∀k∈fp,k≠id)/\∀k∈fp,k<h.next) (hid:(nr.all λj=>bit j ((nth bs i).getD Bits.nil))=true) (hgd:guardOn all tm o=some true) (hop:o.op= .store t x y) (hx:cvOf E.globs tm x= .ptr (some (id,off))) (hy:(cvOf E.globs tm y).cells=some vs)
  (hs:E.ty t=some s) (hl:Nat.beq (len vs) s.size=true) (hg:h.get id=some (.cells cs false)) (hp:setAt cs vs off=some cs')
  (w:∀recs' h',(∀r∈recs',recIdx r∈i::idx)->Same (h.put id (.cells cs' false)) h'->W E (.draw bs all rest (i+1) recs') (putTmp tm o.dst .undef) h' Q):W E (.draw bs all (o::rest) i recs) tm h Q:=by
 have hfp:fpAny E o tm=[id]:=by
  unfold fpAny;rw[hop];show idOf (cvOf E.globs tm x)=[id];rw[hx];rfl
 have hwr:wrOf o.op=true:=by rw[hop];rfl
 have hget:(only h [id]).get id=some (.cells cs false):=by rw[only_get];simpa using hg
 have ho:opAny E o tm (only h (fpAny E o tm))=some (.undef,(only h [id]).put id (.cells cs' false)):=by
  rw[hfp];unfold opAny;rw[hop];show oStore E t (cvOf E.globs tm x) (cvOf E.globs tm y) (only h [id])=_;rw[hx];unfold oStore CM.store storeV;simp only[hs,hy,hl];unfold putCells;simp only[hget,hp,Option.map_some,ofH]
 have hnx:((only h [id]).put id (.cells cs' false)).next=h.next:=only_next _ _
 have hsame:Same (h.put id (.cells cs' false)) (back h ((only h [id]).put id (.cells cs' false)) ([id]++span h.next 0)):=by
  refine⟨by rw[back_next,hnx];rfl,λk=> ?_⟩;rw[back_get,Heap.get_put,Heap.get_put];split
  ·rename_i hk
   have:k=id:=by
    have hk:k∈[id]:=hk;simpa using hk
   subst this;simp
  ·rename_i hk
   have:¬id=k:=by
    intro e;subst e;exact hk (by show id∈[id];simp)
   rw[if_neg this]
 have hall:okPairs ((nth bs i).getD Bits.nil) [id] true (span h.next 0) recs=true:=DV.pairs (B:=λk=>k≠id) (h:=h) (nr:=nr) (λb hb hm=>hb (List.mem_singleton.1 hm)) (λk hk=>(by cases hk)) (λj hj=>List.all_eq_true.1 hid _ hj) hrr
 obtain⟨r,⟨N,e⟩,q⟩:=w (.op i [id] true h.next h.next::recs) _ (λr hm=>by
  rcases List.mem_cons.1 hm with rfl|hm
  ·simp[recIdx]
  ·exact List.mem_cons_of_mem _ (hri r hm)) hsame
 refine⟨r,.step ⟨N,λm hm=> ?_⟩,q⟩
 show(match guardOn all tm o with
  |some true=>dOp E (run E m) bs all rest o i recs tm h
  |some false=>run E m (.draw bs all rest (i+1) recs) (putTmp tm o.dst (.tup [])) h
  |none=> .stop)=r
 rw[hgd];show dOp E (run E m) bs all rest o i recs tm h=r;rw[dOp_any ho,hfp,hwr]
 show(match okPairs ((nth bs i).getD Bits.nil) [id] true (span h.next (((only h [id]).put id (.cells cs' false)).next-h.next)) recs with
  |true=>run E m (.draw bs all rest (i+1) (.op i [id] true h.next ((only h [id]).put id (.cells cs' false)).next::recs)) (putTmp tm o.dst .undef) (back h ((only h [id]).put id (.cells cs' false)) ([id]++span h.next (((only h [id]).put id (.cells cs' false)).next-h.next)))
  |false=> .stop)=r
 rw[hnx,Nat.sub_self,hall];exact e m hm
theorem W.dlkE {H0:Heap} {t:TypeId} {x:Operand} {id off k:Nat} {e:List CV} {s:TyS} {v:CV} (L:LocE H0 id off e) (ds:DX H h idx nx recs) (X:Ext H0 H) (hgd:guardOn all tm o=some true) (hop:o.op= .load t x) (hx:cvOf E.globs tm x= .ptr (some (id,off+k))) (hs:E.ty t=some s) (h1:s.size=1) (h2:s.agg=false) (he:e[k]? =some v)
  (w:∀h',Same h h'->Ext H h'->W E (.draw bs all rest (i+1) (.op i [id] false h.next h.next::recs)) (putTmp tm o.dst v) h' Q):W E (.draw bs all (o::rest) i recs) tm h Q:=by
 obtain⟨cs,ro,g1,g2,g3⟩:=L;have hn:=cut_nth g3 he;refine W.dldE ds hgd hop hx ((X.old id g2).trans g1) (Nat.lt_of_lt_of_le g2 X.next) hs (v:=v) ?_ w;rw[h1,h2];exact hn
end
end Go.CM

noncomputable section
namespace Go.CM
theorem W.dlnS {E:Env} {tm:Tm} {h H:Heap} {Q:R->Prop} {all rest:List Oper} {o:Oper} {bs:List Bits} {recs:List Rec} {i:Nat} {α:Type} [Rp α] {l:List α} {c:Call} {t e:TypeId} {s:TyS} {v:CV} (sl:Sl H v l)
  (hgd:guardOn all tm o=some true) (hop:o.op= .call c) (hb:c.callee= .builtin .len) (hty:c.argTypes.toList=[t]) (ha:c.args.toList.map (cvOf E.globs tm)=[v]) (hts:E.ty t=some s) (hk:s.kind= .slice e)
  (w:W E (.draw bs all rest (i+1) recs) (putTmp tm o.dst (.int .i64 (l.length:Int))) h Q):W E (.draw bs all (o::rest) i recs) tm h Q:=by
 have hl:=sl.lenOf;refine W.dop hgd (v:= .int .i64 (l.length:Int)) ?_ ?_ w
 ·unfold fpAny
  rw[hop];simp only[fpOf,hb];rw[ha];rcases hl with⟨rfl,_⟩|⟨p,c',x,rfl⟩<;>rfl
 ·unfold opAny
  rw[hop];simp only[hb];show builtinV E _ .len c.argTypes.toList (c.args.toList.map (cvOf E.globs tm))=_;rw[hty,ha];rcases hl with⟨rfl,hz⟩|⟨p,c',x,rfl⟩
  ·simp[builtinV,lenV,hts,hk,hz];rfl
  ·simp[builtinV,lenV,hts,hk];rfl
end Go.CM

noncomputable section
namespace Go.CM
theorem W.dixI {E:Env} {tm:Tm} {h H:Heap} {Q:R->Prop} {all rest:List Oper} {o:Oper} {bs:List Bits} {recs:List Rec} {i:Nat} {l:List Int} {v:CV} {t:TypeId} {x y:Operand} {s:TyS} {et j:Nat} {kk:IntKind} (sl:Sl H v l) (hj:j<l.length)
  (w:∀id off,LocE H id off [.int .i64 (l.getD j 0)]->W E (.draw bs all rest (i+1) recs) (putTmp tm o.dst (.ptr (some (id,off)))) h Q)
  (hgd:guardOn all tm o=some true:=by rfl) (hop:o.op= .indexAddr t x y:=by rfl) (hx:cvOf E.globs tm x=v:=by rfl) (hy:cvOf E.globs tm y= .int kk (j:Int):=by rfl) (hs:E.ty t=some s:=by rfl) (hk:s.kind= .slice et:=by rfl) (hz:sizeOf? E et=some (Rp.z Int):=by rfl):W E (.draw bs all (o::rest) i recs) tm h Q:=
 W.dixF sl hj hgd hop hx hy hs hk hz λid off L=>w id off (by
  rw[show l.getD j 0=l[j] by simp[List.getD_eq_getElem?_getD,hj]];exact L)
end Go.CM

noncomputable section
namespace Go.CM
theorem SlG.ones {h:Heap} {i:Nat} {cs:List CV} (hi:i<h.next) (g:h.get i=some (.cells cs false)):SlG h 1 (.slice (some (i,0)) cs.length cs.length 0) (cs.map λc=>[c]):=by
 refine .inr (.inr ⟨i,0,cs.length,0,cs,false,by rw[List.length_map],hi,g,λj e he=> ?_,by rw[List.length_map];exact Nat.le_refl _,.inl rfl⟩)
 have hz:∀e∈cs.map λc=>[c],e.length=1:=λe he=>by
  obtain⟨c,_,rfl⟩:=List.mem_map.1 he;rfl
 refine⟨hz e (List.mem_of_getElem? he),?_⟩;have:=flat_cut hz he;rwa[flatten_ones]at this
section
variable {h h' H:Heap} {z:Nat} {l:List (List CV)} {E:Env} {tm:Tm} {Q:R->Prop} {all rest:List Oper} {o:Oper} {B:Nat->Prop} {bs:List Bits} {recs:List Rec} {i:Nat} {idx nr:List Nat}
theorem DV.pairsR {ahead:Bits} {fp:List Nat} {news:List Nat} (hnew:∀k∈news,h.next<=k) (hnr:∀j∈nr,bit j ahead=true):∀{recs:List Rec},(∀r∈recs,recIdx r∈nr\/∃i fp lo,r= .op i fp false lo lo/\(∀k∈fp,B k)/\∀k∈fp,k<h.next)->okPairs ahead fp false news recs=true
 |[],_=>rfl
 |r::rs,hr=>by
  unfold okPairs;have ih:=DV.pairsR (fp:=fp) (news:=news) hnew hnr (recs:=rs) λx hx=>hr x (List.mem_cons_of_mem _ hx);rcases hr r (by simp)with h1|⟨i,fp',lo,rfl,h2,h3⟩
  ·rw[hnr _ h1,ih]
   cases okPair fp false news r<;>rfl
  ·have:okPair fp false news (.op i fp' false lo lo)=true:=by
     rw[okPair_op,all1_each λk hk=>by
      unfold opApart;rw[within_self];rfl]
     show all1 news (λk=> !mem k fp')=true;refine all1_each λk hk=> ?_;rw[mem_false λx hx e=>by have:=h3 x hx;have:=hnew k hk;omega];rfl
   rw[this];exact ih
theorem W.apVs {c:Call} {t t2 e:TypeId} {ts es t2s:TyS} {s s2:CV} {l2:List (List CV)} (dv:DV B h idx nr recs) (X:Ext H h) (so:OwnR h H.next z s l) (s2l:SlG h z s2 l2) (hB:∀b,B b->b∉idOf s) (hid:(nr.all λj=>bit j ((nth bs i).getD Bits.nil))=true)
  (hgd:guardOn all tm o=some true) (hop:o.op= .call c) (hb:c.callee= .builtin .append) (hty:c.argTypes.toList=[t,t2]) (ha:c.args.toList.map (cvOf E.globs tm)=[s,s2])
  (hts:E.ty t=some ts) (hk:ts.kind= .slice e) (hes:E.ty e=some es) (hz:es.size=z) (hz0:(Nat.beq es.size 0||Nat.beq es.bytes 0)=false) (ht2:E.ty t2=some t2s) (hk2:t2s.kind= .slice e) (hm:(l.length+l2.length)*es.bytes<=70368744177664)
  (w:∀recs' v' h',DV B h' (i::idx) (i::nr) recs'->Ext H h'->(∀b,B b->h'.get b=h.get b)->h.next<=h'.next->OwnR h' H.next z v' (l++l2)->(∀c,c<h.next->idOf s≠[c]->idOf v'≠[c])->W E (.draw bs all rest (i+1) recs') (putTmp tm o.dst v') h' Q):W E (.draw bs all (o::rest) i recs) tm h Q:=by
 have d:=dv.d;have hnr:∀j∈nr,bit j ((nth bs i).getD Bits.nil)=true:=λj hj=>List.all_eq_true.1 hid j hj;refine W.apC (λn _=>⟨DV.pairsR (λk hk=>((mem_span _ _ _).1 hk).1) hnr dv.r,DV.pairs hB (λk hk=>((mem_span _ _ _).1 hk).1) hnr dv.r⟩) X so s2l hgd hop hb hty ha hts hk hes hz hz0 ht2 hk2 hm λrecs' v' h' hr hlt X' nn kk O' kid _=> ?_;refine w recs' v' h' ?_ X' (λb hb=>kk b (d.b b hb) (.inr λe=>hB b hb (by rw[e];simp))) nn O' kid;rcases hr with rfl|⟨lo,hi,rfl,rfl⟩
 ·exact⟨⟨λr hr=>⟨List.mem_cons_of_mem _ (d.r r hr).1,by obtain⟨i,fp,ws,lo,hi,h2,h3,h4⟩:=(d.r r hr).2;exact⟨i,fp,ws,lo,hi,h2,λk hk=>Nat.lt_of_lt_of_le (h3 k hk) nn,h4⟩⟩,λb hb=>Nat.lt_of_lt_of_le (d.b b hb) nn⟩,λr hr=>(dv.r r hr).imp (List.mem_cons_of_mem _) λ⟨i,fp,lo,h1,h2,h3⟩=>⟨i,fp,lo,h1,h2,λk hk=>Nat.lt_of_lt_of_le (h3 k hk) nn⟩⟩
 ·exact dv.more (d.tail nn rfl ⟨_,_,_,_,_,.inl rfl,λk hk=>Nat.lt_of_lt_of_le (hlt k hk) nn,λb hb=>⟨d.b b hb,hB b hb⟩⟩) nn (.inl (by simp[recIdx])) λj hj=>List.mem_cons_of_mem _ hj
end
end Go.CM

noncomputable section
namespace Go.CM
section
variable {E:Env} {t:Task} {tm:Tm} {h h1:Heap} {Q:R->Prop} {all rest:List Oper} {o:Oper} {v:CV}
theorem RoundQ.ret {i:Nat} {tmx:Tm} {psx:List Nat} {asg body:Code} {st:Nat} {pend:Option Code} (hg:h.get i=some (.loop tmx psx asg body st pend)) (q:Q (.val (.bool false) (h.put i (.loop tmx psx asg body 2 (some .ret))))):RoundQ i Q (.code .ret tm h):=by
 show Q (match h.get i with
  |some (.loop tm ps asg body _ _)=> .val (.bool false) (h.put i (.loop tm ps asg body 2 (some .ret)))
  |_=> .stop)
 rw[hg];exact q
theorem RoundQ.retX {i:Nat} {tmx:Tm} {psx:List Nat} {asg body:Code} {st:Nat} {pend:Option Code} (hg:h.get i=some (.loop tmx psx asg body st pend)) (q:∀G,G.next=h.next->G.get i=some (.loop tmx psx asg body 2 (some .ret))->(∀k,k≠i->G.get k=h.get k)->Q (.val (.bool false) G)):RoundQ i Q (.code .ret tm h):=
 RoundQ.ret hg (q _ rfl (by rw[Heap.get_put];simp) λj hj=>by rw[Heap.get_put,if_neg (Ne.symm hj)])
theorem RangeQ.ret {i:Nat} {tmx:Tm} {psx:List Nat} {asg body:Code} {st:Nat} (hg:h.get i=some (.loop tmx psx asg body st (some .ret))) (hs:Nat.beq st 1=false) (q:Q (.code .ret tm (h.del i))):RangeQ i tm Q (.val v h):=by
 show Q (match h.get i with
  |some (.loop _ _ _ _ st pend)=>match Nat.beq st 1 with
   |true=> .stop
   |false=>endBy pend tm (h.del i)
  |_=> .stop)
 rw[hg];simp only[hs];exact q
end
end Go.CM

noncomputable section
namespace Go.CM
section
variable {E:Env} {t:Task} {tm:Tm} {h h1:Heap} {Q:R->Prop} {all rest:List Oper} {o:Oper} {v:CV}
theorem W.k18 (i0 i1 i2 i3 i4 i5 i6 i7 i8 i9 i10 i11 i12 i13 i14 i15 i16 i17:Nat) {v0 v1 v2 v3 v4 v5 v6 v7 v8 v9 v10 v11 v12 v13 v14 v15 v16 v17:CV} (w:∀T:Tm,W E t ((((((((((((((((((T.set i0 (some v0)).set i1 (some v1)).set i2 (some v2)).set i3 (some v3)).set i4 (some v4)).set i5 (some v5)).set i6 (some v6)).set i7 (some v7)).set i8 (some v8)).set i9 (some v9)).set i10 (some v10)).set i11 (some v11)).set i12 (some v12)).set i13 (some v13)).set i14 (some v14)).set i15 (some v15)).set i16 (some v16)).set i17 (some v17)) h Q) (e0:tm.look i0=v0:=by conv=>lhs;whnf) (e1:tm.look i1=v1:=by conv=>lhs;whnf) (e2:tm.look i2=v2:=by conv=>lhs;whnf) (e3:tm.look i3=v3:=by conv=>lhs;whnf) (e4:tm.look i4=v4:=by conv=>lhs;whnf) (e5:tm.look i5=v5:=by conv=>lhs;whnf) (e6:tm.look i6=v6:=by conv=>lhs;whnf) (e7:tm.look i7=v7:=by conv=>lhs;whnf) (e8:tm.look i8=v8:=by conv=>lhs;whnf) (e9:tm.look i9=v9:=by conv=>lhs;whnf) (e10:tm.look i10=v10:=by conv=>lhs;whnf) (e11:tm.look i11=v11:=by conv=>lhs;whnf) (e12:tm.look i12=v12:=by conv=>lhs;whnf) (e13:tm.look i13=v13:=by conv=>lhs;whnf) (e14:tm.look i14=v14:=by conv=>lhs;whnf) (e15:tm.look i15=v15:=by conv=>lhs;whnf) (e16:tm.look i16=v16:=by conv=>lhs;whnf) (e17:tm.look i17=v17:=by conv=>lhs;whnf) (e:((((((((((((((((((tm.set i0 (some v0)).set i1 (some v1)).set i2 (some v2)).set i3 (some v3)).set i4 (some v4)).set i5 (some v5)).set i6 (some v6)).set i7 (some v7)).set i8 (some v8)).set i9 (some v9)).set i10 (some v10)).set i11 (some v11)).set i12 (some v12)).set i13 (some v13)).set i14 (some v14)).set i15 (some v15)).set i16 (some v16)).set i17 (some v17))=tm:=by rfl):W E t tm h Q:=Eq.subst (motive:=λx=>W E t x h Q) e (w tm)
end
end Go.CM

noncomputable section
set_option linter.unusedSectionVars false
namespace Go.CM
section
variable {α:Type} [DecidableEq α] {E:Env} {kt:TypeId} {enc:α->CV}
def MP.ent (enc:α->CV):Nat->List (α×CV)->List ME
 |_,[]=>[]
 |j,a::r=>⟨enc a.1,a.2,j⟩::MP.ent enc (j+1) r
def MP.pos (k:α):List (α×CV)->Option Nat
 |[]=>none
 |a::r=>if k=a.1 then some 0 else(MP.pos k r).map (· +1)
def MP.look (k:α):List (α×CV)->Option CV
 |[]=>none
 |a::r=>if k=a.1 then some a.2 else MP.look k r
def MP.upd (k:α) (v:CV):List (α×CV)->List (α×CV)
 |[]=>[(k,v)]
 |a::r=>if k=a.1 then(a.1,v)::r else a::MP.upd k v r
/-- The place of a key, or of the next entry. -/
def MP.at (k:α) (al:List (α×CV)):Nat:=(MP.pos k al).getD al.length
/-- With an entry for the key. -/
def MP.with_ (k:α) (z:CV) (al:List (α×CV)):List (α×CV):=match MP.pos k al with
 |some _=>al
 |none=>al++[(k,z)]
structure MP.Key (E:Env) (kt:TypeId) (enc:α->CV):Prop where
 eq:∀a b,eqT E 20 kt (enc a) (enc b)=some (decide (a=b))
 same:∀a,keySame (enc a) (enc a)=true
 ok:∀a,keyOk E kt (enc a)=true
theorem MP.find (K:MP.Key E kt enc) (k:α):∀(al:List (α×CV)) (j i:Nat),findKey E kt (enc k) (MP.ent enc j al) i=some ((MP.pos k al).bind λp=>(MP.look k al).map λv=>(i+p,v))
 |[],_,_=>rfl
 |a::r,j,i=>by
  have ih:=MP.find K k r (j+1) (i+1)
  unfold MP.ent findKey MP.pos MP.look
  simp only[K.eq]
  by_cases c:k=a.1
  ·rw[decide_eq_true c,if_pos c,if_pos c]
   show(match keySame (enc k) (enc a.1)with|true=>some (some (i,a.2))|false=>none)=_
   rw[c,K.same];rfl
  ·rw[decide_eq_false c,if_neg c,if_neg c]
   show findKey E kt (enc k) (MP.ent enc (j+1) r) (i+1)=_
   rw[ih]
   cases MP.pos k r with
   |none=>rfl
   |some p=>
    cases MP.look k r with
    |none=>rfl
    |some v=>
     show some (some (i+1+p,v))=some (some (i+(p+1),v))
     rw[show i+1+p=i+(p+1) by omega]
theorem MP.pos_look (k:α):∀(al:List (α×CV)),(MP.pos k al=none/\MP.look k al=none)\/∃p v,MP.pos k al=some p/\MP.look k al=some v/\al[p]? =some (k,v)
 |[]=> .inl ⟨rfl,rfl⟩
 |a::r=>by
  unfold MP.pos MP.look
  by_cases c:k=a.1
  ·rw[if_pos c,if_pos c]
   exact .inr ⟨0,a.2,rfl,rfl,by rw[c];rfl⟩
  ·rw[if_neg c,if_neg c]
   rcases MP.pos_look k r with⟨h1,h2⟩|⟨p,v,h1,h2,h3⟩
   ·exact .inl ⟨by rw[h1];rfl,h2⟩
   ·exact .inr ⟨p+1,v,by rw[h1];rfl,h2,by simpa using h3⟩
theorem MP.find_no (K:MP.Key E kt enc) {k:α} {al:List (α×CV)} (h:MP.look k al=none) {j i:Nat}:findKey E kt (enc k) (MP.ent enc j al) i=some none:=by
 rw[MP.find K,h]
 cases MP.pos k al<;>rfl
theorem MP.ent_len:∀(al:List (α×CV)) (j:Nat),(MP.ent enc j al).length=al.length
 |[],_=>rfl
 |a::r,j=>by unfold MP.ent;rw[List.length_cons,MP.ent_len r,List.length_cons]
theorem MP.ent_app:∀(al bs:List (α×CV)) (j:Nat),MP.ent enc j (al++bs)=MP.ent enc j al++MP.ent enc (j+al.length) bs
 |[],_,_=>rfl
 |a::r,bs,j=>by
  show(⟨enc a.1,a.2,j⟩:ME)::MP.ent enc (j+1) (r++bs)=⟨enc a.1,a.2,j⟩::(MP.ent enc (j+1) r++MP.ent enc (j+(r.length+1)) bs)
  rw[MP.ent_app r bs,show j+1+r.length=j+(r.length+1) by omega]
theorem MP.setME_ent (v:Option CV):∀(al:List (α×CV)) (j p:Nat),setME (MP.ent enc j al) (λe=>⟨e.key,v.getD e.val,e.born⟩) p=MP.ent enc j (match al[p]? with|some a=>al.set p (a.1,v.getD a.2)|none=>al)
 |[],_,_=>by simp[MP.ent,setME]
 |a::r,j,0=>rfl
 |a::r,j,p+1=>by
  have ih:=MP.setME_ent v r (j+1) p
  show(⟨enc a.1,a.2,j⟩:ME)::setME (MP.ent enc (j+1) r) _ p=_
  rw[ih,List.getElem?_cons_succ]
  cases r[p]? <;>rfl
theorem MP.born:∀(al:List (α×CV)) (j i p:Nat),p<al.length->findBorn (Int.ofNat (j+p)) (MP.ent enc j al) i=some (i+p)
 |[],_,_,_,h=>by simp at h
 |a::r,j,i,0,_=>by
  unfold MP.ent findBorn
  rw[show intEq (Int.ofNat (⟨enc a.1,a.2,j⟩:ME).born) (Int.ofNat (j+0))=true by rw[intEq_eq];simp]
  rfl
 |a::r,j,i,p+1,h=>by
  unfold MP.ent findBorn
  rw[show intEq (Int.ofNat (⟨enc a.1,a.2,j⟩:ME).born) (Int.ofNat (j+(p+1)))=false by
   rw[intEq_eq]
   refine decide_eq_false λe=> ?_
   have:j=j+(p+1):=Int.ofNat.inj e
   omega]
  show findBorn (Int.ofNat (j+(p+1))) (MP.ent enc (j+1) r) (i+1)=_
  rw[show j+(p+1)=j+1+p by omega,MP.born r (j+1) (i+1) p (by simpa using h),show i+1+p=i+(p+1) by omega]
theorem MP.set_upd (k:α) (v z:CV):∀(al:List (α×CV)),(match(MP.with_ k z al)[MP.at k al]? with|some a=>(MP.with_ k z al).set (MP.at k al) (a.1,v)|none=>MP.with_ k z al)=MP.upd k v al
 |[]=>by simp[MP.with_,MP.at,MP.pos,MP.upd]
 |a::r=>by
  have ih:=MP.set_upd k v z r
  unfold MP.with_ MP.at at ih ⊢
  by_cases c:k=a.1
  ·have e:MP.pos k (a::r)=some 0:=by unfold MP.pos;rw[if_pos c]
   rw[e]
   unfold MP.upd
   rw[if_pos c];rfl
  ·have e:MP.pos k (a::r)=(MP.pos k r).map (· +1):=by
     conv=>lhs;unfold MP.pos
     rw[if_neg c]
   rw[e]
   conv=>rhs;unfold MP.upd
   rw[if_neg c,<-ih]
   cases hp:MP.pos k r with
   |none=>
    show(match(a::(r++[(k,z)]))[r.length+1]? with|some b=>_|none=>_)=_
    simp only[List.getElem?_cons_succ]
    show _=a::(match(r++[(k,z)])[r.length]? with|some b=>_|none=>_)
    cases (r++[(k,z)])[r.length]? <;>rfl
   |some p=>
    show(match(a::r)[p+1]? with|some b=>_|none=>_)=_
    simp only[List.getElem?_cons_succ]
    show _=a::(match r[p]? with|some b=>_|none=>_)
    cases r[p]? <;>rfl
theorem MP.at_lt (k:α) (z:CV) (al:List (α×CV)):MP.at k al<(MP.with_ k z al).length:=by
 unfold MP.at MP.with_
 rcases MP.pos_look k al with⟨h1,_⟩|⟨p,v,h1,_,h3⟩
 ·rw[h1];simp
 ·rw[h1]
  exact(List.getElem?_eq_some_iff.1 h3).1
theorem MP.look_upd (k:α) (v:CV) (k':α):∀(al:List (α×CV)),MP.look k' (MP.upd k v al)=if k'=k then some v else MP.look k' al
 |[]=>by
  unfold MP.upd MP.look
  by_cases c:k'=k
  ·rw[if_pos c,if_pos c]
  ·rw[if_neg c,if_neg c];rfl
 |a::r=>by
  have ih:=MP.look_upd k v k' r
  unfold MP.upd
  by_cases c:k=a.1
  ·rw[if_pos c]
   unfold MP.look
   by_cases d:k'=a.1
   ·rw[if_pos d,if_pos (by rw[d,c])]
   ·rw[if_neg d,if_neg d,if_neg (λe=>d (by rw[e,c]))]
  ·rw[if_neg c]
   unfold MP.look
   by_cases d:k'=a.1
   ·rw[if_pos d,if_pos d,if_neg (λe=>c (by rw[<-e,d]))]
   ·rw[if_neg d,if_neg d,ih]
variable {tm:Tm} {h:Heap} {Q:R->Prop} {all rest:List Oper} {o:Oper} {bs:List Bits} {recs:List Rec} {i:Nat} {idx:List Nat} {al:List (α×CV)} {t et:TypeId} {x y u:Operand} {st:TyS} {mb clock:Nat} {k:α} {z v:CV} {ok:Bool}
theorem MP.found (K:MP.Key E kt enc) (hz:zeroV E et=some z):found E et ok (findKey E kt (enc k) (MP.ent enc 0 al) 0)=some (okTup ok ((MP.look k al).getD z) (MP.look k al).isSome):=by
 rw[MP.find K]
 rcases MP.pos_look k al with⟨h1,h2⟩|⟨p,v,h1,h2,_⟩
 ·rw[h1,h2]
  unfold CM.found
  show(zeroV E et).map _=_
  rw[hz];rfl
 ·rw[h1,h2];rfl
/-- A look into a map. -/
theorem W.lookM (K:MP.Key E kt enc) (hg:h.get mb=some (.map (MP.ent enc 0 al) clock)) (hgd:guardOn all tm o=some true) (hop:o.op= .lookup t x y ok) (hx:cvOf E.globs tm x= .map (some mb)) (hy:cvOf E.globs tm y=enc k) (hs:E.ty t=some st) (hk:st.kind= .map kt et) (hz:zeroV E et=some z) (hr:okTup ok ((MP.look k al).getD z) (MP.look k al).isSome=v)
  (w:W E (.ops all rest) (putTmp tm o.dst v) h Q):W E (.ops all (o::rest)) tm h Q:=by
 subst hr
 refine W.op hgd (v:=okTup ok ((MP.look k al).getD z) (MP.look k al).isSome) (h1:=h) ?_ w
 unfold opAny
 rw[hop]
 show withH h (oLookup E (E.ty t) (cvOf E.globs tm x) (cvOf E.globs tm y) ok h)=_
 rw[hx,hy,hs]
 unfold oLookup mapEs
 simp only[hk,K.ok,hg,MP.found K hz,withH]
theorem MP.entry (K:MP.Key E kt enc) (hs:E.ty t=some st) (hk:st.kind= .map kt et) (hz:zeroV E et=some z) {h0:Heap} (g0:h0.get mb=some (.map (MP.ent enc 0 al) al.length)):oMapEntry E (E.ty t) (.map (some mb)) (enc k) h0=some (.tup [(MP.look k al).getD z,.int .i64 (Int.ofNat (MP.at k al))],h0.put mb (.map (MP.ent enc 0 (MP.with_ k z al)) (MP.with_ k z al).length)):=by
 rw[hs]
 unfold oMapEntry
 simp only[hk,K.ok,g0,MP.find K]
 unfold MP.with_ MP.at
 rcases MP.pos_look k al with⟨h1,h2⟩|⟨p,v,h1,h2,h3⟩
 ·rw[h1,h2]
  simp only[Option.bind,hz]
  show some (_,h0.put mb (.map (MP.ent enc 0 al++[⟨enc k,z,al.length⟩]) (al.length+1)))=some (_,h0.put mb (.map (MP.ent enc 0 (al++[(k,z)])) (al++[(k,z)]).length))
  rw[MP.ent_app,List.length_append,Nat.zero_add];rfl
 ·rw[h1,h2]
  simp only[Option.bind,Option.map,Nat.zero_add]
  have hn:nth (MP.ent enc 0 al) p=some ⟨enc k,v,p⟩:=by
   have:∀(al:List (α×CV)) (j p:Nat),al[p]? =some (k,v)->nth (MP.ent enc j al) p=some ⟨enc k,v,j+p⟩:=by
    intro al
    induction al with
    |nil=>intro j p h;simp at h
    |cons a r ih=>
     intro j p h
     cases p with
     |zero=>
      have:a=(k,v):=by simpa using h
      rw[this];rfl
     |succ p=>
      have:=ih (j+1) p (by simpa using h)
      rw[show j+1+p=j+(p+1) by omega]at this
      exact this
   simpa using this al 0 p h3
  rw[hn]
  have hset:setME (MP.ent enc 0 al) (λe=>⟨enc k,e.val,e.born⟩) p=MP.ent enc 0 al:=by
   have:∀(al:List (α×CV)) (j p:Nat),al[p]? =some (k,v)->setME (MP.ent enc j al) (λe=>⟨enc k,e.val,e.born⟩) p=MP.ent enc j al:=by
    intro al
    induction al with
    |nil=>intro j p h;simp at h
    |cons a r ih=>
     intro j p h
     cases p with
     |zero=>
      have:a=(k,v):=by simpa using h
      rw[this];rfl
     |succ p=>
      show(⟨enc a.1,a.2,j⟩:ME)::setME (MP.ent enc (j+1) r) _ p=_
      rw[ih (j+1) p (by simpa using h)];rfl
   exact this al 0 p h3
  simp only[hset]
  rfl
theorem MP.store {h0:Heap} {kk:IntKind} (g0:h0.get mb=some (.map (MP.ent enc 0 (MP.with_ k z al)) clock)):oEntryStore (.map (some mb)) (.int kk (Int.ofNat (MP.at k al))) v h0=some (.undef,h0.put mb (.map (MP.ent enc 0 (MP.upd k v al)) clock)):=by
 have hb:=MP.born (enc:=enc) (MP.with_ k z al) 0 0 (MP.at k al) (MP.at_lt k z al)
 have hs:=MP.setME_ent (enc:=enc) (some v) (MP.with_ k z al) 0 (MP.at k al)
 rw[Nat.zero_add]at hb
 unfold oEntryStore
 simp only[g0,hb,Nat.zero_add]
 have e:(match(MP.with_ k z al)[MP.at k al]? with|some a=>(MP.with_ k z al).set (MP.at k al) (a.1,(some v).getD a.2)|none=>MP.with_ k z al)=MP.upd k v al:=MP.set_upd k v z al
 rw[e]at hs
 have hs:setME (MP.ent enc 0 (MP.with_ k z al)) (λe=>⟨e.key,v,e.born⟩) (MP.at k al)=MP.ent enc 0 (MP.upd k v al):=hs
 rw[hs]
theorem MP.upd_len (k:α) (z v:CV) (al:List (α×CV)):(MP.upd k v al).length=(MP.with_ k z al).length:=by
 rw[<-MP.set_upd k v z al]
 split
 ·rw[List.length_set]
 ·rfl
/-- An entry for a key, in a drawn region. -/
theorem W.dmentM (K:MP.Key E kt enc) (hg:h.get mb=some (.map (MP.ent enc 0 al) al.length)) (hri:∀r∈recs,recIdx r∈idx) (hid:(idx.all λj=>bit j ((nth bs i).getD Bits.nil))=true) (hgd:guardOn all tm o=some true) (hop:o.op= .mapEntry t x y) (hx:cvOf E.globs tm x= .map (some mb)) (hy:cvOf E.globs tm y=enc k) (hs:E.ty t=some st) (hk:st.kind= .map kt et) (hz:zeroV E et=some z)
  (w:∀recs' h',(∀r∈recs',recIdx r∈i::idx)->Same (h.put mb (.map (MP.ent enc 0 (MP.with_ k z al)) (MP.with_ k z al).length)) h'->W E (.draw bs all rest (i+1) recs') (putTmp tm o.dst (.tup [(MP.look k al).getD z,.int .i64 (Int.ofNat (MP.at k al))])) h' Q):W E (.draw bs all (o::rest) i recs) tm h Q:=by
 refine W.dput (B1:= .map (MP.ent enc 0 al) al.length) hri hid hgd (by unfold fpAny;rw[hop];show idOf (cvOf E.globs tm x)=[mb];rw[hx];rfl) (by rw[hop];rfl) hg (λh0 g0=> ?_) w
 unfold opAny
 rw[hop]
 show oMapEntry E (E.ty t) (cvOf E.globs tm x) (cvOf E.globs tm y) h0=_
 rw[hx,hy]
 exact MP.entry K hs hk hz g0
/-- The entry's value. -/
theorem W.destM {kk:IntKind} {n:Int} (hg:h.get mb=some (.map (MP.ent enc 0 (MP.with_ k z al)) (MP.with_ k z al).length)) (hn:n=Int.ofNat (MP.at k al)) (hri:∀r∈recs,recIdx r∈idx) (hid:(idx.all λj=>bit j ((nth bs i).getD Bits.nil))=true) (hgd:guardOn all tm o=some true) (hop:o.op= .entryStore t x y u) (hx:cvOf E.globs tm x= .map (some mb)) (hy:cvOf E.globs tm y= .int kk n) (hu:cvOf E.globs tm u=v)
  (w:∀recs' h',(∀r∈recs',recIdx r∈i::idx)->Same (h.put mb (.map (MP.ent enc 0 (MP.upd k v al)) (MP.upd k v al).length)) h'->W E (.draw bs all rest (i+1) recs') (putTmp tm o.dst .undef) h' Q):W E (.draw bs all (o::rest) i recs) tm h Q:=by
 refine W.dput (B1:= .map (MP.ent enc 0 (MP.with_ k z al)) (MP.with_ k z al).length) hri hid hgd (by unfold fpAny;rw[hop];show idOf (cvOf E.globs tm x)=[mb];rw[hx];rfl) (by rw[hop];rfl) hg (λh0 g0=> ?_) w
 unfold opAny
 rw[hop]
 show oEntryStore (cvOf E.globs tm x) (cvOf E.globs tm y) (cvOf E.globs tm u) h0=_
 rw[hx,hy,hu,hn,MP.upd_len k z v al]
 exact MP.store g0
/-- Drawn regions that look into maps, too: these looks have the numbers mx. -/
structure DM (H h:Heap) (idx nx mx:List Nat) (recs:List Rec):Prop where
 r:∀r∈recs,(RecX H h nx r\/∃i fp lo,r= .op i fp false lo lo/\i∈mx/\∀k∈fp,k<H.next)/\recIdx r∈idx
 x:Ext H h
 f:Fresh H
theorem DM.hri {H h:Heap} {nx mx:List Nat} (d:DM H h idx nx mx recs):∀r∈recs,recIdx r∈idx:=λr hm=>(d.r r hm).2
theorem okM_read {H h:Heap} {nx:List Nat} {ahead:Bits} {mb:Nat} (hm:mb<H.next) (hnx:∀j∈nx,bit j ahead=true):∀{recs:List Rec},(∀r∈recs,RecX H h nx r)->okPairs ahead [mb] false [] recs=true
 |[],_=>rfl
 |r::rs,hr=>by
  unfold okPairs
  have ih:=okM_read hm hnx (recs:=rs) λx hx=>hr x (List.mem_cons_of_mem _ hx)
  rcases hr r (by simp)with⟨i,fp',lo,rfl,_⟩|⟨i,lo,hi,rfl,h1,h3,_⟩|⟨i,d,d',rfl,h1,h3,h4,_⟩
  ·have:okPair [mb] false [] (.op i fp' false lo lo)=true:=by
     rw[okPair_op,all1_of λk _=>by unfold opApart;rw[within_self];rfl];rfl
   rw[this]
   exact ih
  ·rw[show bit (recIdx (.op i [] false lo hi)) ahead=true from hnx i h1,ih]
   cases okPair [mb] false [] (.op i [] false lo hi)<;>rfl
  ·rw[show bit (recIdx (.call i d d')) ahead=true from hnx i h1,ih]
   cases okPair [mb] false [] (.call i d d')<;>rfl
theorem map_same {mb:Nat} {b:Blk} (hg:h.get mb=some b):Same h (back h (only h [mb]) ([mb]++span h.next 0)):=by
 have hget:(only h [mb]).get mb=some b:=by rw[only_get];simpa using hg
 refine⟨by rw[back_next,only_next],λk=> ?_⟩
 rw[back_get]
 split
 ·rename_i hk
  have:k=mb:=by
   have hk:k∈[mb]:=hk
   simpa using hk
  subst this
  rw[hget,hg]
 ·rfl
theorem look_only (K:MP.Key E kt enc) (hg:h.get mb=some (.map (MP.ent enc 0 al) clock)) (hop:o.op= .lookup t x y ok) (hx:cvOf E.globs tm x= .map (some mb)) (hy:cvOf E.globs tm y=enc k) (hs:E.ty t=some st) (hk:st.kind= .map kt et) (hz:zeroV E et=some z):fpAny E o tm=[mb]/\opAny E o tm (only h [mb])=some (okTup ok ((MP.look k al).getD z) (MP.look k al).isSome,only h [mb]):=by
 have hfp:fpAny E o tm=[mb]:=by
  unfold fpAny
  rw[hop]
  show idOf (cvOf E.globs tm x)=[mb]
  rw[hx];rfl
 refine⟨hfp,?_⟩
 have hget:(only h [mb]).get mb=some (.map (MP.ent enc 0 al) clock):=by rw[only_get];simpa using hg
 unfold opAny
 rw[hop]
 show withH _ (oLookup E (E.ty t) (cvOf E.globs tm x) (cvOf E.globs tm y) ok (only h [mb]))=_
 rw[hx,hy,hs]
 unfold oLookup mapEs
 simp only[hk,K.ok,hget,MP.found K hz,withH]
/-- A look into a map, in a drawn region. -/
theorem W.dlookM {H:Heap} {nx:List Nat} (K:MP.Key E kt enc) (ds:DX H h idx nx recs) (hg:h.get mb=some (.map (MP.ent enc 0 al) clock)) (hm:mb<H.next) (hgd:guardOn all tm o=some true) (hop:o.op= .lookup t x y ok) (hx:cvOf E.globs tm x= .map (some mb)) (hy:cvOf E.globs tm y=enc k) (hs:E.ty t=some st) (hk:st.kind= .map kt et) (hz:zeroV E et=some z) (hr:okTup ok ((MP.look k al).getD z) (MP.look k al).isSome=v) (hc0:(nx.all λj=>bit j ((nth bs i).getD Bits.nil))=true)
  (w:∀recs' h',DM H h' (i::idx) nx [i] recs'->Same h h'->W E (.draw bs all rest (i+1) recs') (putTmp tm o.dst v) h' Q):W E (.draw bs all (o::rest) i recs) tm h Q:=by
 subst hr
 obtain⟨hfp,ho⟩:=look_only K hg hop hx hy hs hk hz
 have hwr:wrOf o.op=false:=by rw[hop];rfl
 have hsame:=map_same hg
 obtain⟨r,⟨N,e⟩,q⟩:=w (.op i [mb] false h.next h.next::recs) _ ⟨λr hr=>by
  rcases List.mem_cons.1 hr with rfl|hr
  ·exact⟨.inr ⟨i,[mb],h.next,rfl,by simp,λk hk=>by rw[List.mem_singleton]at hk;rw[hk];exact hm⟩,by simp[recIdx]⟩
  ·exact⟨.inl ((ds.r r hr).1.same (Nat.le_of_eq hsame.next.symm)),List.mem_cons_of_mem _ (ds.r r hr).2⟩,ds.x.trans hsame.ext,ds.f⟩ hsame
 refine⟨r,.step ⟨N,λm hm'=> ?_⟩,q⟩
 show(match guardOn all tm o with
  |some true=>dOp E (run E m) bs all rest o i recs tm h
  |some false=>run E m (.draw bs all rest (i+1) recs) (putTmp tm o.dst (.tup [])) h
  |none=> .stop)=r
 rw[hgd]
 show dOp E (run E m) bs all rest o i recs tm h=r
 rw[dOp_any (by rw[hfp];exact ho),hfp,hwr]
 have hnx:(only h [mb]).next=h.next:=only_next _ _
 show(match okPairs ((nth bs i).getD Bits.nil) [mb] false (span h.next ((only h [mb]).next-h.next)) recs with
  |true=>run E m (.draw bs all rest (i+1) (.op i [mb] false h.next (only h [mb]).next::recs)) (putTmp tm o.dst _) (back h (only h [mb]) ([mb]++span h.next ((only h [mb]).next-h.next)))
  |false=> .stop)=r
 rw[hnx,Nat.sub_self]
 have:okPairs ((nth bs i).getD Bits.nil) [mb] false (span h.next 0) recs=true:=okM_read hm (λj hj=>List.all_eq_true.1 hc0 j hj) λr hr=>(ds.r r hr).1
 rw[this]
 exact e m hm'
/-- A call that adds to memory only, behind all looks into maps. -/
def DMZ (E:Env) (bs:List Bits) (all rest:List Oper) (i:Nat) (idx nx mx:List Nat) (dst:Option Nat) (tm:Tm) (H h:Heap) (Q:R->Prop) (r:R):Prop:=match r with
 | .val v d=>Ext h d/\∀recs' h',DM H h' (i::idx) (i::nx) mx recs'->Same d h'->W E (.draw bs all rest (i+1) recs') (putTmp tm dst v) h' Q
 |_=>False
theorem DMZ.val {H d:Heap} {nx mx:List Nat} {dst:Option Nat} (hx:Ext h d) (w:∀recs' h',DM H h' (i::idx) (i::nx) mx recs'->Same d h'->W E (.draw bs all rest (i+1) recs') (putTmp tm dst v) h' Q):DMZ E bs all rest i idx nx mx dst tm H h Q (.val v d):=⟨hx,w⟩
theorem hidesM {H:Heap} {nx mx:List Nat} {ahead:Bits} (hc:∀j∈nx,bit j ahead=true):∀{recs:List Rec},(∀r∈recs,RecX H h nx r\/∃i fp lo,r= .op i fp false lo lo/\i∈mx/\∀k∈fp,k<H.next)->hides ahead recs=some []
 |[],_=>rfl
 |r::rs,hr=>by
  unfold hides
  rw[hidesM hc λx hx=>hr x (List.mem_cons_of_mem _ hx)]
  rcases hr r (by simp)with(⟨i,fp,lo,rfl,_⟩|⟨i,lo,hi,rfl,h1,_⟩|⟨i,d,d',rfl,h1,_⟩)|⟨i,fp,lo,rfl,_⟩
  ·simp only[Nat.sub_self]
   split<;>rfl
  ·have:bit (recIdx (.op i [] false lo hi)) ahead=true:=hc i h1
   simp only[this]
  ·have:bit (recIdx (.call i d d')) ahead=true:=hc i h1
   simp only[this]
  ·simp only[Nat.sub_self]
   split<;>rfl
theorem looksM {H:Heap} {nx mx:List Nat} {ahead:Bits} {d d':Heap} (hc:∀j∈nx,bit j ahead=true) (hc2:∀j∈mx,bit j ahead=true) (hx:Ext H d) (hd:Ext d d'):∀{recs:List Rec},(∀r∈recs,RecX H h nx r\/∃i fp lo,r= .op i fp false lo lo/\i∈mx/\∀k∈fp,k<H.next)->looks ahead d d' recs=true
 |[],_=>rfl
 |r::rs,hr=>by
  have ih:=looksM hc hc2 hx hd (recs:=rs) λx hx=>hr x (List.mem_cons_of_mem _ hx)
  rcases hr r (by simp)with h1|⟨i,fp,lo,rfl,h1,_⟩
  ·have:=looksX hc hx hd (recs:=[r]) λx hx=>by rw[List.mem_singleton]at hx;rw[hx];exact h1
   unfold looks at this ⊢
   cases hb:bit (recIdx r) ahead with
   |true=>exact ih
   |false=>
    rw[hb]at this
    cases r with
    |op a b c e f=>
     simp only[looks,Bool.and_true]at this ⊢
     rw[this,ih];rfl
    |call a b c=>simp at this
    |opw a b c e f=>
     simp only[looks,Bool.and_true]at this ⊢
     rw[this,ih];rfl
  ·unfold looks
   rw[show bit (recIdx (.op i fp false lo lo)) ahead=true from hc2 i h1]
   exact ih
theorem W.dcallM {H:Heap} {nx mx:List Nat} {c:Call} {f:Operand} (ds:DM H h idx nx mx recs) (hgd:guardOn all tm o=some true) (hop:o.op= .call c) (hf:c.callee= .value f) (hc0:(nx.all λj=>bit j ((nth bs i).getD Bits.nil))=true) (hc1:(mx.all λj=>bit j ((nth bs i).getD Bits.nil))=true)
  (w:W E (.call (cvOf E.globs tm f) (c.args.toList.map (cvOf E.globs tm))) .leaf h (DMZ E bs all rest i idx nx mx o.dst tm H h Q)):W E (.draw bs all (o::rest) i recs) tm h Q:=by
 have hc:∀j∈nx,bit j ((nth bs i).getD Bits.nil)=true:=λj hj=>List.all_eq_true.1 hc0 j hj
 have hc2:∀j∈mx,bit j ((nth bs i).getD Bits.nil)=true:=λj hj=>List.all_eq_true.1 hc1 j hj
 have hr:∀r∈recs,RecX H h nx r\/∃i fp lo,r= .op i fp false lo lo/\i∈mx/\∀k∈fp,k<H.next:=λr hm=>(ds.r r hm).1
 obtain⟨r0,⟨N1,e1⟩,q⟩:=w
 cases r0 with
 |val v d=>
  obtain⟨hx,q⟩:=q
  have hsame:Same d ⟨d.t,d.next,none⟩:=⟨rfl,λ_=>rfl⟩
  obtain⟨r,⟨N2,e2⟩,q2⟩:=q (.call i h d::recs) ⟨d.t,d.next,none⟩ ⟨λr hm=>by
   rcases List.mem_cons.1 hm with rfl|hm
   ·exact⟨.inl (.inr (.inr ⟨i,h,d,rfl,by simp,ds.x,hx,Nat.le_refl _⟩)),by simp[recIdx]⟩
   ·exact⟨(hr r hm).imp (λh1=>h1.more hx.next) id,List.mem_cons_of_mem _ (ds.r r hm).2⟩,(ds.x.trans hx).trans hsame.ext,ds.f⟩ hsame
  refine⟨r,.step ⟨max N1 N2,λm hm=> ?_⟩,q2⟩
  show(match guardOn all tm o with
   |some true=>dOp E (run E m) bs all rest o i recs tm h
   |some false=>run E m (.draw bs all rest (i+1) recs) (putTmp tm o.dst (.tup [])) h
   |none=> .stop)=r
  rw[hgd]
  show dOp E (run E m) bs all rest o i recs tm h=r
  unfold dOp
  rw[hop]
  simp only[hf,isBuiltin]
  rw[hidesM hc hr]
  unfold dHid
  simp only[hf,sCallee]
  show dCall (run E m) bs all rest i recs o.dst tm h h [] (run E m (.call (cvOf E.globs tm f) (c.args.toList.map (cvOf E.globs tm))) .leaf h)=r
  rw[e1 m (by omega)]
  show(match Nat.ble h.next d.next&&(looks ((nth bs i).getD Bits.nil) h d recs&&true)with
   |true=>run E m (.draw bs all rest (i+1) (.call i h d::recs)) (putTmp tm o.dst v) ⟨d.t,d.next,none⟩
   |false=> .stop)=r
  rw[looksM hc hc2 ds.x hx hr,Nat.ble_eq_true_of_le hx.next]
  exact e2 m (by omega)
 |_=>exact q.elim
/-- A new variable. -/
theorem W.dalM {H:Heap} {nx mx:List Nat} {s:TyS} (ds:DM H h idx nx mx recs) (hgd:guardOn all tm o=some true) (hop:o.op= .alloc t) (hs:E.ty t=some s)
  (w:∀recs' h',DM H h' (i::idx) (i::nx) mx recs'->Ext h h'->h'.next=h.next+1->h'.get h.next=some (.cells s.zero false)->W E (.draw bs all rest (i+1) recs') (putTmp tm o.dst (.ptr (some (h.next,0)))) h' Q):W E (.draw bs all (o::rest) i recs) tm h Q:=by
 obtain⟨b,hb0⟩:∃b,b=Blk.cells s.zero false:=⟨_,rfl⟩
 rw[<-hb0]at w
 have ho:opAny E o tm (only h [])=some (.ptr (some (h.next,0)),(only h []).new b):=by
  unfold opAny
  rw[hop]
  show newPtr (only h []) ((E.ty t).map (·.zero))=_
  rw[hs,hb0];rfl
 have hfp:fpAny E o tm=[]:=by unfold fpAny;rw[hop];rfl
 have hwr:wrOf o.op=false:=by rw[hop];rfl
 have ho:opAny E o tm (only h (fpAny E o tm))=some (.ptr (some (h.next,0)),(only h []).new b):=by rw[hfp];exact ho
 have hb:∀k,(back h ((only h []).new b) ([]++[h.next])).get k=if k=h.next then some b else h.get k:=by
  intro k
  rw[back_get]
  by_cases e:k=h.next
  ·subst e
   rw[if_pos (by simp),if_pos rfl]
   exact new_same (only h []) _
  ·rw[if_neg (by simpa using e),if_neg e]
 have hnx:(back h ((only h []).new b) ([]++[h.next])).next=h.next+1:=by rw[back_next];rfl
 have hx:Ext h (back h ((only h []).new b) ([]++[h.next])):=by
  refine⟨by omega,λk hk=> ?_,λf k hk=> ?_⟩
  ·rw[hb,if_neg (by omega)]
  ·rw[hnx]at hk
   rw[hb,if_neg (by omega)]
   exact f k (by omega)
 obtain⟨r,⟨N,e⟩,q⟩:=w (.op i [] false h.next (h.next+1)::recs) _ ⟨λr hm=>by
  rcases List.mem_cons.1 hm with rfl|hm
  ·exact⟨.inl (.inr (.inl ⟨i,h.next,h.next+1,rfl,by simp,ds.x.next,by omega⟩)),by simp[recIdx]⟩
  ·exact⟨(ds.r r hm).1.imp (λh1=>h1.more (by omega)) id,List.mem_cons_of_mem _ (ds.r r hm).2⟩,ds.x.trans hx,ds.f⟩ hx hnx (by rw[hb,if_pos rfl])
 refine⟨r,.step ⟨N,λm hm=> ?_⟩,q⟩
 show(match guardOn all tm o with
  |some true=>dOp E (run E m) bs all rest o i recs tm h
  |some false=>run E m (.draw bs all rest (i+1) recs) (putTmp tm o.dst (.tup [])) h
  |none=> .stop)=r
 rw[hgd]
 show dOp E (run E m) bs all rest o i recs tm h=r
 rw[dOp_any ho,hfp,hwr]
 have hnb:Nat.beq (h.next+1) h.next=false:=by
  cases hb:Nat.beq (h.next+1) h.next with
  |true=>have:=Nat.eq_of_beq_eq_true hb;omega
  |false=>rfl
 have hsp:span h.next (h.next+1-h.next)=[h.next]:=by
  rw[show h.next+1-h.next=1 by omega];rfl
 show(match isNil ([]:List Nat)&&Nat.beq (h.next+1) h.next with
  |true=>_
  |false=>match okPairs ((nth bs i).getD Bits.nil) [] false (span h.next (h.next+1-h.next)) recs with
   |true=>run E m (.draw bs all rest (i+1) (.op i [] false h.next (h.next+1)::recs)) (putTmp tm o.dst _) (back h ((only h []).new b) ([]++span h.next (h.next+1-h.next)))
   |false=> .stop)=r
 have hok:∀{recs:List Rec},(∀r∈recs,RecX H h nx r\/∃i fp lo,r= .op i fp false lo lo/\i∈mx/\∀k∈fp,k<H.next)->okPairs ((nth bs i).getD Bits.nil) [] false [h.next] recs=true:=by
  intro recs
  induction recs with
  |nil=>intro _;rfl
  |cons r rs ih=>
   intro hr
   have ih:=ih λx hx=>hr x (List.mem_cons_of_mem _ hx)
   unfold okPairs
   rcases hr r (by simp)with(⟨i,fp',lo,rfl,h1⟩|⟨i,lo,hi,rfl,_,h3,_⟩|⟨i,d,d',rfl,_,h3,h4,h5⟩)|⟨i,fp',lo,rfl,_,h1⟩
   ·have:okPair [] false [h.next] (.op i fp' false lo lo)=true:=by
      show all1 [h.next] (λk=> !mem k fp')=true
      refine all1_each λk hk=> ?_
      rw[List.mem_singleton]at hk
      subst hk
      rw[mem_false λx hx=>by have:=(h1 x hx).1;have:=ds.x.next;omega];rfl
    rw[this];exact ih
   ·rw[show okPair [] false [h.next] (.op i [] false lo hi)=true from rfl];exact ih
   ·have g1:d.get h.next=none:=h3.fr ds.f _ (by have:=h4.next;omega)
    have g2:d'.get h.next=none:=h4.fr (h3.fr ds.f) _ h5
    have:okPair [] false [h.next] (.call i d d')=true:=by
     show all1 [h.next] (λk=>match isNo (d.get k)with|true=>isNo (d'.get k)|false=>false)=true
     refine all1_each λk hk=> ?_
     rw[List.mem_singleton]at hk
     subst hk
     rw[g1,g2];rfl
    rw[this];exact ih
   ·have:okPair [] false [h.next] (.op i fp' false lo lo)=true:=by
      show all1 [h.next] (λk=> !mem k fp')=true
      refine all1_each λk hk=> ?_
      rw[List.mem_singleton]at hk
      subst hk
      rw[mem_false λx hx=>by have:=h1 x hx;have:=ds.x.next;omega];rfl
    rw[this];exact ih
 rw[hnb,hsp,hok λr hr=>(ds.r r hr).1]
 exact e m hm
/-- A look into a map that nothing turns, beside a row that grows. -/
theorem W.lookV {B:Nat->Prop} {nr:List Nat} (K:MP.Key E kt enc) (dv:DV B h idx nr recs) (hB:B mb) (hg:h.get mb=some (.map (MP.ent enc 0 al) clock)) (hm:mb<h.next) (hgd:guardOn all tm o=some true) (hop:o.op= .lookup t x y ok) (hx:cvOf E.globs tm x= .map (some mb)) (hy:cvOf E.globs tm y=enc k) (hs:E.ty t=some st) (hk:st.kind= .map kt et) (hz:zeroV E et=some z) (hr:okTup ok ((MP.look k al).getD z) (MP.look k al).isSome=v)
  (w:∀recs' h',DV B h' (i::idx) nr recs'->Same h h'->W E (.draw bs all rest (i+1) recs') (putTmp tm o.dst v) h' Q):W E (.draw bs all (o::rest) i recs) tm h Q:=by
 subst hr
 obtain⟨hfp,ho⟩:=look_only K hg hop hx hy hs hk hz
 have hwr:wrOf o.op=false:=by rw[hop];rfl
 have hsame:=map_same hg
 obtain⟨r,⟨N,e⟩,q⟩:=w (.op i [mb] false h.next h.next::recs) _ (dv.more ((dv.d.cons (Nat.le_refl _) (λk hk=>by rw[List.mem_singleton]at hk;rw[hk];exact hm) λb hb=>⟨dv.d.b b hb,λh=>by cases h⟩).same hsame.next) (Nat.le_of_eq hsame.next.symm) (.inr ⟨i,[mb],h.next,rfl,λk hk=>by rw[List.mem_singleton]at hk;rw[hk];exact hB,λk hk=>by rw[List.mem_singleton]at hk;rw[hk,hsame.next];exact hm⟩) λj hj=>hj) hsame
 refine⟨r,.step ⟨N,λm hm'=> ?_⟩,q⟩
 show(match guardOn all tm o with
  |some true=>dOp E (run E m) bs all rest o i recs tm h
  |some false=>run E m (.draw bs all rest (i+1) recs) (putTmp tm o.dst (.tup [])) h
  |none=> .stop)=r
 rw[hgd]
 show dOp E (run E m) bs all rest o i recs tm h=r
 rw[dOp_any (by rw[hfp];exact ho),hfp,hwr]
 have hnx:(only h [mb]).next=h.next:=only_next _ _
 show(match okPairs ((nth bs i).getD Bits.nil) [mb] false (span h.next ((only h [mb]).next-h.next)) recs with
  |true=>run E m (.draw bs all rest (i+1) (.op i [mb] false h.next (only h [mb]).next::recs)) (putTmp tm o.dst _) (back h (only h [mb]) ([mb]++span h.next ((only h [mb]).next-h.next)))
  |false=> .stop)=r
 rw[hnx,Nat.sub_self]
 have:okPairs ((nth bs i).getD Bits.nil) [mb] false (span h.next 0) recs=true:=DY.pairs_read hB dv.d
 rw[this]
 exact e m hm'
theorem setME_full {v:CV} (k:α):∀(al:List (α×CV)) (j p:Nat) (u:CV),al[p]? =some (k,u)->setME (MP.ent enc j al) (λe=>⟨enc k,v,e.born⟩) p=MP.ent enc j (al.set p (k,v))
 |[],_,_,_,h=>by simp at h
 |a::r,j,0,u,h=>by
  have:a=(k,u):=by simpa using h
  rw[this];rfl
 |a::r,j,p+1,u,h=>by
  show(⟨enc a.1,a.2,j⟩:ME)::setME (MP.ent enc (j+1) r) _ p=_
  rw[setME_full k r (j+1) p u (by simpa using h)];rfl
theorem MP.update (K:MP.Key E kt enc) (hs:E.ty t=some st) (hk:st.kind= .map kt et) {h0:Heap} (g0:h0.get mb=some (.map (MP.ent enc 0 al) al.length)):oMapUpd E (E.ty t) (.map (some mb)) (enc k) v h0=some (.undef,h0.put mb (.map (MP.ent enc 0 (MP.upd k v al)) (MP.upd k v al).length)):=by
 rw[hs]
 unfold oMapUpd
 simp only[hk,K.ok,g0,MP.find K]
 have hu:=MP.set_upd k v v al
 have hl:=MP.upd_len k v v al
 rcases MP.pos_look k al with⟨h1,h2⟩|⟨p,u,h1,h2,h3⟩
 ·unfold MP.with_ MP.at at hu
  unfold MP.with_ at hl
  rw[h1]at hu hl
  rw[h1,h2]
  simp only[Option.bind]
  have hu:al++[(k,v)]=MP.upd k v al:=by
   rw[<-hu]
   simp
  rw[<-hu]
  show some (_,h0.put mb (.map (MP.ent enc 0 al++[⟨enc k,v,al.length⟩]) (al.length+1)))=some (_,h0.put mb (.map (MP.ent enc 0 (al++[(k,v)])) (al++[(k,v)]).length))
  rw[MP.ent_app,List.length_append,Nat.zero_add];rfl
 ·unfold MP.with_ MP.at at hu
  unfold MP.with_ at hl
  rw[h1]at hu hl
  rw[h1,h2]
  simp only[Option.bind,Option.map,Nat.zero_add]
  rw[setME_full k al 0 p u h3]
  have hu:al.set p (k,v)=MP.upd k v al:=by
   rw[<-hu]
   show _=match al[p]? with|some a=>al.set p (a.1,v)|none=>al
   rw[h3]
  rw[hu,hl]
/-- An entry told anew, in a drawn region. -/
theorem W.dmupM (K:MP.Key E kt enc) (hg:h.get mb=some (.map (MP.ent enc 0 al) al.length)) (hri:∀r∈recs,recIdx r∈idx) (hid:(idx.all λj=>bit j ((nth bs i).getD Bits.nil))=true) (hgd:guardOn all tm o=some true) (hop:o.op= .mapUpdate t x y u) (hx:cvOf E.globs tm x= .map (some mb)) (hy:cvOf E.globs tm y=enc k) (hu:cvOf E.globs tm u=v) (hs:E.ty t=some st) (hk:st.kind= .map kt et)
  (w:∀recs' h',(∀r∈recs',recIdx r∈i::idx)->Same (h.put mb (.map (MP.ent enc 0 (MP.upd k v al)) (MP.upd k v al).length)) h'->W E (.draw bs all rest (i+1) recs') (putTmp tm o.dst .undef) h' Q):W E (.draw bs all (o::rest) i recs) tm h Q:=by
 refine W.dput (B1:= .map (MP.ent enc 0 al) al.length) hri hid hgd (by unfold fpAny;rw[hop];show idOf (cvOf E.globs tm x)=[mb];rw[hx];rfl) (by rw[hop];rfl) hg (λh0 g0=> ?_) w
 unfold opAny
 rw[hop]
 show oMapUpd E (E.ty t) (cvOf E.globs tm x) (cvOf E.globs tm y) (cvOf E.globs tm u) h0=_
 rw[hx,hy,hu]
 exact MP.update K hs hk g0
/-- A new map. -/
theorem W.mkmap (hgd:guardOn all tm o=some true) (hop:o.op= .makeMap t none)
  (w:∀h',Ext h h'->h'.next=h.next+1->h'.get h.next=some (.map [] 0)->W E (.ops all rest) (putTmp tm o.dst (.map (some h.next))) h' Q):W E (.ops all (o::rest)) tm h Q:=by
 refine W.op hgd (v:= .map (some h.next)) (h1:=h.new (.map [] 0)) ?_ ?_
 ·unfold opAny
  rw[hop];rfl
 ·refine w _ ?_ rfl (new_same h _)
  refine⟨Nat.le_succ _,λk hk=> ?_,λf k hk=> ?_⟩
  ·rw[Heap.get_new,if_neg (by omega)]
  ·have hk:h.next+1<=k:=hk
   rw[Heap.get_new,if_neg (by omega)]
   exact f k (by omega)
/-- A look told by its block leaves a region that may go on. -/
theorem DX.look {H0 H h':Heap} {nx:List Nat} {id off:Nat} {e:List CV} (ds:DX H h idx nx recs) (L:LocE H0 id off e) (X:Ext H0 H) (s:Same h h'):DX H h' (i::idx) nx (.op i [id] false h.next h.next::recs):=by
 obtain⟨cs,ro,g1,g2,g3⟩:=L
 refine⟨λr hr=> ?_,ds.x.trans s.ext,ds.f⟩
 rcases List.mem_cons.1 hr with rfl|hr
 ·refine⟨.inl ⟨i,[id],h.next,rfl,λk hk=> ?_⟩,by simp[recIdx]⟩
  rw[List.mem_singleton]at hk
  subst hk
  exact⟨Nat.lt_of_lt_of_le g2 X.next,cs,ro,(X.old _ g2).trans g1⟩
 ·exact⟨(ds.r r hr).1.same (Nat.le_of_eq s.next.symm),List.mem_cons_of_mem _ (ds.r r hr).2⟩
/-- A call that adds to memory only, told by what was done. -/
def DZE (E:Env) (bs:List Bits) (all rest:List Oper) (i:Nat) (idx nx:List Nat) (recs:List Rec) (dst:Option Nat) (tm:Tm) (H h:Heap) (Q:R->Prop) (r:R):Prop:=match r with
 | .val v d=>Ext h d/\∀h',DX H h' (i::idx) (i::nx) (.call i h d::recs)->Same d h'->W E (.draw bs all rest (i+1) (.call i h d::recs)) (putTmp tm dst v) h' Q
 |_=>False
theorem DZE.val {H d:Heap} {nx:List Nat} {dst:Option Nat} (hx:Ext h d) (w:∀h',DX H h' (i::idx) (i::nx) (.call i h d::recs)->Same d h'->W E (.draw bs all rest (i+1) (.call i h d::recs)) (putTmp tm dst v) h' Q):DZE E bs all rest i idx nx recs dst tm H h Q (.val v d):=⟨hx,w⟩
theorem W.dcallE {H:Heap} {nx:List Nat} {c:Call} {f:Operand} (ds:DX H h idx nx recs) (hgd:guardOn all tm o=some true) (hop:o.op= .call c) (hf:c.callee= .value f) (hc0:(nx.all λj=>bit j ((nth bs i).getD Bits.nil))=true)
  (w:W E (.call (cvOf E.globs tm f) (c.args.toList.map (cvOf E.globs tm))) .leaf h (DZE E bs all rest i idx nx recs o.dst tm H h Q)):W E (.draw bs all (o::rest) i recs) tm h Q:=by
 have hc:∀j∈nx,bit j ((nth bs i).getD Bits.nil)=true:=λj hj=>List.all_eq_true.1 hc0 j hj
 have hr:∀r∈recs,RecX H h nx r:=λr hm=>(ds.r r hm).1
 obtain⟨r0,⟨N1,e1⟩,q⟩:=w
 cases r0 with
 |val v d=>
  obtain⟨hx,q⟩:=q
  have hsame:Same d ⟨d.t,d.next,none⟩:=⟨rfl,λ_=>rfl⟩
  obtain⟨r,⟨N2,e2⟩,q2⟩:=q ⟨d.t,d.next,none⟩ ⟨λr hm=>by
   rcases List.mem_cons.1 hm with rfl|hm
   ·exact⟨.inr (.inr ⟨i,h,d,rfl,by simp,ds.x,hx,Nat.le_refl _⟩),by simp[recIdx]⟩
   ·exact⟨(hr r hm).more hx.next,List.mem_cons_of_mem _ (ds.r r hm).2⟩,(ds.x.trans hx).trans hsame.ext,ds.f⟩ hsame
  refine⟨r,.step ⟨max N1 N2,λm hm=> ?_⟩,q2⟩
  show(match guardOn all tm o with
   |some true=>dOp E (run E m) bs all rest o i recs tm h
   |some false=>run E m (.draw bs all rest (i+1) recs) (putTmp tm o.dst (.tup [])) h
   |none=> .stop)=r
  rw[hgd]
  show dOp E (run E m) bs all rest o i recs tm h=r
  unfold dOp
  rw[hop]
  simp only[hf,isBuiltin]
  rw[hidesX hc hr]
  unfold dHid
  simp only[hf,sCallee]
  show dCall (run E m) bs all rest i recs o.dst tm h h [] (run E m (.call (cvOf E.globs tm f) (c.args.toList.map (cvOf E.globs tm))) .leaf h)=r
  rw[e1 m (by omega)]
  show(match Nat.ble h.next d.next&&(looks ((nth bs i).getD Bits.nil) h d recs&&true)with
   |true=>run E m (.draw bs all rest (i+1) (.call i h d::recs)) (putTmp tm o.dst v) ⟨d.t,d.next,none⟩
   |false=> .stop)=r
  rw[looksX hc ds.x hx hr,Nat.ble_eq_true_of_le hx.next]
  exact e2 m (by omega)
 |_=>exact q.elim
/-- A row written out. -/
theorem W.bsN {n:Nat} {cs:List CV} (hgd:guardOn all tm o=some true) (ho:opAny E o tm h=some (.slice (some (h.next,0)) n n 0,h.new (.cells cs false)))
  (w:∀h',Ext h h'->h'.next=h.next+1->h'.get h.next=some (.cells cs false)->W E (.ops all rest) (putTmp tm o.dst (.slice (some (h.next,0)) n n 0)) h' Q):W E (.ops all (o::rest)) tm h Q:=
 W.op hgd ho (w _ (Ext.new _ _) rfl (new_same _ _))
end
end Go.CM
