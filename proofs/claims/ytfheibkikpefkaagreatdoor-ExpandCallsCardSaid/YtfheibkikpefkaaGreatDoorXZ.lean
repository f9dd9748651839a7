/- Drawn regions where a row of one's own grows beside looks at blocks that nothing turns. No condition, no program. (Printed by xz.py.) -/
import Derived.Test.YtfheibkikpefkaaGreatDoorXU
import Derived.Test.YtfheibkikpefkaaGreatDoorXNa
set_option linter.unusedVariables false
set_option linter.unusedSimpArgs false
noncomputable section
namespace Go.CM
section
variable {h h' H:Heap} {lo z:Nat} {v:CV} {l:List (List CV)} {E:Env} {tm:Tm} {Q:R->Prop} {all rest:List Oper} {o:Oper} {B:Nat->Prop} {bs:List Bits} {recs:List Rec} {i:Nat} {idx nr:List Nat}
structure DV (B:Nat->Prop) (h:Heap) (idx nr:List Nat) (recs:List Rec):Prop where
 d:DY B h idx recs
 r:∀r∈recs,recIdx r∈nr\/∃i fp lo,r= .op i fp false lo lo/\(∀k∈fp,B k)/\∀k∈fp,k<h.next
theorem kU (hb:∀b,B b->b<h.next):DV B h [] [] []:=⟨kT hb,λ_ h=>by cases h⟩
theorem DV.more {h':Heap} {idx' nr':List Nat} {r0:Rec} (dv:DV B h idx nr recs) (d:DY B h' idx' (r0::recs)) (hn:h.next<=h'.next) (h0:recIdx r0∈nr'\/∃i fp lo,r0= .op i fp false lo lo/\(∀k∈fp,B k)/\∀k∈fp,k<h'.next) (hs:∀j∈nr,j∈nr'):DV B h' idx' nr' (r0::recs):=⟨d,λr hr=>by
 rcases List.mem_cons.1 hr with rfl|hr
 ·exact h0
 ·rcases dv.r r hr with h1|⟨i,fp,lo,h1,h2,h3⟩
  ·exact .inl (hs _ h1)
  ·exact .inr ⟨i,fp,lo,h1,h2,λk hk=>Nat.lt_of_lt_of_le (h3 k hk) hn⟩⟩
theorem nW {ahead:Bits} {fp:List Nat} {wr:Bool} {news:List Nat} (hB:∀b,B b->b∉fp) (hnew:∀k∈news,h.next<=k) (hnr:∀j∈nr,pC j ahead=true):∀{recs:List Rec},(∀r∈recs,recIdx r∈nr\/∃i fp lo,r= .op i fp false lo lo/\(∀k∈fp,B k)/\∀k∈fp,k<h.next)->aN ahead fp wr news recs=true
 |[],_=>rfl
 |r::rs,hr=>by
  unfold aN;have ih:=nW (fp:=fp) (wr:=wr) (news:=news) hB hnew hnr (recs:=rs) λx hx=>hr x (List.mem_cons_of_mem _ hx);rcases hr r (by simp)with h1|⟨i,fp',lo,rfl,h2,h3⟩
  ·rw[hnr _ h1,ih]
   cases cP fp wr news r<;>rfl
  ·have:cP fp wr news (.op i fp' false lo lo)=true:=by
     rw[kB,dZ λk hk=>by
      unfold oH;rw[mD];cases wr with
      |false=>rfl
      |true=>
      show(!oS k fp')=true;rw[fF λx hx e=>hB x (h2 x hx) (by rw[e];exact hk)];rfl]
     show fK news (λk=> !oS k fp')=true;refine dZ λk hk=> ?_;rw[fF λx hx e=>by have:=h3 x hx;have:=hnew k hk;omega];rfl
   rw[this];exact ih
theorem iX {t:TypeId} {x:Operand} {id off k:Nat} {e:List CV} {s:TyS} {v:CV} (dv:DV B h idx nr recs) (hB:B id) (L:LocE h id off e) (hgd:guardOn all tm o=some true) (hop:o.op= .load t x) (hx:aF E.globs tm x= .ptr (some (id,off+k))) (hs:E.ty t=some s) (h1:s.size=1) (h2:s.agg=false) (he:e[k]? =some v)
  (w:∀recs' h',DV B h' (i::idx) nr recs'->Same h h'->LocE h' id off e->W E (.draw bs all rest (i+1) recs') (putTmp tm o.dst v) h' Q):W E (.draw bs all (o::rest) i recs) tm h Q:=by
 obtain⟨cs,ro,g1,g2,g3⟩:=L;have hn:=lQ g3 he
 have hfp:bA E o tm=[id]:=by
  unfold bA;rw[hop];show idOf (aF E.globs tm x)=[id];rw[hx];rfl
 have hwr:dT o.op=false:=by rw[hop];rfl
 have hget:(only h [id]).get id=some (.cells cs ro):=by rw[cC];simpa using g1
 have ho:aR E o tm (only h (bA E o tm))=some (v,only h [id]):=by
  rw[hfp];unfold aR;rw[hop];show hV E t (aF E.globs tm x) (only h [id])=_;rw[hx];have hp:CM.part cs (off+k) s.size s.agg=some v:=by rw[h1,h2];exact hn
  unfold hV CM.load lY;simp only[hget,hs,hp,bM]
 have hsame:Same h (cB h (only h [id]) ([id]++bC h.next 0)):=by
  refine⟨by rw[bQ,aT],λk=> ?_⟩;rw[bL];split
  ·rename_i hk
   have:k=id:=by
    have hk:k∈[id]:=hk;simpa using hk
   subst this;rw[hget,g1]
  ·rfl
 obtain⟨r,⟨N,e⟩,q⟩:=w (.op i [id] false h.next h.next::recs) _ (dv.more ((dv.d.cons (Nat.le_refl _) (λk hk=>by rw[List.mem_singleton]at hk;rw[hk];exact g2) λb hb=>⟨dv.d.b b hb,λh=>by cases h⟩).same hsame.next) (Nat.le_of_eq hsame.next.symm) (.inr ⟨i,[id],h.next,rfl,λk hk=>by rw[List.mem_singleton]at hk;rw[hk];exact hB,λk hk=>by rw[List.mem_singleton]at hk;rw[hk,hsame.next];exact g2⟩) λj hj=>hj) hsame (LocE.ext ⟨cs,ro,g1,g2,g3⟩ hsame.ext);refine⟨r,.step ⟨N,λm hm=> ?_⟩,q⟩
 show(match guardOn all tm o with
  |some true=>kV E (run E m) bs all rest o i recs tm h
  |some false=>run E m (.draw bs all rest (i+1) recs) (putTmp tm o.dst (.tup [])) h
  |none=> .stop)=r
 rw[hgd];show kV E (run E m) bs all rest o i recs tm h=r;rw[eL ho,hfp,hwr];have hnx:(only h [id]).next=h.next:=aT _ _
 show(match aN ((dO bs i).getD Bits.nil) [id] false (bC h.next ((only h [id]).next-h.next)) recs with
  |true=>run E m (.draw bs all rest (i+1) (.op i [id] false h.next (only h [id]).next::recs)) (putTmp tm o.dst v) (cB h (only h [id]) ([id]++bC h.next ((only h [id]).next-h.next)))
  |false=> .stop)=r
 rw[hnx,Nat.sub_self];have:aN ((dO bs i).getD Bits.nil) [id] false (bC h.next 0) recs=true:=gU hB dv.d;rw[this];exact e m hm
theorem lU {b:Blk} {v:CV} (dv:DV B h idx nr recs) (hgd:guardOn all tm o=some true) (hfp:bA E o tm=[]) (hwr:dT o.op=false) (ho:aR E o tm (only h [])=some (v,(only h []).new b))
  (w:∀recs' h',DV B h' (i::idx) (i::nr) recs'->Ext h h'->h'.next=h.next+1->h'.get h.next=some b->W E (.draw bs all rest (i+1) recs') (putTmp tm o.dst v) h' Q):W E (.draw bs all (o::rest) i recs) tm h Q:=by
 have ho:aR E o tm (only h (bA E o tm))=some (v,(only h []).new b):=by rw[hfp];exact ho
 have hb:∀k,(cB h ((only h []).new b) ([]++[h.next])).get k=if k=h.next then some b else h.get k:=by
  intro k;rw[bL];by_cases e:k=h.next
  ·subst e
   rw[if_pos (by simp),if_pos rfl];exact aZ (only h []) _
  ·rw[if_neg (by simpa using e),if_neg e]
 have hnx:(cB h ((only h []).new b) ([]++[h.next])).next=h.next+1:=by rw[bQ];rfl
 have hx:Ext h (cB h ((only h []).new b) ([]++[h.next])):=by
  refine⟨by omega,λk hk=> ?_,λf k hk=> ?_⟩
  ·rw[hb,if_neg (by omega)]
  ·rw[hnx]at hk
   rw[hb,if_neg (by omega)];exact f k (by omega)
 obtain⟨r,⟨N,e⟩,q⟩:=w (.op i [] false h.next (h.next+1)::recs) _ (dv.more (dv.d.cons (by omega) (λk hk=>by cases hk) λb hb=>⟨dv.d.b b hb,λh=>by cases h⟩) (by omega) (.inl (by simp[recIdx])) λj hj=>List.mem_cons_of_mem _ hj) hx hnx (by rw[hb,if_pos rfl]);refine⟨r,.step ⟨N,λm hm=> ?_⟩,q⟩
 show(match guardOn all tm o with
  |some true=>kV E (run E m) bs all rest o i recs tm h
  |some false=>run E m (.draw bs all rest (i+1) recs) (putTmp tm o.dst (.tup [])) h
  |none=> .stop)=r
 rw[hgd];show kV E (run E m) bs all rest o i recs tm h=r;rw[eL ho,hfp,hwr]
 have hnb:Nat.beq (h.next+1) h.next=false:=by
  cases hb:Nat.beq (h.next+1) h.next with
  |true=>have:=Nat.eq_of_beq_eq_true hb;omega
  |false=>rfl
 have hsp:bC h.next (h.next+1-h.next)=[h.next]:=by
  rw[show h.next+1-h.next=1 by omega];rfl
 show(match jH ([]:List Nat)&&Nat.beq (h.next+1) h.next with
  |true=>_
  |false=>match aN ((dO bs i).getD Bits.nil) [] false (bC h.next (h.next+1-h.next)) recs with
   |true=>run E m (.draw bs all rest (i+1) (.op i [] false h.next (h.next+1)::recs)) (putTmp tm o.dst v) (cB h ((only h []).new b) ([]++bC h.next (h.next+1-h.next)))
   |false=> .stop)=r
 rw[hnb,hsp,lW dv.d];exact e m hm
theorem aXv {c:Call} {t t2 e:TypeId} {ts es t2s:TyS} {s s2:CV} {l2:List (List CV)} (dv:DV B h idx nr recs) (X:Ext H h) (so:OwnR h H.next z s l) (s2l:SlG h z s2 l2) (hB:∀b,B b->b∉idOf s++idOf s2) (hid:(nr.all λj=>pC j ((dO bs i).getD Bits.nil))=true)
  (hgd:guardOn all tm o=some true) (hop:o.op= .call c) (hb:c.callee= .builtin .append) (hty:c.argTypes.toList=[t,t2]) (ha:c.args.toList.map (aF E.globs tm)=[s,s2])
  (hts:E.ty t=some ts) (hk:ts.kind= .slice e) (hes:E.ty e=some es) (hz:es.size=z) (hz0:(Nat.beq es.size 0||Nat.beq es.bytes 0)=false) (ht2:E.ty t2=some t2s) (hk2:t2s.kind= .slice e) (hm:(l.length+l2.length)*es.bytes<=70368744177664)
  (w:∀recs' v' h',DV B h' (i::idx) (i::nr) recs'->Ext H h'->(∀b,B b->h'.get b=h.get b)->h.next<=h'.next->OwnR h' H.next z v' (l++l2)->(∀c,c<h.next->idOf s≠[c]->idOf v'≠[c])->W E (.draw bs all rest (i+1) recs') (putTmp tm o.dst v') h' Q):W E (.draw bs all (o::rest) i recs) tm h Q:=by
 have d:=dv.d;have hn:∀(fp:List Nat) (wr:Bool) (n:Nat),(∀b,B b->b∉fp)->aN ((dO bs i).getD Bits.nil) fp wr (bC h.next n) recs=true:=λfp wr n hf=>nW hf (λk hk=>((fQ _ _ _).1 hk).1) (λj hj=>List.all_eq_true.1 hid j hj) dv.r;refine aHo (λn _=>⟨hn _ _ _ hB,hn _ _ _ λb hb h=>hB b hb (List.mem_append_left _ h)⟩) X so s2l hgd hop hb hty ha hts hk hes hz hz0 ht2 hk2 hm λrecs' v' h' hr hlt X' nn kk O' kid _=> ?_;refine w recs' v' h' ?_ X' (λb hb=>kk b (d.b b hb) (.inr λe=>hB b hb (by rw[e];simp))) nn O' kid;rcases hr with rfl|⟨lo,hi,rfl,rfl⟩
 ·exact⟨⟨λr hr=>⟨List.mem_cons_of_mem _ (d.r r hr).1,by obtain⟨i,fp,ws,lo,hi,h2,h3,h4⟩:=(d.r r hr).2;exact⟨i,fp,ws,lo,hi,h2,λk hk=>Nat.lt_of_lt_of_le (h3 k hk) nn,h4⟩⟩,λb hb=>Nat.lt_of_lt_of_le (d.b b hb) nn⟩,λr hr=>(dv.r r hr).imp (List.mem_cons_of_mem _) λ⟨i,fp,lo,h1,h2,h3⟩=>⟨i,fp,lo,h1,h2,λk hk=>Nat.lt_of_lt_of_le (h3 k hk) nn⟩⟩
 ·exact dv.more (d.tail nn rfl ⟨_,_,_,_,_,.inl rfl,λk hk=>Nat.lt_of_lt_of_le (hlt k hk) nn,λb hb=>⟨d.b b hb,λh=>hB b hb (List.mem_append_left _ h)⟩⟩) nn (.inl (by simp[recIdx])) λj hj=>List.mem_cons_of_mem _ hj
theorem aNw {id:Nat} {B1 B2:Blk} {v:CV} (hri:∀r∈recs,recIdx r∈idx) (hid:(idx.all λj=>pC j ((dO bs i).getD Bits.nil))=true) (hgd:guardOn all tm o=some true) (hfp:bA E o tm=[id]) (hwr:dT o.op=true) (hg:h.get id=some B1)
  (ho:∀h0:Heap,h0.get id=some B1->aR E o tm h0=some (v,h0.put id B2))
  (w:∀recs' h',(∀r∈recs',recIdx r∈i::idx)->Same (h.put id B2) h'->W E (.draw bs all rest (i+1) recs') (putTmp tm o.dst v) h' Q) (hna:lM o.op=false:=by rw[‹o.op=_›];rfl):W E (.draw bs all (o::rest) i recs) tm h Q:=by
 have hget:(only h [id]).get id=some B1:=by rw[cC];simpa using hg
 have ho:aR E o tm (only h (bA E o tm))=some (v,(only h [id]).put id B2):=by
  rw[hfp];exact ho _ hget
 have hnx:((only h [id]).put id B2).next=h.next:=aT _ _
 have hsame:Same (h.put id B2) (cB h ((only h [id]).put id B2) ([id]++bC h.next 0)):=by
  refine⟨by rw[bQ,hnx];rfl,λk=> ?_⟩;rw[bL,aA,aA];split
  ·rename_i hk
   have:k=id:=by
    have hk:k∈[id]:=hk;simpa using hk
   subst this;simp
  ·rename_i hk
   have:¬id=k:=by
    intro e;subst e;exact hk (by show id∈[id];simp)
   rw[if_neg this]
 have hall:∀r∈recs,pC (recIdx r) ((dO bs i).getD Bits.nil)=true:=λr hm=>List.all_eq_true.1 hid _ (hri r hm)
 obtain⟨r,⟨N,e⟩,q⟩:=w (.op i [id] true h.next h.next::recs) _ (λr hm=>by
  rcases List.mem_cons.1 hm with rfl|hm
  ·simp[recIdx]
  ·exact List.mem_cons_of_mem _ (hri r hm)) hsame
 refine⟨r,.step ⟨N,λm hm=> ?_⟩,q⟩
 show(match guardOn all tm o with
  |some true=>kV E (run E m) bs all rest o i recs tm h
  |some false=>run E m (.draw bs all rest (i+1) recs) (putTmp tm o.dst (.tup [])) h
  |none=> .stop)=r
 rw[hgd];show kV E (run E m) bs all rest o i recs tm h=r;rw[eL ho hna,hfp,hwr]
 show(match aN ((dO bs i).getD Bits.nil) [id] true (bC h.next (((only h [id]).put id B2).next-h.next)) recs with
  |true=>run E m (.draw bs all rest (i+1) (.op i [id] true h.next ((only h [id]).put id B2).next::recs)) (putTmp tm o.dst v) (cB h ((only h [id]).put id B2) ([id]++bC h.next (((only h [id]).put id B2).next-h.next)))
  |false=> .stop)=r
 rw[hnx,Nat.sub_self,cX hall];exact e m hm
end
end Go.CM

noncomputable section
namespace Go.CM
section
variable {h h' H:Heap} {lo z:Nat} {v:CV} {l:List (List CV)} {E:Env} {tm:Tm} {Q:R->Prop} {all rest:List Oper} {o:Oper} {bs:List Bits} {recs:List Rec} {i:Nat} {idx:List Nat}
theorem dC {c:Call} {t t2 e:TypeId} {ts es t2s:TyS} {s s2:CV} {l2:List (List CV)} (hri:∀r∈recs,recIdx r∈idx) (X:Ext H h) (so:OwnR h H.next z s l) (s2l:SlG h z s2 l2) (hid:(idx.all λj=>pC j ((dO bs i).getD Bits.nil))=true)
  (hgd:guardOn all tm o=some true) (hop:o.op= .call c) (hb:c.callee= .builtin .append) (hty:c.argTypes.toList=[t,t2]) (ha:c.args.toList.map (aF E.globs tm)=[s,s2])
  (hts:E.ty t=some ts) (hk:ts.kind= .slice e) (hes:E.ty e=some es) (hz:es.size=z) (hz0:(Nat.beq es.size 0||Nat.beq es.bytes 0)=false) (ht2:E.ty t2=some t2s) (hk2:t2s.kind= .slice e) (hm:(l.length+l2.length)*es.bytes<=70368744177664)
  (w:∀recs' v' h',(∀r∈recs',recIdx r∈i::idx)->Ext H h'->h.next<=h'.next->(∀k,k<h.next->k<H.next\/idOf s≠[k]->h'.get k=h.get k)->OwnR h' H.next z v' (l++l2)->(∀c,c<h.next->idOf s≠[c]->idOf v'≠[c])->(l2≠[]->idOf v'=[h.next])->W E (.draw bs all rest (i+1) recs') (putTmp tm o.dst v') h' Q):W E (.draw bs all (o::rest) i recs) tm h Q:=by
 have hall:∀r∈recs,pC (recIdx r) ((dO bs i).getD Bits.nil)=true:=λr hm=>List.all_eq_true.1 hid _ (hri r hm);refine aHo (λn _=>⟨cX hall,cX hall⟩) X so s2l hgd hop hb hty ha hts hk hes hz hz0 ht2 hk2 hm λrecs' v' h' hr hlt X' nn kk O' kid k7=>w recs' v' h' (λr h=> ?_) X' nn kk O' kid k7;rcases hr with rfl|⟨lo,hi,rfl,rfl⟩
 ·exact List.mem_cons_of_mem _ (hri r h)
 ·rcases List.mem_cons.1 h with rfl|h
  ·simp[recIdx]
  ·exact List.mem_cons_of_mem _ (hri r h)
end
end Go.CM

noncomputable section
namespace Go.CM
section
variable {h h' H:Heap} {lo z:Nat} {v:CV} {l:List (List CV)} {E:Env} {tm:Tm} {Q:R->Prop} {all rest:List Oper} {o:Oper} {B:Nat->Prop} {bs:List Bits} {recs:List Rec} {i:Nat} {idx nr:List Nat}
theorem aNs {t:TypeId} {x:Operand} {id off:Nat} {e:List CV} {s:TyS} (dv:DV B h idx nr recs) (hB:B id) (L:LocE h id off e) (hgd:guardOn all tm o=some true) (hop:o.op= .load t x) (hx:aF E.globs tm x= .ptr (some (id,off))) (hs:E.ty t=some s) (h1:e.length=s.size) (h2:s.agg=true)
  (w:∀recs' h',DV B h' (i::idx) nr recs'->Same h h'->LocE h' id off e->W E (.draw bs all rest (i+1) recs') (putTmp tm o.dst (.agg e)) h' Q):W E (.draw bs all (o::rest) i recs) tm h Q:=by
 obtain⟨cs,ro,g1,g2,g3⟩:=L
 have hfp:bA E o tm=[id]:=by
  unfold bA;rw[hop];show idOf (aF E.globs tm x)=[id];rw[hx];rfl
 have hwr:dT o.op=false:=by rw[hop];rfl
 have hget:(only h [id]).get id=some (.cells cs ro):=by rw[cC];simpa using g1
 have ho:aR E o tm (only h (bA E o tm))=some (.agg e,only h [id]):=by
  rw[hfp];unfold aR;rw[hop];show hV E t (aF E.globs tm x) (only h [id])=_;rw[hx]
  have hp:CM.part cs off s.size s.agg=some (.agg e):=by
   unfold CM.part;rw[h2,<-h1,g3];rfl
  unfold hV CM.load lY;simp only[hget,hs,hp,bM]
 have hsame:Same h (cB h (only h [id]) ([id]++bC h.next 0)):=by
  refine⟨by rw[bQ,aT],λk=> ?_⟩;rw[bL];split
  ·rename_i hk
   have:k=id:=by
    have hk:k∈[id]:=hk;simpa using hk
   subst this;rw[hget,g1]
  ·rfl
 obtain⟨r,⟨N,e⟩,q⟩:=w (.op i [id] false h.next h.next::recs) _ (dv.more ((dv.d.cons (Nat.le_refl _) (λk hk=>by rw[List.mem_singleton]at hk;rw[hk];exact g2) λb hb=>⟨dv.d.b b hb,λh=>by cases h⟩).same hsame.next) (Nat.le_of_eq hsame.next.symm) (.inr ⟨i,[id],h.next,rfl,λk hk=>by rw[List.mem_singleton]at hk;rw[hk];exact hB,λk hk=>by rw[List.mem_singleton]at hk;rw[hk,hsame.next];exact g2⟩) λj hj=>hj) hsame (LocE.ext ⟨cs,ro,g1,g2,g3⟩ hsame.ext);refine⟨r,.step ⟨N,λm hm=> ?_⟩,q⟩
 show(match guardOn all tm o with
  |some true=>kV E (run E m) bs all rest o i recs tm h
  |some false=>run E m (.draw bs all rest (i+1) recs) (putTmp tm o.dst (.tup [])) h
  |none=> .stop)=r
 rw[hgd];show kV E (run E m) bs all rest o i recs tm h=r;rw[eL ho,hfp,hwr];have hnx:(only h [id]).next=h.next:=aT _ _
 show(match aN ((dO bs i).getD Bits.nil) [id] false (bC h.next ((only h [id]).next-h.next)) recs with
  |true=>run E m (.draw bs all rest (i+1) (.op i [id] false h.next (only h [id]).next::recs)) (putTmp tm o.dst (.agg _)) (cB h (only h [id]) ([id]++bC h.next ((only h [id]).next-h.next)))
  |false=> .stop)=r
 rw[hnx,Nat.sub_self];have:aN ((dO bs i).getD Bits.nil) [id] false (bC h.next 0) recs=true:=gU hB dv.d;rw[this];exact e m hm
theorem aTc {t:TypeId} {x y:Operand} {id off:Nat} {cs cs' vs:List CV} {s:TyS} (dv:DV B h idx nr recs) (hB:¬B id) (hid:(nr.all λj=>pC j ((dO bs i).getD Bits.nil))=true) (hgd:guardOn all tm o=some true) (hop:o.op= .store t x y) (hx:aF E.globs tm x= .ptr (some (id,off))) (hy:(aF E.globs tm y).cells=some vs)
  (hs:E.ty t=some s) (hl:Nat.beq (len vs) s.size=true) (hg:h.get id=some (.cells cs false)) (hp:lX cs vs off=some cs')
  (w:∀recs' h',(∀r∈recs',recIdx r∈i::idx)->Same (h.put id (.cells cs' false)) h'->W E (.draw bs all rest (i+1) recs') (putTmp tm o.dst .undef) h' Q):W E (.draw bs all (o::rest) i recs) tm h Q:=by
 have hri:∀r∈recs,recIdx r∈idx:=λr hr=>(dv.d.r r hr).1
 have hfp:bA E o tm=[id]:=by
  unfold bA;rw[hop];show idOf (aF E.globs tm x)=[id];rw[hx];rfl
 have hwr:dT o.op=true:=by rw[hop];rfl
 have hget:(only h [id]).get id=some (.cells cs false):=by rw[cC];simpa using hg
 have ho:aR E o tm (only h (bA E o tm))=some (.undef,(only h [id]).put id (.cells cs' false)):=by
  rw[hfp];unfold aR;rw[hop];show hO E t (aF E.globs tm x) (aF E.globs tm y) (only h [id])=_;rw[hx];unfold hO CM.store pM;simp only[hs,hy,hl];unfold dU;simp only[hget,hp,Option.map_some,aTz]
 have hnx:((only h [id]).put id (.cells cs' false)).next=h.next:=aT _ _
 have hsame:Same (h.put id (.cells cs' false)) (cB h ((only h [id]).put id (.cells cs' false)) ([id]++bC h.next 0)):=by
  refine⟨by rw[bQ,hnx];rfl,λk=> ?_⟩;rw[bL,aA,aA];split
  ·rename_i hk
   have:k=id:=by
    have hk:k∈[id]:=hk;simpa using hk
   subst this;simp
  ·rename_i hk
   have:¬id=k:=by
    intro e;subst e;exact hk (by show id∈[id];simp)
   rw[if_neg this]
 have hall:aN ((dO bs i).getD Bits.nil) [id] true (bC h.next 0) recs=true:=nW (λb hb hm=>hB (by rw[List.mem_singleton]at hm;rw[<-hm];exact hb)) (λk hk=>(by cases hk)) (λj hj=>List.all_eq_true.1 hid _ hj) dv.r
 obtain⟨r,⟨N,e⟩,q⟩:=w (.op i [id] true h.next h.next::recs) _ (λr hm=>by
  rcases List.mem_cons.1 hm with rfl|hm
  ·simp[recIdx]
  ·exact List.mem_cons_of_mem _ (hri r hm)) hsame
 refine⟨r,.step ⟨N,λm hm=> ?_⟩,q⟩
 show(match guardOn all tm o with
  |some true=>kV E (run E m) bs all rest o i recs tm h
  |some false=>run E m (.draw bs all rest (i+1) recs) (putTmp tm o.dst (.tup [])) h
  |none=> .stop)=r
 rw[hgd];show kV E (run E m) bs all rest o i recs tm h=r;rw[eL ho,hfp,hwr]
 show(match aN ((dO bs i).getD Bits.nil) [id] true (bC h.next (((only h [id]).put id (.cells cs' false)).next-h.next)) recs with
  |true=>run E m (.draw bs all rest (i+1) (.op i [id] true h.next ((only h [id]).put id (.cells cs' false)).next::recs)) (putTmp tm o.dst .undef) (cB h ((only h [id]).put id (.cells cs' false)) ([id]++bC h.next (((only h [id]).put id (.cells cs' false)).next-h.next)))
  |false=> .stop)=r
 rw[hnx,Nat.sub_self,hall];exact e m hm
theorem dQ {α:Type} [Rp α] {l:List α} {v:CV} {t:TypeId} {x y:Operand} {s:TyS} {et j:Nat} {kk:IntKind} (sl:Sl H v l) (hj:j<l.length) (hgd:guardOn all tm o=some true) (hop:o.op= .indexAddr t x y) (hx:aF E.globs tm x=v) (hy:aF E.globs tm y= .int kk (j:Int)) (hs:E.ty t=some s) (hk:s.kind= .slice et) (hz:bO E et=some (Rp.z α))
  (w:∀id off e,LocE H id off e->Rp.R H e l[j]->W E (.draw bs all rest (i+1) recs) (putTmp tm o.dst (.ptr (some (id,off)))) h Q):W E (.draw bs all (o::rest) i recs) tm h Q:=by
 obtain⟨id,off,c,x',e,rfl,L,r⟩:=sl.at hj;exact iY hgd hop hx hy hs hk hz (bE rfl hj) (w _ _ e L r)
end
theorem cV {E:Env} {tm:Tm} {h:Heap} {Q:R->Prop} {rs:List ResultVar} {a b i off j off2:Nat} {t t2:TypeId} {s s2:TyS} {cs cs2:List CV} {ro ro2:Bool} {v v2:CV} (hrs:rs=[.cell a t,.cell b t2]) (ha:tm.look a= .ptr (some (i,off))) (hb:tm.look b= .ptr (some (j,off2))) (hg:h.get i=some (.cells cs ro)) (hg2:h.get j=some (.cells cs2 ro2)) (hs:E.ty t=some s) (hs2:E.ty t2=some s2) (hp:CM.part cs off s.size s.agg=some v) (hp2:CM.part cs2 off2 s2.size s2.agg=some v2)
  (q:Q (.val (.tup [v,v2]) h)):BodyQ E rs Q (.code .ret tm h):=by
 show Q (mU E rs (.code .ret tm h))
 have e:aV E h tm rs=some [v,v2]:=by
  subst hrs
  have hl:CM.load E h t i off=some v:=by
   unfold CM.load lY;simp only[hg,hs,hp]
  have hl2:CM.load E h t2 j off2=some v2:=by
   unfold CM.load lY;simp only[hg2,hs2,hp2]
  have h3:tm.get a=some (.ptr (some (i,off))):=by
   have:tm.get a=some (tm.look a):=rfl;rw[this,ha]
  have h4:tm.get b=some (.ptr (some (j,off2))):=by
   have:tm.get b=some (tm.look b):=rfl;rw[this,hb]
  unfold aV;simp only[h3,hl];unfold aV;simp only[h4,hl2,aV]
 unfold mU;simp only[e];exact q
end Go.CM

noncomputable section
namespace Go.CM
theorem tO {E:Env} {kt:TypeId} (hq:∀a b:Str,xH E 20 kt (.str a) (.str b)=some (cG a b)) {s:Str}:∀{es:List ME} {names:List Str} {i:Nat},es.map (·.key)=names.map CV.str->
  (s∈names->∃p,findKey E kt (.str s) es i=some (some p))/\(s∉names->findKey E kt (.str s) es i=some none)
 |[],[],i,_=>⟨λh=>(by cases h),λ_=>rfl⟩
 |[],a::names,i,h=>by simp at h
 |e::es,[],i,h=>by simp at h
 |e::es,a::names,i,h=>by
  have h1:e.key= .str a:=by simpa using(List.cons.inj h).1
  have h2:es.map (·.key)=names.map CV.str:=(List.cons.inj h).2;have ih:=tO hq (s:=s) (es:=es) (names:=names) (i:=i+1) h2;unfold findKey;rw[h1,hq,eK];by_cases c:s=a
  ·rw[decide_eq_true c]
   exact⟨λ_=>⟨_,rfl⟩,λh=>absurd (by rw[c];simp) h⟩
  ·rw[decide_eq_false c]
   refine⟨λh=>ih.1 ?_,λh=>ih.2 λh2=>h (List.mem_cons_of_mem _ h2)⟩;rcases List.mem_cons.1 h with h|h
   ·exact absurd h c
   ·exact h
theorem oX {n:Nat}:∀{es:List ME} {j:Nat},(∃e∈es,e.born=n)->∃i,kI (Int.ofNat n) es j=some i
 |[],j,h=>by obtain⟨e,he,_⟩:=h;cases he
 |e::es,j,h=>by
  unfold kI;cases hb:kE (Int.ofNat e.born) (Int.ofNat n)with
  |true=>exact⟨j,rfl⟩
  |false=>
   obtain⟨e',he,hn⟩:=h;rcases List.mem_cons.1 he with rfl|he
   ·rw[hn,dG]at hb
    simp at hb
   ·exact oX ⟨e',he,hn⟩
theorem uZ {f:ME->ME} (hf:∀e,(f e).key=e.key):∀(es:List ME) (i:Nat),(sX es f i).map (·.key)=es.map (·.key)
 |[],_=>rfl
 |e::es,0=>by show((f e)::es).map (·.key)=_;simp[hf]
 |e::es,i+1=>by show(e::sX es f i).map (·.key)=_;rw[List.map_cons,uZ hf es i];rfl
section
variable {E:Env} {tm:Tm} {h:Heap} {Q:R->Prop} {all rest:List Oper} {o:Oper} {bs:List Bits} {recs:List Rec} {i:Nat} {idx:List Nat}
theorem W.look {t:TypeId} {x y:Operand} {st:TyS} {kt et:TypeId} {es:List ME} {clock mb:Nat} {s:Str} {r:Option (Nat×CV)} {v:CV} (hgd:guardOn all tm o=some true) (hop:o.op= .lookup t x y true) (hx:aF E.globs tm x= .map (some mb)) (hy:aF E.globs tm y= .str s) (hg:h.get mb=some (.map es clock)) (hs:E.ty t=some st) (hk:st.kind= .map kt et) (hkey:oT E kt (.str s)=true) (hf:findKey E kt (.str s) es 0=some r) (hv:aMg E et true (some r)=some v)
  (w:W E (.ops all rest) (putTmp tm o.dst v) h Q):W E (.ops all (o::rest)) tm h Q:=by
 refine W.op hgd (v:=v) (h1:=h) ?_ w;unfold aR;rw[hop];show bM h (qR E (E.ty t) (aF E.globs tm x) (aF E.globs tm y) true h)=_;rw[hx,hy,hs];unfold qR aGv;simp only[hk,hkey,hg,hf,hv,bM]
theorem aRs {t:TypeId} {x y:Operand} {st:TyS} {kt et:TypeId} {es:List ME} {clock mb:Nat} {s:Str} {z:CV} (hri:∀r∈recs,recIdx r∈idx) (hid:(idx.all λj=>pC j ((dO bs i).getD Bits.nil))=true) (hgd:guardOn all tm o=some true) (hop:o.op= .mapEntry t x y) (hx:aF E.globs tm x= .map (some mb)) (hy:aF E.globs tm y= .str s) (hg:h.get mb=some (.map es clock)) (hs:E.ty t=some st) (hk:st.kind= .map kt et) (hkey:oT E kt (.str s)=true) (hf:findKey E kt (.str s) es 0=some none) (hz:sT E et=some z)
  (w:∀recs' h',(∀r∈recs',recIdx r∈i::idx)->Same (h.put mb (.map (es++[⟨.str s,z,clock⟩]) (clock+1))) h'->W E (.draw bs all rest (i+1) recs') (putTmp tm o.dst (.tup [z,.int .i64 (Int.ofNat clock)])) h' Q):W E (.draw bs all (o::rest) i recs) tm h Q:=by
 refine aNw (B1:= .map es clock) hri hid hgd (by unfold bA;rw[hop];show idOf (aF E.globs tm x)=[mb];rw[hx];rfl) (by rw[hop];rfl) hg (λh0 g0=> ?_) w;unfold aR;rw[hop];show fW E (E.ty t) (aF E.globs tm x) (aF E.globs tm y) h0=_;rw[hx,hy,hs];unfold fW;simp only[hk,hkey,g0,hf,hz]
theorem aVb {t:TypeId} {x y u:Operand} {es:List ME} {clock mb b:Nat} {kk:IntKind} {v:CV} (hri:∀r∈recs,recIdx r∈idx) (hid:(idx.all λj=>pC j ((dO bs i).getD Bits.nil))=true) (hgd:guardOn all tm o=some true) (hop:o.op= .entryStore t x y u) (hx:aF E.globs tm x= .map (some mb)) (hy:aF E.globs tm y= .int kk (Int.ofNat b)) (hu:aF E.globs tm u=v) (hg:h.get mb=some (.map es clock)) (hb:∃e∈es,e.born=b)
  (w:∀recs' h' es',(∀r∈recs',recIdx r∈i::idx)->es'.map (·.key)=es.map (·.key)->Same (h.put mb (.map es' clock)) h'->W E (.draw bs all rest (i+1) recs') (putTmp tm o.dst .undef) h' Q):W E (.draw bs all (o::rest) i recs) tm h Q:=by
 obtain⟨j,hj⟩:=oX (j:=0) hb;refine aNw (B1:= .map es clock) (B2:= .map (sX es (λe=>⟨e.key,v,e.born⟩) j) clock) hri hid hgd (by unfold bA;rw[hop];show idOf (aF E.globs tm x)=[mb];rw[hx];rfl) (by rw[hop];rfl) hg (λh0 g0=> ?_) λrecs' h' h1 h2=>w recs' h' (sX es (λe=>⟨e.key,v,e.born⟩) j) h1 (uZ (f:=λe=>⟨e.key,v,e.born⟩) (λe=>rfl) es j) h2;unfold aR;rw[hop];show eH (aF E.globs tm x) (aF E.globs tm y) (aF E.globs tm u) h0=_;rw[hx,hy,hu];unfold eH;simp only[g0,hj]
end
end Go.CM

noncomputable section
namespace Go.CM
theorem aNu {E:Env} {tm:Tm} {h:Heap} {Q:R->Prop} {all rest:List Oper} {o:Oper} {t e:TypeId} {x y:Operand} {cs:List CV} {s es:TyS} {kk:IntKind} {j n:Nat} {m:Int} {v:CV} (hgd:guardOn all tm o=some true) (hop:o.op= .index t x y) (hx:aF E.globs tm x= .agg cs) (hy:aF E.globs tm y= .int kk m) (hs:E.ty t=some s) (hk:s.kind= .array n e) (hes:E.ty e=some es) (hz:es.size=1) (hag:es.agg=false) (hn:place m n=some j) (hv:dO cs j=some v)
  (w:W E (.ops all rest) (putTmp tm o.dst v) h Q):W E (.ops all (o::rest)) tm h Q:=by
 refine W.op hgd (v:=v) (h1:=h) ?_ w;unfold aR;rw[hop];show mO E (E.ty t) (aF E.globs tm x) (aF E.globs tm y) h=_;rw[hx,hy,hs];unfold mO
 have hp:CM.part cs (j*es.size) es.size es.agg=some v:=by
  rw[hag,hz,Nat.mul_one];exact hv
 simp only[hk,hn,hes,hp,bM]
end Go.CM

noncomputable section
namespace Go.CM
theorem aXr {E:Env} {tm:Tm} {h:Heap} {Q:R->Prop} {all rest:List Oper} {o:Oper} {t e:TypeId} {x y:Operand} {s:TyS} {kk:IntKind} {i off j n:Nat} {m:Int} (hgd:guardOn all tm o=some true) (hop:o.op= .indexAddr t x y) (hx:aF E.globs tm x= .ptr (some (i,off))) (hy:aF E.globs tm y= .int kk m) (hs:E.ty t=some s) (hk:s.kind= .array n e) (hz:bO E e=some 1) (hn:place m n=some j)
  (w:W E (.ops all rest) (putTmp tm o.dst (.ptr (some (i,off+j)))) h Q):W E (.ops all (o::rest)) tm h Q:=by
 refine W.op hgd (v:= .ptr (some (i,off+j))) (h1:=h) ?_ w;unfold aR;rw[hop];show cY E (E.ty t) (aF E.globs tm x) (aF E.globs tm y) h=_;rw[hx,hy,hs];unfold cY;simp only[hk,hz,hn,lT,Nat.mul_one]
end Go.CM

noncomputable section
namespace Go.CM
section
variable {E:Env} {tm:Tm} {H h:Heap} {Q:R->Prop} {all rest:List Oper} {o:Oper} {bs:List Bits} {recs:List Rec} {i:Nat} {idx nr:List Nat}
theorem iZ {t:Task} (P:Tm->Heap->Prop) (w:W E t tm h (CutQ P)) (k:∀tm' h',P tm' h'->Q (.code .normal tm' h')):W E t tm h Q:=by
 refine w.mono λr q=> ?_;cases r with
 |code e tm' h'=>
  cases e with
  |normal=>exact k tm' h' q
  |_=>exact q.elim
 |_=>exact q.elim
end
end Go.CM

noncomputable section
namespace Go.CM
abbrev Tag:=Nat×Nat
section
variable {h h':Heap} {own own':Nat->Tag} {lo z:Nat} {t t':Tag} {v:CV} {l:List (List CV)}
theorem aCx {f:Nat} {x:CV}:∀{l:List (List CV)} {k:Nat} {e:List CV},(∀e∈l,e.length=z)->f<z->l[k]? =some e->l.flatten.set (k*z+f) x=(l.set k (e.set f x)).flatten
 |[],k,e,_,_,h=>by simp at h
 |a::l,0,e,hz,hf,h=>by
  simp at h;subst h;have:=hz a (by simp);rw[Nat.zero_mul,Nat.zero_add,List.flatten_cons,List.set_append_left _ _ (by omega)];rfl
 |a::l,k+1,e,hz,hf,h=>by
  have ih:=aCx (l:=l) (k:=k) (e:=e) (x:=x) (λx hx=>hz x (List.mem_cons_of_mem _ hx)) hf (by simpa using h);have:=hz a (by simp);rw[Nat.succ_mul,List.flatten_cons,List.set_append_right _ _ (by omega),show k*z+z+f-a.length=k*z+f by omega,ih];rfl
theorem aHv {cs:List CV} {x:CV} {o:Nat} (h:o<cs.length):lX cs [x] o=some (cs.set o x):=by
 rw[mF,if_pos (by simp only[List.length_cons,List.length_nil];omega)]
 congr 1
 rw[List.set_eq_take_append_cons_drop,if_pos h];simp
theorem aJb {k:Nat} {e:List CV} {f:Nat} (hz:∀e∈l,e.length=z) (hf:f<z) (hk:l[k]? =some e):k*z+f<l.flatten.length:=by
 rw[mX hz];have hk:=(List.getElem?_eq_some_iff.1 hk).1;have:(k+1)*z<=l.length*z:=Nat.mul_le_mul_right _ hk;rw[Nat.succ_mul]at this;omega
theorem fB {k:Nat} {e:List CV} {f:Nat} {x:CV} (hz:∀e∈l,e.length=z) (hf:f<z) (hk:l[k]? =some e):lX l.flatten [x] (0+k*z+f)=some (l.set k (e.set f x)).flatten:=by
 rw[Nat.zero_add,aHv (aJb hz hf hk),aCx hz hf hk]
theorem kH {k:Nat} {e:List CV} {f:Nat} {x:CV} (hz:∀e∈l,e.length=z) (hk:l[k]? =some e) (hx:e[f]? =some x):dO l.flatten (0+k*z+f)=some x:=lQ (dX hz hk) hx
end
section
variable {E:Env} {tm:Tm} {h:Heap} {own:Nat->Tag} {Q:R->Prop} {all rest:List Oper} {o:Oper}
end
end Go.CM

noncomputable section
namespace Go.CM
section
variable {h h' H:Heap} {lo z:Nat} {v:CV} {l:List (List CV)} {E:Env} {tm:Tm} {Q:R->Prop} {all rest:List Oper} {o:Oper} {bs:List Bits} {recs:List Rec} {i:Nat} {idx nr:List Nat}
theorem OwnR.at (s:OwnR h lo z v l) {j:Nat} (hj:j<l.length):∃i c x,v= .slice (some (i,0)) l.length c x/\lo<=i/\i<h.next/\idOf v=[i]/\h.get i=some (.cells l.flatten false)/\(∀e∈l,e.length=z):=by
 rcases s with⟨rfl,_⟩|⟨i,x,ro,rfl,h1,h2,h3,h4,h5⟩
 ·simp at hj
 ·have hl:l≠[]:=λe=>by rw[e]at hj;simp at hj
  have hro:ro=false:=by
   rcases h5 with⟨_,h5|h5⟩|⟨_,h5,_⟩
   ·exact absurd h5 hl
   ·exact h5
   ·exact h5
  subst hro;exact⟨i,_,_,rfl,h1,h2,rfl,h3,h4⟩
theorem OwnR.set (s:OwnR h lo z v l) {j i:Nat} {e:List CV} (hj:j<l.length) (he:e.length=z) (hn:h'.next=h.next) (hi:idOf v=[i]) (hg:h'.get i=some (.cells (l.set j e).flatten false)):OwnR h' lo z v (l.set j e):=by
 rcases s with⟨rfl,_⟩|⟨i',x,ro,rfl,h1,h2,h3,h4,h5⟩
 ·simp at hj
 ·have:i'=i:=by simpa[idOf]using hi
  subst this;refine .inr ⟨i',x,false,by rw[List.length_set],h1,by omega,hg,λa ha=> ?_,?_⟩
  ·rcases List.mem_or_eq_of_mem_set ha with ha|rfl
   ·exact h4 a ha
   ·exact he
  ·rcases h5 with⟨h5,_⟩|⟨h5,_,_⟩
   ·exact .inl ⟨h5,.inr rfl⟩
   ·exact .inr ⟨h5,rfl,λe0=>by
     have:=congrArg List.length e0;rw[List.length_set]at this;simp at this;rw[this]at hj;simp at hj⟩
end
end Go.CM

noncomputable section
namespace Go.CM
section
variable {E:Env} {tm:Tm} {H h:Heap} {Q:R->Prop} {all rest:List Oper} {o:Oper} {bs:List Bits} {recs:List Rec} {i:Nat} {idx nr nx:List Nat} {v:CV}
theorem aVa (ds:DX H h idx nx recs) {t:TypeId} {x:Operand} {id off:Nat} {cs:List CV} {ro:Bool} {s:TyS} (hgd:guardOn all tm o=some true) (hop:o.op= .load t x) (hx:aF E.globs tm x= .ptr (some (id,off))) (hg:H.get id=some (.cells cs ro)) (hid:id<H.next) (hs:E.ty t=some s) (hp:part cs off s.size s.agg=some v)
  (w:∀h',Same h h'->Ext H h'->W E (.draw bs all rest (i+1) (.op i [id] false h.next h.next::recs)) (putTmp tm o.dst v) h' Q):W E (.draw bs all (o::rest) i recs) tm h Q:=by
 have hfp:bA E o tm=[id]:=by
  unfold bA;rw[hop];show idOf (aF E.globs tm x)=[id];rw[hx];rfl
 have hwr:dT o.op=false:=by rw[hop];rfl
 have hgh:h.get id=some (.cells cs ro):=(ds.x.old id hid).trans hg;have hget:(only h [id]).get id=some (.cells cs ro):=by rw[cC];simpa using hgh
 have ho:aR E o tm (only h (bA E o tm))=some (v,only h [id]):=by
  rw[hfp];unfold aR;rw[hop];show hV E t (aF E.globs tm x) (only h [id])=_;rw[hx];unfold hV CM.load lY;simp only[hget,hs,hp,bM]
 have hsame:Same h (cB h (only h [id]) ([id]++bC h.next 0)):=by
  refine⟨by rw[bQ,aT],λk=> ?_⟩;rw[bL];split
  ·rename_i hk
   have:k=id:=by
    have hk:k∈[id]:=hk;simpa using hk
   subst this;rw[hget,hgh]
  ·rfl
 have hfc:∀k∈[id],k<H.next/\uS H k:=λk hk=>by rw[List.mem_singleton]at hk;subst hk;exact⟨hid,cs,ro,hg⟩
 obtain⟨r,⟨N,e⟩,q⟩:=w _ hsame (ds.x.trans hsame.ext);refine⟨r,.step ⟨N,λm hm=> ?_⟩,q⟩
 show(match guardOn all tm o with
  |some true=>kV E (run E m) bs all rest o i recs tm h
  |some false=>run E m (.draw bs all rest (i+1) recs) (putTmp tm o.dst (.tup [])) h
  |none=> .stop)=r
 rw[hgd];show kV E (run E m) bs all rest o i recs tm h=r;rw[eL ho,hfp,hwr];have hnx:(only h [id]).next=h.next:=aT _ _
 show(match aN ((dO bs i).getD Bits.nil) [id] false (bC h.next ((only h [id]).next-h.next)) recs with
  |true=>run E m (.draw bs all rest (i+1) (.op i [id] false h.next (only h [id]).next::recs)) (putTmp tm o.dst v) (cB h (only h [id]) ([id]++bC h.next ((only h [id]).next-h.next)))
  |false=> .stop)=r
 rw[hnx,Nat.sub_self];have:aN ((dO bs i).getD Bits.nil) [id] false (bC h.next 0) recs=true:=vN hfc λr hm=>(ds.r r hm).1;rw[this];exact e m hm
theorem aBb {t:TypeId} {x y:Operand} {id off:Nat} {cs cs' vs:List CV} {s:TyS} (hri:∀r∈recs,recIdx r∈idx) (hrr:∀r∈recs,recIdx r∈nr\/∃i fp lo,r= .op i fp false lo lo/\(∀k∈fp,k≠id)/\∀k∈fp,k<h.next) (hid:(nr.all λj=>pC j ((dO bs i).getD Bits.nil))=true) (hgd:guardOn all tm o=some true) (hop:o.op= .store t x y) (hx:aF E.globs tm x= .ptr (some (id,off))) (hy:(aF E.globs tm y).cells=some vs)
  (hs:E.ty t=some s) (hl:Nat.beq (len vs) s.size=true) (hg:h.get id=some (.cells cs false)) (hp:lX cs vs off=some cs')
  (w:∀recs' h',(∀r∈recs',recIdx r∈i::idx)->Same (h.put id (.cells cs' false)) h'->W E (.draw bs all rest (i+1) recs') (putTmp tm o.dst .undef) h' Q):W E (.draw bs all (o::rest) i recs) tm h Q:=by
 have hfp:bA E o tm=[id]:=by
  unfold bA;rw[hop];show idOf (aF E.globs tm x)=[id];rw[hx];rfl
 have hwr:dT o.op=true:=by rw[hop];rfl
 have hget:(only h [id]).get id=some (.cells cs false):=by rw[cC];simpa using hg
 have ho:aR E o tm (only h (bA E o tm))=some (.undef,(only h [id]).put id (.cells cs' false)):=by
  rw[hfp];unfold aR;rw[hop];show hO E t (aF E.globs tm x) (aF E.globs tm y) (only h [id])=_;rw[hx];unfold hO CM.store pM;simp only[hs,hy,hl];unfold dU;simp only[hget,hp,Option.map_some,aTz]
 have hnx:((only h [id]).put id (.cells cs' false)).next=h.next:=aT _ _
 have hsame:Same (h.put id (.cells cs' false)) (cB h ((only h [id]).put id (.cells cs' false)) ([id]++bC h.next 0)):=by
  refine⟨by rw[bQ,hnx];rfl,λk=> ?_⟩;rw[bL,aA,aA];split
  ·rename_i hk
   have:k=id:=by
    have hk:k∈[id]:=hk;simpa using hk
   subst this;simp
  ·rename_i hk
   have:¬id=k:=by
    intro e;subst e;exact hk (by show id∈[id];simp)
   rw[if_neg this]
 have hall:aN ((dO bs i).getD Bits.nil) [id] true (bC h.next 0) recs=true:=nW (B:=λk=>k≠id) (h:=h) (nr:=nr) (λb hb hm=>hb (List.mem_singleton.1 hm)) (λk hk=>(by cases hk)) (λj hj=>List.all_eq_true.1 hid _ hj) hrr
 obtain⟨r,⟨N,e⟩,q⟩:=w (.op i [id] true h.next h.next::recs) _ (λr hm=>by
  rcases List.mem_cons.1 hm with rfl|hm
  ·simp[recIdx]
  ·exact List.mem_cons_of_mem _ (hri r hm)) hsame
 refine⟨r,.step ⟨N,λm hm=> ?_⟩,q⟩
 show(match guardOn all tm o with
  |some true=>kV E (run E m) bs all rest o i recs tm h
  |some false=>run E m (.draw bs all rest (i+1) recs) (putTmp tm o.dst (.tup [])) h
  |none=> .stop)=r
 rw[hgd];show kV E (run E m) bs all rest o i recs tm h=r;rw[eL ho,hfp,hwr]
 show(match aN ((dO bs i).getD Bits.nil) [id] true (bC h.next (((only h [id]).put id (.cells cs' false)).next-h.next)) recs with
  |true=>run E m (.draw bs all rest (i+1) (.op i [id] true h.next ((only h [id]).put id (.cells cs' false)).next::recs)) (putTmp tm o.dst .undef) (cB h ((only h [id]).put id (.cells cs' false)) ([id]++bC h.next (((only h [id]).put id (.cells cs' false)).next-h.next)))
  |false=> .stop)=r
 rw[hnx,Nat.sub_self,hall];exact e m hm
theorem aBc {H0:Heap} {t:TypeId} {x:Operand} {id off k:Nat} {e:List CV} {s:TyS} {v:CV} (L:LocE H0 id off e) (ds:DX H h idx nx recs) (X:Ext H0 H) (hgd:guardOn all tm o=some true) (hop:o.op= .load t x) (hx:aF E.globs tm x= .ptr (some (id,off+k))) (hs:E.ty t=some s) (h1:s.size=1) (h2:s.agg=false) (he:e[k]? =some v)
  (w:∀h',Same h h'->Ext H h'->W E (.draw bs all rest (i+1) (.op i [id] false h.next h.next::recs)) (putTmp tm o.dst v) h' Q):W E (.draw bs all (o::rest) i recs) tm h Q:=by
 obtain⟨cs,ro,g1,g2,g3⟩:=L;have hn:=lQ g3 he;refine aVa ds hgd hop hx ((X.old id g2).trans g1) (Nat.lt_of_lt_of_le g2 X.next) hs (v:=v) ?_ w;rw[h1,h2];exact hn
end
end Go.CM

noncomputable section
namespace Go.CM
theorem hS {E:Env} {tm:Tm} {h H:Heap} {Q:R->Prop} {all rest:List Oper} {o:Oper} {bs:List Bits} {recs:List Rec} {i:Nat} {α:Type} [Rp α] {l:List α} {c:Call} {t e:TypeId} {s:TyS} {v:CV} (sl:Sl H v l)
  (hgd:guardOn all tm o=some true) (hop:o.op= .call c) (hb:c.callee= .builtin .len) (hty:c.argTypes.toList=[t]) (ha:c.args.toList.map (aF E.globs tm)=[v]) (hts:E.ty t=some s) (hk:s.kind= .slice e)
  (w:W E (.draw bs all rest (i+1) recs) (putTmp tm o.dst (.int .i64 (l.length:Int))) h Q):W E (.draw bs all (o::rest) i recs) tm h Q:=by
 have hl:=sl.lenOf;refine aHl hgd (v:= .int .i64 (l.length:Int)) ?_ ?_ w
 ·unfold bA
  rw[hop];simp only[iS,hb];rw[ha];rcases hl with⟨rfl,_⟩|⟨p,c',x,rfl⟩<;>rfl
 ·unfold aR
  rw[hop];simp only[hb];show aW E _ .len c.argTypes.toList (c.args.toList.map (aF E.globs tm))=_;rw[hty,ha];rcases hl with⟨rfl,hz⟩|⟨p,c',x,rfl⟩
  ·simp[aW,aAe,hts,hk,hz];rfl
  ·simp[aW,aAe,hts,hk];rfl
end Go.CM

noncomputable section
namespace Go.CM
theorem dR {E:Env} {tm:Tm} {h H:Heap} {Q:R->Prop} {all rest:List Oper} {o:Oper} {bs:List Bits} {recs:List Rec} {i:Nat} {l:List Int} {v:CV} {t:TypeId} {x y:Operand} {s:TyS} {et j:Nat} {kk:IntKind} (sl:Sl H v l) (hj:j<l.length)
  (w:∀id off,LocE H id off [.int .i64 (l.getD j 0)]->W E (.draw bs all rest (i+1) recs) (putTmp tm o.dst (.ptr (some (id,off)))) h Q)
  (hgd:guardOn all tm o=some true:=by rfl) (hop:o.op= .indexAddr t x y:=by rfl) (hx:aF E.globs tm x=v:=by rfl) (hy:aF E.globs tm y= .int kk (j:Int):=by rfl) (hs:E.ty t=some s:=by rfl) (hk:s.kind= .slice et:=by rfl) (hz:bO E et=some (Rp.z Int):=by rfl):W E (.draw bs all (o::rest) i recs) tm h Q:=
 aE sl hj hgd hop hx hy hs hk hz λid off L=>w id off (by
  rw[show l.getD j 0=l[j] by simp[List.getD_eq_getElem?_getD,hj]];exact L)
end Go.CM

noncomputable section
namespace Go.CM
theorem jA {h:Heap} {i:Nat} {cs:List CV} (hi:i<h.next) (g:h.get i=some (.cells cs false)):SlG h 1 (.slice (some (i,0)) cs.length cs.length 0) (cs.map λc=>[c]):=by
 refine .inr (.inr ⟨i,0,cs.length,0,cs,false,by rw[List.length_map],hi,g,λj e he=> ?_,by rw[List.length_map];exact Nat.le_refl _,.inl rfl⟩)
 have hz:∀e∈cs.map λc=>[c],e.length=1:=λe he=>by
  obtain⟨c,_,rfl⟩:=List.mem_map.1 he;rfl
 refine⟨hz e (List.mem_of_getElem? he),?_⟩;have:=dX hz he;rwa[rG]at this
section
variable {h h' H:Heap} {z:Nat} {l:List (List CV)} {E:Env} {tm:Tm} {Q:R->Prop} {all rest:List Oper} {o:Oper} {B:Nat->Prop} {bs:List Bits} {recs:List Rec} {i:Nat} {idx nr:List Nat}
theorem yZ {ahead:Bits} {fp:List Nat} {news:List Nat} (hnew:∀k∈news,h.next<=k) (hnr:∀j∈nr,pC j ahead=true):∀{recs:List Rec},(∀r∈recs,recIdx r∈nr\/∃i fp lo,r= .op i fp false lo lo/\(∀k∈fp,B k)/\∀k∈fp,k<h.next)->aN ahead fp false news recs=true
 |[],_=>rfl
 |r::rs,hr=>by
  unfold aN;have ih:=yZ (fp:=fp) (news:=news) hnew hnr (recs:=rs) λx hx=>hr x (List.mem_cons_of_mem _ hx);rcases hr r (by simp)with h1|⟨i,fp',lo,rfl,h2,h3⟩
  ·rw[hnr _ h1,ih]
   cases cP fp false news r<;>rfl
  ·have:cP fp false news (.op i fp' false lo lo)=true:=by
     rw[kB,dZ λk hk=>by
      unfold oH;rw[mD];rfl]
     show fK news (λk=> !oS k fp')=true;refine dZ λk hk=> ?_;rw[fF λx hx e=>by have:=h3 x hx;have:=hnew k hk;omega];rfl
   rw[this];exact ih
theorem wU {c:Call} {t t2 e:TypeId} {ts es t2s:TyS} {s s2:CV} {l2:List (List CV)} (dv:DV B h idx nr recs) (X:Ext H h) (so:OwnR h H.next z s l) (s2l:SlG h z s2 l2) (hB:∀b,B b->b∉idOf s) (hid:(nr.all λj=>pC j ((dO bs i).getD Bits.nil))=true)
  (hgd:guardOn all tm o=some true) (hop:o.op= .call c) (hb:c.callee= .builtin .append) (hty:c.argTypes.toList=[t,t2]) (ha:c.args.toList.map (aF E.globs tm)=[s,s2])
  (hts:E.ty t=some ts) (hk:ts.kind= .slice e) (hes:E.ty e=some es) (hz:es.size=z) (hz0:(Nat.beq es.size 0||Nat.beq es.bytes 0)=false) (ht2:E.ty t2=some t2s) (hk2:t2s.kind= .slice e) (hm:(l.length+l2.length)*es.bytes<=70368744177664)
  (w:∀recs' v' h',DV B h' (i::idx) (i::nr) recs'->Ext H h'->(∀b,B b->h'.get b=h.get b)->h.next<=h'.next->OwnR h' H.next z v' (l++l2)->(∀c,c<h.next->idOf s≠[c]->idOf v'≠[c])->W E (.draw bs all rest (i+1) recs') (putTmp tm o.dst v') h' Q):W E (.draw bs all (o::rest) i recs) tm h Q:=by
 have d:=dv.d;have hnr:∀j∈nr,pC j ((dO bs i).getD Bits.nil)=true:=λj hj=>List.all_eq_true.1 hid j hj;refine aHo (λn _=>⟨yZ (λk hk=>((fQ _ _ _).1 hk).1) hnr dv.r,nW hB (λk hk=>((fQ _ _ _).1 hk).1) hnr dv.r⟩) X so s2l hgd hop hb hty ha hts hk hes hz hz0 ht2 hk2 hm λrecs' v' h' hr hlt X' nn kk O' kid _=> ?_;refine w recs' v' h' ?_ X' (λb hb=>kk b (d.b b hb) (.inr λe=>hB b hb (by rw[e];simp))) nn O' kid;rcases hr with rfl|⟨lo,hi,rfl,rfl⟩
 ·exact⟨⟨λr hr=>⟨List.mem_cons_of_mem _ (d.r r hr).1,by obtain⟨i,fp,ws,lo,hi,h2,h3,h4⟩:=(d.r r hr).2;exact⟨i,fp,ws,lo,hi,h2,λk hk=>Nat.lt_of_lt_of_le (h3 k hk) nn,h4⟩⟩,λb hb=>Nat.lt_of_lt_of_le (d.b b hb) nn⟩,λr hr=>(dv.r r hr).imp (List.mem_cons_of_mem _) λ⟨i,fp,lo,h1,h2,h3⟩=>⟨i,fp,lo,h1,h2,λk hk=>Nat.lt_of_lt_of_le (h3 k hk) nn⟩⟩
 ·exact dv.more (d.tail nn rfl ⟨_,_,_,_,_,.inl rfl,λk hk=>Nat.lt_of_lt_of_le (hlt k hk) nn,λb hb=>⟨d.b b hb,hB b hb⟩⟩) nn (.inl (by simp[recIdx])) λj hj=>List.mem_cons_of_mem _ hj
end
end Go.CM

noncomputable section
namespace Go.CM
section
variable {E:Env} {t:Task} {tm:Tm} {h h1:Heap} {Q:R->Prop} {all rest:List Oper} {o:Oper} {v:CV}
theorem RoundQ.ret {i:Nat} {tmx:Tm} {psx:List Nat} {asg body:Code} {st:Nat} {pend:Option Code} (hg:h.get i=some (.loop tmx psx asg body st pend)) (q:Q (.val (.bool false) (h.put i (.loop tmx psx asg body 2 (some .ret))))):RoundQ i Q (.code .ret tm h):=by
 show Q (match h.get i with
  |some (.loop tm ps asg body _ _)=> .val (.bool false) (h.put i (.loop tm ps asg body 2 (some .ret)))
  |_=> .stop)
 rw[hg];exact q
theorem aDr {i:Nat} {tmx:Tm} {psx:List Nat} {asg body:Code} {st:Nat} {pend:Option Code} (hg:h.get i=some (.loop tmx psx asg body st pend)) (q:∀G,G.next=h.next->G.get i=some (.loop tmx psx asg body 2 (some .ret))->(∀k,k≠i->G.get k=h.get k)->Q (.val (.bool false) G)):RoundQ i Q (.code .ret tm h):=
 RoundQ.ret hg (q _ rfl (by rw[aA];simp) λj hj=>by rw[aA,if_neg (Ne.symm hj)])
theorem RangeQ.ret {i:Nat} {tmx:Tm} {psx:List Nat} {asg body:Code} {st:Nat} (hg:h.get i=some (.loop tmx psx asg body st (some .ret))) (hs:Nat.beq st 1=false) (q:Q (.code .ret tm (h.del i))):RangeQ i tm Q (.val v h):=by
 show Q (match h.get i with
  |some (.loop _ _ _ _ st pend)=>match Nat.beq st 1 with
   |true=> .stop
   |false=>aMk pend tm (h.del i)
  |_=> .stop)
 rw[hg];simp only[hs];exact q
end
end Go.CM

noncomputable section
namespace Go.CM
section
variable {E:Env} {t:Task} {tm:Tm} {h h1:Heap} {Q:R->Prop} {all rest:List Oper} {o:Oper} {v:CV}
theorem rS (i0 i1 i2 i3 i4 i5 i6 i7 i8 i9 i10 i11 i12 i13 i14 i15 i16 i17:Nat) {v0 v1 v2 v3 v4 v5 v6 v7 v8 v9 v10 v11 v12 v13 v14 v15 v16 v17:CV} (w:∀T:Tm,W E t ((((((((((((((((((T.set i0 (some v0)).set i1 (some v1)).set i2 (some v2)).set i3 (some v3)).set i4 (some v4)).set i5 (some v5)).set i6 (some v6)).set i7 (some v7)).set i8 (some v8)).set i9 (some v9)).set i10 (some v10)).set i11 (some v11)).set i12 (some v12)).set i13 (some v13)).set i14 (some v14)).set i15 (some v15)).set i16 (some v16)).set i17 (some v17)) h Q) (e0:tm.look i0=v0:=by conv=>lhs;whnf) (e1:tm.look i1=v1:=by conv=>lhs;whnf) (e2:tm.look i2=v2:=by conv=>lhs;whnf) (e3:tm.look i3=v3:=by conv=>lhs;whnf) (e4:tm.look i4=v4:=by conv=>lhs;whnf) (e5:tm.look i5=v5:=by conv=>lhs;whnf) (e6:tm.look i6=v6:=by conv=>lhs;whnf) (e7:tm.look i7=v7:=by conv=>lhs;whnf) (e8:tm.look i8=v8:=by conv=>lhs;whnf) (e9:tm.look i9=v9:=by conv=>lhs;whnf) (e10:tm.look i10=v10:=by conv=>lhs;whnf) (e11:tm.look i11=v11:=by conv=>lhs;whnf) (e12:tm.look i12=v12:=by conv=>lhs;whnf) (e13:tm.look i13=v13:=by conv=>lhs;whnf) (e14:tm.look i14=v14:=by conv=>lhs;whnf) (e15:tm.look i15=v15:=by conv=>lhs;whnf) (e16:tm.look i16=v16:=by conv=>lhs;whnf) (e17:tm.look i17=v17:=by conv=>lhs;whnf) (e:((((((((((((((((((tm.set i0 (some v0)).set i1 (some v1)).set i2 (some v2)).set i3 (some v3)).set i4 (some v4)).set i5 (some v5)).set i6 (some v6)).set i7 (some v7)).set i8 (some v8)).set i9 (some v9)).set i10 (some v10)).set i11 (some v11)).set i12 (some v12)).set i13 (some v13)).set i14 (some v14)).set i15 (some v15)).set i16 (some v16)).set i17 (some v17))=tm:=by rfl):W E t tm h Q:=Eq.subst (motive:=λx=>W E t x h Q) e (w tm)
end
end Go.CM
