/- In a drawn region: a row behind a row of one's own, behind all that was done. No condition, no program. (Printed by xq4.py.) -/
import Derived.Test.YtmgpjfnlciapkaaGreatDoorXZ
import Derived.Test.YtmgpjfnlciapkaaGreatDoorXG
set_option linter.unusedVariables false
set_option linter.unusedSimpArgs false
noncomputable section
namespace Go.CM
section
variable {h h' H:Heap} {lo z:Nat} {v:CV} {l:List (List CV)} {E:Env} {tm:Tm} {Q:R->Prop} {all rest:List Oper} {o:Oper} {bs:List Bits} {recs:List Rec} {i:Nat} {idx:List Nat}
theorem W.apD {c:Call} {t t2 e:TypeId} {ts es t2s:TyS} {s s2:CV} {l2:List (List CV)} (hri:∀r∈recs,recIdx r∈idx) (X:Ext H h) (so:OwnR h H.next z s l) (s2l:SlG h z s2 l2) (hid:(idx.all λj=>bit j ((nth bs i).getD Bits.nil))=true)
  (hgd:guardOn all tm o=some true) (hop:o.op= .call c) (hb:c.callee= .builtin .append) (hty:c.argTypes.toList=[t,t2]) (ha:c.args.toList.map (cvOf E.globs tm)=[s,s2])
  (hts:E.ty t=some ts) (hk:ts.kind= .slice e) (hes:E.ty e=some es) (hz:es.size=z) (hz0:(Nat.beq es.size 0||Nat.beq es.bytes 0)=false) (ht2:E.ty t2=some t2s) (hk2:t2s.kind= .slice e) (hm:(l.length+l2.length)*es.bytes<=70368744177664)
  (w:∀recs' v' h',(∀r∈recs',recIdx r∈i::idx)->Ext H h'->h.next<=h'.next->(∀k,k<h.next->k<H.next\/idOf s≠[k]->h'.get k=h.get k)->OwnR h' H.next z v' (l++l2)->(∀c,c<h.next->idOf s≠[c]->idOf v'≠[c])->(l2≠[]->idOf v'=[h.next])->W E (.draw bs all rest (i+1) recs') (putTmp tm o.dst v') h' Q):W E (.draw bs all (o::rest) i recs) tm h Q:=by
 have hfp:fpAny E o tm=idOf s++idOf s2:=by
  unfold fpAny
  rw[hop]
  simp only[fpOf,hb]
  rw[show(c.args.toList.map λx=>idOf (cvOf E.globs tm x))=(c.args.toList.map (cvOf E.globs tm)).map idOf by rw[List.map_map];rfl,ha]
  simp
 have hwr:wrOf o.op=true:=by rw[hop];simp only[wrOf,hb]
 obtain⟨fp,hfpe⟩:∃fp,fp=idOf s++idOf s2:=⟨_,rfl⟩
 rw[<-hfpe]at hfp
 have g0:∀k,k∈fp->(only h fp).get k=h.get k:=λk hk=>by rw[only_get,if_pos hk]
 have nx:(only h fp).next=h.next:=only_next _ _
 have so':OwnR (only h fp) H.next z s l:=so.other (by rw[nx];exact Nat.le_refl _) λk _ _ hk=>g0 k (by rw[hfpe,hk];simp)
 have s2':SlG (only h fp) z s2 l2:=by
  rcases s2l with⟨rfl,rfl⟩|⟨rfl,rfl⟩|⟨i,o,c,x,cs,ro,rfl,g2,g3,g4,g5,g6⟩
  ·exact .inl ⟨rfl,rfl⟩
  ·exact .inr (.inl ⟨rfl,rfl⟩)
  ·exact .inr (.inr ⟨i,o,c,x,cs,ro,rfl,by rw[nx];exact g2,(g0 i (by rw[hfpe];simp[idOf])).trans g3,g4,g5,g6⟩)
 have hlt:∀k,k∈fp->k<h.next:=λk hk=>by
  rw[hfpe]at hk
  rcases List.mem_append.1 hk with hk|hk
  ·rcases so with⟨rfl,rfl⟩|⟨i,y,ro,rfl,h1,h2,_⟩
   ·cases hk
   ·have:k=i:=by simpa[idOf]using hk
    rw[this];exact h2
  ·rcases s2l with⟨rfl,rfl⟩|⟨rfl,rfl⟩|⟨i,o,c,x,cs,ro,rfl,g2,g3,g4,g5,g6⟩
   ·cases hk
   ·cases hk
   ·have:k=i:=by simpa[idOf]using hk
    rw[this];exact g2
 obtain⟨v',hh,k1,k2,k2b,k3,k4,k5,k6,k7⟩:=append_own (by rw[nx];exact X.next) so' s2' hts hk hes hz hz0 ht2 hk2 hm
 rw[nx]at k2 k2b k3
 have ho:opAny E o tm (only h (fpAny E o tm))=some (v',hh):=by
  rw[hfp]
  unfold opAny
  rw[hop]
  simp only[hb]
  show builtinV E _ .append c.argTypes.toList (c.args.toList.map (cvOf E.globs tm))=_
  rw[hty,ha]
  exact k1
 have hbk:∀k,k<h.next->k<H.next\/idOf s≠[k]->(back h hh (fp++span h.next (hh.next-h.next))).get k=h.get k:=by
  intro k hk hc
  rw[back_get]
  split
  ·rename_i hm
   rcases List.mem_append.1 hm with hm|hm
   ·rw[k3 k hk hc,g0 k hm]
   ·exfalso
    have:hh.next=h.next\/hh.next=h.next+1:=by omega
    rcases this with e|e
    ·rw[e,Nat.sub_self]at hm;cases hm
    ·rw[e,show h.next+1-h.next=1 by omega]at hm
     have:k=h.next:=by
      have hm:k∈[h.next+0]:=hm
      simpa using hm
     omega
  ·rfl
 have hbn:(back h hh (fp++span h.next (hh.next-h.next))).next=hh.next:=back_next _ _ _
 have X':Ext H (back h hh (fp++span h.next (hh.next-h.next))):=by
  refine⟨by rw[hbn];exact Nat.le_trans X.next k2,λk hk=>(hbk k (Nat.lt_of_lt_of_le hk X.next) (.inl hk)).trans (X.old k hk),λf k hk=> ?_⟩
  rw[hbn]at hk
  rw[back_get]
  have fh:=X.fr f
  split
  ·rename_i hm
   rcases List.mem_append.1 hm with hm|hm
   ·have:=hlt k hm;omega
   ·exfalso
    have:hh.next=h.next\/hh.next=h.next+1:=by omega
    rcases this with e|e
    ·rw[e,Nat.sub_self]at hm;cases hm
    ·rw[e,show h.next+1-h.next=1 by omega]at hm
     have:k=h.next:=by
      have hm:k∈[h.next+0]:=hm
      simpa using hm
     omega
  ·exact fh k (by omega)
 have k5':OwnR (back h hh (fp++span h.next (hh.next-h.next))) H.next z v' (l++l2):=by
  have gg:∀k,k∈fp\/(h.next<=k/\k<hh.next)->(back h hh (fp++span h.next (hh.next-h.next))).get k=hh.get k:=by
   intro k hc
   rw[back_get,if_pos]
   rcases hc with hc|⟨c1,c2⟩
   ·exact List.mem_append_left _ hc
   ·refine List.mem_append_right _ ?_
    have:k=h.next:=by omega
    rw[show hh.next-h.next=1 by omega,this]
    show h.next∈[h.next+0]
    simp
  rw[nx]at k7
  have inn:∀i,idOf v'=[i]->i<hh.next->i∈fp\/(h.next<=i/\i<hh.next):=by
   intro i hi hlt2
   by_cases hl2:l2=[]
   ·left
    rw[hfpe,<-(k6 hl2).1,hi]
    simp
   ·right
    have:=(k7 hl2).1
    rw[hi]at this
    have:i=h.next:=by simpa using this
    omega
  rcases k5 with⟨e0,rfl⟩|⟨i,y,ro,rfl,h1,h2,h3,h4,h5⟩
  ·exact .inl ⟨e0,rfl⟩
  ·exact .inr ⟨i,y,ro,rfl,h1,by rw[hbn];exact h2,(gg i (inn i rfl h2)).trans h3,h4,h5⟩
 have hall:∀r∈recs,bit (recIdx r) ((nth bs i).getD Bits.nil)=true:=λr hm=>List.all_eq_true.1 hid _ (hri r hm)
 have kid:∀c,c<h.next->idOf s≠[c]->idOf v'≠[c]:=by
  intro c hc hs
  by_cases hl2:l2=[]
  ·rw[(k6 hl2).1];exact hs
  ·have:=(k7 hl2).1
   rw[nx]at this
   rw[this]
   intro e
   have:h.next=c:=by simpa using e
   omega
 by_cases hno:fp=[]/\hh.next=h.next
 ·have hl2:l2=[]:=by
    by_cases hl2:l2=[]
    ·exact hl2
    ·have:=(k7 hl2).2
     rw[nx]at this
     omega
  have hv:=(k6 hl2).1
  obtain⟨r,⟨N,e⟩,q⟩:=w recs v' h (λr hr=>List.mem_cons_of_mem _ (hri r hr)) X (Nat.le_refl _) (λ_ _ _=>rfl) (by rw[hl2,List.append_nil,hv];exact so) (λc _ hc=>by rw[hv];exact hc) (λhc=>absurd hl2 hc)
  refine⟨r,.step ⟨N,λm hm=> ?_⟩,q⟩
  show(match guardOn all tm o with
   |some true=>dOp E (run E m) bs all rest o i recs tm h
   |some false=>run E m (.draw bs all rest (i+1) recs) (putTmp tm o.dst (.tup [])) h
   |none=> .stop)=r
  rw[hgd]
  show dOp E (run E m) bs all rest o i recs tm h=r
  rw[dOp_any ho,hfp,hwr,hno.1]
  show(match isNil ([]:List Nat)&&Nat.beq hh.next h.next with
   |true=>run E m (.draw bs all rest (i+1) recs) (putTmp tm o.dst v') h
   |false=>_)=r
  rw[hno.2,Nat.beq_refl]
  exact e m hm
 ·obtain⟨r,⟨N,e⟩,q⟩:=w (.op i fp true h.next hh.next::recs) v' _ (λr hm=>by
  rcases List.mem_cons.1 hm with rfl|hm
  ·simp[recIdx]
  ·exact List.mem_cons_of_mem _ (hri r hm)) X' (by rw[hbn];exact k2) hbk k5' kid (λhc=>by have:=(k7 hc).1;rw[nx]at this;exact this)
  refine⟨r,.step ⟨N,λm hm=> ?_⟩,q⟩
  show(match guardOn all tm o with
   |some true=>dOp E (run E m) bs all rest o i recs tm h
   |some false=>run E m (.draw bs all rest (i+1) recs) (putTmp tm o.dst (.tup [])) h
   |none=> .stop)=r
  rw[hgd]
  show dOp E (run E m) bs all rest o i recs tm h=r
  rw[dOp_any ho,hfp,hwr]
  have hcond:(isNil fp&&Nat.beq hh.next h.next)=false:=by
   cases hf:fp with
   |cons a b=>rfl
   |nil=>
    cases hb:Nat.beq hh.next h.next with
    |false=>rfl
    |true=>exact absurd ⟨hf,Nat.eq_of_beq_eq_true hb⟩ hno
  show(match isNil fp&&Nat.beq hh.next h.next with
   |true=>run E m (.draw bs all rest (i+1) recs) (putTmp tm o.dst v') h
   |false=>match okPairs ((nth bs i).getD Bits.nil) fp true (span h.next (hh.next-h.next)) recs with
    |true=>run E m (.draw bs all rest (i+1) (.op i fp true h.next hh.next::recs)) (putTmp tm o.dst v') (back h hh (fp++span h.next (hh.next-h.next)))
    |false=> .stop)=r
  rw[hcond,okPairs_ahead hall]
  exact e m hm
end
end Go.CM

noncomputable section
namespace Go.CM
section
variable {h h' H:Heap} {lo z:Nat} {v:CV} {l:List (List CV)} {E:Env} {tm:Tm} {Q:R->Prop} {all rest:List Oper} {o:Oper} {B:Nat->Prop} {bs:List Bits} {recs:List Rec} {i:Nat} {idx nr:List Nat}
theorem W.ldVw {t:TypeId} {x:Operand} {id off:Nat} {e:List CV} {s:TyS} (dv:DV B h idx nr recs) (hB:B id) (L:LocE h id off e) (hgd:guardOn all tm o=some true) (hop:o.op= .load t x) (hx:cvOf E.globs tm x= .ptr (some (id,off))) (hs:E.ty t=some s) (h1:e.length=s.size) (h2:s.agg=true)
  (w:∀recs' h',DV B h' (i::idx) nr recs'->Same h h'->LocE h' id off e->W E (.draw bs all rest (i+1) recs') (putTmp tm o.dst (.agg e)) h' Q):W E (.draw bs all (o::rest) i recs) tm h Q:=by
 obtain⟨cs,ro,g1,g2,g3⟩:=L
 have hfp:fpAny E o tm=[id]:=by
  unfold fpAny
  rw[hop]
  show idOf (cvOf E.globs tm x)=[id]
  rw[hx];rfl
 have hwr:wrOf o.op=false:=by rw[hop];rfl
 have hget:(only h [id]).get id=some (.cells cs ro):=by rw[only_get];simpa using g1
 have ho:opAny E o tm (only h (fpAny E o tm))=some (.agg e,only h [id]):=by
  rw[hfp]
  unfold opAny
  rw[hop]
  show oLoad E t (cvOf E.globs tm x) (only h [id])=_
  rw[hx]
  have hp:CM.part cs off s.size s.agg=some (.agg e):=by
   unfold CM.part
   rw[h2,<-h1,g3];rfl
  unfold oLoad CM.load loadB
  simp only[hget,hs,hp,withH]
 have hsame:Same h (back h (only h [id]) ([id]++span h.next 0)):=by
  refine⟨by rw[back_next,only_next],λk=> ?_⟩
  rw[back_get]
  split
  ·rename_i hk
   have:k=id:=by
    have hk:k∈[id]:=hk
    simpa using hk
   subst this
   rw[hget,g1]
  ·rfl
 obtain⟨r,⟨N,e⟩,q⟩:=w (.op i [id] false h.next h.next::recs) _ (dv.more ((dv.d.cons (Nat.le_refl _) (λk hk=>by rw[List.mem_singleton]at hk;rw[hk];exact g2) λb hb=>⟨dv.d.b b hb,λh=>by cases h⟩).same hsame.next) (Nat.le_of_eq hsame.next.symm) (.inr ⟨i,[id],h.next,rfl,λk hk=>by rw[List.mem_singleton]at hk;rw[hk];exact hB,λk hk=>by rw[List.mem_singleton]at hk;rw[hk,hsame.next];exact g2⟩) λj hj=>hj) hsame (LocE.ext ⟨cs,ro,g1,g2,g3⟩ hsame.ext)
 refine⟨r,.step ⟨N,λm hm=> ?_⟩,q⟩
 show(match guardOn all tm o with
  |some true=>dOp E (run E m) bs all rest o i recs tm h
  |some false=>run E m (.draw bs all rest (i+1) recs) (putTmp tm o.dst (.tup [])) h
  |none=> .stop)=r
 rw[hgd]
 show dOp E (run E m) bs all rest o i recs tm h=r
 rw[dOp_any ho,hfp,hwr]
 have hnx:(only h [id]).next=h.next:=only_next _ _
 show(match okPairs ((nth bs i).getD Bits.nil) [id] false (span h.next ((only h [id]).next-h.next)) recs with
  |true=>run E m (.draw bs all rest (i+1) (.op i [id] false h.next (only h [id]).next::recs)) (putTmp tm o.dst (.agg _)) (back h (only h [id]) ([id]++span h.next ((only h [id]).next-h.next)))
  |false=> .stop)=r
 rw[hnx,Nat.sub_self]
 have:okPairs ((nth bs i).getD Bits.nil) [id] false (span h.next 0) recs=true:=DY.pairs_read hB dv.d
 rw[this]
 exact e m hm
theorem W.stV {t:TypeId} {x y:Operand} {id off:Nat} {cs cs' vs:List CV} {s:TyS} (dv:DV B h idx nr recs) (hB:¬B id) (hid:(nr.all λj=>bit j ((nth bs i).getD Bits.nil))=true) (hgd:guardOn all tm o=some true) (hop:o.op= .store t x y) (hx:cvOf E.globs tm x= .ptr (some (id,off))) (hy:(cvOf E.globs tm y).cells=some vs)
  (hs:E.ty t=some s) (hl:Nat.beq (len vs) s.size=true) (hg:h.get id=some (.cells cs false)) (hp:setAt cs vs off=some cs')
  (w:∀recs' h',(∀r∈recs',recIdx r∈i::idx)->Same (h.put id (.cells cs' false)) h'->W E (.draw bs all rest (i+1) recs') (putTmp tm o.dst .undef) h' Q):W E (.draw bs all (o::rest) i recs) tm h Q:=by
 have hri:∀r∈recs,recIdx r∈idx:=λr hr=>(dv.d.r r hr).1
 have hfp:fpAny E o tm=[id]:=by
  unfold fpAny
  rw[hop]
  show idOf (cvOf E.globs tm x)=[id]
  rw[hx];rfl
 have hwr:wrOf o.op=true:=by rw[hop];rfl
 have hget:(only h [id]).get id=some (.cells cs false):=by rw[only_get];simpa using hg
 have ho:opAny E o tm (only h (fpAny E o tm))=some (.undef,(only h [id]).put id (.cells cs' false)):=by
  rw[hfp]
  unfold opAny
  rw[hop]
  show oStore E t (cvOf E.globs tm x) (cvOf E.globs tm y) (only h [id])=_
  rw[hx]
  unfold oStore CM.store storeV
  simp only[hs,hy,hl]
  unfold putCells
  simp only[hget,hp,Option.map_some,ofH]
 have hnx:((only h [id]).put id (.cells cs' false)).next=h.next:=only_next _ _
 have hsame:Same (h.put id (.cells cs' false)) (back h ((only h [id]).put id (.cells cs' false)) ([id]++span h.next 0)):=by
  refine⟨by rw[back_next,hnx];rfl,λk=> ?_⟩
  rw[back_get,Heap.get_put,Heap.get_put]
  split
  ·rename_i hk
   have:k=id:=by
    have hk:k∈[id]:=hk
    simpa using hk
   subst this
   simp
  ·rename_i hk
   have:¬id=k:=by
    intro e;subst e
    exact hk (by show id∈[id];simp)
   rw[if_neg this]
 have hall:okPairs ((nth bs i).getD Bits.nil) [id] true (span h.next 0) recs=true:=DV.pairs (λb hb hm=>hB (by rw[List.mem_singleton]at hm;rw[<-hm];exact hb)) (λk hk=>(by cases hk)) (λj hj=>List.all_eq_true.1 hid _ hj) dv.r
 obtain⟨r,⟨N,e⟩,q⟩:=w (.op i [id] true h.next h.next::recs) _ (λr hm=>by
  rcases List.mem_cons.1 hm with rfl|hm
  ·simp[recIdx]
  ·exact List.mem_cons_of_mem _ (hri r hm)) hsame
 refine⟨r,.step ⟨N,λm hm=> ?_⟩,q⟩
 show(match guardOn all tm o with
  |some true=>dOp E (run E m) bs all rest o i recs tm h
  |some false=>run E m (.draw bs all rest (i+1) recs) (putTmp tm o.dst (.tup [])) h
  |none=> .stop)=r
 rw[hgd]
 show dOp E (run E m) bs all rest o i recs tm h=r
 rw[dOp_any ho,hfp,hwr]
 show(match okPairs ((nth bs i).getD Bits.nil) [id] true (span h.next (((only h [id]).put id (.cells cs' false)).next-h.next)) recs with
  |true=>run E m (.draw bs all rest (i+1) (.op i [id] true h.next ((only h [id]).put id (.cells cs' false)).next::recs)) (putTmp tm o.dst .undef) (back h ((only h [id]).put id (.cells cs' false)) ([id]++span h.next (((only h [id]).put id (.cells cs' false)).next-h.next)))
  |false=> .stop)=r
 rw[hnx,Nat.sub_self,hall]
 exact e m hm
theorem W.dixR {α:Type} [Rp α] {l:List α} {v:CV} {t:TypeId} {x y:Operand} {s:TyS} {et j:Nat} {kk:IntKind} (sl:Sl H v l) (hj:j<l.length) (hgd:guardOn all tm o=some true) (hop:o.op= .indexAddr t x y) (hx:cvOf E.globs tm x=v) (hy:cvOf E.globs tm y= .int kk (j:Int)) (hs:E.ty t=some s) (hk:s.kind= .slice et) (hz:sizeOf? E et=some (Rp.z α))
  (w:∀id off e,LocE H id off e->Rp.R H e l[j]->W E (.draw bs all rest (i+1) recs) (putTmp tm o.dst (.ptr (some (id,off)))) h Q):W E (.draw bs all (o::rest) i recs) tm h Q:=by
 obtain⟨id,off,c,x',e,rfl,L,r⟩:=sl.at hj
 exact W.dix hgd hop hx hy hs hk hz (place_of rfl hj) (w _ _ e L r)
end
theorem BodyQ.cell2 {E:Env} {tm:Tm} {h:Heap} {Q:R->Prop} {rs:List ResultVar} {a b i off j off2:Nat} {t t2:TypeId} {s s2:TyS} {cs cs2:List CV} {ro ro2:Bool} {v v2:CV} (hrs:rs=[.cell a t,.cell b t2]) (ha:tm.look a= .ptr (some (i,off))) (hb:tm.look b= .ptr (some (j,off2))) (hg:h.get i=some (.cells cs ro)) (hg2:h.get j=some (.cells cs2 ro2)) (hs:E.ty t=some s) (hs2:E.ty t2=some s2) (hp:CM.part cs off s.size s.agg=some v) (hp2:CM.part cs2 off2 s2.size s2.agg=some v2)
  (q:Q (.val (.tup [v,v2]) h)):BodyQ E rs Q (.code .ret tm h):=by
 show Q (kBody E rs (.code .ret tm h))
 have e:resultVals E h tm rs=some [v,v2]:=by
  subst hrs
  have hl:CM.load E h t i off=some v:=by
   unfold CM.load loadB
   simp only[hg,hs,hp]
  have hl2:CM.load E h t2 j off2=some v2:=by
   unfold CM.load loadB
   simp only[hg2,hs2,hp2]
  have h3:tm.get a=some (.ptr (some (i,off))):=by
   have:tm.get a=some (tm.look a):=rfl
   rw[this,ha]
  have h4:tm.get b=some (.ptr (some (j,off2))):=by
   have:tm.get b=some (tm.look b):=rfl
   rw[this,hb]
  unfold resultVals
  simp only[h3,hl]
  unfold resultVals
  simp only[h4,hl2,resultVals]
 unfold kBody
 simp only[e]
 exact q
end Go.CM

noncomputable section
namespace Go.CM.Tt
def idsOf (cs:List CV):List Nat:=cs.flatMap idOf
theorem nodup_behind {l m:List Nat} {n:Nat} (h1:l.Nodup) (h2:∀a∈l,a<n) (h3:m.Nodup) (h4:∀b∈m,n<=b):(l++m).Nodup:=
 List.nodup_append.2 ⟨h1,h3,λa ha b hb e=>by have:=h2 a ha;have:=h4 b hb;omega⟩
theorem idOf_one (v:CV):idOf v=[]\/∃k,idOf v=[k]:=by
 cases v with
 |ptr p=>rcases p with _|⟨i,o⟩;exact .inl rfl;exact .inr ⟨i,rfl⟩
 |slice p n c x=>rcases p with _|⟨i,o⟩;exact .inl rfl;exact .inr ⟨i,rfl⟩
 |map p=>rcases p with _|i;exact .inl rfl;exact .inr ⟨i,rfl⟩
 |_=>first|exact .inl rfl|exact .inr ⟨_,rfl⟩
theorem OwnR.ids {h:Heap} {lo z:Nat} {v:CV} {l:List (List CV)} (o:OwnR h lo z v l):∀k∈idOf v,lo<=k/\k<h.next:=by
 intro k hk
 rcases idOf_one v with e|⟨j,e⟩
 ·rw[e]at hk;cases hk
 ·rw[e]at hk
  rw[List.mem_singleton.1 hk]
  exact⟨(o.idlt e).2,(o.idlt e).1⟩
theorem OwnR.idNodup (v:CV):(idOf v).Nodup:=by
 rcases idOf_one v with e|⟨j,e⟩<;>rw[e]<;>simp
def OwnRS (h:Heap) (lo:Nat) (e:List CV) (d:RouteS):Prop:=∃u1 u2 u3,e=[.str d.name,u1,u2,u3]/\OwnR h lo 1 u1 (d.stops.map Flat.enc)/\OwnR h lo 1 u2 (d.rides.map Flat.enc)/\OwnR h lo 1 u3 (d.stays.map Flat.enc)
section
variable {h h':Heap} {lo lo':Nat} {e:List CV} {d:RouteS} {x:SheetD}
theorem OwnRS.ext (o:OwnRS h lo e d) (x:Ext h h'):OwnRS h' lo e d:=by
 obtain⟨u1,u2,u3,rfl,o1,o2,o3⟩:=o
 exact⟨u1,u2,u3,rfl,o1.ext x,o2.ext x,o3.ext x⟩
theorem OwnRS.low (o:OwnRS h lo e d) (hl:lo'<=lo):OwnRS h lo' e d:=by
 obtain⟨u1,u2,u3,rfl,o1,o2,o3⟩:=o
 exact⟨u1,u2,u3,rfl,o1.low hl,o2.low hl,o3.low hl⟩
theorem OwnRS.other (o:OwnRS h lo e d) (hn:h.next<=h'.next) (hk:∀k,k∈idsOf e->h'.get k=h.get k):OwnRS h' lo e d:=by
 obtain⟨u1,u2,u3,rfl,o1,o2,o3⟩:=o
 exact⟨u1,u2,u3,rfl,o1.other hn λk _ _ hi=>hk k (by simp[idsOf,hi]),o2.other hn λk _ _ hi=>hk k (by simp[idsOf,hi]),o3.other hn λk _ _ hi=>hk k (by simp[idsOf,hi])⟩
theorem OwnRS.ids (o:OwnRS h lo e d):∀k∈idsOf e,lo<=k/\k<h.next:=by
 obtain⟨u1,u2,u3,rfl,o1,o2,o3⟩:=o
 intro k hk
 have hk:k∈idOf (.str d.name)++(idOf u1++(idOf u2++(idOf u3++[]))):=hk
 simp only[List.mem_append,List.not_mem_nil,or_false]at hk
 rcases hk with hk|hk|hk|hk
 ·cases hk
 ·exact OwnR.ids o1 k hk
 ·exact OwnR.ids o2 k hk
 ·exact OwnR.ids o3 k hk
theorem OwnRS.len (o:OwnRS h lo e d):e.length=4:=by
 obtain⟨u1,u2,u3,rfl,_⟩:=o
 rfl
theorem OwnRS.rp (o:OwnRS h lo e d):Rp.R h e d:=by
 obtain⟨u1,u2,u3,rfl,o1,o2,o3⟩:=o
 exact⟨u1,u2,u3,rfl,o1.toSl,o2.toSl,o3.toSl⟩
def OwnRs (h:Heap) (lo:Nat) (v:CV) (css:List (List CV)) (l:List RouteS):Prop:=OwnR h lo 4 v css/\css.length=l.length/\∀(j:Nat) (e:List CV) (d:RouteS),css[j]? =some e->l[j]? =some d->OwnRS h lo e d
def idsIn (css:List (List CV)):List Nat:=css.flatMap idsOf
theorem OwnRs.ext {v:CV} {css:List (List CV)} {l:List RouteS} (o:OwnRs h lo v css l) (x:Ext h h'):OwnRs h' lo v css l:=
 ⟨o.1.ext x,o.2.1,λj e d he hd=>(o.2.2 j e d he hd).ext x⟩
theorem OwnRs.toSl {v:CV} {css:List (List CV)} {l:List RouteS} (o:OwnRs h lo v css l):Sl h v l:=
 ⟨css,o.1.sl,o.2.1,λj e d he hd=>(o.2.2 j e d he hd).rp⟩
variable {hz n1 n2 n3 vr n5 n6:CV}
end
end Go.CM.Tt

noncomputable section
namespace Go.CM.Tt
section
variable {h h':Heap} {lo:Nat}
abbrev RowE:=Nat×CV×List (List CV)
def idsR (rs:List RowE):List Nat:=rs.flatMap λr=>idOf r.2.1
structure OwnG (h:Heap) (lo:Nat) (rs:List RowE) (xs:List Nat):Prop where
 o:∀r∈rs,OwnR h lo r.1 r.2.1 r.2.2
 nd:(idsR rs++xs).Nodup
 x:∀k∈xs,lo<=k/\k<h.next
theorem OwnG.ext {rs:List RowE} {xs:List Nat} (g:OwnG h lo rs xs) (X:Ext h h'):OwnG h' lo rs xs:=⟨λr hr=>(g.o r hr).ext X,g.nd,λk hk=>⟨(g.x k hk).1,Nat.lt_of_lt_of_le (g.x k hk).2 X.next⟩⟩
theorem OwnG.lt {rs:List RowE} {xs:List Nat} (g:OwnG h lo rs xs):∀k∈idsR rs++xs,lo<=k/\k<h.next:=by
 intro k hk
 rcases List.mem_append.1 hk with hk|hk
 ·obtain⟨r,hr,hi⟩:=List.mem_flatMap.1 hk
  exact OwnR.ids (g.o r hr) k hi
 ·exact g.x k hk
theorem OwnG.turn {A B:List RowE} {z:Nat} {v m:CV} {l l':List (List CV)} {xs:List Nat} (g:OwnG h lo (A++(z,v,l)::B) xs) (hn:h.next<=h'.next) (hk:∀k,k<h.next->k<lo\/idOf v≠[k]->h'.get k=h.get k) (om:OwnR h' lo z m l') (hi:idOf m=idOf v\/∃j,idOf m=[j]/\h.next<=j):OwnG h' lo (A++(z,m,l')::B) xs/\∀k∈xs,h'.get k=h.get k:=by
 have e:∀(m:CV) (l:List (List CV)),idsR (A++(z,m,l)::B)++xs=idsR A++(idOf m++(idsR B++xs)):=λm l=>by
  unfold idsR
  rw[List.flatMap_append,List.flatMap_cons,List.append_assoc,List.append_assoc]
 have nd:=g.nd
 rw[e]at nd
 have h1:=List.nodup_append.1 nd
 have h2:=List.nodup_append.1 h1.2.1
 have lt:∀k,k∈idsR A\/k∈idsR B++xs->k<h.next:=λk hk=>(g.lt k (by
  rw[e]
  rcases hk with hk|hk
  ·exact List.mem_append_left _ hk
  ·exact List.mem_append_right _ (List.mem_append_right _ hk))).2
 have ne:∀k,k∈idsR A\/k∈idsR B++xs->idOf v≠[k]:=λk hk e5=>by
  rcases hk with hk|hk
  ·exact h1.2.2 k hk k (by rw[e5];simp) rfl
  ·exact h2.2.2 k (by rw[e5];simp) k hk rfl
 have kp:∀k,k∈idsR A\/k∈idsR B++xs->h'.get k=h.get k:=λk hk2=>hk k (lt k hk2) (.inr (ne k hk2))
 refine⟨⟨λr hr=> ?_,?_,λk hk=>⟨(g.x k hk).1,Nat.lt_of_lt_of_le (g.x k hk).2 hn⟩⟩,λk hk=>kp k (.inr (List.mem_append_right _ hk))⟩
 ·rcases List.mem_append.1 hr with hr|hr
  ·exact(g.o r (List.mem_append_left _ hr)).other hn λk _ _ hi=>kp k (.inl (List.mem_flatMap.2 ⟨r,hr,by rw[hi];simp⟩))
  ·rcases List.mem_cons.1 hr with rfl|hr
   ·exact om
   ·exact(g.o r (List.mem_append_right _ (List.mem_cons_of_mem _ hr))).other hn λk _ _ hi=>kp k (.inr (List.mem_append_left _ (List.mem_flatMap.2 ⟨r,hr,by rw[hi];simp⟩)))
 ·rw[e]
  rcases hi with hi|⟨jj,hi,hjj⟩
  ·rw[hi];exact nd
  ·rw[hi]
   refine List.nodup_append.2 ⟨h1.1,List.nodup_append.2 ⟨by simp,h2.2.1,λa ha b hb e=> ?_⟩,λa ha b hb e=> ?_⟩
   ·rw[List.mem_singleton]at ha
    have:=lt b (.inr hb)
    omega
   ·rcases List.mem_append.1 hb with hb|hb
    ·rw[List.mem_singleton]at hb
     have:=lt a (.inl ha)
     omega
    ·exact h1.2.2 a ha b (List.mem_append_right _ hb) e
theorem OwnG.keep {rs:List RowE} {xs:List Nat} (g:OwnG h lo rs xs) (hn:h.next<=h'.next) (hk:∀k∈idsR rs++xs,h'.get k=h.get k):OwnG h' lo rs xs:=
 ⟨λr hr=>(g.o r hr).other hn λk _ _ hi=>hk k (List.mem_append_left _ (List.mem_flatMap.2 ⟨r,hr,by rw[hi];simp⟩)),g.nd,λk hk2=>⟨(g.x k hk2).1,Nat.lt_of_lt_of_le (g.x k hk2).2 hn⟩⟩
end
end Go.CM.Tt

noncomputable section
namespace Go.CM.Tt
section
variable {h h':Heap} {lo lo':Nat} {e:List CV} {d:RouteW}
def WorldD.small (w:WorldD):Prop:=w.names.stops.length<=1048576/\w.names.paths.length<=1048576/\w.names.doors.length<=1048576/\w.names.routes.length<=1048576/\w.names.trips.length<=1048576/\w.names.hazards.length<=1048576/\w.paths.length<=1048576/\w.doors.length<=1048576/\w.routes.length<=1048576/\w.trips.length<=1048576/\w.hazards.length<=1048576/\∀r∈w.routes,r.stops.length<=1048576/\r.rides.length<=1048576/\r.stays.length<=1048576
end
end Go.CM.Tt
