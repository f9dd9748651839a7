/- In a drawn region: a row behind a row of one's own, behind all that was done. No condition, no program. (Printed by xq4.py.) -/
import Derived.Test.YtfheibkikpefkaaGreatDoorEC
import Derived.Test.YtfheibkikpefkaaGreatDoorYA
set_option linter.unusedVariables false
set_option linter.unusedSimpArgs false
noncomputable section
namespace Go.CM
section
variable {h h' H:Heap} {lo z:Nat} {v:CV} {l:List (List CV)} {E:Env} {tm:Tm} {Q:R->Prop} {all rest:List Oper} {o:Oper} {bs:List Bits} {recs:List Rec} {i:Nat} {idx:List Nat}
theorem W.apD {c:Call} {t t2 e:TypeId} {ts es t2s:TyS} {s s2:CV} {l2:List (List CV)} (hri:∀r∈recs,recIdx r∈idx) (X:Ext H h) (so:OwnR h H.next z s l) (s2l:SlG h z s2 l2) (hid:(idx.all λj=>bit j ((nth bs i).getD Bits.nil))=true)
  (hgd:guardOn all tm o=some true) (hop:o.op= .call c) (hb:c.callee= .builtin .append) (hty:c.argTypes.toList=[t,t2]) (ha:c.args.toList.map (cvOf E.globs tm)=[s,s2])
  (hts:E.ty t=some ts) (hk:ts.kind= .slice e) (hes:E.ty e=some es) (hz:es.size=z) (hz0:(Nat.beq es.size 0||Nat.beq es.bytes 0)=false) (ht2:E.ty t2=some t2s) (hk2:t2s.kind= .slice e) (hm:(l.length+l2.length)*es.bytes<=70368744177664)
  (w:∀recs' v' h',(∀r∈recs',recIdx r∈i::idx)->Ext H h'->h.next<=h'.next->(∀k,k<h.next->k<H.next\/idOf s≠[k]->h'.get k=h.get k)->OwnR h' H.next z v' (l++l2)->(∀c,c<h.next->idOf s≠[c]->idOf v'≠[c])->(l2≠[]->idOf v'=[h.next])->W E (.draw bs all rest (i+1) recs') (putTmp tm o.dst v') h' Q):W E (.draw bs all (o::rest) i recs) tm h Q:=by
 have hall:∀r∈recs,bit (recIdx r) ((nth bs i).getD Bits.nil)=true:=λr hm=>List.all_eq_true.1 hid _ (hri r hm);refine W.apC (λn _=>⟨okPairs_ahead hall,okPairs_ahead hall⟩) X so s2l hgd hop hb hty ha hts hk hes hz hz0 ht2 hk2 hm λrecs' v' h' hr hlt X' nn kk O' kid k7=>w recs' v' h' (λr h=> ?_) X' nn kk O' kid k7;rcases hr with rfl|⟨lo,hi,rfl,rfl⟩
 ·exact List.mem_cons_of_mem _ (hri r h)
 ·rcases List.mem_cons.1 h with rfl|h
  ·simp[recIdx]
  ·exact List.mem_cons_of_mem _ (hri r h)
end
end Go.CM

noncomputable section
namespace Go.CM
section
variable {h h' H:Heap} {lo z:Nat} {v:CV} {l:List (List CV)} {E:Env} {tm:Tm} {Q:R->Prop} {all rest:List Oper} {o:Oper} {B:Nat->Prop} {bs:List Bits} {recs:List Rec} {i:Nat} {idx nr:List Nat}
theorem W.ldVw {t:TypeId} {x:Operand} {id off:Nat} {e:List CV} {s:TyS} (dv:DV B h idx nr recs) (hB:B id) (L:LocE h id off e) (hgd:guardOn all tm o=some true) (hop:o.op= .load t x) (hx:cvOf E.globs tm x= .ptr (some (id,off))) (hs:E.ty t=some s) (h1:e.length=s.size) (h2:s.agg=true)
  (w:∀recs' h',DV B h' (i::idx) nr recs'->Same h h'->LocE h' id off e->W E (.draw bs all rest (i+1) recs') (putTmp tm o.dst (.agg e)) h' Q):W E (.draw bs all (o::rest) i recs) tm h Q:=by
 obtain⟨cs,ro,g1,g2,g3⟩:=L
 have hfp:fpAny E o tm=[id]:=by
  unfold fpAny;rw[hop];show idOf (cvOf E.globs tm x)=[id];rw[hx];rfl
 have hwr:wrOf o.op=false:=by rw[hop];rfl
 have hget:(only h [id]).get id=some (.cells cs ro):=by rw[only_get];simpa using g1
 have ho:opAny E o tm (only h (fpAny E o tm))=some (.agg e,only h [id]):=by
  rw[hfp];unfold opAny;rw[hop];show oLoad E t (cvOf E.globs tm x) (only h [id])=_;rw[hx]
  have hp:CM.part cs off s.size s.agg=some (.agg e):=by
   unfold CM.part;rw[h2,<-h1,g3];rfl
  unfold oLoad CM.load loadB;simp only[hget,hs,hp,withH]
 have hsame:Same h (back h (only h [id]) ([id]++span h.next 0)):=by
  refine⟨by rw[back_next,only_next],λk=> ?_⟩;rw[back_get];split
  ·rename_i hk
   have:k=id:=by
    have hk:k∈[id]:=hk;simpa using hk
   subst this;rw[hget,g1]
  ·rfl
 obtain⟨r,⟨N,e⟩,q⟩:=w (.op i [id] false h.next h.next::recs) _ (dv.more ((dv.d.cons (Nat.le_refl _) (λk hk=>by rw[List.mem_singleton]at hk;rw[hk];exact g2) λb hb=>⟨dv.d.b b hb,λh=>by cases h⟩).same hsame.next) (Nat.le_of_eq hsame.next.symm) (.inr ⟨i,[id],h.next,rfl,λk hk=>by rw[List.mem_singleton]at hk;rw[hk];exact hB,λk hk=>by rw[List.mem_singleton]at hk;rw[hk,hsame.next];exact g2⟩) λj hj=>hj) hsame (LocE.ext ⟨cs,ro,g1,g2,g3⟩ hsame.ext);refine⟨r,.step ⟨N,λm hm=> ?_⟩,q⟩
 show(match guardOn all tm o with
  |some true=>dOp E (run E m) bs all rest o i recs tm h
  |some false=>run E m (.draw bs all rest (i+1) recs) (putTmp tm o.dst (.tup [])) h
  |none=> .stop)=r
 rw[hgd];show dOp E (run E m) bs all rest o i recs tm h=r;rw[dOp_any ho,hfp,hwr];have hnx:(only h [id]).next=h.next:=only_next _ _
 show(match okPairs ((nth bs i).getD Bits.nil) [id] false (span h.next ((only h [id]).next-h.next)) recs with
  |true=>run E m (.draw bs all rest (i+1) (.op i [id] false h.next (only h [id]).next::recs)) (putTmp tm o.dst (.agg _)) (back h (only h [id]) ([id]++span h.next ((only h [id]).next-h.next)))
  |false=> .stop)=r
 rw[hnx,Nat.sub_self];have:okPairs ((nth bs i).getD Bits.nil) [id] false (span h.next 0) recs=true:=DY.pairs_read hB dv.d;rw[this];exact e m hm
theorem W.stV {t:TypeId} {x y:Operand} {id off:Nat} {cs cs' vs:List CV} {s:TyS} (dv:DV B h idx nr recs) (hB:¬B id) (hid:(nr.all λj=>bit j ((nth bs i).getD Bits.nil))=true) (hgd:guardOn all tm o=some true) (hop:o.op= .store t x y) (hx:cvOf E.globs tm x= .ptr (some (id,off))) (hy:(cvOf E.globs tm y).cells=some vs)
  (hs:E.ty t=some s) (hl:Nat.beq (len vs) s.size=true) (hg:h.get id=some (.cells cs false)) (hp:setAt cs vs off=some cs')
  (w:∀recs' h',(∀r∈recs',recIdx r∈i::idx)->Same (h.put id (.cells cs' false)) h'->W E (.draw bs all rest (i+1) recs') (putTmp tm o.dst .undef) h' Q):W E (.draw bs all (o::rest) i recs) tm h Q:=by
 have hri:∀r∈recs,recIdx r∈idx:=λr hr=>(dv.d.r r hr).1
 have hfp:fpAny E o tm=[id]:=by
  unfold fpAny;rw[hop];show idOf (cvOf E.globs tm x)=[id];rw[hx];rfl
 have hwr:wrOf o.op=true:=by rw[hop];rfl
 have hget:(only h [id]).get id=some (.cells cs false):=by rw[only_get];simpa using hg
 have ho:opAny E o tm (only h (fpAny E o tm))=some (.undef,(only h [id]).put id (.cells cs' false)):=by
  rw[hfp];unfold opAny;rw[hop];show oStore E t (cvOf E.globs tm x) (cvOf E.globs tm y) (only h [id])=_;rw[hx];unfold oStore CM.store storeV;simp only[hs,hy,hl];unfold putCells;simp only[hget,hp,Option.map_some,ofH]
 have hnx:((only h [id]).put id (.cells cs' false)).next=h.next:=only_next _ _
 have hsame:Same (h.put id (.cells cs' false)) (back h ((only h [id]).put id (.cells cs' false)) ([id]++span h.next 0)):=by
  refine⟨by rw[back_next,hnx];rfl,λk=> ?_⟩;rw[back_get,Heap.get_put,Heap.get_put];split
  ·rename_i hk
   have:k=id:=by
    have hk:k∈[id]:=hk;simpa using hk
   subst this;simp
  ·rename_i hk
   have:¬id=k:=by
    intro e;subst e;exact hk (by show id∈[id];simp)
   rw[if_neg this]
 have hall:okPairs ((nth bs i).getD Bits.nil) [id] true (span h.next 0) recs=true:=DV.pairs (λb hb hm=>hB (by rw[List.mem_singleton]at hm;rw[<-hm];exact hb)) (λk hk=>(by cases hk)) (λj hj=>List.all_eq_true.1 hid _ hj) dv.r
 obtain⟨r,⟨N,e⟩,q⟩:=w (.op i [id] true h.next h.next::recs) _ (λr hm=>by
  rcases List.mem_cons.1 hm with rfl|hm
  ·simp[recIdx]
  ·exact List.mem_cons_of_mem _ (hri r hm)) hsame
 refine⟨r,.step ⟨N,λm hm=> ?_⟩,q⟩
 show(match guardOn all tm o with
  |some true=>dOp E (run E m) bs all rest o i recs tm h
  |some false=>run E m (.draw bs all rest (i+1) recs) (putTmp tm o.dst (.tup [])) h
  |none=> .stop)=r
 rw[hgd];show dOp E (run E m) bs all rest o i recs tm h=r;rw[dOp_any ho,hfp,hwr]
 show(match okPairs ((nth bs i).getD Bits.nil) [id] true (span h.next (((only h [id]).put id (.cells cs' false)).next-h.next)) recs with
  |true=>run E m (.draw bs all rest (i+1) (.op i [id] true h.next ((only h [id]).put id (.cells cs' false)).next::recs)) (putTmp tm o.dst .undef) (back h ((only h [id]).put id (.cells cs' false)) ([id]++span h.next (((only h [id]).put id (.cells cs' false)).next-h.next)))
  |false=> .stop)=r
 rw[hnx,Nat.sub_self,hall];exact e m hm
theorem W.dixR {α:Type} [Rp α] {l:List α} {v:CV} {t:TypeId} {x y:Operand} {s:TyS} {et j:Nat} {kk:IntKind} (sl:Sl H v l) (hj:j<l.length) (hgd:guardOn all tm o=some true) (hop:o.op= .indexAddr t x y) (hx:cvOf E.globs tm x=v) (hy:cvOf E.globs tm y= .int kk (j:Int)) (hs:E.ty t=some s) (hk:s.kind= .slice et) (hz:sizeOf? E et=some (Rp.z α))
  (w:∀id off e,LocE H id off e->Rp.R H e l[j]->W E (.draw bs all rest (i+1) recs) (putTmp tm o.dst (.ptr (some (id,off)))) h Q):W E (.draw bs all (o::rest) i recs) tm h Q:=by
 obtain⟨id,off,c,x',e,rfl,L,r⟩:=sl.at hj;exact W.dix hgd hop hx hy hs hk hz (place_of rfl hj) (w _ _ e L r)
end
theorem BodyQ.cell2 {E:Env} {tm:Tm} {h:Heap} {Q:R->Prop} {rs:List ResultVar} {a b i off j off2:Nat} {t t2:TypeId} {s s2:TyS} {cs cs2:List CV} {ro ro2:Bool} {v v2:CV} (hrs:rs=[.cell a t,.cell b t2]) (ha:tm.look a= .ptr (some (i,off))) (hb:tm.look b= .ptr (some (j,off2))) (hg:h.get i=some (.cells cs ro)) (hg2:h.get j=some (.cells cs2 ro2)) (hs:E.ty t=some s) (hs2:E.ty t2=some s2) (hp:CM.part cs off s.size s.agg=some v) (hp2:CM.part cs2 off2 s2.size s2.agg=some v2)
  (q:Q (.val (.tup [v,v2]) h)):BodyQ E rs Q (.code .ret tm h):=by
 show Q (kBody E rs (.code .ret tm h))
 have e:resultVals E h tm rs=some [v,v2]:=by
  subst hrs
  have hl:CM.load E h t i off=some v:=by
   unfold CM.load loadB;simp only[hg,hs,hp]
  have hl2:CM.load E h t2 j off2=some v2:=by
   unfold CM.load loadB;simp only[hg2,hs2,hp2]
  have h3:tm.get a=some (.ptr (some (i,off))):=by
   have:tm.get a=some (tm.look a):=rfl;rw[this,ha]
  have h4:tm.get b=some (.ptr (some (j,off2))):=by
   have:tm.get b=some (tm.look b):=rfl;rw[this,hb]
  unfold resultVals;simp only[h3,hl];unfold resultVals;simp only[h4,hl2,resultVals]
 unfold kBody;simp only[e];exact q
end Go.CM

noncomputable section
namespace Go.CM.Tt
def idsOf (cs:List CV):List Nat:=cs.flatMap idOf
theorem nodup_behind {l m:List Nat} {n:Nat} (h1:l.Nodup) (h2:∀a∈l,a<n) (h3:m.Nodup) (h4:∀b∈m,n<=b):(l++m).Nodup:=
 List.nodup_append.2 ⟨h1,h3,λa ha b hb e=>by have:=h2 a ha;have:=h4 b hb;omega⟩
theorem idOf_one (v:CV):idOf v=[]\/∃k,idOf v=[k]:=by
 cases v with
 |ptr p=>rcases p with _|⟨i,o⟩;exact .inl rfl;exact .inr ⟨i,rfl⟩
 |slice p n c x=>rcases p with _|⟨i,o⟩;exact .inl rfl;exact .inr ⟨i,rfl⟩
 |map p=>rcases p with _|i;exact .inl rfl;exact .inr ⟨i,rfl⟩
 |_=>first|exact .inl rfl|exact .inr ⟨_,rfl⟩
theorem OwnR.ids {h:Heap} {lo z:Nat} {v:CV} {l:List (List CV)} (o:OwnR h lo z v l):∀k∈idOf v,lo<=k/\k<h.next:=by
 intro k hk;rcases idOf_one v with e|⟨j,e⟩
 ·rw[e]at hk;cases hk
 ·rw[e]at hk
  rw[List.mem_singleton.1 hk];exact⟨(o.idlt e).2,(o.idlt e).1⟩
theorem OwnR.idNodup (v:CV):(idOf v).Nodup:=by
 rcases idOf_one v with e|⟨j,e⟩<;>rw[e]<;>simp
def OwnRS (h:Heap) (lo:Nat) (e:List CV) (d:RouteS):Prop:=∃u1 u2 u3,e=[.str d.name,u1,u2,u3]/\OwnR h lo 1 u1 (d.stops.map Flat.enc)/\OwnR h lo 1 u2 (d.rides.map Flat.enc)/\OwnR h lo 1 u3 (d.stays.map Flat.enc)
section
variable {h h':Heap} {lo lo':Nat} {e:List CV} {d:RouteS} {x:SheetD}
theorem OwnRS.ext (o:OwnRS h lo e d) (x:Ext h h'):OwnRS h' lo e d:=by
 obtain⟨u1,u2,u3,rfl,o1,o2,o3⟩:=o;exact⟨u1,u2,u3,rfl,o1.ext x,o2.ext x,o3.ext x⟩
theorem OwnRS.low (o:OwnRS h lo e d) (hl:lo'<=lo):OwnRS h lo' e d:=by
 obtain⟨u1,u2,u3,rfl,o1,o2,o3⟩:=o;exact⟨u1,u2,u3,rfl,o1.low hl,o2.low hl,o3.low hl⟩
theorem OwnRS.other (o:OwnRS h lo e d) (hn:h.next<=h'.next) (hk:∀k,k∈idsOf e->h'.get k=h.get k):OwnRS h' lo e d:=by
 obtain⟨u1,u2,u3,rfl,o1,o2,o3⟩:=o;exact⟨u1,u2,u3,rfl,o1.other hn λk _ _ hi=>hk k (by simp[idsOf,hi]),o2.other hn λk _ _ hi=>hk k (by simp[idsOf,hi]),o3.other hn λk _ _ hi=>hk k (by simp[idsOf,hi])⟩
theorem OwnRS.ids (o:OwnRS h lo e d):∀k∈idsOf e,lo<=k/\k<h.next:=by
 obtain⟨u1,u2,u3,rfl,o1,o2,o3⟩:=o;intro k hk;have hk:k∈idOf (.str d.name)++(idOf u1++(idOf u2++(idOf u3++[]))):=hk;simp only[List.mem_append,List.not_mem_nil,or_false]at hk;rcases hk with hk|hk|hk|hk
 ·cases hk
 ·exact OwnR.ids o1 k hk
 ·exact OwnR.ids o2 k hk
 ·exact OwnR.ids o3 k hk
theorem OwnRS.len (o:OwnRS h lo e d):e.length=4:=by
 obtain⟨u1,u2,u3,rfl,_⟩:=o;rfl
theorem OwnRS.rp (o:OwnRS h lo e d):Rp.R h e d:=by
 obtain⟨u1,u2,u3,rfl,o1,o2,o3⟩:=o;exact⟨u1,u2,u3,rfl,o1.toSl,o2.toSl,o3.toSl⟩
def OwnRs (h:Heap) (lo:Nat) (v:CV) (css:List (List CV)) (l:List RouteS):Prop:=OwnR h lo 4 v css/\css.length=l.length/\∀(j:Nat) (e:List CV) (d:RouteS),css[j]? =some e->l[j]? =some d->OwnRS h lo e d
def idsIn (css:List (List CV)):List Nat:=css.flatMap idsOf
theorem OwnRs.ext {v:CV} {css:List (List CV)} {l:List RouteS} (o:OwnRs h lo v css l) (x:Ext h h'):OwnRs h' lo v css l:=
 ⟨o.1.ext x,o.2.1,λj e d he hd=>(o.2.2 j e d he hd).ext x⟩
theorem OwnRs.toSl {v:CV} {css:List (List CV)} {l:List RouteS} (o:OwnRs h lo v css l):Sl h v l:=
 ⟨css,o.1.sl,o.2.1,λj e d he hd=>(o.2.2 j e d he hd).rp⟩
variable {hz n1 n2 n3 vr n5 n6:CV}
end
end Go.CM.Tt

noncomputable section
namespace Go.CM.Tt
section
variable {h h':Heap} {lo:Nat}
abbrev RowE:=Nat×CV×List (List CV)
def idsR (rs:List RowE):List Nat:=rs.flatMap λr=>idOf r.2.1
structure OwnG (h:Heap) (lo:Nat) (rs:List RowE) (xs:List Nat):Prop where
 o:∀r∈rs,OwnR h lo r.1 r.2.1 r.2.2
 nd:(idsR rs++xs).Nodup
 x:∀k∈xs,lo<=k/\k<h.next
theorem OwnG.ext {rs:List RowE} {xs:List Nat} (g:OwnG h lo rs xs) (X:Ext h h'):OwnG h' lo rs xs:=⟨λr hr=>(g.o r hr).ext X,g.nd,λk hk=>⟨(g.x k hk).1,Nat.lt_of_lt_of_le (g.x k hk).2 X.next⟩⟩
theorem OwnG.lt {rs:List RowE} {xs:List Nat} (g:OwnG h lo rs xs):∀k∈idsR rs++xs,lo<=k/\k<h.next:=by
 intro k hk;rcases List.mem_append.1 hk with hk|hk
 ·obtain⟨r,hr,hi⟩:=List.mem_flatMap.1 hk
  exact OwnR.ids (g.o r hr) k hi
 ·exact g.x k hk
theorem OwnG.turn {A B:List RowE} {z:Nat} {v m:CV} {l l':List (List CV)} {xs:List Nat} (g:OwnG h lo (A++(z,v,l)::B) xs) (hn:h.next<=h'.next) (hk:∀k,k<h.next->k<lo\/idOf v≠[k]->h'.get k=h.get k) (om:OwnR h' lo z m l') (hi:idOf m=idOf v\/∃j,idOf m=[j]/\h.next<=j):OwnG h' lo (A++(z,m,l')::B) xs/\∀k∈xs,h'.get k=h.get k:=by
 have e:∀(m:CV) (l:List (List CV)),idsR (A++(z,m,l)::B)++xs=idsR A++(idOf m++(idsR B++xs)):=λm l=>by
  unfold idsR;rw[List.flatMap_append,List.flatMap_cons,List.append_assoc,List.append_assoc]
 have nd:=g.nd;rw[e]at nd;have h1:=List.nodup_append.1 nd;have h2:=List.nodup_append.1 h1.2.1
 have lt:∀k,k∈idsR A\/k∈idsR B++xs->k<h.next:=λk hk=>(g.lt k (by
  rw[e];rcases hk with hk|hk
  ·exact List.mem_append_left _ hk
  ·exact List.mem_append_right _ (List.mem_append_right _ hk))).2
 have ne:∀k,k∈idsR A\/k∈idsR B++xs->idOf v≠[k]:=λk hk e5=>by
  rcases hk with hk|hk
  ·exact h1.2.2 k hk k (by rw[e5];simp) rfl
  ·exact h2.2.2 k (by rw[e5];simp) k hk rfl
 have kp:∀k,k∈idsR A\/k∈idsR B++xs->h'.get k=h.get k:=λk hk2=>hk k (lt k hk2) (.inr (ne k hk2));refine⟨⟨λr hr=> ?_,?_,λk hk=>⟨(g.x k hk).1,Nat.lt_of_lt_of_le (g.x k hk).2 hn⟩⟩,λk hk=>kp k (.inr (List.mem_append_right _ hk))⟩
 ·rcases List.mem_append.1 hr with hr|hr
  ·exact(g.o r (List.mem_append_left _ hr)).other hn λk _ _ hi=>kp k (.inl (List.mem_flatMap.2 ⟨r,hr,by rw[hi];simp⟩))
  ·rcases List.mem_cons.1 hr with rfl|hr
   ·exact om
   ·exact(g.o r (List.mem_append_right _ (List.mem_cons_of_mem _ hr))).other hn λk _ _ hi=>kp k (.inr (List.mem_append_left _ (List.mem_flatMap.2 ⟨r,hr,by rw[hi];simp⟩)))
 ·rw[e]
  rcases hi with hi|⟨jj,hi,hjj⟩
  ·rw[hi];exact nd
  ·rw[hi]
   refine List.nodup_append.2 ⟨h1.1,List.nodup_append.2 ⟨by simp,h2.2.1,λa ha b hb e=> ?_⟩,λa ha b hb e=> ?_⟩
   ·rw[List.mem_singleton]at ha
    have:=lt b (.inr hb);omega
   ·rcases List.mem_append.1 hb with hb|hb
    ·rw[List.mem_singleton]at hb
     have:=lt a (.inl ha);omega
    ·exact h1.2.2 a ha b (List.mem_append_right _ hb) e
theorem OwnG.more {rs:List RowE} {xs:List Nat} {z n:Nat} {v:CV} {l:List (List CV)} (g:OwnG h lo rs xs) (ov:OwnR h lo z v l) (hx:∀k∈idsR rs++xs,k<n) (hv:∀k∈idOf v,n<=k):OwnG h lo (rs++[(z,v,l)]) xs:=by
 refine⟨λr hr=> ?_,?_,g.x⟩
 ·rcases List.mem_append.1 hr with hr|hr
  ·exact g.o r hr
  ·rw[List.mem_singleton.1 hr];exact ov
 ·have h1:=List.nodup_append.1 g.nd
  unfold idsR;rw[List.flatMap_append,List.flatMap_cons,List.flatMap_nil,List.append_nil,List.append_assoc];refine List.nodup_append.2 ⟨h1.1,List.nodup_append.2 ⟨OwnR.idNodup _,h1.2.1,λa ha b hb e=> ?_⟩,λa ha b hb e=> ?_⟩
  ·have:=hv a ha
   have:=hx b (List.mem_append_right _ hb);omega
  ·rcases List.mem_append.1 hb with hb|hb
   ·have:=hv b hb
    have:=hx a (List.mem_append_left _ ha);omega
   ·exact h1.2.2 a ha b hb e
theorem OwnG.nil:OwnG h lo [] []:=⟨(λ_ h=>(by cases h)),(by simp[idsR]),(λ_ h=>(by cases h))⟩
theorem OwnG.low {lo':Nat} {rs:List RowE} {xs:List Nat} (g:OwnG h lo rs xs) (hl:lo'<=lo):OwnG h lo' rs xs:=⟨λr hr=>(g.o r hr).low hl,g.nd,λk hk=>⟨Nat.le_trans hl (g.x k hk).1,(g.x k hk).2⟩⟩
theorem OwnG.keep {rs:List RowE} {xs:List Nat} (g:OwnG h lo rs xs) (hn:h.next<=h'.next) (hk:∀k∈idsR rs++xs,h'.get k=h.get k):OwnG h' lo rs xs:=
 ⟨λr hr=>(g.o r hr).other hn λk _ _ hi=>hk k (List.mem_append_left _ (List.mem_flatMap.2 ⟨r,hr,by rw[hi];simp⟩)),g.nd,λk hk2=>⟨(g.x k hk2).1,Nat.lt_of_lt_of_le (g.x k hk2).2 hn⟩⟩
def OwnGB (h:Heap) (lo n:Nat) (rs:List RowE):Prop:=OwnG h lo rs []/\∀k∈idsR rs,k<n
theorem OwnGB.nil:OwnGB h lo lo []:=⟨OwnG.nil,λk hk=>by simp[idsR]at hk⟩
theorem OwnGB.more {rs:List RowE} {z n n1 n2:Nat} {v:CV} {l:List (List CV)} (g:OwnGB h lo n rs) (ov:OwnR h lo z v l) (hv:∀k∈idOf v,n1<=k/\k<n2) (h1:n<=n1) (h2:n1<=n2):OwnGB h lo n2 (rs++[(z,v,l)]):=by
 refine⟨g.1.more (n:=n1) ov (λk hk=> ?_) (λk hk=>(hv k hk).1),λk hk=> ?_⟩
 ·rw[List.append_nil]at hk
  exact Nat.lt_of_lt_of_le (g.2 k hk) h1
 ·unfold idsR at hk
  rw[List.flatMap_append,List.mem_append]at hk;rcases hk with hk|hk
  ·have:=g.2 k hk;omega
  ·rw[List.flatMap_cons,List.flatMap_nil,List.append_nil]at hk
   exact(hv k hk).2
end
end Go.CM.Tt

noncomputable section
namespace Go.CM.Tt
def OwnRW (h:Heap) (lo:Nat) (e:List CV) (d:RouteW):Prop:=∃u1 u2 u3,e=[u1,u2,u3]/\OwnR h lo 1 u1 (d.stops.map Flat.enc)/\OwnR h lo 1 u2 (d.rides.map Flat.enc)/\OwnR h lo 1 u3 (d.stays.map Flat.enc)
section
variable {h h':Heap} {lo lo':Nat} {e:List CV} {d:RouteW}
theorem OwnRW.ext (o:OwnRW h lo e d) (x:Ext h h'):OwnRW h' lo e d:=by
 obtain⟨u1,u2,u3,rfl,o1,o2,o3⟩:=o;exact⟨u1,u2,u3,rfl,o1.ext x,o2.ext x,o3.ext x⟩
theorem OwnRW.low (o:OwnRW h lo e d) (hl:lo'<=lo):OwnRW h lo' e d:=by
 obtain⟨u1,u2,u3,rfl,o1,o2,o3⟩:=o;exact⟨u1,u2,u3,rfl,o1.low hl,o2.low hl,o3.low hl⟩
theorem OwnRW.other (o:OwnRW h lo e d) (hn:h.next<=h'.next) (hk:∀k,k∈idsOf e->h'.get k=h.get k):OwnRW h' lo e d:=by
 obtain⟨u1,u2,u3,rfl,o1,o2,o3⟩:=o;exact⟨u1,u2,u3,rfl,o1.other hn λk _ _ hi=>hk k (by simp[idsOf,hi]),o2.other hn λk _ _ hi=>hk k (by simp[idsOf,hi]),o3.other hn λk _ _ hi=>hk k (by simp[idsOf,hi])⟩
theorem OwnRW.ids (o:OwnRW h lo e d):∀k∈idsOf e,lo<=k/\k<h.next:=by
 obtain⟨u1,u2,u3,rfl,o1,o2,o3⟩:=o;intro k hk;have hk:k∈idOf u1++(idOf u2++(idOf u3++[])):=hk;simp only[List.mem_append,List.not_mem_nil,or_false]at hk;rcases hk with hk|hk|hk
 ·exact OwnR.ids o1 k hk
 ·exact OwnR.ids o2 k hk
 ·exact OwnR.ids o3 k hk
theorem OwnRW.rp (o:OwnRW h lo e d):Rp.R h e d:=by
 obtain⟨u1,u2,u3,rfl,o1,o2,o3⟩:=o;exact⟨u1,u2,u3,rfl,o1.toSl,o2.toSl,o3.toSl⟩
def OwnRws (h:Heap) (lo:Nat) (v:CV) (css:List (List CV)) (l:List RouteW):Prop:=OwnR h lo 3 v css/\css.length=l.length/\∀(j:Nat) (e:List CV) (d:RouteW),css[j]? =some e->l[j]? =some d->OwnRW h lo e d
theorem OwnRws.ext {v:CV} {css:List (List CV)} {l:List RouteW} (o:OwnRws h lo v css l) (x:Ext h h'):OwnRws h' lo v css l:=
 ⟨o.1.ext x,o.2.1,λj e d he hd=>(o.2.2 j e d he hd).ext x⟩
theorem OwnRws.low {v:CV} {css:List (List CV)} {l:List RouteW} (o:OwnRws h lo v css l) (hl:lo'<=lo):OwnRws h lo' v css l:=
 ⟨o.1.low hl,o.2.1,λj e d he hd=>(o.2.2 j e d he hd).low hl⟩
theorem OwnRws.other {v:CV} {css:List (List CV)} {l:List RouteW} (o:OwnRws h lo v css l) (hn:h.next<=h'.next) (hk:∀k,k∈idOf v++idsIn css->h'.get k=h.get k):OwnRws h' lo v css l:=
 ⟨o.1.other hn λk _ _ hi=>hk k (by simp[hi]),o.2.1,λj e d he hd=>(o.2.2 j e d he hd).other hn λk hi=>hk k (List.mem_append_right _ (List.mem_flatMap.2 ⟨e,List.mem_of_getElem? he,hi⟩))⟩
theorem OwnRws.idsI {v:CV} {css:List (List CV)} {l:List RouteW} (o:OwnRws h lo v css l):∀k∈idsIn css,lo<=k/\k<h.next:=by
 intro k hk;obtain⟨e,he,hi⟩:=List.mem_flatMap.1 hk;obtain⟨j,hj,hej⟩:=List.getElem_of_mem he;have hd:l[j]? =some (l[j]'(by rw[<-o.2.1];exact hj)):=List.getElem?_eq_getElem _;exact(o.2.2 j e _ (by rw[List.getElem?_eq_getElem hj,hej]) hd).ids k hi
theorem OwnRws.toSl {v:CV} {css:List (List CV)} {l:List RouteW} (o:OwnRws h lo v css l):Sl h v l:=
 ⟨css,o.1.sl,o.2.1,λj e d he hd=>(o.2.2 j e d he hd).rp⟩
def WorldD.small (w:WorldD):Prop:=w.names.stops.length<=1048576/\w.names.paths.length<=1048576/\w.names.doors.length<=1048576/\w.names.routes.length<=1048576/\w.names.trips.length<=1048576/\w.names.hazards.length<=1048576/\w.paths.length<=1048576/\w.doors.length<=1048576/\w.routes.length<=1048576/\w.trips.length<=1048576/\w.hazards.length<=1048576/\∀r∈w.routes,r.stops.length<=1048576/\r.rides.length<=1048576/\r.stays.length<=1048576
def flatW (w:WorldD) (p d t z m1 m2 m3 m4 m5 m6:CV):List RowE:=[(3,p,w.paths.map Flat.enc),(6,d,w.doors.map Flat.enc),(4,t,w.trips.map Flat.enc),(5,z,w.hazards.map Flat.enc),(1,m1,w.names.stops.map Flat.enc),(1,m2,w.names.paths.map Flat.enc),(1,m3,w.names.doors.map Flat.enc),(1,m4,w.names.routes.map Flat.enc),(1,m5,w.names.trips.map Flat.enc),(1,m6,w.names.hazards.map Flat.enc)]
structure OwnWd (h:Heap) (lo:Nat) (hz m1 m2 m3 m4 m5 m6 p d vr t z:CV) (w:WorldD):Prop where
 hz:hz= .int .i64 w.hz
 r:∃css,OwnRws h lo vr css w.routes/\OwnG h lo (flatW w p d t z m1 m2 m3 m4 m5 m6++[(3,vr,css)]) (idsIn css)
theorem OwnWd.rp {hz m1 m2 m3 m4 m5 m6 p d vr t z:CV} {w:WorldD} (o:OwnWd h lo hz m1 m2 m3 m4 m5 m6 p d vr t z w):Rp.R h [hz,m1,m2,m3,m4,m5,m6,p,d,vr,t,z] w:=by
 obtain⟨css,r1,r2⟩:=o.r;have g:∀(j:Nat) {a:Nat} {v:CV} {l:List (List CV)},(flatW w p d t z m1 m2 m3 m4 m5 m6)[j]? =some (a,v,l)->OwnR h lo a v l:=λj {_ _ _} hm=>r2.o _ (List.mem_append_left _ (List.mem_of_getElem? hm));refine⟨m1,m2,m3,m4,m5,m6,p,d,vr,t,z,by rw[o.hz],?_,?_,?_,?_,?_,?_,?_,?_,r1.toSl,?_,?_⟩
 ·exact OwnR.toSl (α:=Str) (lo:=lo) (g 4 rfl)
 ·exact OwnR.toSl (α:=Str) (lo:=lo) (g 5 rfl)
 ·exact OwnR.toSl (α:=Str) (lo:=lo) (g 6 rfl)
 ·exact OwnR.toSl (α:=Str) (lo:=lo) (g 7 rfl)
 ·exact OwnR.toSl (α:=Str) (lo:=lo) (g 8 rfl)
 ·exact OwnR.toSl (α:=Str) (lo:=lo) (g 9 rfl)
 ·exact OwnR.toSl (α:=PathW) (lo:=lo) (g 0 rfl)
 ·exact OwnR.toSl (α:=DoorW) (lo:=lo) (g 1 rfl)
 ·exact OwnR.toSl (α:=TripW) (lo:=lo) (g 2 rfl)
 ·exact OwnR.toSl (α:=HazW) (lo:=lo) (g 3 rfl)
end
end Go.CM.Tt
