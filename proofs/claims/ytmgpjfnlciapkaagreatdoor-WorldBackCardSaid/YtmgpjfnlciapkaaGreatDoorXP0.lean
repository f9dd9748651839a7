/- Drawn regions that look, call what only adds to memory, and make new blocks. No condition, no program. -/
import Derived.Test.YtmgpjfnlciapkaaGreatDoorXNb
set_option linter.unusedVariables false
set_option linter.unusedSimpArgs false
noncomputable section
namespace Go.CM
section
variable {E:Env} {tm:Tm} {H h:Heap} {Q:R->Prop} {all rest:List Oper} {o:Oper} {bs:List Bits} {recs:List Rec} {i:Nat} {idx nx:List Nat} {v:CV}
def RecX (H h:Heap) (nx:List Nat) (r:Rec):Prop:=
 (∃i fp lo,r= .op i fp false lo lo/\∀k∈fp,k<H.next/\CellsAt H k)\/(∃i lo hi,r= .op i [] false lo hi/\i∈nx/\H.next<=lo/\hi<=h.next)\/(∃i d d',r= .call i d d'/\i∈nx/\Ext H d/\Ext d d'/\d'.next<=h.next)
structure DX (H h:Heap) (idx nx:List Nat) (recs:List Rec):Prop where
 r:∀r∈recs,RecX H h nx r/\recIdx r∈idx
 x:Ext H h
 f:Fresh H
theorem DX.start (f:Fresh H):DX H H [] [] []:=⟨(λ_ h=>by cases h),Ext.refl _,f⟩
theorem RecX.more {h':Heap} {j:Nat} {r:Rec} (hr:RecX H h nx r) (hn:h.next<=h'.next):RecX H h' (j::nx) r:=by
 rcases hr with h1|⟨i,lo,hi,h1,h2,h3,h4⟩|⟨i,d,d',h1,h2,h3,h4,h5⟩
 ·exact .inl h1
 ·exact .inr (.inl ⟨i,lo,hi,h1,List.mem_cons_of_mem _ h2,h3,by omega⟩)
 ·exact .inr (.inr ⟨i,d,d',h1,List.mem_cons_of_mem _ h2,h3,h4,by omega⟩)
theorem RecX.same {h':Heap} {r:Rec} (hr:RecX H h nx r) (hn:h.next<=h'.next):RecX H h' nx r:=by
 rcases hr with h1|⟨i,lo,hi,h1,h2,h3,h4⟩|⟨i,d,d',h1,h2,h3,h4,h5⟩
 ·exact .inl h1
 ·exact .inr (.inl ⟨i,lo,hi,h1,h2,h3,by omega⟩)
 ·exact .inr (.inr ⟨i,d,d',h1,h2,h3,h4,by omega⟩)
theorem DX.hri (d:DX H h idx nx recs):∀r∈recs,recIdx r∈idx:=λr hm=>(d.r r hm).2
theorem within_out {k lo hi:Nat} (h:k<lo\/hi<=lo):within k lo hi=false:=by
 unfold within
 cases h1:Nat.ble lo k with
 |false=>rfl
 |true=>
  cases h2:Nat.blt k hi with
  |false=>rfl
  |true=>
   have:=Nat.le_of_ble_eq_true h1
   rw[Nat.blt_eq]at h2
   omega
theorem okX_read {ahead:Bits} {fp:List Nat} (hfp:∀k∈fp,k<H.next/\CellsAt H k):∀{recs:List Rec},(∀r∈recs,RecX H h nx r)->okPairs ahead fp false [] recs=true
 |[],_=>rfl
 |r::rs,hr=>by
  unfold okPairs
  have ih:=okX_read (ahead:=ahead) hfp (recs:=rs) λx hx=>hr x (List.mem_cons_of_mem _ hx)
  have:okPair fp false [] r=true:=by
   rcases hr r (by simp)with⟨i,fp',lo,rfl,_⟩|⟨i,lo,hi,rfl,_,h3,_⟩|⟨i,d,d',rfl,_,h3,h4,_⟩
   ·rw[okPair_op,all1_of λk _=>by unfold opApart;rw[within_self];rfl]
    rfl
   ·rw[okPair_op,all1_of λk hk=>by
      unfold opApart
      rw[within_out (.inl (by have:=(hfp k hk).1;omega))];rfl]
    rfl
   ·rw[okPair_call,all1_of λk hk=>by
      unfold callApart
      obtain⟨g1,cs,ro,g2⟩:=hfp k hk
      have hn:=h3.next
      rw[h4.old k (by omega),h3.old k g1,g2,blkEq_cells]]
    rfl
  rw[this]
  exact ih
theorem okX_new {ahead:Bits} (hf:Fresh H) (hn:H.next<=h.next):∀{recs:List Rec},(∀r∈recs,RecX H h nx r)->okPairs ahead [] false [h.next] recs=true
 |[],_=>rfl
 |r::rs,hr=>by
  unfold okPairs
  have ih:=okX_new (ahead:=ahead) hf hn (recs:=rs) λx hx=>hr x (List.mem_cons_of_mem _ hx)
  have:okPair [] false [h.next] r=true:=by
   rcases hr r (by simp)with⟨i,fp',lo,rfl,h1⟩|⟨i,lo,hi,rfl,_,h3,_⟩|⟨i,d,d',rfl,_,h3,h4,h5⟩
   ·show all1 [h.next] (λk=> !mem k fp')=true
    refine all1_each λk hk=> ?_
    rw[List.mem_singleton]at hk
    subst hk
    rw[mem_false λx hx=>by have:=(h1 x hx).1;omega];rfl
   ·rfl
   ·have g1:d.get h.next=none:=h3.fr hf _ (by have:=h4.next;omega)
    have g2:d'.get h.next=none:=h4.fr (h3.fr hf) _ h5
    show all1 [h.next] (λk=>match isNo (d.get k)with|true=>isNo (d'.get k)|false=>false)=true
    refine all1_each λk hk=> ?_
    rw[List.mem_singleton]at hk
    subst hk
    rw[g1,g2];rfl
  rw[this]
  exact ih
theorem hidesX {ahead:Bits} (hc:∀j∈nx,bit j ahead=true):∀{recs:List Rec},(∀r∈recs,RecX H h nx r)->hides ahead recs=some []
 |[],_=>rfl
 |r::rs,hr=>by
  unfold hides
  rw[hidesX hc λx hx=>hr x (List.mem_cons_of_mem _ hx)]
  rcases hr r (by simp)with⟨i,fp,lo,rfl,_⟩|⟨i,lo,hi,rfl,h1,_⟩|⟨i,d,d',rfl,h1,_⟩
  ·simp only[Nat.sub_self]
   split<;>rfl
  ·have:bit (recIdx (.op i [] false lo hi)) ahead=true:=hc i h1
   simp only[this]
  ·have:bit (recIdx (.call i d d')) ahead=true:=hc i h1
   simp only[this]
theorem looksX {ahead:Bits} {d d':Heap} (hc:∀j∈nx,bit j ahead=true) (hx:Ext H d) (hd:Ext d d'):∀{recs:List Rec},(∀r∈recs,RecX H h nx r)->looks ahead d d' recs=true
 |[],_=>rfl
 |r::rs,hr=>by
  unfold looks
  have ih:=looksX (ahead:=ahead) hc hx hd (recs:=rs) λx hx=>hr x (List.mem_cons_of_mem _ hx)
  rcases hr r (by simp)with⟨i,fp,lo,rfl,h1⟩|⟨i,lo,hi,rfl,h1,_⟩|⟨i,e,e',rfl,h1,_⟩
  ·split
   ·exact ih
   ·rw[Bool.and_eq_true]
    refine⟨all1_of λk hk=> ?_,ih⟩
    obtain⟨g1,cs,ro,g2⟩:=h1 k hk
    have hn:=hx.next
    rw[hd.old k (by omega),hx.old k g1,g2,blkEq_cells]
  ·have:bit (recIdx (.op i [] false lo hi)) ahead=true:=hc i h1
   rw[this]
   exact ih
  ·have:bit (recIdx (.call i e e')) ahead=true:=hc i h1
   rw[this]
   exact ih
theorem W.dldZ (ds:DX H h idx nx recs) {t:TypeId} {x:Operand} {id off:Nat} {cs:List CV} {ro:Bool} {s:TyS} (hgd:guardOn all tm o=some true) (hop:o.op= .load t x) (hx:cvOf E.globs tm x= .ptr (some (id,off))) (hg:H.get id=some (.cells cs ro)) (hid:id<H.next) (hs:E.ty t=some s) (hp:part cs off s.size s.agg=some v)
  (w:∀recs' h',DX H h' (i::idx) nx recs'->Same h h'->W E (.draw bs all rest (i+1) recs') (putTmp tm o.dst v) h' Q):W E (.draw bs all (o::rest) i recs) tm h Q:=by
 have hfp:fpAny E o tm=[id]:=by
  unfold fpAny
  rw[hop]
  show idOf (cvOf E.globs tm x)=[id]
  rw[hx];rfl
 have hwr:wrOf o.op=false:=by rw[hop];rfl
 have hgh:h.get id=some (.cells cs ro):=(ds.x.old id hid).trans hg
 have hget:(only h [id]).get id=some (.cells cs ro):=by rw[only_get];simpa using hgh
 have ho:opAny E o tm (only h (fpAny E o tm))=some (v,only h [id]):=by
  rw[hfp]
  unfold opAny
  rw[hop]
  show oLoad E t (cvOf E.globs tm x) (only h [id])=_
  rw[hx]
  unfold oLoad CM.load loadB
  simp only[hget,hs,hp,withH]
 have hsame:Same h (back h (only h [id]) ([id]++span h.next 0)):=by
  refine⟨by rw[back_next,only_next],λk=> ?_⟩
  rw[back_get]
  split
  ·rename_i hk
   have:k=id:=by
    have hk:k∈[id]:=hk
    simpa using hk
   subst this
   rw[hget,hgh]
  ·rfl
 have hfc:∀k∈[id],k<H.next/\CellsAt H k:=λk hk=>by rw[List.mem_singleton]at hk;subst hk;exact⟨hid,cs,ro,hg⟩
 obtain⟨r,⟨N,e⟩,q⟩:=w (.op i [id] false h.next h.next::recs) _ ⟨λr hm=>by
  rcases List.mem_cons.1 hm with rfl|hm
  ·exact⟨.inl ⟨i,[id],h.next,rfl,hfc⟩,by simp[recIdx]⟩
  ·exact⟨(ds.r r hm).1.same (Nat.le_of_eq hsame.next.symm),List.mem_cons_of_mem _ (ds.r r hm).2⟩,ds.x.trans hsame.ext,ds.f⟩ hsame
 refine⟨r,.step ⟨N,λm hm=> ?_⟩,q⟩
 show(match guardOn all tm o with
  |some true=>dOp E (run E m) bs all rest o i recs tm h
  |some false=>run E m (.draw bs all rest (i+1) recs) (putTmp tm o.dst (.tup [])) h
  |none=> .stop)=r
 rw[hgd]
 show dOp E (run E m) bs all rest o i recs tm h=r
 rw[dOp_any ho,hfp,hwr]
 have hnx:(only h [id]).next=h.next:=only_next _ _
 show(match okPairs ((nth bs i).getD Bits.nil) [id] false (span h.next ((only h [id]).next-h.next)) recs with
  |true=>run E m (.draw bs all rest (i+1) (.op i [id] false h.next (only h [id]).next::recs)) (putTmp tm o.dst v) (back h (only h [id]) ([id]++span h.next ((only h [id]).next-h.next)))
  |false=> .stop)=r
 rw[hnx,Nat.sub_self]
 have:okPairs ((nth bs i).getD Bits.nil) [id] false (span h.next 0) recs=true:=okX_read hfc λr hm=>(ds.r r hm).1
 rw[this]
 exact e m hm
theorem W.dnewZ (ds:DX H h idx nx recs) {b:Blk} (hgd:guardOn all tm o=some true) (hfp:fpAny E o tm=[]) (hwr:wrOf o.op=false) (ho:opAny E o tm (only h [])=some (v,(only h []).new b))
  (w:∀recs' h',DX H h' (i::idx) (i::nx) recs'->Ext h h'->h'.next=h.next+1->h'.get h.next=some b->W E (.draw bs all rest (i+1) recs') (putTmp tm o.dst v) h' Q):W E (.draw bs all (o::rest) i recs) tm h Q:=by
 have ho:opAny E o tm (only h (fpAny E o tm))=some (v,(only h []).new b):=by rw[hfp];exact ho
 have hb:∀k,(back h ((only h []).new b) ([]++[h.next])).get k=if k=h.next then some b else h.get k:=by
  intro k
  rw[back_get]
  by_cases e:k=h.next
  ·subst e
   rw[if_pos (by simp),if_pos rfl]
   exact new_same (only h []) _
  ·rw[if_neg (by simpa using e),if_neg e]
 have hnx:(back h ((only h []).new b) ([]++[h.next])).next=h.next+1:=by rw[back_next];rfl
 have hx:Ext h (back h ((only h []).new b) ([]++[h.next])):=by
  refine⟨by omega,λk hk=> ?_,λf k hk=> ?_⟩
  ·rw[hb,if_neg (by omega)]
  ·rw[hnx]at hk
   rw[hb,if_neg (by omega)]
   exact f k (by omega)
 obtain⟨r,⟨N,e⟩,q⟩:=w (.op i [] false h.next (h.next+1)::recs) _ ⟨λr hm=>by
  rcases List.mem_cons.1 hm with rfl|hm
  ·exact⟨.inr (.inl ⟨i,h.next,h.next+1,rfl,by simp,ds.x.next,by omega⟩),by simp[recIdx]⟩
  ·exact⟨(ds.r r hm).1.more (by omega),List.mem_cons_of_mem _ (ds.r r hm).2⟩,ds.x.trans hx,ds.f⟩ hx hnx (by rw[hb,if_pos rfl])
 refine⟨r,.step ⟨N,λm hm=> ?_⟩,q⟩
 show(match guardOn all tm o with
  |some true=>dOp E (run E m) bs all rest o i recs tm h
  |some false=>run E m (.draw bs all rest (i+1) recs) (putTmp tm o.dst (.tup [])) h
  |none=> .stop)=r
 rw[hgd]
 show dOp E (run E m) bs all rest o i recs tm h=r
 rw[dOp_any ho,hfp,hwr]
 have hnb:Nat.beq (h.next+1) h.next=false:=by
  cases hb:Nat.beq (h.next+1) h.next with
  |true=>have:=Nat.eq_of_beq_eq_true hb;omega
  |false=>rfl
 have hsp:span h.next (h.next+1-h.next)=[h.next]:=by
  rw[show h.next+1-h.next=1 by omega];rfl
 show(match isNil ([]:List Nat)&&Nat.beq (h.next+1) h.next with
  |true=>_
  |false=>match okPairs ((nth bs i).getD Bits.nil) [] false (span h.next (h.next+1-h.next)) recs with
   |true=>run E m (.draw bs all rest (i+1) (.op i [] false h.next (h.next+1)::recs)) (putTmp tm o.dst v) (back h ((only h []).new b) ([]++span h.next (h.next+1-h.next)))
   |false=> .stop)=r
 rw[hnb,hsp,okX_new ds.f ds.x.next λr hm=>(ds.r r hm).1]
 exact e m hm
theorem W.dalZ (ds:DX H h idx nx recs) {t:TypeId} {s:TyS} (hgd:guardOn all tm o=some true) (hop:o.op= .alloc t) (hs:E.ty t=some s)
  (w:∀recs' h',DX H h' (i::idx) (i::nx) recs'->Ext h h'->h'.next=h.next+1->h'.get h.next=some (.cells s.zero false)->W E (.draw bs all rest (i+1) recs') (putTmp tm o.dst (.ptr (some (h.next,0)))) h' Q):W E (.draw bs all (o::rest) i recs) tm h Q:=
 W.dnewZ ds (v:= .ptr (some (h.next,0))) hgd (by unfold fpAny;rw[hop];rfl) (by rw[hop];rfl) (by
  unfold opAny
  rw[hop]
  show newPtr (only h []) ((E.ty t).map (·.zero))=_
  rw[hs];rfl) w
def DZ (E:Env) (bs:List Bits) (all rest:List Oper) (i:Nat) (idx nx:List Nat) (dst:Option Nat) (tm:Tm) (H h:Heap) (Q:R->Prop) (r:R):Prop:=match r with
 | .val v d=>Ext h d/\∀recs' h',DX H h' (i::idx) (i::nx) recs'->Same d h'->W E (.draw bs all rest (i+1) recs') (putTmp tm dst v) h' Q
 |_=>False
theorem DZ.val {dst:Option Nat} {d:Heap} (hx:Ext h d) (w:∀recs' h',DX H h' (i::idx) (i::nx) recs'->Same d h'->W E (.draw bs all rest (i+1) recs') (putTmp tm dst v) h' Q):DZ E bs all rest i idx nx dst tm H h Q (.val v d):=⟨hx,w⟩
theorem W.dcallZ {c:Call} {f:Operand} (ds:DX H h idx nx recs) (hgd:guardOn all tm o=some true) (hop:o.op= .call c) (hf:c.callee= .value f) (hc0:(nx.all λj=>bit j ((nth bs i).getD Bits.nil))=true)
  (w:W E (.call (cvOf E.globs tm f) (c.args.toList.map (cvOf E.globs tm))) .leaf h (DZ E bs all rest i idx nx o.dst tm H h Q)):W E (.draw bs all (o::rest) i recs) tm h Q:=by
 have hc:∀j∈nx,bit j ((nth bs i).getD Bits.nil)=true:=λj hj=>List.all_eq_true.1 hc0 j hj
 have hr:∀r∈recs,RecX H h nx r:=λr hm=>(ds.r r hm).1
 obtain⟨r0,⟨N1,e1⟩,q⟩:=w
 cases r0 with
 |val v d=>
  obtain⟨hx,q⟩:=q
  have hsame:Same d ⟨d.t,d.next,none⟩:=⟨rfl,λ_=>rfl⟩
  obtain⟨r,⟨N2,e2⟩,q2⟩:=q (.call i h d::recs) ⟨d.t,d.next,none⟩ ⟨λr hm=>by
   rcases List.mem_cons.1 hm with rfl|hm
   ·exact⟨.inr (.inr ⟨i,h,d,rfl,by simp,ds.x,hx,Nat.le_refl _⟩),by simp[recIdx]⟩
   ·exact⟨(hr r hm).more hx.next,List.mem_cons_of_mem _ (ds.r r hm).2⟩,(ds.x.trans hx).trans hsame.ext,ds.f⟩ hsame
  refine⟨r,.step ⟨max N1 N2,λm hm=> ?_⟩,q2⟩
  show(match guardOn all tm o with
   |some true=>dOp E (run E m) bs all rest o i recs tm h
   |some false=>run E m (.draw bs all rest (i+1) recs) (putTmp tm o.dst (.tup [])) h
   |none=> .stop)=r
  rw[hgd]
  show dOp E (run E m) bs all rest o i recs tm h=r
  unfold dOp
  rw[hop]
  simp only[hf,isBuiltin]
  rw[hidesX hc hr]
  unfold dHid
  simp only[hf,sCallee]
  show dCall (run E m) bs all rest i recs o.dst tm h h [] (run E m (.call (cvOf E.globs tm f) (c.args.toList.map (cvOf E.globs tm))) .leaf h)=r
  rw[e1 m (by omega)]
  show(match Nat.ble h.next d.next&&(looks ((nth bs i).getD Bits.nil) h d recs&&true)with
   |true=>run E m (.draw bs all rest (i+1) (.call i h d::recs)) (putTmp tm o.dst v) ⟨d.t,d.next,none⟩
   |false=> .stop)=r
  rw[looksX hc ds.x hx hr,Nat.ble_eq_true_of_le hx.next]
  exact e2 m (by omega)
 |_=>exact q.elim
end
end Go.CM

noncomputable section
namespace Go.CM
section
variable {E:Env} {t:Task} {tm tm1:Tm} {h h1:Heap} {Q:R->Prop} {a b:Code} {all rest:List Oper} {o:Oper} {v:CV}
def RangeQ (i:Nat) (tm:Tm) (Q:R->Prop) (r:R):Prop:=Q (kRange i tm r)
theorem W.range {f:Operand} {ps:Array Nat} {asg body:Code} {id:Nat} {first caps:List CV} (hf:cvOf E.globs tm f= .fn id first caps)
  (w:W E (.call (.fn id first caps) [.yield h.next]) .leaf (h.new (.loop tm ps.toList asg body 0 none)) (RangeQ h.next tm Q)):W E (.code (.rangeFunc f ps asg body)) tm h Q:=by
 obtain⟨r,⟨N,e⟩,q⟩:=w
 refine⟨_,.step ⟨N,λm hm=> ?_⟩,q⟩
 show sRange (run E m) tm (h.new (.loop tm ps.toList asg body 0 none)) h.next (cvOf E.globs tm f)=_
 rw[hf]
 show kRange h.next tm (run E m (.call (.fn id first caps) [.yield h.next]) .leaf (h.new (.loop tm ps.toList asg body 0 none)))=_
 rw[e m hm]
theorem RangeQ.val {i:Nat} {tmx:Tm} {psx:List Nat} {asg body:Code} {st:Nat} (hg:h.get i=some (.loop tmx psx asg body st none)) (hs:Nat.beq st 1=false) (q:Q (.code .normal tm (h.del i))):RangeQ i tm Q (.val v h):=by
 show Q (match h.get i with
  |some (.loop _ _ _ _ st pend)=>match Nat.beq st 1 with
   |true=> .stop
   |false=>endBy pend tm (h.del i)
  |_=> .stop)
 rw[hg]
 simp only[hs]
 exact q
def RoundQ (i:Nat) (Q:R->Prop) (r:R):Prop:=Q (kRound2 i r)
theorem RoundQ.normal {i:Nat} {tmx:Tm} {psx:List Nat} {asg body:Code} {st:Nat} {pend:Option Code} (hg:h.get i=some (.loop tmx psx asg body st pend)) (q:Q (.val (.bool true) (h.put i (.loop tmx psx asg body 0 none)))):RoundQ i Q (.code .normal tm h):=by
 show Q (match h.get i with
  |some (.loop tm ps asg body _ _)=> .val (.bool true) (h.put i (.loop tm ps asg body 0 none))
  |_=> .stop)
 rw[hg]
 exact q
theorem W.yield {i:Nat} {args:List CV} {tx:Tm} {ps:List Nat} {asg body:Code} {st:Nat} {pend:Option Code} {t1:Tm} (hg:h.get i=some (.loop tx ps asg body st pend)) (hs:setPs ps args tx=some t1)
  (w:W E (.code asg) t1 h (CutQ λt' h'=>∃tx' ps' asg' bd' pend',h'.get i=some (.loop tx' ps' asg' bd' 0 pend')/\W E (.code body) t' (h'.put i (.loop tx' ps' asg' bd' 1 pend')) (RoundQ i Q))):W E (.call (.yield i) args) tm h Q:=by
 obtain⟨r,⟨N1,e1⟩,q⟩:=w
 cases r with
 |code e t' h'=>
  cases e with
  |normal=>
   obtain⟨tx',ps',asg',bd',pend',hg',r2,⟨N2,e2⟩,q2⟩:=q
   refine⟨_,.step ⟨max N1 N2,λm hm=> ?_⟩,q2⟩
   show sRound (run E m) i args h=_
   unfold sRound
   rw[hg]
   simp only[hs]
   show kRound1 (run E m) i body (run E m (.code asg) t1 h)=_
   rw[e1 m (by omega)]
   unfold kRound1
   simp only[hg']
   show kRound2 i (run E m (.code body) t' (h'.put i (.loop tx' ps' asg' bd' 1 pend')))=_
   rw[e2 m (by omega)]
  |_=>exact q.elim
 |_=>exact q.elim
theorem W.knownN {f:Nat} {first caps args:List CV} {news:List (List CV)} (hk:kfind h E.globs f (first++args++caps) E.known=some (v,news)) (hr:rowsHold h E.rows=true) (q:Q (.val v (kAdd h news))):W E (.call (.fn f first caps) args) tm h Q:=by
 refine⟨_,.step ⟨0,λm _=> ?_⟩,q⟩
 show sFn E (run E m) (first++args++caps) h f (kfind h E.globs f (first++args++caps) E.known)=_
 rw[hk]
 show kKnown (v,news) h (rowsHold h E.rows)=_
 rw[hr];rfl
theorem kAdd_ext:∀(news:List (List CV)) (h:Heap),Ext h (kAdd h news)
 |[],h=>Ext.refl h
 |b::r,h=>(Ext.new h (.cells b false)).trans (kAdd_ext r _)
theorem Ext.del {h H:Heap} (x:Ext h H) {i:Nat} (hi:h.next<=i):Ext h (H.del i):=⟨x.next,λk hk=>by rw[Heap.get_del,if_neg (by omega)];exact x.old k hk,λf k hk=>by
 rw[Heap.get_del]
 split
 ·rfl
 ·exact x.fr f k hk⟩
end
end Go.CM
