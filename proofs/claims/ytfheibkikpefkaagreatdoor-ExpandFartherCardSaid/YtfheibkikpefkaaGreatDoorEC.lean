/- Rows of ticks: where the next one stands; by the program, by the document. No condition. -/
import Derived.Test.YtfheibkikpefkaaGreatDoorXU
import Derived.Test.YtfheibkikpefkaaGreatDoorYM
set_option linter.unusedVariables false
set_option linter.unusedSimpArgs false
namespace Go.Proofs.YtfheibkikpefkaaGreatDoor
open Go Go.CM Go.CM.Tt
noncomputable section
set_option maxHeartbeats 16000000
theorem tickIs_w {h:Heap} {tm:Tm} {Q:R->Prop} (t:Int) (ht:TickOk t) (q:Q (.val (.bool true) h)):W E1 (.call (.fn 170 [] []) [.int .i64 t]) tm h Q:=by
 refine W.fn (s:=fnOf Tryz.f170) rfl rfl rfl rfl ?_;have h0:=ht.1;have h1:=ht.2;repeat (first|refine W.g ?_|refine W.m λh_ X_ n_ g_ L_=> ?_|refine W.n λh_ X_ n_ g_ S_=> ?_)
 refine W.call rfl rfl rfl (tick_w t λa ha=> ?_);have a0:=ha.2 ht;subst a0;repeat (first|refine W.g ?_|refine W.m λh_ X_ n_ g_ L_=> ?_|refine W.n λh_ X_ n_ g_ S_=> ?_)
 exact q
theorem tickSmall_w {h:Heap} {tm:Tm} {Q:R->Prop} (t:Int) (ht:TickOk t) (q:Q (.val (.tup [.int .i64 t,.int .i64 0]) h)):W E1 (.call (.fn 171 [] []) [.int .i64 t]) tm h Q:=by
 refine W.fn (s:=fnOf Tryz.f171) rfl rfl rfl rfl ?_;repeat (first|refine W.g ?_|refine W.m λh_ X_ n_ g_ L_=> ?_|refine W.n λh_ X_ n_ g_ S_=> ?_)
 refine W.call rfl rfl rfl (tick_w t λa ha=> ?_);have a0:=ha.2 ht;subst a0;repeat (first|refine W.g ?_|refine W.m λh_ X_ n_ g_ L_=> ?_|refine W.n λh_ X_ n_ g_ S_=> ?_)
 exact q
theorem tickAdd_w {h:Heap} {tm:Tm} {Q:R->Prop} (a b:Int) (ha:TickOk a) (hb:TickOk b) (hs:a+b<=1099511627776) (q:Q (.val (.tup [.int .i64 (a+b),.int .i64 0]) h)):W E1 (.call (.fn 141 [] []) [.int .i64 a,.int .i64 b]) tm h Q:=by
 refine W.fn (s:=fnOf Tryz.f141) rfl rfl rfl rfl ?_;have a0:=ha.1;have a1:=ha.2;have b0:=hb.1;have b1:=hb.2;repeat (first|refine W.g ?_|refine W.m λh_ X_ n_ g_ L_=> ?_|refine W.n λh_ X_ n_ g_ S_=> ?_)
 refine W.call rfl rfl rfl (tickIs_w a ha ?_);repeat (first|refine W.g ?_|refine W.m λh_ X_ n_ g_ L_=> ?_|refine W.n λh_ X_ n_ g_ S_=> ?_)
 refine W.call rfl rfl rfl (tickIs_w b hb ?_);repeat (first|refine W.g ?_|refine W.m λh_ X_ n_ g_ L_=> ?_|refine W.n λh_ X_ n_ g_ S_=> ?_)
 refine W.call rfl rfl rfl (tickSmall_w (a+b) ⟨by omega,hs⟩ ?_);repeat (first|refine W.g ?_|refine W.m λh_ X_ n_ g_ L_=> ?_|refine W.n λh_ X_ n_ g_ S_=> ?_)
 exact q
theorem tickMul_w {h:Heap} {tm:Tm} {Q:R->Prop} (a n:Int) (ha:TickOk a) (hn:0<=n) (hs:a*n<=1099511627776) (q:Q (.val (.tup [.int .i64 (a*n),.int .i64 0]) h)):W E1 (.call (.fn 140 [] []) [.int .i64 a,.int .i64 n]) tm h Q:=by
 refine W.fn (s:=fnOf Tryz.f140) rfl rfl rfl rfl ?_;have a0:=ha.1;have a1:=ha.2;have m0:0<=a*n:=Int.mul_nonneg a0 hn;repeat (first|refine W.g ?_|refine W.m λh_ X_ n_ g_ L_=> ?_|refine W.n λh_ X_ n_ g_ S_=> ?_)
 refine W.call rfl rfl rfl (tickIs_w a ha ?_);repeat (first|refine W.g ?_|refine W.m λh_ X_ n_ g_ L_=> ?_|refine W.n λh_ X_ n_ g_ S_=> ?_)
 by_cases c1:n=0
 ·rw[c1,Int.mul_zero]at q
  repeat (first|refine W.g ?_|refine W.m λh_ X_ n_ g_ L_=> ?_|refine W.n λh_ X_ n_ g_ S_=> ?_)
  exact q
 by_cases c2:a=0
 ·rw[c2,Int.zero_mul]at q
  repeat (first|refine W.g ?_|refine W.m λh_ X_ n_ g_ L_=> ?_|refine W.n λh_ X_ n_ g_ S_=> ?_)
  exact q
 repeat (first|refine W.g ?_|refine W.m λh_ X_ n_ g_ L_=> ?_|refine W.n λh_ X_ n_ g_ S_=> ?_)
 have k:n<=1099511627776/a:=(Int.le_ediv_iff_mul_le (by omega)).2 (by rw[Int.mul_comm];exact hs);have h1:1099511627776/a<=1099511627776:=Int.ediv_le_self a (by omega);have h2:0<=1099511627776/a:=Int.ediv_nonneg (by omega) a0;refine W.quo (a:=1099511627776) (b:=a) (by omega) (by omega) (by omega) rfl rfl rfl rfl ?_;have m1: -9223372036854775808<=a*n:=by omega
 have m2:a*n<=9223372036854775807:=by omega
 repeat (first|refine W.g ?_|refine W.m λh_ X_ n_ g_ L_=> ?_|refine W.n λh_ X_ n_ g_ S_=> ?_)
 exact q
theorem tickAt_w {h:Heap} {tm:Tm} {Q:R->Prop} (f e i:Int) (hf:TickOk f) (he:TickOk e) (hi:0<=i) (h0:e=0->i=0) (hs:f+i*e<=1099511627776) (q:Q (.val (.tup [.int .i64 (f+i*e),.int .i64 0]) h)):W E1 (.call (.fn 108 [] []) [.int .i64 f,.int .i64 e,.int .i64 i]) tm h Q:=by
 refine W.fn (s:=fnOf Tryz.f108) rfl rfl rfl rfl ?_;have f0:=hf.1;have e0:=he.1;have m0:0<=e*i:=Int.mul_nonneg e0 hi;rw[Int.mul_comm]at hs q;repeat (first|refine W.g ?_|refine W.m λh_ X_ n_ g_ L_=> ?_|refine W.n λh_ X_ n_ g_ S_=> ?_)
 refine W.call rfl rfl rfl (tick_w f λa ha=> ?_);have a0:=ha.2 hf;subst a0;repeat (first|refine W.g ?_|refine W.m λh_ X_ n_ g_ L_=> ?_|refine W.n λh_ X_ n_ g_ S_=> ?_)
 refine W.call rfl rfl rfl (tick_w e λa ha=> ?_);have a0:=ha.2 he;subst a0;by_cases c:e=0
 ·have:=h0 c
  repeat (first|refine W.g ?_|refine W.m λh_ X_ n_ g_ L_=> ?_|refine W.n λh_ X_ n_ g_ S_=> ?_)
  refine W.call rfl rfl rfl (tickMul_w e i he hi (by omega) ?_);repeat (first|refine W.g ?_|refine W.m λh_ X_ n_ g_ L_=> ?_|refine W.n λh_ X_ n_ g_ S_=> ?_)
  refine W.call rfl rfl rfl (tickAdd_w f (e*i) hf ⟨m0,by omega⟩ hs ?_);repeat (first|refine W.g ?_|refine W.m λh_ X_ n_ g_ L_=> ?_|refine W.n λh_ X_ n_ g_ S_=> ?_)
  exact q
 repeat (first|refine W.g ?_|refine W.m λh_ X_ n_ g_ L_=> ?_|refine W.n λh_ X_ n_ g_ S_=> ?_)
 refine W.call rfl rfl rfl (tickMul_w e i he hi (by omega) ?_);repeat (first|refine W.g ?_|refine W.m λh_ X_ n_ g_ L_=> ?_|refine W.n λh_ X_ n_ g_ S_=> ?_)
 refine W.call rfl rfl rfl (tickAdd_w f (e*i) hf ⟨m0,by omega⟩ hs ?_);repeat (first|refine W.g ?_|refine W.m λh_ X_ n_ g_ L_=> ?_|refine W.n λh_ X_ n_ g_ S_=> ?_)
 exact q
theorem rtickAt_w {h:Heap} {tm:Tm} {Q:R->Prop} (f e i:Int) (hf:TickOk f) (he:TickOk e) (hi:0<=i) (h0:e=0->i=0) (hs:f+i*e<=1099511627776) (q:Q (.val (.tup [.int .i64 (f+i*e),.int .i64 0]) h)):W E1 (.call (.fn 111 [] []) [.int .i64 f,.int .i64 e,.int .i64 i]) tm h Q:=by
 refine W.fn (s:=fnOf Tryz.f111) rfl rfl rfl rfl ?_;have f0:=hf.1;have f1:=hf.2;have e0:=he.1;have m0:0<=i*e:=Int.mul_nonneg hi e0;repeat (first|refine W.g ?_|refine W.m λh_ X_ n_ g_ L_=> ?_|refine W.n λh_ X_ n_ g_ S_=> ?_)
 refine W.call rfl rfl rfl (rtick_w f (λ_=> ?_) (λh=>absurd hf h));repeat (first|refine W.g ?_|refine W.m λh_ X_ n_ g_ L_=> ?_|refine W.n λh_ X_ n_ g_ S_=> ?_)
 refine W.call rfl rfl rfl (rtick_w e (λ_=> ?_) (λh=>absurd he h));by_cases c:e=0
 ·have i0:=h0 c
  rw[c,Int.mul_zero,Int.add_zero]at q;repeat (first|refine W.g ?_|refine W.m λh_ X_ n_ g_ L_=> ?_|refine W.n λh_ X_ n_ g_ S_=> ?_)
  exact q
 repeat (first|refine W.g ?_|refine W.m λh_ X_ n_ g_ L_=> ?_|refine W.n λh_ X_ n_ g_ S_=> ?_)
 have k:i<=(1099511627776-f)/e:=(Int.le_ediv_iff_mul_le (by omega)).2 (by omega);have h1:(1099511627776-f)/e<=1099511627776-f:=Int.ediv_le_self e (by omega);have h2:0<=(1099511627776-f)/e:=Int.ediv_nonneg (by omega) e0;refine W.quo (a:=1099511627776-f) (b:=e) (by omega) (by omega) (by omega) rfl rfl rfl rfl ?_;have m1: -9223372036854775808<=i*e:=by omega
 have m2:i*e<=9223372036854775807:=by omega
 repeat (first|refine W.g ?_|refine W.m λh_ X_ n_ g_ L_=> ?_|refine W.n λh_ X_ n_ g_ S_=> ?_)
 exact q
end
end Go.Proofs.YtfheibkikpefkaaGreatDoor

noncomputable section
namespace Go.CM
section
variable {h h' H:Heap} {lo z:Nat} {v:CV} {l:List (List CV)} {E:Env} {tm:Tm} {Q:R->Prop} {all rest:List Oper} {o:Oper} {B:Nat->Prop} {bs:List Bits} {recs:List Rec} {i:Nat} {idx nr:List Nat}
structure DV (B:Nat->Prop) (h:Heap) (idx nr:List Nat) (recs:List Rec):Prop where
 d:DY B h idx recs
 r:∀r∈recs,recIdx r∈nr\/∃i fp lo,r= .op i fp false lo lo/\(∀k∈fp,B k)/\∀k∈fp,k<h.next
theorem DV.start (hb:∀b,B b->b<h.next):DV B h [] [] []:=⟨DY.start hb,λ_ h=>by cases h⟩
theorem DV.more {h':Heap} {idx' nr':List Nat} {r0:Rec} (dv:DV B h idx nr recs) (d:DY B h' idx' (r0::recs)) (hn:h.next<=h'.next) (h0:recIdx r0∈nr'\/∃i fp lo,r0= .op i fp false lo lo/\(∀k∈fp,B k)/\∀k∈fp,k<h'.next) (hs:∀j∈nr,j∈nr'):DV B h' idx' nr' (r0::recs):=⟨d,λr hr=>by
 rcases List.mem_cons.1 hr with rfl|hr
 ·exact h0
 ·rcases dv.r r hr with h1|⟨i,fp,lo,h1,h2,h3⟩
  ·exact .inl (hs _ h1)
  ·exact .inr ⟨i,fp,lo,h1,h2,λk hk=>Nat.lt_of_lt_of_le (h3 k hk) hn⟩⟩
theorem DV.pairs {ahead:Bits} {fp:List Nat} {wr:Bool} {news:List Nat} (hB:∀b,B b->b∉fp) (hnew:∀k∈news,h.next<=k) (hnr:∀j∈nr,bit j ahead=true):∀{recs:List Rec},(∀r∈recs,recIdx r∈nr\/∃i fp lo,r= .op i fp false lo lo/\(∀k∈fp,B k)/\∀k∈fp,k<h.next)->okPairs ahead fp wr news recs=true
 |[],_=>rfl
 |r::rs,hr=>by
  unfold okPairs;have ih:=DV.pairs (fp:=fp) (wr:=wr) (news:=news) hB hnew hnr (recs:=rs) λx hx=>hr x (List.mem_cons_of_mem _ hx);rcases hr r (by simp)with h1|⟨i,fp',lo,rfl,h2,h3⟩
  ·rw[hnr _ h1,ih]
   cases okPair fp wr news r<;>rfl
  ·have:okPair fp wr news (.op i fp' false lo lo)=true:=by
     rw[okPair_op,all1_each λk hk=>by
      unfold opApart;rw[within_self];cases wr with
      |false=>rfl
      |true=>
      show(!mem k fp')=true;rw[mem_false λx hx e=>hB x (h2 x hx) (by rw[e];exact hk)];rfl]
     show all1 news (λk=> !mem k fp')=true;refine all1_each λk hk=> ?_;rw[mem_false λx hx e=>by have:=h3 x hx;have:=hnew k hk;omega];rfl
   rw[this];exact ih
theorem W.ldV {t:TypeId} {x:Operand} {id off k:Nat} {e:List CV} {s:TyS} {v:CV} (dv:DV B h idx nr recs) (hB:B id) (L:LocE h id off e) (hgd:guardOn all tm o=some true) (hop:o.op= .load t x) (hx:cvOf E.globs tm x= .ptr (some (id,off+k))) (hs:E.ty t=some s) (h1:s.size=1) (h2:s.agg=false) (he:e[k]? =some v)
  (w:∀recs' h',DV B h' (i::idx) nr recs'->Same h h'->LocE h' id off e->W E (.draw bs all rest (i+1) recs') (putTmp tm o.dst v) h' Q):W E (.draw bs all (o::rest) i recs) tm h Q:=by
 obtain⟨cs,ro,g1,g2,g3⟩:=L;have hn:=cut_nth g3 he
 have hfp:fpAny E o tm=[id]:=by
  unfold fpAny;rw[hop];show idOf (cvOf E.globs tm x)=[id];rw[hx];rfl
 have hwr:wrOf o.op=false:=by rw[hop];rfl
 have hget:(only h [id]).get id=some (.cells cs ro):=by rw[only_get];simpa using g1
 have ho:opAny E o tm (only h (fpAny E o tm))=some (v,only h [id]):=by
  rw[hfp];unfold opAny;rw[hop];show oLoad E t (cvOf E.globs tm x) (only h [id])=_;rw[hx];have hp:CM.part cs (off+k) s.size s.agg=some v:=by rw[h1,h2];exact hn
  unfold oLoad CM.load loadB;simp only[hget,hs,hp,withH]
 have hsame:Same h (back h (only h [id]) ([id]++span h.next 0)):=by
  refine⟨by rw[back_next,only_next],λk=> ?_⟩;rw[back_get];split
  ·rename_i hk
   have:k=id:=by
    have hk:k∈[id]:=hk;simpa using hk
   subst this;rw[hget,g1]
  ·rfl
 obtain⟨r,⟨N,e⟩,q⟩:=w (.op i [id] false h.next h.next::recs) _ (dv.more ((dv.d.cons (Nat.le_refl _) (λk hk=>by rw[List.mem_singleton]at hk;rw[hk];exact g2) λb hb=>⟨dv.d.b b hb,λh=>by cases h⟩).same hsame.next) (Nat.le_of_eq hsame.next.symm) (.inr ⟨i,[id],h.next,rfl,λk hk=>by rw[List.mem_singleton]at hk;rw[hk];exact hB,λk hk=>by rw[List.mem_singleton]at hk;rw[hk,hsame.next];exact g2⟩) λj hj=>hj) hsame (LocE.ext ⟨cs,ro,g1,g2,g3⟩ hsame.ext);refine⟨r,.step ⟨N,λm hm=> ?_⟩,q⟩
 show(match guardOn all tm o with
  |some true=>dOp E (run E m) bs all rest o i recs tm h
  |some false=>run E m (.draw bs all rest (i+1) recs) (putTmp tm o.dst (.tup [])) h
  |none=> .stop)=r
 rw[hgd];show dOp E (run E m) bs all rest o i recs tm h=r;rw[dOp_any ho,hfp,hwr];have hnx:(only h [id]).next=h.next:=only_next _ _
 show(match okPairs ((nth bs i).getD Bits.nil) [id] false (span h.next ((only h [id]).next-h.next)) recs with
  |true=>run E m (.draw bs all rest (i+1) (.op i [id] false h.next (only h [id]).next::recs)) (putTmp tm o.dst v) (back h (only h [id]) ([id]++span h.next ((only h [id]).next-h.next)))
  |false=> .stop)=r
 rw[hnx,Nat.sub_self];have:okPairs ((nth bs i).getD Bits.nil) [id] false (span h.next 0) recs=true:=DY.pairs_read hB dv.d;rw[this];exact e m hm
theorem W.newV {b:Blk} {v:CV} (dv:DV B h idx nr recs) (hgd:guardOn all tm o=some true) (hfp:fpAny E o tm=[]) (hwr:wrOf o.op=false) (ho:opAny E o tm (only h [])=some (v,(only h []).new b))
  (w:∀recs' h',DV B h' (i::idx) (i::nr) recs'->Ext h h'->h'.next=h.next+1->h'.get h.next=some b->W E (.draw bs all rest (i+1) recs') (putTmp tm o.dst v) h' Q):W E (.draw bs all (o::rest) i recs) tm h Q:=by
 have ho:opAny E o tm (only h (fpAny E o tm))=some (v,(only h []).new b):=by rw[hfp];exact ho
 have hb:∀k,(back h ((only h []).new b) ([]++[h.next])).get k=if k=h.next then some b else h.get k:=by
  intro k;rw[back_get];by_cases e:k=h.next
  ·subst e
   rw[if_pos (by simp),if_pos rfl];exact new_same (only h []) _
  ·rw[if_neg (by simpa using e),if_neg e]
 have hnx:(back h ((only h []).new b) ([]++[h.next])).next=h.next+1:=by rw[back_next];rfl
 have hx:Ext h (back h ((only h []).new b) ([]++[h.next])):=by
  refine⟨by omega,λk hk=> ?_,λf k hk=> ?_⟩
  ·rw[hb,if_neg (by omega)]
  ·rw[hnx]at hk
   rw[hb,if_neg (by omega)];exact f k (by omega)
 obtain⟨r,⟨N,e⟩,q⟩:=w (.op i [] false h.next (h.next+1)::recs) _ (dv.more (dv.d.cons (by omega) (λk hk=>by cases hk) λb hb=>⟨dv.d.b b hb,λh=>by cases h⟩) (by omega) (.inl (by simp[recIdx])) λj hj=>List.mem_cons_of_mem _ hj) hx hnx (by rw[hb,if_pos rfl]);refine⟨r,.step ⟨N,λm hm=> ?_⟩,q⟩
 show(match guardOn all tm o with
  |some true=>dOp E (run E m) bs all rest o i recs tm h
  |some false=>run E m (.draw bs all rest (i+1) recs) (putTmp tm o.dst (.tup [])) h
  |none=> .stop)=r
 rw[hgd];show dOp E (run E m) bs all rest o i recs tm h=r;rw[dOp_any ho,hfp,hwr]
 have hnb:Nat.beq (h.next+1) h.next=false:=by
  cases hb:Nat.beq (h.next+1) h.next with
  |true=>have:=Nat.eq_of_beq_eq_true hb;omega
  |false=>rfl
 have hsp:span h.next (h.next+1-h.next)=[h.next]:=by
  rw[show h.next+1-h.next=1 by omega];rfl
 show(match isNil ([]:List Nat)&&Nat.beq (h.next+1) h.next with
  |true=>_
  |false=>match okPairs ((nth bs i).getD Bits.nil) [] false (span h.next (h.next+1-h.next)) recs with
   |true=>run E m (.draw bs all rest (i+1) (.op i [] false h.next (h.next+1)::recs)) (putTmp tm o.dst v) (back h ((only h []).new b) ([]++span h.next (h.next+1-h.next)))
   |false=> .stop)=r
 rw[hnb,hsp,DY.pairs_new dv.d];exact e m hm
theorem W.apV {c:Call} {t t2 e:TypeId} {ts es t2s:TyS} {s s2:CV} {l2:List (List CV)} (dv:DV B h idx nr recs) (X:Ext H h) (so:OwnR h H.next z s l) (s2l:SlG h z s2 l2) (hB:∀b,B b->b∉idOf s++idOf s2) (hid:(nr.all λj=>bit j ((nth bs i).getD Bits.nil))=true)
  (hgd:guardOn all tm o=some true) (hop:o.op= .call c) (hb:c.callee= .builtin .append) (hty:c.argTypes.toList=[t,t2]) (ha:c.args.toList.map (cvOf E.globs tm)=[s,s2])
  (hts:E.ty t=some ts) (hk:ts.kind= .slice e) (hes:E.ty e=some es) (hz:es.size=z) (hz0:(Nat.beq es.size 0||Nat.beq es.bytes 0)=false) (ht2:E.ty t2=some t2s) (hk2:t2s.kind= .slice e) (hm:(l.length+l2.length)*es.bytes<=70368744177664)
  (w:∀recs' v' h',DV B h' (i::idx) (i::nr) recs'->Ext H h'->(∀b,B b->h'.get b=h.get b)->h.next<=h'.next->OwnR h' H.next z v' (l++l2)->(∀c,c<h.next->idOf s≠[c]->idOf v'≠[c])->W E (.draw bs all rest (i+1) recs') (putTmp tm o.dst v') h' Q):W E (.draw bs all (o::rest) i recs) tm h Q:=by
 have d:=dv.d;have hn:∀(fp:List Nat) (wr:Bool) (n:Nat),(∀b,B b->b∉fp)->okPairs ((nth bs i).getD Bits.nil) fp wr (span h.next n) recs=true:=λfp wr n hf=>DV.pairs hf (λk hk=>((mem_span _ _ _).1 hk).1) (λj hj=>List.all_eq_true.1 hid j hj) dv.r;refine W.apC (λn _=>⟨hn _ _ _ hB,hn _ _ _ λb hb h=>hB b hb (List.mem_append_left _ h)⟩) X so s2l hgd hop hb hty ha hts hk hes hz hz0 ht2 hk2 hm λrecs' v' h' hr hlt X' nn kk O' kid _=> ?_;refine w recs' v' h' ?_ X' (λb hb=>kk b (d.b b hb) (.inr λe=>hB b hb (by rw[e];simp))) nn O' kid;rcases hr with rfl|⟨lo,hi,rfl,rfl⟩
 ·exact⟨⟨λr hr=>⟨List.mem_cons_of_mem _ (d.r r hr).1,by obtain⟨i,fp,ws,lo,hi,h2,h3,h4⟩:=(d.r r hr).2;exact⟨i,fp,ws,lo,hi,h2,λk hk=>Nat.lt_of_lt_of_le (h3 k hk) nn,h4⟩⟩,λb hb=>Nat.lt_of_lt_of_le (d.b b hb) nn⟩,λr hr=>(dv.r r hr).imp (List.mem_cons_of_mem _) λ⟨i,fp,lo,h1,h2,h3⟩=>⟨i,fp,lo,h1,h2,λk hk=>Nat.lt_of_lt_of_le (h3 k hk) nn⟩⟩
 ·exact dv.more (d.tail nn rfl ⟨_,_,_,_,_,.inl rfl,λk hk=>Nat.lt_of_lt_of_le (hlt k hk) nn,λb hb=>⟨d.b b hb,λh=>hB b hb (List.mem_append_left _ h)⟩⟩) nn (.inl (by simp[recIdx])) λj hj=>List.mem_cons_of_mem _ hj
theorem W.dput {id:Nat} {B1 B2:Blk} {v:CV} (hri:∀r∈recs,recIdx r∈idx) (hid:(idx.all λj=>bit j ((nth bs i).getD Bits.nil))=true) (hgd:guardOn all tm o=some true) (hfp:fpAny E o tm=[id]) (hwr:wrOf o.op=true) (hg:h.get id=some B1)
  (ho:∀h0:Heap,h0.get id=some B1->opAny E o tm h0=some (v,h0.put id B2))
  (w:∀recs' h',(∀r∈recs',recIdx r∈i::idx)->Same (h.put id B2) h'->W E (.draw bs all rest (i+1) recs') (putTmp tm o.dst v) h' Q) (hna:isAppO o.op=false:=by rw[‹o.op=_›];rfl):W E (.draw bs all (o::rest) i recs) tm h Q:=by
 have hget:(only h [id]).get id=some B1:=by rw[only_get];simpa using hg
 have ho:opAny E o tm (only h (fpAny E o tm))=some (v,(only h [id]).put id B2):=by
  rw[hfp];exact ho _ hget
 have hnx:((only h [id]).put id B2).next=h.next:=only_next _ _
 have hsame:Same (h.put id B2) (back h ((only h [id]).put id B2) ([id]++span h.next 0)):=by
  refine⟨by rw[back_next,hnx];rfl,λk=> ?_⟩;rw[back_get,Heap.get_put,Heap.get_put];split
  ·rename_i hk
   have:k=id:=by
    have hk:k∈[id]:=hk;simpa using hk
   subst this;simp
  ·rename_i hk
   have:¬id=k:=by
    intro e;subst e;exact hk (by show id∈[id];simp)
   rw[if_neg this]
 have hall:∀r∈recs,bit (recIdx r) ((nth bs i).getD Bits.nil)=true:=λr hm=>List.all_eq_true.1 hid _ (hri r hm)
 obtain⟨r,⟨N,e⟩,q⟩:=w (.op i [id] true h.next h.next::recs) _ (λr hm=>by
  rcases List.mem_cons.1 hm with rfl|hm
  ·simp[recIdx]
  ·exact List.mem_cons_of_mem _ (hri r hm)) hsame
 refine⟨r,.step ⟨N,λm hm=> ?_⟩,q⟩
 show(match guardOn all tm o with
  |some true=>dOp E (run E m) bs all rest o i recs tm h
  |some false=>run E m (.draw bs all rest (i+1) recs) (putTmp tm o.dst (.tup [])) h
  |none=> .stop)=r
 rw[hgd];show dOp E (run E m) bs all rest o i recs tm h=r;rw[dOp_any ho hna,hfp,hwr]
 show(match okPairs ((nth bs i).getD Bits.nil) [id] true (span h.next (((only h [id]).put id B2).next-h.next)) recs with
  |true=>run E m (.draw bs all rest (i+1) (.op i [id] true h.next ((only h [id]).put id B2).next::recs)) (putTmp tm o.dst v) (back h ((only h [id]).put id B2) ([id]++span h.next (((only h [id]).put id B2).next-h.next)))
  |false=> .stop)=r
 rw[hnx,Nat.sub_self,okPairs_ahead hall];exact e m hm
end
end Go.CM
