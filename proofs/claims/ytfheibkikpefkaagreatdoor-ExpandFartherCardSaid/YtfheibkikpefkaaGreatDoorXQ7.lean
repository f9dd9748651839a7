/- Rows of one's own that are written; the greatest of many in drawn regions. No condition, no program. -/
import Derived.Test.YtfheibkikpefkaaGreatDoorEF
import Derived.Test.YtfheibkikpefkaaGreatDoorXP1
import Derived.Test.YtfheibkikpefkaaGreatDoorXU
import Derived.Test.YtfheibkikpefkaaGreatDoorYM
import Derived.Test.YtfheibkikpefkaaGreatDoorXQ4
set_option linter.unusedVariables false
set_option linter.unusedSimpArgs false
noncomputable section
namespace Go.CM
section
variable {h h' H:Heap} {lo z:Nat} {v:CV} {l:List (List CV)} {E:Env} {tm:Tm} {Q:R->Prop} {all rest:List Oper} {o:Oper} {bs:List Bits} {recs:List Rec} {i:Nat} {idx nr:List Nat}
theorem OwnR.at (s:OwnR h lo z v l) {j:Nat} (hj:j<l.length):∃i c x,v= .slice (some (i,0)) l.length c x/\lo<=i/\i<h.next/\idOf v=[i]/\h.get i=some (.cells l.flatten false)/\(∀e∈l,e.length=z):=by
 rcases s with⟨rfl,_⟩|⟨i,x,ro,rfl,h1,h2,h3,h4,h5⟩
 ·simp at hj
 ·have hl:l≠[]:=λe=>by rw[e]at hj;simp at hj
  have hro:ro=false:=by
   rcases h5 with⟨_,h5|h5⟩|⟨_,h5,_⟩
   ·exact absurd h5 hl
   ·exact h5
   ·exact h5
  subst hro;exact⟨i,_,_,rfl,h1,h2,rfl,h3,h4⟩
theorem OwnR.set (s:OwnR h lo z v l) {j i:Nat} {e:List CV} (hj:j<l.length) (he:e.length=z) (hn:h'.next=h.next) (hi:idOf v=[i]) (hg:h'.get i=some (.cells (l.set j e).flatten false)):OwnR h' lo z v (l.set j e):=by
 rcases s with⟨rfl,_⟩|⟨i',x,ro,rfl,h1,h2,h3,h4,h5⟩
 ·simp at hj
 ·have:i'=i:=by simpa[idOf]using hi
  subst this;refine .inr ⟨i',x,false,by rw[List.length_set],h1,by omega,hg,λa ha=> ?_,?_⟩
  ·rcases List.mem_or_eq_of_mem_set ha with ha|rfl
   ·exact h4 a ha
   ·exact he
  ·rcases h5 with⟨h5,_⟩|⟨h5,_,_⟩
   ·exact .inl ⟨h5,.inr rfl⟩
   ·exact .inr ⟨h5,rfl,λe0=>by
     have:=congrArg List.length e0;rw[List.length_set]at this;simp at this;rw[this]at hj;simp at hj⟩
end
end Go.CM

namespace Go.Proofs.YtfheibkikpefkaaGreatDoor
open Go Go.CM Go.CM.Tt
noncomputable section
set_option maxHeartbeats 8000000
theorem rtimesCheck_w {h:Heap} {tm:Tm} {Q:R->Prop} (t:Times) (q:∀h' (e:Int),Ext h h'->(t.ok->e=0)->(¬t.ok->e=2)->Q (.val (.int .i64 e) h')):W E1 (.call (.fn 85 [] []) [.agg t.enc]) tm h Q:=by
 refine W.fn (s:=fnOf Tryz.f85) rfl rfl rfl rfl ?_;repeat (first|refine W.g ?_|refine W.m λh_ X_ n_ g_ L_=> ?_)
 refine W.call rfl rfl rfl (rtick_w t.frm (λha=> ?_) λhn=> ?_)
 rotate_left
 ·repeat refine W.g ?_
  exact q _ 2 X_ (λg=>absurd g.1 hn) (λ_=>rfl)
 by_cases c1:t.len<1
 ·repeat refine W.g ?_
  exact q _ 2 X_ (λg=>by have:=g.2.1;omega) (λ_=>rfl)
 by_cases c2:1099511627776<t.len
 ·repeat refine W.g ?_
  exact q _ 2 X_ (λg=>by have:=g.2.2.1;omega) (λ_=>rfl)
 by_cases c3:t.evr=0
 ·repeat refine W.g ?_
  exact q _ 0 X_ (λ_=>rfl) (λg=>absurd ⟨ha,by omega,by omega,.inl c3⟩ g)
 by_cases c4:t.evr<t.len
 ·repeat refine W.g ?_
  exact q _ 2 X_ (λg=>by rcases g.2.2.2 with g|g;exact absurd g c3;omega) (λ_=>rfl)
 by_cases c5:1099511627776<t.evr
 ·repeat refine W.g ?_
  exact q _ 2 X_ (λg=>by rcases g.2.2.2 with g|g;exact absurd g c3;omega) (λ_=>rfl)
 repeat refine W.g ?_
 exact q _ 0 X_ (λ_=>rfl) (λg=>absurd ⟨ha,by omega,by omega,.inr ⟨by omega,by omega⟩⟩ g)
theorem rjoined_w {h:Heap} {tm:Tm} {Q:R->Prop} {v:CV} {l:List (Int×Int)} (fr:Fresh h) (sl:Sl h v l) (hm:l.length<=1024)
  (q:∀h' v',Ext h h'->Q (.val v' h')):W E1 (.call (.fn 88 [] []) [v]) tm h Q:=by
 refine W.fn (s:=fnOf Tryz.f88) rfl rfl rfl rfl ?_;repeat refine W.g ?_
 refine W.loop (σ:=Nat) (λk tm h'=>Ext h h'/\tm.look 0=v/\tm.look 4= .int .i64 (k:Int)/\k<=l.length/\∃(vo:CV) (ws:List (Int×Int)),tm.look 3=vo/\ws.length<=k/\OwnR h' h.next 2 vo (ws.map Flat.enc)) (λk=>l.length-k) ?_ (s:=0)
  ⟨Ext.refl _,rfl,rfl,Nat.zero_le _,_,[],rfl,Nat.le_refl _,OwnR.nil⟩
 rintro k tm h' ⟨X,w0,w4,hk,vo,ws,w3,hw,O⟩;by_cases c1:k<l.length
 rotate_left
 ·skip
  obtain⟨T,rfl⟩:=Tm.t3 w0 w3 w4;clear w0 w3 w4;repeat refine W.g ?_
  exact q _ _ X
 have sl':=sl.ext X;rcases List.eq_nil_or_concat ws with rfl|⟨done,p,rfl⟩
 ·obtain⟨pv,nv,cv,xv,e⟩:=O.form
  have hnv:nv=0:=by
   rcases O with⟨_,ev⟩|⟨i,x,ro,ev,_⟩
   ·rw[e]at ev;cases ev;rfl
   ·rw[e]at ev;cases ev;rfl
  subst hnv;cases e;obtain⟨T,rfl⟩:=Tm.t3 w0 w3 w4;clear w0 w3 w4;repeat refine W.g ?_
  have ds:=DX.start (X.fr fr);repeat refine W.gd ?_
  repeat refine W.g ?_
  refine W.iz λi_ o_ L_=> ?_;repeat (first|refine W.g ?_|refine W.n λh_ X_ n_ g_ S_=> ?_)
  have S_:SlG _ 2 _ (([l[k]]:List (Int×Int)).map Flat.enc):=S_
  refine W.apR (H:=h) (z:=2) Ext.x (O.ext Ext.x) S_ rfl rfl rfl rfl rfl rfl rfl rfl rfl rfl rfl rfl (by
   simp only[List.length_map,List.length_cons,List.length_nil];show _*16<=_;omega) λv' h2 X2 O2=> ?_
  repeat refine W.g ?_
  exact⟨k+1,lessN c1,X2,rfl,rfl,c1,_,[l[k]],rfl,by simp,O2⟩
 ·have hl1:(done++[p]).length=done.length+1:=by rw[List.length_append];rfl
  have hl2:((done++[p]).map (Flat.enc:Int×Int->List CV)).length=done.length+1:=by rw[List.length_map];exact hl1
  rw[List.concat_eq_append]at O hw;have hp:((done++[p]).map (Flat.enc:Int×Int->List CV))[done.length]? =some (winE p):=by rw[List.getElem?_map,List.getElem?_append_right (Nat.le_refl _),Nat.sub_self];rfl
  obtain⟨io,c,x,ev,lo,li,hid,gi,hz⟩:=O.at (j:=done.length) (by omega);rw[hl2]at ev;subst ev;have hj:Int.ofNat (done.length+1)=(done.length:Int)+1:=rfl;obtain⟨T,rfl⟩:=Tm.t3 w0 w3 w4;clear w0 w3 w4;repeat refine W.g ?_
  have ds:=DX.start (X.fr fr);repeat refine W.gd ?_
  refine W.dixF sl' c1 rfl rfl rfl rfl rfl rfl rfl λi1 o1 L1=> ?_;repeat (first|refine W.gd ?_|refine W.e λr_ h_ ds_ s_=> ?_)
  refine W.dix rfl rfl rfl rfl rfl rfl rfl (place_of (j:=done.length) (by omega) (by omega)) ?_;repeat refine W.gd ?_
  have ds2:=ds_;refine W.dldZ ds2 rfl rfl rfl gi li rfl (v:= .int .i64 p.2) (flat_get hz hp rfl) λr2 h2 ds3 s3=> ?_;clear ds_ ds2;have X3:=ds3.x;by_cases c2:l[k].1<=p.2
  ·repeat refine W.gd ?_
   repeat refine W.g ?_
   have ds5:=DX.start ((X.trans X3).fr fr);clear ds ds3;repeat refine W.gd ?_
   refine W.dix rfl rfl rfl rfl rfl rfl rfl (place_of (j:=done.length) (by omega) (by omega)) ?_;repeat refine W.gd ?_
   refine W.dldZ ds5 rfl rfl rfl ((X3.old io li).trans gi) (Nat.lt_of_lt_of_le li X3.next) rfl (v:= .int .i64 p.2) (flat_get hz hp rfl) λr4 h4 ds7 s4=> ?_;repeat refine W.gd ?_
   refine W.dixF (sl'.ext X3) c1 rfl rfl rfl rfl rfl rfl rfl λi2 o2 L2=> ?_;repeat (first|refine W.gd ?_|refine W.e λr_ h_ ds_ s_=> ?_)
   refine W.dix rfl rfl rfl rfl rfl rfl rfl (place_of (j:=done.length) (by omega) (by omega)) ?_;repeat refine W.gd ?_
   have X4:=ds_.x;have XX:=X3.trans X4;refine W.dst (vs:=[.int .i64 (mx p.2 l[k].2)]) (cs':=(((done++[p]).map Flat.enc).set done.length ((winE p).set 1 (.int .i64 (mx p.2 l[k].2)))).flatten) ds_.hri rfl rfl rfl rfl rfl rfl rfl ((XX.old io li).trans gi) (flat_setAt hz (by decide) hp) λr5 J hr5 s5=> ?_;repeat refine W.gd ?_
   repeat refine W.g ?_
   have e5:((done++[p]).map (Flat.enc:Int×Int->List CV)).set done.length ((winE p).set 1 (.int .i64 (mx p.2 l[k].2)))=(done++[(p.1,mx p.2 l[k].2)]).map Flat.enc:=by
    rw[List.map_append,List.map_append,List.set_append_right _ _ (by rw[List.length_map];omega),List.length_map,Nat.sub_self];rfl
   have O2:=(O.ext XX).set (h':=J) (j:=done.length) (i:=io) (e:=(winE p).set 1 (.int .i64 (mx p.2 l[k].2))) (by omega) rfl (by rw[s5.next];rfl) hid (by rw[s5.get,put_same]);rw[e5]at O2;have XJ:Ext h J:=((X.trans XX).put lo (Nat.lt_of_lt_of_le li XX.next) _).trans s5.ext;exact⟨k+1,lessN c1,XJ,rfl,rfl,c1,_,_,rfl,by rw[List.length_append]at hw ⊢;exact Nat.le_succ_of_le hw,O2⟩
  ·repeat refine W.gd ?_
   repeat refine W.g ?_
   have sl2:=sl'.ext X3;refine W.iz λi_ o_ L_=> ?_;repeat (first|refine W.g ?_|refine W.n λh_ X_ n_ g_ S_=> ?_)
   have S_:SlG _ 2 _ (([l[k]]:List (Int×Int)).map Flat.enc):=S_
   refine W.apR (H:=h) (z:=2) (X.trans (X3.trans X_)) (O.ext (X3.trans X_)) S_ rfl rfl rfl rfl rfl rfl rfl rfl rfl rfl rfl rfl (by
    rw[hl2];simp only[List.length_map,List.length_cons,List.length_nil];show _*16<=_;omega) λv' h2 X2 O2=> ?_
   repeat refine W.g ?_
   exact⟨k+1,lessN c1,X2,rfl,rfl,c1,_,(done++[p])++[l[k]],rfl,by rw[List.length_append];exact Nat.succ_le_succ hw,by rw[List.map_append];exact O2⟩
theorem rwins_w {h:Heap} {tm:Tm} {Q:R->Prop} (t:Times) (hz:Int) (fr:Fresh h) (q:∀h' v,Ext h h'->Q (.val (.tup [v,.int .i64 (t.err hz)]) h')):W E1 (.call (.fn 33 [] []) [.agg t.enc,.int .i64 hz]) tm h Q:=by
 refine W.fn (s:=fnOf Tryz.f33) rfl rfl rfl rfl ?_;repeat (refine W.seq ?_)
 refine W.region ?_;refine W.box rfl rfl rfl λH XH nH gH LH=> ?_;repeat refine W.g ?_
 refine W.call rfl rfl rfl (rtimesCheck_w t λh1 e X1 e1 e2=> ?_);by_cases ok:t.ok
 rotate_left
 ·have e2:=e2 ok
  subst e2;have er:t.err hz=2:=if_pos ok;rw[er]at q;repeat refine W.g ?_
  exact q _ _ (XH.trans X1)
 have e1:=e1 ok;subst e1;refine W.k3 1 2 12 λT=> ?_;repeat refine W.g ?_
 refine W.call rfl rfl rfl (rtick_w hz (λtk=> ?_) λnt=> ?_)
 rotate_left
 ·have er:t.err hz=9:=by
    unfold Times.err;rw[if_neg (λg=>g ok),if_pos nt]
  rw[er]at q;repeat refine W.g ?_
  exact q _ _ (XH.trans X1)
 refine W.k3 1 2 16 λT=> ?_;repeat refine W.g ?_
 obtain⟨o1,o2,o3,o4⟩:=ok
 have oe:TickOk t.evr:=by
  rcases o4 with g|g
  ·rw[g];exact⟨by omega,by omega⟩
  ·exact⟨by omega,g.2⟩
 refine W.call rfl rfl rfl (rcount_w t.frm t.evr hz ?_);rw[if_pos ⟨o1,oe,tk⟩];obtain⟨n,hn⟩:∃n,n=countT t.frm t.evr hz:=⟨_,rfl⟩;rw[<-hn]
 have n0:0<=n:=by
  rw[hn];unfold countT;split
  ·omega
  ·split
   ·omega
   ·have:=Int.ediv_nonneg (a:=hz-t.frm) (b:=t.evr) (by omega) oe.1
    omega
 by_cases c1:256<n
 ·have er:t.err hz=3:=by
    unfold Times.err;rw[if_neg (λg=>g ⟨o1,o2,o3,o4⟩),if_neg (λg=>g tk),if_pos (by rw[<-hn];exact c1)]
  rw[er]at q;repeat refine W.g ?_
  exact q _ _ (XH.trans X1)
 have er:t.err hz=0:=by
  unfold Times.err;rw[if_neg (λg=>g ⟨o1,o2,o3,o4⟩),if_neg (λg=>g tk),if_neg (by rw[<-hn];exact c1)]
 rw[er]at q;obtain⟨m,hm⟩:∃m:Nat,n=(m:Int):=⟨n.toNat,by omega⟩;clear hn;subst hm;refine W.k3 1 2 25 λT=> ?_;repeat refine W.g ?_
 have f1:=o1.1;have f2:=o1.2;have g1:=oe.1;have g2:=oe.2
 refine W.loop (σ:=Nat) (λk tm h'=>Ext h1 h'/\tm.look 2= .ptr (some (h.next,0))/\tm.look 7= .int .i64 (m:Int)/\tm.look 9= .int .i64 (k:Int)/\k<=m/\∃vo,tm.look 8=vo/\OwnR h' h1.next 2 vo (((List.range k).map (winAt t)).map Flat.enc)) (λk=>m-k) ?_ (s:=0)
  ⟨Ext.refl _,rfl,rfl,rfl,Nat.zero_le _,_,rfl,OwnR.nil⟩
 rintro k tm h' ⟨X,w2,w7,w9,hk,vo,w8,O⟩;obtain⟨pv,nv,cv,xv,e⟩:=O.form;cases e;obtain⟨T,rfl⟩:=Tm.t4 w2 w7 w8 w9;clear w2 w7 w8 w9;by_cases c2:k<m
 ·have p0:0<=(k:Int)*t.evr:=Int.mul_nonneg (by omega) g1
  have p1:(k:Int)*t.evr<=256*1099511627776:=Int.mul_le_mul (by omega) g2 g1 (by omega);have p2: -9223372036854775808<=(k:Int)*t.evr:=by omega
  have p3:(k:Int)*t.evr<=9223372036854775807:=by omega
  repeat (first|refine W.g ?_|refine W.n λh_ X_ n_ g_ S_=> ?_)
  have S_:SlG _ 2 _ (([winAt t k]:List (Int×Int)).map Flat.enc):=S_
  refine W.apR (H:=h1) (z:=2) Ext.x (O.ext Ext.x) S_ rfl rfl rfl rfl rfl rfl rfl rfl rfl rfl rfl rfl (by
   simp only[List.length_map,List.length_cons,List.length_nil,List.length_range];show _*16<=_;omega) λv' h2 X2 O2=> ?_
  repeat refine W.g ?_
  exact⟨k+1,lessN c2,X2,rfl,rfl,rfl,c2,_,rfl,by rw[List.range_succ,List.map_append,List.map_append];exact O2⟩
 ·have sl:=Sl.of_map Flat.iff O.sl
  repeat refine W.g ?_
  refine W.call rfl rfl rfl (rjoined_w ((X1.trans X).fr (XH.fr fr)) sl (by rw[List.length_map,List.length_range];omega) λh3 v3 X3=> ?_);repeat refine W.g ?_
  exact q _ _ (XH.trans (X1.trans (X.trans X3)))
theorem rtimes_w {h:Heap} {tm:Tm} {Q:R->Prop} (t:Times) (hz:Int) (fr:Fresh h) (q:∀h',Ext h h'->Q (.val (.int .i64 (t.err hz)) h')):W E1 (.call (.fn 138 [] []) [.agg t.enc,.int .i64 hz]) tm h Q:=by
 refine W.fn (s:=fnOf Tryz.f138) rfl rfl rfl rfl ?_;repeat (refine W.seq ?_)
 refine W.region ?_;refine W.box rfl rfl rfl λH XH nH gH LH=> ?_;repeat refine W.g ?_
 refine W.call rfl rfl rfl (rwins_w t hz (XH.fr fr) λh1 v X1=> ?_);repeat refine W.g ?_
 exact q _ (XH.trans X1)
end
end Go.Proofs.YtfheibkikpefkaaGreatDoor

noncomputable section
namespace Go.CM
theorem SlG.ones {h:Heap} {i:Nat} {cs:List CV} (hi:i<h.next) (g:h.get i=some (.cells cs false)):SlG h 1 (.slice (some (i,0)) cs.length cs.length 0) (cs.map λc=>[c]):=by
 refine .inr (.inr ⟨i,0,cs.length,0,cs,false,by rw[List.length_map],hi,g,λj e he=> ?_,by rw[List.length_map];exact Nat.le_refl _,.inl rfl⟩)
 have hz:∀e∈cs.map λc=>[c],e.length=1:=λe he=>by
  obtain⟨c,_,rfl⟩:=List.mem_map.1 he;rfl
 refine⟨hz e (List.mem_of_getElem? he),?_⟩;have:=flat_cut hz he;rwa[flatten_ones]at this
section
variable {h h' H:Heap} {z:Nat} {l:List (List CV)} {E:Env} {tm:Tm} {Q:R->Prop} {all rest:List Oper} {o:Oper} {B:Nat->Prop} {bs:List Bits} {recs:List Rec} {i:Nat} {idx nr:List Nat}
theorem DV.pairsR {ahead:Bits} {fp:List Nat} {news:List Nat} (hnew:∀k∈news,h.next<=k) (hnr:∀j∈nr,bit j ahead=true):∀{recs:List Rec},(∀r∈recs,recIdx r∈nr\/∃i fp lo,r= .op i fp false lo lo/\(∀k∈fp,B k)/\∀k∈fp,k<h.next)->okPairs ahead fp false news recs=true
 |[],_=>rfl
 |r::rs,hr=>by
  unfold okPairs;have ih:=DV.pairsR (fp:=fp) (news:=news) hnew hnr (recs:=rs) λx hx=>hr x (List.mem_cons_of_mem _ hx);rcases hr r (by simp)with h1|⟨i,fp',lo,rfl,h2,h3⟩
  ·rw[hnr _ h1,ih]
   cases okPair fp false news r<;>rfl
  ·have:okPair fp false news (.op i fp' false lo lo)=true:=by
     rw[okPair_op,all1_each λk hk=>by
      unfold opApart;rw[within_self];rfl]
     show all1 news (λk=> !mem k fp')=true;refine all1_each λk hk=> ?_;rw[mem_false λx hx e=>by have:=h3 x hx;have:=hnew k hk;omega];rfl
   rw[this];exact ih
theorem W.apVs {c:Call} {t t2 e:TypeId} {ts es t2s:TyS} {s s2:CV} {l2:List (List CV)} (dv:DV B h idx nr recs) (X:Ext H h) (so:OwnR h H.next z s l) (s2l:SlG h z s2 l2) (hB:∀b,B b->b∉idOf s) (hid:(nr.all λj=>bit j ((nth bs i).getD Bits.nil))=true)
  (hgd:guardOn all tm o=some true) (hop:o.op= .call c) (hb:c.callee= .builtin .append) (hty:c.argTypes.toList=[t,t2]) (ha:c.args.toList.map (cvOf E.globs tm)=[s,s2])
  (hts:E.ty t=some ts) (hk:ts.kind= .slice e) (hes:E.ty e=some es) (hz:es.size=z) (hz0:(Nat.beq es.size 0||Nat.beq es.bytes 0)=false) (ht2:E.ty t2=some t2s) (hk2:t2s.kind= .slice e) (hm:(l.length+l2.length)*es.bytes<=70368744177664)
  (w:∀recs' v' h',DV B h' (i::idx) (i::nr) recs'->Ext H h'->(∀b,B b->h'.get b=h.get b)->h.next<=h'.next->OwnR h' H.next z v' (l++l2)->(∀c,c<h.next->idOf s≠[c]->idOf v'≠[c])->W E (.draw bs all rest (i+1) recs') (putTmp tm o.dst v') h' Q):W E (.draw bs all (o::rest) i recs) tm h Q:=by
 have d:=dv.d;have hnr:∀j∈nr,bit j ((nth bs i).getD Bits.nil)=true:=λj hj=>List.all_eq_true.1 hid j hj;refine W.apC (λn _=>⟨DV.pairsR (λk hk=>((mem_span _ _ _).1 hk).1) hnr dv.r,DV.pairs hB (λk hk=>((mem_span _ _ _).1 hk).1) hnr dv.r⟩) X so s2l hgd hop hb hty ha hts hk hes hz hz0 ht2 hk2 hm λrecs' v' h' hr hlt X' nn kk O' kid _=> ?_;refine w recs' v' h' ?_ X' (λb hb=>kk b (d.b b hb) (.inr λe=>hB b hb (by rw[e];simp))) nn O' kid;rcases hr with rfl|⟨lo,hi,rfl,rfl⟩
 ·exact⟨⟨λr hr=>⟨List.mem_cons_of_mem _ (d.r r hr).1,by obtain⟨i,fp,ws,lo,hi,h2,h3,h4⟩:=(d.r r hr).2;exact⟨i,fp,ws,lo,hi,h2,λk hk=>Nat.lt_of_lt_of_le (h3 k hk) nn,h4⟩⟩,λb hb=>Nat.lt_of_lt_of_le (d.b b hb) nn⟩,λr hr=>(dv.r r hr).imp (List.mem_cons_of_mem _) λ⟨i,fp,lo,h1,h2,h3⟩=>⟨i,fp,lo,h1,h2,λk hk=>Nat.lt_of_lt_of_le (h3 k hk) nn⟩⟩
 ·exact dv.more (d.tail nn rfl ⟨_,_,_,_,_,.inl rfl,λk hk=>Nat.lt_of_lt_of_le (hlt k hk) nn,λb hb=>⟨d.b b hb,hB b hb⟩⟩) nn (.inl (by simp[recIdx])) λj hj=>List.mem_cons_of_mem _ hj
end
end Go.CM

namespace Go.Proofs.YtfheibkikpefkaaGreatDoor
open Go Go.CM Go.CM.Tt
noncomputable section
set_option maxHeartbeats 16000000
theorem rnames_w {h:Heap} {tm:Tm} {Q:R->Prop} {cs:List CV} {x:SheetD} (r:Rp.R h cs x) (fr:Fresh h) (few:x.few) (hl:x.all.length<=1073741824)
  (q:∀h' v',Ext h h'->Sl h' v' x.all->Q (.val v' h')):W E1 (.call (.fn 131 [] []) [.agg cs]) tm h Q:=by
 obtain⟨v1,v2,v3,v4,v5,v6,rfl,s1,s2,s3,s4,s5,s6⟩:=r;obtain⟨f1,f2,f3,f4,f5,f6⟩:=few;refine W.fn (s:=fnOf Tryz.f131) rfl rfl rfl rfl ?_;unfold SheetD.all at hl q;obtain⟨pA,hpA⟩:∃pA,pA=x.paths.flatMap λp=>[p.name,p.a,p.b]:=⟨_,rfl⟩;obtain⟨dA,hdA⟩:∃dA,dA=x.doors.flatMap λd=>[d.name,d.a,d.b]:=⟨_,rfl⟩;obtain⟨rA,hrA⟩:∃rA,rA=x.routes.flatMap λr=>r.name::r.stops:=⟨_,rfl⟩;obtain⟨tA,htA⟩:∃tA,tA=x.trips.flatMap λt=>[t.name,t.route]:=⟨_,rfl⟩;obtain⟨hA,hhA⟩:∃hA,hA=x.hazards.flatMap λh=>[h.name,h.on]:=⟨_,rfl⟩;rw[<-hpA,<-hdA,<-hrA,<-htA,<-hhA]at hl q;simp only[List.length_append]at hl;repeat (refine W.seq ?_)
 refine W.region ?_;refine W.box rfl rfl rfl λH XH nH gH LH=> ?_;repeat (first|refine W.g ?_|refine W.n λh_ X_ n_ g_ S_=> ?_)
 have sg:=(Sl.to_map Flat.iff s1).ext (XH.trans X_);refine W.apR X_ (z:=1) (l:=[]) (l2:=x.stops.map Flat.enc) (.inr ⟨H.next,0,false,rfl,Nat.le_refl _,by omega,g_,λe he=>(by cases he),.inl ⟨rfl,.inl rfl⟩⟩) sg rfl rfl rfl rfl rfl rfl rfl rfl rfl rfl rfl rfl (by rw[List.length_map];show(0+_)*16<=_;omega) λvo h1 X1 O=> ?_;rw[List.nil_append]at O;have t2:=s2.ext XH;have t3:=s3.ext XH;have t4:=s4.ext XH;have t5:=s5.ext XH;have t6:=s6.ext XH;clear s1 s2 s3 s4 s5 s6 sg X_ g_ S_ n_;obtain⟨pv,nv,cv,xv,e⟩:=O.form;cases e;have X:=X1;repeat refine W.g ?_
 refine W.k3 1 3 4 λT=> ?_
 refine W.loop (σ:=Nat) (λk tm h'=>Ext H h'/\tm.look 1= .ptr (some (h.next,0))/\tm.look 4= .int .i64 (k:Int)/\k<=x.paths.length/\∃vo,tm.look 3=vo/\OwnR h' H.next 1 vo ((x.stops++(x.paths.take k).flatMap (λp=>[p.name,p.a,p.b])).map Flat.enc)) (λk=>x.paths.length-k) ?_ (s:=0)
  ⟨Ext.x,rfl,rfl,Nat.zero_le _,_,rfl,by rw[List.take_zero,List.flatMap_nil,List.append_nil];exact O⟩
 clear O X;rintro k tm h' ⟨X,w1,w4,hk,vo,w3,O⟩;obtain⟨pv,nv,cv,xv,e⟩:=O.form;cases e;obtain⟨T,rfl⟩:=Tm.t3 w1 w3 w4;clear w1 w3 w4;by_cases c1:k<x.paths.length
 ·repeat refine W.g ?_
  have hfl:=flat_le (l:=x.paths) (f:=(λp=>[p.name,p.a,p.b])) (k:=k+1);rw[take_flat c1]at hfl;simp only[List.length_append,List.length_cons,List.length_nil]at hfl;rw[<-hpA]at hfl;have ds:=DX.start ((XH.trans X).fr fr);repeat (first|refine W.gd ?_|refine W.e λr_ h_ ds_ s_=> ?_)
  refine W.dixF t2 c1 rfl rfl rfl rfl rfl rfl rfl λi0 o0 L0=> ?_;repeat (first|refine W.gd ?_|refine W.e λr_ h_ ds_ s_=> ?_)
  refine W.dixF t2 c1 rfl rfl rfl rfl rfl rfl rfl λi1 o1 L1=> ?_;repeat (first|refine W.gd ?_|refine W.e λr_ h_ ds_ s_=> ?_)
  refine W.dixF t2 c1 rfl rfl rfl rfl rfl rfl rfl λi2 o2 L2=> ?_;repeat (first|refine W.gd ?_|refine W.e λr_ h_ ds_ s_=> ?_)
  refine W.dnewZ ds_ rfl rfl rfl rfl λq2 g2 ds2 x2 n2 gg2=> ?_;have gg2:g2.get h_.next=some (.cells [.str x.paths[k].name,.str x.paths[k].a,.str x.paths[k].b] false):=gg2;have S_:SlG g2 1 (.slice (some (h_.next,0)) 3 3 0) (([x.paths[k].name,x.paths[k].a,x.paths[k].b]:List Str).map Flat.enc):=SlG.ones (by omega) gg2
  refine W.apD (H:=H) (z:=1) ds2.hri (X.trans ds2.x) (O.ext ds2.x) S_ rfl rfl rfl rfl rfl rfl rfl rfl rfl rfl rfl rfl rfl (by
   simp only[List.length_map,List.length_append,List.length_cons,List.length_nil];show _*16<=_;omega) λq3 v3 g3 hr3 X3 n3 k3 O3 _ i3=> ?_
  obtain⟨pv,nv,cv,xv,e⟩:=O3.form;cases e;repeat refine W.gd ?_
  repeat refine W.g ?_
  exact⟨k+1,lessN c1,X3,rfl,rfl,c1,_,rfl,by rw[take_flat c1,<-List.append_assoc,map_app];exact O3⟩
 repeat refine W.g ?_
 rw[show k=x.paths.length by omega,List.take_length,<-hpA]at O;refine W.k3 1 3 5 λT=> ?_
 refine W.loop (σ:=Nat) (λk tm h'=>Ext H h'/\tm.look 1= .ptr (some (h.next,0))/\tm.look 5= .int .i64 (k:Int)/\k<=x.doors.length/\∃vo,tm.look 3=vo/\OwnR h' H.next 1 vo (((x.stops++pA)++(x.doors.take k).flatMap (λd=>[d.name,d.a,d.b])).map Flat.enc)) (λk=>x.doors.length-k) ?_ (s:=0)
  ⟨Ext.x,rfl,rfl,Nat.zero_le _,_,rfl,by rw[List.take_zero,List.flatMap_nil,List.append_nil];exact O⟩
 clear O X;rintro k tm h' ⟨X,w1,w5,hk,vo,w3,O⟩;obtain⟨pv,nv,cv,xv,e⟩:=O.form;cases e;obtain⟨T,rfl⟩:=Tm.t3 w1 w3 w5;clear w1 w3 w5;by_cases c1:k<x.doors.length
 ·repeat refine W.g ?_
  have hfl:=flat_le (l:=x.doors) (f:=(λd=>[d.name,d.a,d.b])) (k:=k+1);rw[take_flat c1]at hfl;simp only[List.length_append,List.length_cons,List.length_nil]at hfl;rw[<-hdA]at hfl;have ds:=DX.start ((XH.trans X).fr fr);repeat (first|refine W.gd ?_|refine W.e λr_ h_ ds_ s_=> ?_)
  refine W.dixF t3 c1 rfl rfl rfl rfl rfl rfl rfl λi0 o0 L0=> ?_;repeat (first|refine W.gd ?_|refine W.e λr_ h_ ds_ s_=> ?_)
  refine W.dixF t3 c1 rfl rfl rfl rfl rfl rfl rfl λi1 o1 L1=> ?_;repeat (first|refine W.gd ?_|refine W.e λr_ h_ ds_ s_=> ?_)
  refine W.dixF t3 c1 rfl rfl rfl rfl rfl rfl rfl λi2 o2 L2=> ?_;repeat (first|refine W.gd ?_|refine W.e λr_ h_ ds_ s_=> ?_)
  refine W.dnewZ ds_ rfl rfl rfl rfl λq2 g2 ds2 x2 n2 gg2=> ?_;have gg2:g2.get h_.next=some (.cells [.str x.doors[k].name,.str x.doors[k].a,.str x.doors[k].b] false):=gg2;have S_:SlG g2 1 (.slice (some (h_.next,0)) 3 3 0) (([x.doors[k].name,x.doors[k].a,x.doors[k].b]:List Str).map Flat.enc):=SlG.ones (by omega) gg2
  refine W.apD (H:=H) (z:=1) ds2.hri (X.trans ds2.x) (O.ext ds2.x) S_ rfl rfl rfl rfl rfl rfl rfl rfl rfl rfl rfl rfl rfl (by
   simp only[List.length_map,List.length_append,List.length_cons,List.length_nil];show _*16<=_;omega) λq3 v3 g3 hr3 X3 n3 k3 O3 _ i3=> ?_
  obtain⟨pv,nv,cv,xv,e⟩:=O3.form;cases e;repeat refine W.gd ?_
  repeat refine W.g ?_
  exact⟨k+1,lessN c1,X3,rfl,rfl,c1,_,rfl,by rw[take_flat c1,<-List.append_assoc,map_app];exact O3⟩
 repeat refine W.g ?_
 rw[show k=x.doors.length by omega,List.take_length,<-hdA]at O;refine W.k3 1 3 6 λT=> ?_
 refine W.loop (σ:=Nat) (λk tm h'=>Ext H h'/\tm.look 1= .ptr (some (h.next,0))/\tm.look 6= .int .i64 (k:Int)/\k<=x.routes.length/\∃vo,tm.look 3=vo/\OwnR h' H.next 1 vo ((((x.stops++pA)++dA)++(x.routes.take k).flatMap (λr=>r.name::r.stops)).map Flat.enc)) (λk=>x.routes.length-k) ?_ (s:=0)
  ⟨Ext.x,rfl,rfl,Nat.zero_le _,_,rfl,by rw[List.take_zero,List.flatMap_nil,List.append_nil];exact O⟩
 clear O X;rintro k tm h' ⟨X,w1,w6,hk,vo,w3,O⟩;obtain⟨pv,nv,cv,xv,e⟩:=O.form;cases e;obtain⟨T,rfl⟩:=Tm.t3 w1 w3 w6;clear w1 w3 w6;by_cases c1:k<x.routes.length
 ·repeat refine W.g ?_
  have hfl:=flat_le (l:=x.routes) (f:=(λr=>r.name::r.stops)) (k:=k+1);rw[take_flat c1]at hfl;simp only[List.length_append,List.length_cons,List.length_nil]at hfl;rw[<-hrA]at hfl;have dy:DY (λb=>b<H.next) h' [] []:=DY.start (λb hb=>Nat.lt_of_lt_of_le hb X.next);have hbx:h.next<H.next:=by omega
  have xn:=X.next;try refine W.dv ?_
  refine W.ldY dy hbx (LH.ext X) rfl rfl rfl rfl rfl rfl rfl λr1 ha dy sa _=> ?_;try refine W.dv ?_
  refine W.dixR t4 c1 rfl rfl rfl rfl rfl rfl rfl λi1 o1 e1 L1 re=> ?_;have hlen:=Rp.len re;have hi1:i1<H.next:=by obtain⟨_,_,_,g,_⟩:=L1;exact g
  obtain⟨u1,u2,u3,rfl,y1,y2,y3⟩:=re;have Xa:=X.trans sa.ext;have na:=sa.next;try refine W.dv ?_
  refine W.ldY (k:=0) dy hi1 (L1.ext Xa) rfl rfl rfl rfl rfl rfl rfl λr2 hb dy sb _=> ?_;have nb:=sb.next;try refine W.dv ?_
  refine W.newY dy rfl rfl rfl rfl λr3 hc dy xc nc gc=> ?_;have gc:hc.get hb.next=some (.cells (Flat.enc x.routes[k].name) false):=gc;have Xc:=(sa.ext.trans sb.ext).trans xc;try refine W.dv ?_
  refine W.apY (H:=H) (z:=1) (l2:=[Flat.enc x.routes[k].name]) dy (X.trans Xc) (O.ext Xc) (SlG.one (by omega) gc) (λb hb2=> ?_) rfl rfl rfl rfl rfl rfl rfl rfl rfl rfl rfl rfl rfl (by
   simp only[List.length_map,List.length_append,List.length_cons,List.length_nil];show _*16<=_;omega) λr4 v4' hd dy Xd bd nd O3 _=> ?_
  ·intro hm
   rcases List.mem_append.1 hm with hm|hm
   ·have:=OwnR.ids O b hm;omega
   ·have:b=hb.next:=by simpa[idOf]using hm
    omega
  obtain⟨pv,nv,cv,xv,e⟩:=O3.form;cases e;try refine W.dv ?_
  refine W.ldY dy hbx (LH.ext Xd) rfl rfl rfl rfl rfl rfl rfl λr5 he dy se _=> ?_;have Xe:=Xd.trans se.ext;try refine W.dv ?_
  refine W.dixR t4 c1 rfl rfl rfl rfl rfl rfl rfl λi2 o2 e2 L2 re2=> ?_;have hlen2:=Rp.len re2;have hi2:i2<H.next:=by obtain⟨_,_,_,g,_⟩:=L2;exact g
  obtain⟨z1,z2,z3,rfl,y1,y2,y3⟩:=re2;try refine W.dv ?_
  refine W.ldY (k:=1) dy hi2 (L2.ext Xe) rfl rfl rfl rfl rfl rfl rfl λr6 hf dy sf _=> ?_;have Xf:=Xe.trans sf.ext;try refine W.dv ?_
  refine W.apY (H:=H) (z:=1) (l2:=x.routes[k].stops.map Flat.enc) dy.drop Xf (O3.ext (se.ext.trans sf.ext)) ((Sl.to_map Flat.iff y1).ext Xf) (λb hb2=>hb2.elim) rfl rfl rfl rfl rfl rfl rfl rfl rfl rfl rfl rfl rfl (by
   simp only[List.length_map,List.length_append,List.length_cons,List.length_nil];show _*16<=_;omega) λr7 v5' hg dy Xg bg ng O5 _=> ?_
  obtain⟨pv,nv,cv,xv,e⟩:=O5.form;cases e;try refine W.dv ?_
  repeat refine W.g ?_
  exact⟨k+1,lessN c1,Xg,rfl,rfl,c1,_,rfl,by rw[take_flat c1,<-List.append_assoc,map_app,List.map_cons];rw[List.append_assoc]at O5;exact O5⟩
 repeat refine W.g ?_
 rw[show k=x.routes.length by omega,List.take_length,<-hrA]at O;refine W.k3 1 3 7 λT=> ?_
 refine W.loop (σ:=Nat) (λk tm h'=>Ext H h'/\tm.look 1= .ptr (some (h.next,0))/\tm.look 7= .int .i64 (k:Int)/\k<=x.trips.length/\∃vo,tm.look 3=vo/\OwnR h' H.next 1 vo (((((x.stops++pA)++dA)++rA)++(x.trips.take k).flatMap (λt=>[t.name,t.route])).map Flat.enc)) (λk=>x.trips.length-k) ?_ (s:=0)
  ⟨Ext.x,rfl,rfl,Nat.zero_le _,_,rfl,by rw[List.take_zero,List.flatMap_nil,List.append_nil];exact O⟩
 clear O X;rintro k tm h' ⟨X,w1,w7,hk,vo,w3,O⟩;obtain⟨pv,nv,cv,xv,e⟩:=O.form;cases e;obtain⟨T,rfl⟩:=Tm.t3 w1 w3 w7;clear w1 w3 w7;by_cases c1:k<x.trips.length
 ·repeat refine W.g ?_
  have hfl:=flat_le (l:=x.trips) (f:=(λt=>[t.name,t.route])) (k:=k+1);rw[take_flat c1]at hfl;simp only[List.length_append,List.length_cons,List.length_nil]at hfl;rw[<-htA]at hfl;have ds:=DX.start ((XH.trans X).fr fr);repeat (first|refine W.gd ?_|refine W.e λr_ h_ ds_ s_=> ?_)
  refine W.dixF t5 c1 rfl rfl rfl rfl rfl rfl rfl λi0 o0 L0=> ?_;repeat (first|refine W.gd ?_|refine W.e λr_ h_ ds_ s_=> ?_)
  refine W.dixF t5 c1 rfl rfl rfl rfl rfl rfl rfl λi1 o1 L1=> ?_;repeat (first|refine W.gd ?_|refine W.e λr_ h_ ds_ s_=> ?_)
  refine W.dnewZ ds_ rfl rfl rfl rfl λq2 g2 ds2 x2 n2 gg2=> ?_;have gg2:g2.get h_.next=some (.cells [.str x.trips[k].name,.str x.trips[k].route] false):=gg2;have S_:SlG g2 1 (.slice (some (h_.next,0)) 2 2 0) (([x.trips[k].name,x.trips[k].route]:List Str).map Flat.enc):=SlG.ones (by omega) gg2
  refine W.apD (H:=H) (z:=1) ds2.hri (X.trans ds2.x) (O.ext ds2.x) S_ rfl rfl rfl rfl rfl rfl rfl rfl rfl rfl rfl rfl rfl (by
   simp only[List.length_map,List.length_append,List.length_cons,List.length_nil];show _*16<=_;omega) λq3 v3 g3 hr3 X3 n3 k3 O3 _ i3=> ?_
  obtain⟨pv,nv,cv,xv,e⟩:=O3.form;cases e;repeat refine W.gd ?_
  repeat refine W.g ?_
  exact⟨k+1,lessN c1,X3,rfl,rfl,c1,_,rfl,by rw[take_flat c1,<-List.append_assoc,map_app];exact O3⟩
 repeat refine W.g ?_
 rw[show k=x.trips.length by omega,List.take_length,<-htA]at O;refine W.k3 1 3 8 λT=> ?_
 refine W.loop (σ:=Nat) (λk tm h'=>Ext H h'/\tm.look 1= .ptr (some (h.next,0))/\tm.look 8= .int .i64 (k:Int)/\k<=x.hazards.length/\∃vo,tm.look 3=vo/\OwnR h' H.next 1 vo ((((((x.stops++pA)++dA)++rA)++tA)++(x.hazards.take k).flatMap (λh=>[h.name,h.on])).map Flat.enc)) (λk=>x.hazards.length-k) ?_ (s:=0)
  ⟨Ext.x,rfl,rfl,Nat.zero_le _,_,rfl,by rw[List.take_zero,List.flatMap_nil,List.append_nil];exact O⟩
 clear O X;rintro k tm h' ⟨X,w1,w8,hk,vo,w3,O⟩;obtain⟨pv,nv,cv,xv,e⟩:=O.form;cases e;obtain⟨T,rfl⟩:=Tm.t3 w1 w3 w8;clear w1 w3 w8;by_cases c1:k<x.hazards.length
 ·repeat refine W.g ?_
  have hfl:=flat_le (l:=x.hazards) (f:=(λh=>[h.name,h.on])) (k:=k+1);rw[take_flat c1]at hfl;simp only[List.length_append,List.length_cons,List.length_nil]at hfl;rw[<-hhA]at hfl;have ds:=DX.start ((XH.trans X).fr fr);repeat (first|refine W.gd ?_|refine W.e λr_ h_ ds_ s_=> ?_)
  refine W.dixF t6 c1 rfl rfl rfl rfl rfl rfl rfl λi0 o0 L0=> ?_;repeat (first|refine W.gd ?_|refine W.e λr_ h_ ds_ s_=> ?_)
  refine W.dixF t6 c1 rfl rfl rfl rfl rfl rfl rfl λi1 o1 L1=> ?_;repeat (first|refine W.gd ?_|refine W.e λr_ h_ ds_ s_=> ?_)
  refine W.dnewZ ds_ rfl rfl rfl rfl λq2 g2 ds2 x2 n2 gg2=> ?_;have gg2:g2.get h_.next=some (.cells [.str x.hazards[k].name,.str x.hazards[k].on] false):=gg2;have S_:SlG g2 1 (.slice (some (h_.next,0)) 2 2 0) (([x.hazards[k].name,x.hazards[k].on]:List Str).map Flat.enc):=SlG.ones (by omega) gg2
  refine W.apD (H:=H) (z:=1) ds2.hri (X.trans ds2.x) (O.ext ds2.x) S_ rfl rfl rfl rfl rfl rfl rfl rfl rfl rfl rfl rfl rfl (by
   simp only[List.length_map,List.length_append,List.length_cons,List.length_nil];show _*16<=_;omega) λq3 v3 g3 hr3 X3 n3 k3 O3 _ i3=> ?_
  obtain⟨pv,nv,cv,xv,e⟩:=O3.form;cases e;repeat refine W.gd ?_
  repeat refine W.g ?_
  exact⟨k+1,lessN c1,X3,rfl,rfl,c1,_,rfl,by rw[take_flat c1,<-List.append_assoc,map_app];exact O3⟩
 repeat refine W.g ?_
 rw[show k=x.hazards.length by omega,List.take_length,<-hhA]at O;exact q _ _ (XH.trans X) (Sl.of_map Flat.iff O.sl)
end
end Go.Proofs.YtfheibkikpefkaaGreatDoor
