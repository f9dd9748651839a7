/- A sheet's things with numbers in the place of names: the closures. No condition but that memory beyond the next number is empty. -/
import Derived.Test.YtnjkaahbhebaeaaGreatDoorXU
import Derived.Test.YtnjkaahbhebaeaaGreatDoorYI
set_option linter.unusedVariables false
set_option linter.unusedSimpArgs false
set_option maxRecDepth 100000
namespace Go.Proofs.YtnjkaahbhebaeaaGreatDoor
open Go Go.CM Go.CM.Tt
noncomputable section
set_option maxHeartbeats 8000000
theorem name1_w {h:Heap} {tm:Tm} {Q:R->Prop} (d:PathS) (q:∀h',Ext h h'->Q (.val (.str d.name) h')):W E1 (.call (.fn 259 [] []) [.agg d.enc]) tm h Q:=by
 refine W.fn (s:=fnOf Tryz.f259) rfl rfl rfl rfl ?_;repeat (first|refine W.g ?_|refine W.m λh_ X_ n_ g_ L_=> ?_)
 exact q _ X_
theorem name2_w {h:Heap} {tm:Tm} {Q:R->Prop} (d:DoorS) (q:∀h',Ext h h'->Q (.val (.str d.name) h')):W E1 (.call (.fn 261 [] []) [.agg d.enc]) tm h Q:=by
 refine W.fn (s:=fnOf Tryz.f261) rfl rfl rfl rfl ?_;repeat (first|refine W.g ?_|refine W.m λh_ X_ n_ g_ L_=> ?_)
 exact q _ X_
theorem name4_w {h:Heap} {tm:Tm} {Q:R->Prop} (d:TripS) (q:∀h',Ext h h'->Q (.val (.str d.name) h')):W E1 (.call (.fn 265 [] []) [.agg d.enc]) tm h Q:=by
 refine W.fn (s:=fnOf Tryz.f265) rfl rfl rfl rfl ?_;repeat (first|refine W.g ?_|refine W.m λh_ X_ n_ g_ L_=> ?_)
 exact q _ X_
theorem name5_w {h:Heap} {tm:Tm} {Q:R->Prop} (d:HazS) (q:∀h',Ext h h'->Q (.val (.str d.name) h')):W E1 (.call (.fn 267 [] []) [.agg d.enc]) tm h Q:=by
 refine W.fn (s:=fnOf Tryz.f267) rfl rfl rfl rfl ?_;repeat (first|refine W.g ?_|refine W.m λh_ X_ n_ g_ L_=> ?_)
 exact q _ X_
theorem name3_w {h:Heap} {tm:Tm} {Q:R->Prop} {e:List CV} {d:RouteS} (r:Rp.R h e d) (q:∀h',Ext h h'->Q (.val (.str d.name) h')):W E1 (.call (.fn 263 [] []) [.agg e]) tm h Q:=by
 obtain⟨u1,u2,u3,rfl,t1,t2,t3⟩:=r;refine W.fn (s:=fnOf Tryz.f263) rfl rfl rfl rfl ?_;repeat (first|refine W.g ?_|refine W.m λh_ X_ n_ g_ L_=> ?_)
 exact q _ X_
theorem place_w {h:Heap} {tm:Tm} {Q:R->Prop} {v:CV} {l:List Str} (s:Str) (sl:Sl h v l) (hm:l.length<=1099511627776)
  (q:Q (.val (.int .i64 (place l s)) h)):W E1 (.call (.fn 269 [] []) [v,.str s]) tm h Q:=by
 refine W.fn (s:=fnOf Tryz.f269) rfl rfl rfl rfl ?_;repeat refine W.g ?_
 refine W.call rfl rfl rfl (index_w s sl hm ?_);repeat refine W.g ?_
 exact q
theorem stop_w {H h:Heap} {tm:Tm} {Q:R->Prop} {b:Nat} {c0 v:CV} {rest:List CV} {l:List Str} (L:LocE H b 0 (c0::v::rest)) (sl:Sl H v l) (X:Ext H h) (s:Str) (hm:l.length<=1099511627776)
  (q:Q (.val (.int .i64 (place l s)) h)):W E1 (.call (.fn 268 [] [.ptr (some (b,0))]) [.str s]) tm h Q:=by
 refine W.fn (s:=fnOf Tryz.f268) rfl rfl rfl rfl ?_;repeat refine W.g ?_
 refine W.call rfl rfl rfl (place_w s (sl.ext X) hm ?_);repeat refine W.g ?_
 exact q
theorem num7_w {H h:Heap} {tm:Tm} {Q:R->Prop} {b b5:Nat} {c0 v:CV} {rest:List CV} {l:List Str} (L:LocE H b 0 (c0::v::rest)) (L5:LocE H b5 0 [.fn 268 [] [.ptr (some (b,0))]]) (sl:Sl H v l) (X:Ext H h) (fr:Fresh h) (d:PathS) (hm:l.length<=1099511627776)
  (q:∀h',Ext h h'->Q (.val (.agg (d.num l).enc) h')):W E1 (.call (.fn 271 [] [.ptr (some (b5,0))]) [.agg d.enc]) tm h Q:=by
 refine W.fn (s:=fnOf Tryz.f271) rfl rfl rfl rfl ?_;repeat (first|refine W.g ?_|refine W.m λh_ X_ n_ g_ L_=> ?_)
 rename_i ha Xa na ga La;have Xh:Ext h h_:=Xa.trans X_;have ds:=DX.start (Xh.fr fr);repeat (first|refine W.gd ?_|refine W.e λr_ h_ ds_ s_=> ?_)
 have X1:Ext H h_:=(X.trans Xh).trans ds_.x;refine W.dcallZ ds_ rfl rfl rfl rfl (stop_w L sl X1 d.a hm (DZ.val (Ext.refl _) λr1 h1 ds1 s1=> ?_));clear ds_ ds;repeat (first|refine W.gd ?_|refine W.e λr_ h_ ds_ s_=> ?_)
 have X2:Ext H h_:=(X.trans Xh).trans ds_.x;refine W.dcallZ ds_ rfl rfl rfl rfl (stop_w L sl X2 d.b hm (DZ.val (Ext.refl _) λr2 h2 ds2 s2=> ?_));clear ds_ ds1;repeat (first|refine W.gd ?_|refine W.e λr_ h_ ds_ s_=> ?_)
 refine W.dst (vs:=(d.num l).enc) (cs':=(d.num l).enc) ds_.hri rfl rfl rfl rfl rfl rfl rfl ((ds_.x.old ha.next (by omega)).trans g_) rfl λr4 h4 hr4 s4=> ?_;have g4:h4.get ha.next=some (.cells (d.num l).enc false):=by rw[s4.get,put_same]
 have nx:=ds_.x.next;have Xf:Ext h h4:=((Xh.trans ds_.x).put (by omega) (by omega) _).trans s4.ext;repeat refine W.gd ?_
 repeat refine W.g ?_
 refine BodyQ.cell1 rfl rfl g4 rfl rfl ?_;exact q _ Xf
theorem num8_w {H h:Heap} {tm:Tm} {Q:R->Prop} {b b5:Nat} {c0 v:CV} {rest:List CV} {l:List Str} (L:LocE H b 0 (c0::v::rest)) (L5:LocE H b5 0 [.fn 268 [] [.ptr (some (b,0))]]) (sl:Sl H v l) (X:Ext H h) (fr:Fresh h) (d:DoorS) (hm:l.length<=1099511627776)
  (q:∀h',Ext h h'->Q (.val (.agg (d.num l).enc) h')):W E1 (.call (.fn 273 [] [.ptr (some (b5,0))]) [.agg d.enc]) tm h Q:=by
 refine W.fn (s:=fnOf Tryz.f273) rfl rfl rfl rfl ?_;repeat (first|refine W.g ?_|refine W.m λh_ X_ n_ g_ L_=> ?_)
 rename_i ha Xa na ga La;have Xh:Ext h h_:=Xa.trans X_;have ds:=DX.start (Xh.fr fr);repeat (first|refine W.gd ?_|refine W.e λr_ h_ ds_ s_=> ?_)
 have X1:Ext H h_:=(X.trans Xh).trans ds_.x;refine W.dcallZ ds_ rfl rfl rfl rfl (stop_w L sl X1 d.a hm (DZ.val (Ext.refl _) λr1 h1 ds1 s1=> ?_));clear ds_ ds;repeat (first|refine W.gd ?_|refine W.e λr_ h_ ds_ s_=> ?_)
 have X2:Ext H h_:=(X.trans Xh).trans ds_.x;refine W.dcallZ ds_ rfl rfl rfl rfl (stop_w L sl X2 d.b hm (DZ.val (Ext.refl _) λr2 h2 ds2 s2=> ?_));clear ds_ ds1;repeat (first|refine W.gd ?_|refine W.e λr_ h_ ds_ s_=> ?_)
 refine W.dst (vs:=(d.num l).enc) (cs':=(d.num l).enc) ds_.hri rfl rfl rfl rfl rfl rfl rfl ((ds_.x.old ha.next (by omega)).trans g_) rfl λr4 h4 hr4 s4=> ?_;have g4:h4.get ha.next=some (.cells (d.num l).enc false):=by rw[s4.get,put_same]
 have nx:=ds_.x.next;have Xf:Ext h h4:=((Xh.trans ds_.x).put (by omega) (by omega) _).trans s4.ext;repeat refine W.gd ?_
 repeat refine W.g ?_
 refine BodyQ.cell1 rfl rfl g4 rfl rfl ?_;exact q _ Xf
theorem num10_w {H h:Heap} {tm:Tm} {Q:R->Prop} {b4 w3:Nat} {n1 n2 n3 v n5 n6:CV} {l:List Str} (L4:LocE H b4 0 [.ptr (some (w3,0+1))]) (Ln:LocE H w3 (0+1) [n1,n2,n3,v,n5,n6]) (sl:Sl H v l) (X:Ext H h) (fr:Fresh h) (d:TripS) (hm:l.length<=1099511627776)
  (q:∀h',Ext h h'->Q (.val (.agg (d.num l).enc) h')):W E1 (.call (.fn 278 [] [.ptr (some (b4,0))]) [.agg d.enc]) tm h Q:=by
 refine W.fn (s:=fnOf Tryz.f278) rfl rfl rfl rfl ?_;repeat (first|refine W.g ?_|refine W.m λh_ X_ n_ g_ L_=> ?_)
 rename_i ha Xa na ga La;have Xh:Ext h h_:=Xa.trans X_;have ds:=DX.start (Xh.fr fr);repeat (first|refine W.gd ?_|refine W.e λr_ h_ ds_ s_=> ?_)
 have X1:Ext H h_:=(X.trans Xh).trans ds_.x;refine W.dcallZ ds_ rfl rfl rfl rfl (place_w d.route (sl.ext X1) hm (DZ.val (Ext.refl _) λr1 h1 ds1 s1=> ?_));clear ds_ ds;repeat (first|refine W.gd ?_|refine W.e λr_ h_ ds_ s_=> ?_)
 refine W.dst (vs:=(d.num l).enc) (cs':=(d.num l).enc) ds_.hri rfl rfl rfl rfl rfl rfl rfl ((ds_.x.old ha.next (by omega)).trans g_) rfl λr4 h4 hr4 s4=> ?_;have g4:h4.get ha.next=some (.cells (d.num l).enc false):=by rw[s4.get,put_same]
 have nx:=ds_.x.next;have Xf:Ext h h4:=((Xh.trans ds_.x).put (by omega) (by omega) _).trans s4.ext;repeat refine W.gd ?_
 repeat refine W.g ?_
 refine BodyQ.cell1 rfl rfl g4 rfl rfl ?_;exact q _ Xf
theorem num11_w {H h:Heap} {tm:Tm} {Q:R->Prop} {b b5 b4 w3:Nat} {c0 vs n1 v n3 n4 n5 n6:CV} {rest:List CV} {l m:List Str} (L:LocE H b 0 (c0::vs::rest)) (L5:LocE H b5 0 [.fn 268 [] [.ptr (some (b,0))]]) (ss:Sl H vs l) (L4:LocE H b4 0 [.ptr (some (w3,0+1))]) (Ln:LocE H w3 (0+1) [n1,v,n3,n4,n5,n6]) (sl:Sl H v m) (X:Ext H h) (fr:Fresh h) (d:HazS) (hl:l.length<=1099511627776) (hm:m.length<=1099511627776)
  (q:∀h',Ext h h'->Q (.val (.agg (d.num l m).enc) h')):W E1 (.call (.fn 280 [] [.ptr (some (b5,0)),.ptr (some (b4,0))]) [.agg d.enc]) tm h Q:=by
 refine W.fn (s:=fnOf Tryz.f280) rfl rfl rfl rfl ?_;repeat (first|refine W.g ?_|refine W.m λh_ X_ n_ g_ L_=> ?_)
 rename_i ha Xa na ga La;have Xh:Ext h h_:=Xa.trans X_;refine W.call rfl rfl rfl (stop_w L ss (X.trans Xh) d.on hl ?_);by_cases c:0<=place l d.on
 ·have e:d.num l m=⟨true,place l d.on,d.times⟩:=if_pos c
  repeat refine W.g ?_
  refine W.stn (cs':=(d.num l m).enc) rfl rfl rfl rfl rfl rfl g_ (by rw[e];rfl) λh4 n4 g4 k4=> ?_;repeat refine W.g ?_
  refine BodyQ.cell1 rfl rfl g4 rfl rfl ?_;exact q _ (Ext.store Xh n4 k4 (by omega) (by omega))
 ·have e:d.num l m=⟨false,place m d.on,d.times⟩:=if_neg c
  repeat refine W.g ?_
  have ds:=DX.start (Xh.fr fr);repeat (first|refine W.gd ?_|refine W.e λr_ h_ ds_ s_=> ?_)
  have X1:Ext H h_:=(X.trans Xh).trans ds_.x;refine W.dcallZ ds_ rfl rfl rfl rfl (place_w d.on (sl.ext X1) hm (DZ.val (Ext.refl _) λr1 h1 ds1 s1=> ?_));clear ds_ ds;repeat (first|refine W.gd ?_|refine W.e λr_ h_ ds_ s_=> ?_)
  rw[e]at q;refine W.dst (vs:=(HazW.enc ⟨false,place m d.on,d.times⟩)) (cs':=(HazW.enc ⟨false,place m d.on,d.times⟩)) ds_.hri rfl rfl rfl rfl rfl rfl rfl ((ds_.x.old ha.next (by omega)).trans g_) rfl λr4 h4 hr4 s4=> ?_;have g4:h4.get ha.next=some (.cells (HazW.enc ⟨false,place m d.on,d.times⟩) false):=by rw[s4.get,put_same]
  have nx:=ds_.x.next;have Xf:Ext h h4:=((Xh.trans ds_.x).put (by omega) (by omega) _).trans s4.ext;repeat refine W.gd ?_
  repeat refine W.g ?_
  refine BodyQ.cell1 rfl rfl g4 rfl rfl ?_;exact q _ Xf
end
end Go.Proofs.YtnjkaahbhebaeaaGreatDoor

namespace Go.Proofs.YtnjkaahbhebaeaaGreatDoor
open Go Go.CM Go.CM.Tt
noncomputable section
set_option maxHeartbeats 8000000
def OwnRC (h:Heap) (lo:Nat) (e:List CV) (d:RouteW):Prop:=∃u1 u2 u3,e=[u1,u2,u3]/\OwnR h lo 1 u1 (d.stops.map Flat.enc)/\OwnR h lo 1 u2 (d.rides.map Flat.enc)/\OwnR h lo 1 u3 (d.stays.map Flat.enc)
theorem OwnRC.ext {h h':Heap} {lo:Nat} {e:List CV} {d:RouteW} (o:OwnRC h lo e d) (x:Ext h h'):OwnRC h' lo e d:=by
 obtain⟨u1,u2,u3,rfl,o1,o2,o3⟩:=o;exact⟨u1,u2,u3,rfl,o1.ext x,o2.ext x,o3.ext x⟩
theorem OwnRC.low {h:Heap} {lo lo':Nat} {e:List CV} {d:RouteW} (o:OwnRC h lo e d) (hl:lo'<=lo):OwnRC h lo' e d:=by
 obtain⟨u1,u2,u3,rfl,o1,o2,o3⟩:=o;exact⟨u1,u2,u3,rfl,o1.low hl,o2.low hl,o3.low hl⟩
theorem OwnRC.other {h h':Heap} {lo:Nat} {e:List CV} {d:RouteW} (o:OwnRC h lo e d) (hn:h.next<=h'.next) (hk:∀c,c∈e->∀k,lo<=k->k<h.next->idOf c=[k]->h'.get k=h.get k):OwnRC h' lo e d:=by
 obtain⟨u1,u2,u3,rfl,o1,o2,o3⟩:=o;exact⟨u1,u2,u3,rfl,o1.other hn (hk u1 (by simp)),o2.other hn (hk u2 (by simp)),o3.other hn (hk u3 (by simp))⟩
theorem OwnRC.len {h:Heap} {lo:Nat} {e:List CV} {d:RouteW} (o:OwnRC h lo e d):e.length=3:=by
 obtain⟨u1,u2,u3,rfl,_⟩:=o;rfl
theorem OwnRC.idlt {h:Heap} {lo:Nat} {e:List CV} {d:RouteW} (o:OwnRC h lo e d):∀c,c∈e->∀k,idOf c=[k]->k<h.next/\lo<=k:=by
 obtain⟨u1,u2,u3,rfl,o1,o2,o3⟩:=o;intro c hc k hk;simp only[List.mem_cons,List.not_mem_nil,or_false]at hc;rcases hc with rfl|rfl|rfl
 ·exact o1.idlt hk
 ·exact o2.idlt hk
 ·exact o3.idlt hk
theorem OwnRC.rp {h:Heap} {lo:Nat} {e:List CV} {d:RouteW} (o:OwnRC h lo e d):Rp.R h e d:=by
 obtain⟨u1,u2,u3,rfl,o1,o2,o3⟩:=o;exact⟨u1,u2,u3,rfl,o1.toSl,o2.toSl,o3.toSl⟩
def OwnRoutes (h:Heap) (lo:Nat) (v:CV) (l:List RouteW):Prop:=∃css,OwnR h lo 3 v css/\css.length=l.length/\∀(j:Nat) (e:List CV) (d:RouteW),css[j]? =some e->l[j]? =some d->OwnRC h lo e d
theorem OwnRoutes.ext {h h':Heap} {lo:Nat} {v:CV} {l:List RouteW} (o:OwnRoutes h lo v l) (x:Ext h h'):OwnRoutes h' lo v l:=by
 obtain⟨css,h1,h2,h3⟩:=o;exact⟨css,h1.ext x,h2,λj e d he hd=>(h3 j e d he hd).ext x⟩
theorem OwnRoutes.low {h:Heap} {lo lo':Nat} {v:CV} {l:List RouteW} (o:OwnRoutes h lo v l) (hl:lo'<=lo):OwnRoutes h lo' v l:=by
 obtain⟨css,h1,h2,h3⟩:=o;exact⟨css,h1.low hl,h2,λj e d he hd=>(h3 j e d he hd).low hl⟩
theorem OwnRoutes.other {h h':Heap} {lo:Nat} {v:CV} {l:List RouteW} (o:OwnRoutes h lo v l) (hn:h.next<=h'.next) (hk:∀k,lo<=k->k<h.next->h'.get k=h.get k):OwnRoutes h' lo v l:=by
 obtain⟨css,h1,h2,h3⟩:=o;exact⟨css,h1.other hn λk a b _=>hk k a b,h2,λj e d he hd=>(h3 j e d he hd).other hn λ_ _ k a b _=>hk k a b⟩
theorem OwnRoutes.toSl {h:Heap} {lo:Nat} {v:CV} {l:List RouteW} (o:OwnRoutes h lo v l):Sl h v l:=by
 obtain⟨css,h1,h2,h3⟩:=o;exact⟨css,h1.sl,h2,λj e d he hd=>(h3 j e d he hd).rp⟩
theorem num9_w {H h:Heap} {tm:Tm} {Q:R->Prop} {b b5:Nat} {c0 v:CV} {rest:List CV} {l:List Str} {e:List CV} {d:RouteS} (L:LocE H b 0 (c0::v::rest)) (L5:LocE H b5 0 [.fn 268 [] [.ptr (some (b,0))]]) (sl:Sl H v l) (X:Ext H h) (fr:Fresh h) (r:Rp.R h e d) (hm:l.length<=1099511627776) (sm:d.stops.length<=1000/\d.rides.length<=1000/\d.stays.length<=1000)
  (q:∀h' e2,Ext h h'->OwnRC h' h.next e2 (d.num l)->Q (.val (.agg e2) h')):W E1 (.call (.fn 275 [] [.ptr (some (b5,0))]) [.agg e]) tm h Q:=by
 obtain⟨u1,u2,u3,rfl,t1,t2,t3⟩:=r;refine W.fn (s:=fnOf Tryz.f275) rfl rfl rfl rfl ?_;repeat (first|refine W.g ?_|refine W.m λh_ X_ n_ g_ L_=> ?_)
 rename_i ha Xa na ga La;have Xh:Ext h h_:=Xa.trans X_;have ds:=DX.start (Xh.fr fr);repeat (first|refine W.gd ?_|refine W.e λr_ h_ ds_ s_=> ?_)
 have X1:=ds_.x;have nx1:=X1.next;refine W.dcallZ ds_ rfl rfl rfl rfl (all_int 268 [] [.ptr (some (b,0))] (place l) (t1.ext (Xh.trans X1)) (by omega) (λs _ tm h' Q X2 q=>stop_w L sl (((X.trans Xh).trans X1).trans X2) s hm (q _ (Ext.refl _))) λh1 w1 Y1 O1=>DZ.val Y1 λr1 h1' ds1 s1=> ?_);have O1:=(O1.low (lo':=ha.next+1) (by omega)).ext s1.ext;obtain⟨p1,m1,c1,y1,ee⟩:=O1.form;cases ee;clear ds_ ds;repeat (first|refine W.gd ?_|refine W.e λr_ h_ ds_ s_=> ?_)
 have O1:=O1.ext s_.ext;have X2:=ds_.x;have nx2:=X2.next;refine W.dcallZ ds_ rfl rfl rfl rfl (clone_int (t2.ext (Xh.trans X2)) (by omega) λh2 w2 Y2 O2=>DZ.val Y2 λr2 h2' ds2 s2=> ?_);have O1:=(O1.ext Y2).ext s2.ext;have O2:=(O2.low (lo':=ha.next+1) (by omega)).ext s2.ext;obtain⟨p2,m2,c2,y2,ee⟩:=O2.form;cases ee;clear ds_ ds1;repeat (first|refine W.gd ?_|refine W.e λr_ h_ ds_ s_=> ?_)
 have O1:=O1.ext s_.ext;have O2:=O2.ext s_.ext;have X3:=ds_.x;have nx3:=X3.next;refine W.dcallZ ds_ rfl rfl rfl rfl (clone_int (t3.ext (Xh.trans X3)) (by omega) λh3 w3 Y3 O3=>DZ.val Y3 λr3 h3' ds3 s3=> ?_);have O1:=(O1.ext Y3).ext s3.ext;have O2:=(O2.ext Y3).ext s3.ext;have O3:=(O3.low (lo':=ha.next+1) (by omega)).ext s3.ext;obtain⟨p3,m3,c3,y3,ee⟩:=O3.form;cases ee;clear ds_ ds2;repeat refine W.gd ?_
 have X4:=ds3.x;have nx4:=X4.next;refine W.dst (vs:=[.slice p1 m1 c1 y1,.slice p2 m2 c2 y2,.slice p3 m3 c3 y3]) (cs':=[.slice p1 m1 c1 y1,.slice p2 m2 c2 y2,.slice p3 m3 c3 y3]) ds3.hri rfl rfl rfl rfl rfl rfl rfl ((X4.old ha.next (by omega)).trans g_) rfl λr4 h4 hr4 s4=> ?_;have g4:h4.get ha.next=some (.cells [.slice p1 m1 c1 y1,.slice p2 m2 c2 y2,.slice p3 m3 c3 y3] false):=by rw[s4.get,put_same]
 have Xf:Ext h h4:=((Xh.trans X4).put (by omega) (by omega) _).trans s4.ext;have oth:∀{v:CV} {z:Nat} {l:List (List CV)},OwnR h3' (ha.next+1) z v l->OwnR h4 h.next z v l:=λO=>((O.other (h':=h4) (by rw[s4.next];exact Nat.le_refl _) λk hk _ _=>by rw[s4.get,Heap.get_put,if_neg (by omega)]).low (by omega));repeat refine W.gd ?_
 repeat refine W.g ?_
 refine BodyQ.cell1 rfl rfl g4 rfl rfl ?_;exact q _ _ Xf ⟨_,_,_,rfl,oth O1,oth O2,oth O3⟩
theorem all_routeW {h:Heap} {tm:Tm} {Q:R->Prop} {v:CV} {l:List RouteS} (f:Nat) (first caps:List CV) (F:RouteS->RouteW) (sl:Sl h v l) (hm:l.length<=1048576)
  (hf:∀d,d∈l->∀e,Rp.R h e d->∀(tm:Tm) (h':Heap) (Q:R->Prop),Ext h h'->(∀h2 e2,Ext h' h2->OwnRC h2 h'.next e2 (F d)->Q (.val (.agg e2) h2))->W E1 (.call (.fn f first caps) [.agg e]) tm h' Q)
  (q:∀h' v',Ext h h'->OwnRoutes h' h.next v' (l.map F)->Q (.val v' h')):W E1 (.call (.fn 274 [] []) [v,.fn f first caps]) tm h Q:=by
 refine W.fn (s:=fnOf Tryz.f274) rfl rfl rfl rfl ?_;repeat refine W.g ?_
 refine W.loop (σ:=Nat) (λk tm h'=>Ext h h'/\tm.look 1= .fn f first caps/\tm.look 7=v/\tm.look 8= .int .i64 (l.length:Int)/\tm.look 9= .int .i64 (k:Int)/\k<=l.length/\∃vo css,tm.look 4=vo/\OwnR h' h.next 3 vo css/\css.length=k/\∀(j:Nat) (e:List CV) (d:RouteS),css[j]? =some e->l[j]? =some d->OwnRC h' h.next e (F d)/\∀c,c∈e->∀i,idOf c=[i]->idOf vo≠[i]) (λk=>l.length-k) ?_ (s:=0)
  ⟨Ext.refl _,rfl,rfl,rfl,rfl,Nat.zero_le _,_,[],rfl,OwnR.nil,rfl,λj e d he=>by simp at he⟩
 rintro k tm h' ⟨X,w1,w7,w8,w9,hk,vo,css,w4,O,hcl,hce⟩;obtain⟨pv,nv,cv,xv,e⟩:=O.form;cases e;obtain⟨T,rfl⟩:=Tm.t5 w1 w4 w7 w8 w9;clear w1 w4 w7 w8 w9;by_cases c1:k<l.length
 ·repeat refine W.g ?_
  refine W.ixR sl c1 rfl rfl rfl rfl rfl rfl rfl λi_ o_ e L_ r_=> ?_;have hlen:=Rp.len r_;repeat (first|refine W.g ?_|refine W.m λh_ X_ n_ g_ L_=> ?_)
  have X9:Ext h' h_:=Ext.x;refine W.call rfl rfl rfl (hf l[k] (List.getElem_mem c1) e r_ _ _ _ (X.trans X9) λh2 e2 X2 R2=> ?_);have hlen2:=R2.len;have R2o:=R2;obtain⟨u1,u2,u3,rfl,_,_,_⟩:=R2o;refine W.k7 1 4 7 8 9 13 16 λT=> ?_;repeat refine W.n λh_ X_ n_ g_ S_=> ?_
  have S_:SlG _ 3 _ [[u1,u2,u3]]:=S_;have nX9:=X9.next;have nX2:=X2.next;have nX:=X.next
  refine W.apR2 (H:=h) (z:=3) (X.trans (X9.trans (X2.trans X_))) (O.ext (X9.trans (X2.trans X_))) S_ (by simp) rfl rfl rfl rfl rfl rfl rfl rfl rfl rfl rfl rfl (by
   simp only[List.length_cons,List.length_nil];show _*72<=_;omega) λv' h3 X3 O3 k3 n3 i3=> ?_
  obtain⟨pv2,nv2,cv2,xv2,e⟩:=O3.form;cases e;repeat refine W.g ?_
  refine⟨k+1,lessN c1,X3,rfl,rfl,rfl,rfl,c1,_,_,rfl,O3,by rw[List.length_append,hcl];rfl,λj e d he hd=> ?_⟩
  have hlast:∀{e:List CV} {d:RouteW} {hh:Heap} {lo:Nat},OwnRC hh lo e d->hh.next<=h_.next->∀c,c∈e->∀i,idOf c=[i]->idOf (CV.slice pv2 nv2 cv2 xv2)≠[i]:=λo hn c hc i hi=>by
   rw[i3];intro e;have e:h_.next=i:=by simpa using e
   have:=(o.idlt c hc i hi).1;omega
  by_cases hj:j<k
  ·rw[List.getElem?_append_left (by omega)]at he
   obtain⟨g1,g2⟩:=hce j e d he hd;have g1':=(((g1.ext X9).ext X2).ext X_);refine⟨g1'.other (by omega) λc hc i _ hi hid=>k3 i hi (g2 c hc i hid),hlast g1' (Nat.le_refl _)⟩
  ·have hj2:j=k:=by
     have:=(List.getElem?_eq_some_iff.1 he).1;simp only[List.length_append,List.length_cons,List.length_nil]at this;omega
   subst hj2;rw[List.getElem?_append_right (by omega),hcl,Nat.sub_self]at he;have he:[u1,u2,u3]=e:=by simpa using he
   subst he;rw[List.getElem?_eq_getElem c1]at hd;cases hd;have R3:=(R2.ext X_);refine⟨(R3.other (h':=h3) (by omega) λc hc i hlo hi hid=>k3 i hi λe=> ?_).low (by omega),hlast R3 (Nat.le_refl _)⟩;have:=(O.idlt e).1;omega
 ·repeat refine W.g ?_
  refine q _ _ X ⟨css,O,by rw[List.length_map];omega,λj e d he hd=> ?_⟩;rw[List.getElem?_map]at hd;cases hl:l[j]? with
  |none=>rw[hl]at hd;cases hd
  |some a=>
   rw[hl]at hd;cases hd;exact(hce j e a he hl).1
end
end Go.Proofs.YtnjkaahbhebaeaaGreatDoor
