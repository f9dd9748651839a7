/- How many of a trip's runs are there; whether a world may be; a run told: by the program. No condition but that the table of spaces lies where it does and memory beyond the next number is empty. -/
import Derived.Test.YtnjkaahbhebaeaaGreatDoorXU
import Derived.Test.YtnjkaahbhebaeaaGreatDoorEG
import Derived.Test.YtnjkaahbhebaeaaGreatDoorZYc
import Derived.Test.YtnjkaahbhebaeaaGreatDoorZB
set_option linter.unusedVariables false
set_option linter.unusedSimpArgs false
set_option maxRecDepth 100000
namespace Go.Proofs.YtnjkaahbhebaeaaGreatDoor
open Go Go.CM Go.CM.Tt
noncomputable section
set_option maxHeartbeats 16000000
theorem midS_eq (i j:Nat) (h:i+j<=9223372036854775807):IntKind.i64.wrap ((IntKind.u64.wrap ((i:Int)+(j:Int))).fdiv (2 ^ min (Int.toNat 1) IntKind.u64.bits))=(((i+j)/2:Nat):Int):=by
 rw[show IntKind.u64.wrap ((i:Int)+(j:Int))=(i:Int)+j from IntWalk.u64_in _ (by omega)];have e:((2:Int) ^ min (Int.toNat 1) IntKind.u64.bits)=2:=rfl;rw[e,Int.fdiv_eq_ediv_of_nonneg _ (by omega)];rw[IntWalk.i64_in _ (by omega)];omega
theorem search_w {h:Heap} {tm:Tm} {Q:R->Prop} {f:CV} (n:Nat) (hn:n<=2199023255552) (P:Nat->Prop) (anti:∀a b,a<=b->P b->P a)
  (hf:∀(h':Heap) (j:Nat) (Q':R->Prop),Ext h h'->j<n->(∀h2 (b:Bool),Ext h' h2->(b=true↔¬P j)->Q' (.val (.bool b) h2))->W E1 (.call f [.int .i64 (j:Int)]) .leaf h' Q')
  (q:∀h' (k:Nat),Ext h h'->k<=n->(∀j,j<k->P j)->(k<n->¬P k)->Q (.val (.int .i64 (k:Int)) h')):W E1 (.call (.fn 292 [] []) [.int .i64 (n:Int),f]) tm h Q:=by
 refine W.fn (s:=fnOf Tryz.f292) rfl rfl rfl rfl ?_;repeat refine W.g ?_
 refine W.k3 1 5 6 λT=> ?_
 refine W.loop (σ:=Nat×Nat) (λp tm h'=>Ext h h'/\tm.look 1=f/\tm.look 5= .int .i64 (p.1:Int)/\tm.look 6= .int .i64 (p.2:Int)/\p.1<=p.2/\p.2<=n/\(∀m,m<p.1->P m)/\(p.2<n->¬P p.2)) (λp=>p.2-p.1) ?_ (s:=(0,n))
  ⟨Ext.refl _,rfl,rfl,rfl,Nat.zero_le _,Nat.le_refl _,λm hm=>absurd hm (Nat.not_lt_zero _),λh=>absurd h (Nat.lt_irrefl _)⟩
 rintro⟨i,j⟩ tm h' ⟨X,w1,w5,w6,q1,q2,q3,q4⟩;simp only at w5 w6 q1 q2 q3 q4;obtain⟨T,rfl⟩:=Tm.t3 w1 w5 w6;clear w1 w5 w6;by_cases c1:i<j
 ·obtain⟨md,hmd⟩:∃md:Nat,md=(i+j)/2:=⟨_,rfl⟩
  have hmid:=midS_eq i j (by omega);rw[<-hmd]at hmid;repeat refine W.g ?_
  refine W.anyTm (λtm=>tm.look 1=f/\tm.look 5= .int .i64 (i:Int)/\tm.look 6= .int .i64 (j:Int)/\tm.look 7= .int .i64 (md:Int)/\tm.look 18=f/\tm.look 19= .int .i64 (md:Int)) ⟨rfl,rfl,rfl,congrArg (CV.int .i64) hmid,rfl,congrArg (CV.int .i64) hmid⟩ ?_;rintro tm ⟨w1,w5,w6,w7,w18,w19⟩;obtain⟨T,rfl⟩:=Tm.t6 w1 w5 w6 w7 w18 w19;clear w1 w5 w6 w7 w18 w19;refine W.call rfl rfl rfl (hf h' md _ X (by omega) λh2 b X2 hb=> ?_);refine W.k5 1 5 6 7 20 λT=> ?_;cases b
  ·have pm:P md:=Classical.byContradiction λhh=>absurd (hb.2 hh) (λh=>by cases h)
   repeat refine W.g ?_
   exact⟨(md+1,j),by show j-(md+1)<j-i;omega,X.trans X2,rfl,rfl,rfl,by show md+1<=j;omega,q2,λm hm=>anti m md (by have:m<md+1:=hm;omega) pm,q4⟩
  ·repeat refine W.g ?_
   exact⟨(i,md),by show md-i<j-i;omega,X.trans X2,rfl,rfl,rfl,by show i<=md;omega,by show md<=n;omega,q3,λ_=>hb.1 rfl⟩
 ·have e:i=j:=by omega
  subst e;repeat refine W.g ?_
  exact q h' i X q2 q3 q4
theorem count1_w {h:Heap} {tm:Tm} {Q:R->Prop} {cs:List CV} {w:WorldD} {t:TripW} {r:RouteW} {jr b2 b3:Nat} (L2:LocE h b2 0 cs) (rw0:Rp.R h cs w) (fr:Fresh h) (hz:TickOk w.hz) (j:Nat) (L3:LocE h b3 0 [.int .i64 (j:Int)]) (T:w.Trip j t r jr) (no:Int)
  (q:∀h' (b:Bool),Ext h h'->(b=true↔¬w.hasAt j no)->Q (.val (.bool b) h')):W E1 (.call (.fn 293 [] [.ptr (some (b2,0)),.ptr (some (b3,0))]) [.int .i64 no]) tm h Q:=by
 have r0:=rw0;obtain⟨v1,v2,v3,v4,v5,v6,v7,v8,v9,v10,v11,rfl,_⟩:=rw0;refine W.fn (s:=fnOf Tryz.f293) rfl rfl rfl rfl ?_;repeat refine W.g ?_
 refine W.call rfl rfl rfl (one_w r0 fr hz j T no λh' t0 n0 vA vD arr dep b X hb _ _=> ?_);refine W.k1 11 λT=> ?_;cases b
 ·repeat (first|refine W.g ?_|refine W.m λh_ X_ n_ g_ L_=> ?_)
  exact q _ true (X.trans X_) (Iff.intro (λ_ hh=>absurd (hb.2 hh) (λh=>by cases h)) (λ_=>rfl))
 ·repeat (first|refine W.g ?_|refine W.m λh_ X_ n_ g_ L_=> ?_)
  exact q _ false (X.trans X_) (Iff.intro (λh=>by cases h) (λhh=>absurd (hb.1 rfl) hh))
theorem countT_big {f e u:Int} (hf:TickOk f) (he:TickOk e) (hu:TickOk u):countT f e u<=1099511627777:=by
 have:=hf.1;have:=he.1;have:=hu.2;unfold countT;split
 ·omega
 ·split
  ·omega
  ·have:(u-f)/e<=u-f:=Int.ediv_le_self e (by omega)
   omega
theorem expCount_w {h:Heap} {tm:Tm} {Q:R->Prop} {cs:List CV} {w:WorldD} {t:TripW} {r:RouteW} {jr:Nat} (rw0:Rp.R h cs w) (fr:Fresh h) (hz:TickOk w.hz) (j:Nat) (T:w.Trip j t r jr)
  (q:∀h',Ext h h'->Q (.val (.int .i64 (w.cntAt j)) h')):W E1 (.call (.fn 230 [] []) [.agg cs,.int .i64 (j:Int)]) tm h Q:=by
 have r0:=rw0;obtain⟨v1,v2,v3,v4,v5,v6,v7,v8,v9,v10,v11,rfl,s1,s2,s3,s4,s5,s6,s7,s8,s9,s10,s11⟩:=rw0;have TT:=T;obtain⟨⟨hj,ht⟩,⟨hjr,hr⟩,er,tf,tv,tu,fu,tame,_,_,ta,to⟩:=id T;refine W.fn (s:=fnOf Tryz.f230) rfl rfl rfl rfl ?_;repeat (refine W.seq ?_)
 refine W.region ?_;refine W.box rfl rfl rfl λH1 X1 n1 g1 L1=> ?_;refine W.box rfl rfl rfl λH2 X2 n2 g2 L2=> ?_;repeat refine W.g ?_
 refine W.ixF s10 hj rfl rfl rfl rfl rfl rfl rfl λi1 o1 M1=> ?_;replace M1:=show LocE h i1 o1 [.int .i64 (jr:Int),.int .i64 t.frm,.int .i64 t.evr,.int .i64 t.untl]from by rw[<-er,<-ht];exact M1
 repeat (first|refine W.g ?_|refine W.m λh_ X_ n_ g_ L_=> ?_)
 refine W.call rfl rfl rfl (count_w t.frm t.evr t.untl tf tv tu ?_);have g:=countT_ge (f:=t.frm) (u:=t.untl) tv.1;have g':=countT_big tf tv tu;obtain⟨n,hn⟩:∃n:Nat,countT t.frm t.evr t.untl=(n:Int):=⟨(countT t.frm t.evr t.untl).toNat,by omega⟩;rw[hn]at g' ⊢;have XK:Ext h h_:=(X1.trans X2).trans X_;have L1:=(L1.ext X2).ext X_;have L2:=L2.ext X_;refine W.k3 2 3 17 λT=> ?_;repeat refine W.g ?_
 refine W.call rfl rfl rfl (search_w n (by omega) (λm=>w.hasAt j (m:Int)) (λa b hab hb=> ?_) (λh' m Q' X hm q'=>count1_w (L1.ext X) (Rp.ext (XK.trans X) r0) ((XK.trans X).fr fr) hz j (L2.ext X) TT (m:Int) q') λh' k X hk h1 h2=> ?_)
 ·have hb:w.hasAt j (b:Int):=hb
  rw[TT.has,WorldD.has_iff tv.1 (by omega)]at hb;show w.hasAt j (a:Int);rw[TT.has,WorldD.has_iff tv.1 (by omega)];omega
 refine W.k1 19 λT=> ?_;repeat refine W.g ?_
 have e:(k:Int)=w.cntAt j:=by
  unfold WorldD.cntAt;rw[ta,to];refine WorldD.cnt_of tv.1 (λm hm=>(TT.has).1 (h1 m hm)) ?_;rw[<-TT.has (no:=(k:Int))];by_cases c:k<n
  ·exact h2 c
  ·intro hh
   rw[TT.has]at hh;have:=hh.2.1;omega
 rw[e];exact q _ (XK.trans X)
theorem good_w {h:Heap} {tm:Tm} {Q:R->Prop} {cs:List CV} {w:WorldD} (r:Rp.R h cs w) (rh:RH h) (fr:Fresh h) (sm:w.small) (sl:w.whole->w.told.slim) (q:∀h' (b:Bool),Ext h h'->(b=true↔w.check.err=0)->Q (.val (.bool b) h')):W E1 (.call (.fn 161 [] []) [.agg cs]) tm h Q:=by
 have r0:=r;obtain⟨v1,v2,v3,v4,v5,v6,v7,v8,v9,v10,v11,rfl,_⟩:=r;refine W.fn (s:=fnOf Tryz.f161) rfl rfl rfl rfl ?_;repeat (first|refine W.g ?_|refine W.m λh_ X_ n_ g_ L_=> ?_)
 refine W.call rfl rfl rfl (check_w (Rp.ext X_ r0) (rh.ext X_) (X_.fr fr) sm sl λh' X=> ?_);obtain⟨c,hc⟩:∃c,c=w.check:=⟨_,rfl⟩;rw[<-hc]at q ⊢;refine W.k1 4 λT=> ?_;by_cases c0:c.err=0
 ·repeat refine W.g ?_
  exact q _ true (X_.trans X) (Iff.intro (λ_=>c0) (λ_=>rfl))
 ·repeat refine W.g ?_
  exact q _ false (X_.trans X) (Iff.intro (λh=>by cases h) (λh=>absurd h c0))
theorem is_w {h:Heap} {tm:Tm} {Q:R->Prop} {cs:List CV} {w:WorldD} (r:Rp.R h cs w) (n:Int) (q:∀h' (b:Bool),Ext h h'->(b=true↔0<=n/\n<w.trips.length)->Q (.val (.bool b) h')):W E1 (.call (.fn 234 [] []) [.agg cs,.int .i64 n]) tm h Q:=by
 obtain⟨v1,v2,v3,v4,v5,v6,v7,v8,v9,v10,v11,rfl,s1,s2,s3,s4,s5,s6,s7,s8,s9,s10,s11⟩:=r;refine W.fn (s:=fnOf Tryz.f234) rfl rfl rfl rfl ?_;by_cases c1:0<=n
 ·by_cases c2:n<(w.trips.length:Int)
  ·repeat (first|refine W.g ?_|refine W.m λh_ X_ n_ g_ L_=> ?_)
   exact q _ true X_ (Iff.intro (λ_=>⟨c1,c2⟩) (λ_=>rfl))
  ·repeat (first|refine W.g ?_|refine W.m λh_ X_ n_ g_ L_=> ?_)
   exact q _ false X_ (Iff.intro (λh=>by cases h) (λh=>absurd h.2 c2))
 ·repeat (first|refine W.g ?_|refine W.m λh_ X_ n_ g_ L_=> ?_)
  exact q _ false X_ (Iff.intro (λh=>by cases h) (λh=>absurd h.1 c1))
end
end Go.Proofs.YtnjkaahbhebaeaaGreatDoor

namespace Go.Proofs.YtnjkaahbhebaeaaGreatDoor
open Go Go.CM Go.CM.Tt
noncomputable section
set_option maxHeartbeats 16000000
theorem Count_w {h:Heap} {tm:Tm} {Q:R->Prop} {cs:List CV} {w:WorldD} (r:Rp.R h cs w) (rh:RH h) (fr:Fresh h) (sm:w.small) (sl:w.whole->w.told.slim) (n:Int) (q:∀h',Ext h h'->Q (.val (.int .i64 (w.countX n)) h')):W E1 (.call (.fn 164 [] []) [.agg cs,.int .i64 n]) tm h Q:=by
 have r0:=r;obtain⟨v1,v2,v3,v4,v5,v6,v7,v8,v9,v10,v11,rfl,_⟩:=r;refine W.fn (s:=fnOf Tryz.f164) rfl rfl rfl rfl ?_;repeat (refine W.seq ?_)
 refine W.region ?_;refine W.box rfl rfl rfl λH1 X1 n1 g1 L1=> ?_;repeat refine W.g ?_
 refine W.call rfl rfl rfl (good_w (Rp.ext X1 r0) (rh.ext X1) (X1.fr fr) sm sl λH2 b X2 hb=> ?_);have L1:=L1.ext X2;have Y2:=X1.trans X2;refine W.k3 1 2 6 λT=> ?_;cases b
 ·repeat refine W.g ?_
  have:=q _ Y2;rw[WorldD.countX_bad (λh=>absurd (hb.2 h.1) (λh=>by cases h))]at this;exact this
 have c0:=hb.1 rfl;repeat refine W.g ?_
 refine W.call rfl rfl rfl (is_w (Rp.ext Y2 r0) n λH3 b X3 hb3=> ?_);have L1:=L1.ext X3;have Y3:=Y2.trans X3;refine W.k4 1 2 8 11 λT=> ?_;cases b
 ·repeat refine W.g ?_
  have:=q _ Y3;rw[WorldD.countX_bad (λh=>absurd (hb3.2 h.2) (λh=>by cases h))]at this;exact this
 obtain⟨p1,p2⟩:=hb3.1 rfl;obtain⟨j,rfl⟩:∃j:Nat,n=(j:Int):=⟨n.toNat,by omega⟩;have hj:j<w.trips.length:=by omega
 have f:=WorldD.fine c0;obtain⟨t,ro,jr,T⟩:=f.at hj;repeat refine W.g ?_
 refine W.call rfl rfl rfl (expCount_w (Rp.ext Y3 r0) (Y3.fr fr) f.hz j T λH4 X4=> ?_);repeat refine W.g ?_
 have:=q _ (Y3.trans X4);rw[WorldD.countX_there c0 hj]at this;exact this
theorem One_w {h:Heap} {tm:Tm} {Q:R->Prop} {cs:List CV} {w:WorldD} (r:Rp.R h cs w) (rh:RH h) (fr:Fresh h) (sm:w.small) (sl:w.whole->w.told.slim) (n no:Int)
  (q:∀h' t0 n0 vA vD arr dep,Ext h h'->OwnG h' h.next [(1,vA,List.map Flat.enc arr),(1,vD,List.map Flat.enc dep)] []->(⟨t0,n0,arr,dep⟩:RunD)=(w.oneX n no).1->Q (.val (.tup [.agg [.int .i64 t0,.int .i64 n0,vA,vD],.int .i64 (w.oneX n no).2]) h')):
  W E1 (.call (.fn 181 [] []) [.agg cs,.int .i64 n,.int .i64 no]) tm h Q:=by
 have r0:=r;obtain⟨v1,v2,v3,v4,v5,v6,v7,v8,v9,v10,v11,rfl,_⟩:=r;refine W.fn (s:=fnOf Tryz.f181) rfl rfl rfl rfl ?_;repeat (refine W.seq ?_)
 refine W.region ?_;refine W.box rfl rfl rfl λH1 X1 n1 g1 L1=> ?_;refine W.al rfl rfl rfl λH2 X2 n2 g2 L2=> ?_;have g6:H2.get H1.next=some (.cells [.int .i64 0,.int .i64 0,.slice none 0 0 0,.slice none 0 0 0] false):=g2;have L1:=L1.ext X2;have XK:=X1.trans X2;clear L2 g1 g2;obtain⟨b6,hb6⟩:∃b,b=H1.next:=⟨_,rfl⟩;rw[<-hb6]at g6 ⊢;have l6:b6<H2.next:=by omega
 have l60:h.next<b6:=by omega
 have zero:∀{M:Heap} {e:Int},Ext h M->w.oneX n no=(RunD.none,e)->Q (.val (.tup [.agg [.int .i64 0,.int .i64 0,.slice none 0 0 0,.slice none 0 0 0],.int .i64 e]) M):=λXM e=>by
  have:=q _ 0 0 _ _ [] [] XM own0 (by rw[e];rfl);rw[e]at this;exact this
 repeat refine W.g ?_
 refine W.call rfl rfl rfl (good_w (Rp.ext XK r0) (rh.ext XK) (XK.fr fr) sm sl λH3 b X3 hb=> ?_);have L1:=L1.ext X3;have g6:=(X3.old b6 l6).trans g6;have Y3:=XK.trans X3;have nX3:=X3.next;refine W.k5 1 2 3 6 11 λT=> ?_;cases b
 ·repeat refine W.g ?_
  refine W.stn (vs:=[.int .i64 0,.int .i64 0,.slice none 0 0 0,.slice none 0 0 0]) (cs':=[.int .i64 0,.int .i64 0,.slice none 0 0 0,.slice none 0 0 0]) rfl rfl rfl rfl rfl rfl g6 rfl λM nM gM kM=> ?_;repeat refine W.g ?_
  refine BodyQ.cellE rfl rfl rfl gM rfl rfl ?_;exact zero (Ext.store Y3 nM kM (by omega) (by omega)) (WorldD.oneX_bad (λh=>absurd (hb.2 h) (λh=>by cases h)))
 have c0:=hb.1 rfl;clear hb;repeat refine W.g ?_
 refine W.call rfl rfl rfl (is_w (Rp.ext Y3 r0) n λH4 b X4 hb=> ?_);have L1:=L1.ext X4;have g6:=(X4.old b6 (by omega)).trans g6;have Y4:=Y3.trans X4;have nX4:=X4.next;refine W.k5 1 2 3 6 16 λT=> ?_;cases b
 ·repeat refine W.g ?_
  refine W.stn (vs:=[.int .i64 0,.int .i64 0,.slice none 0 0 0,.slice none 0 0 0]) (cs':=[.int .i64 0,.int .i64 0,.slice none 0 0 0,.slice none 0 0 0]) rfl rfl rfl rfl rfl rfl g6 rfl λM nM gM kM=> ?_;repeat refine W.g ?_
  refine BodyQ.cellE rfl rfl rfl gM rfl rfl ?_;exact zero (Ext.store Y4 nM kM (by omega) (by omega)) (WorldD.oneX_not c0 (λh=>absurd (hb.2 h.1) (λh=>by cases h)))
 obtain⟨p1,p2⟩:=hb.1 rfl;clear hb;obtain⟨j,hjn⟩:∃j:Nat,n=(j:Int):=⟨n.toNat,by omega⟩;have hj:j<w.trips.length:=by omega
 have f:=WorldD.fine c0;obtain⟨t,ro,jr,T⟩:=f.at hj;rw[hjn];repeat refine W.g ?_
 refine W.call rfl rfl rfl (one_w (Rp.ext Y4 r0) (Y4.fr fr) f.hz j T no λH5 t0 n0 vA vD arr dep b X5 hb O5 hrun=> ?_);have g6:=(X5.old b6 (by omega)).trans g6;have Y5:=Y4.trans X5;have nX5:=X5.next;clear L1;refine W.k2 6 21 λT=> ?_;cases b
 ·repeat (first|refine W.g ?_|refine W.m λh_ X_ n_ g_ L_=> ?_)
  refine W.stn (vs:=[.int .i64 0,.int .i64 0,.slice none 0 0 0,.slice none 0 0 0]) (cs':=[.int .i64 0,.int .i64 0,.slice none 0 0 0,.slice none 0 0 0]) rfl rfl rfl rfl rfl rfl ((X_.old b6 (by omega)).trans g6) rfl λM nM gM kM=> ?_;repeat refine W.g ?_
  refine BodyQ.cellE rfl rfl rfl gM rfl rfl ?_
  exact zero (Ext.store (Y5.trans X_) nM kM (by omega) (by omega)) (WorldD.oneX_not c0 (λh=>by
   have h2:=h.2;rw[hjn,Int.toNat_natCast]at h2;exact absurd (hb.2 h2) (λh=>by cases h)))
 ·repeat (first|refine W.g ?_|refine W.m λh_ X_ n_ g_ L_=> ?_)
  refine W.stn (vs:=[.int .i64 t0,.int .i64 n0,vA,vD]) (cs':=[.int .i64 t0,.int .i64 n0,vA,vD]) rfl rfl rfl rfl rfl rfl ((X_.old b6 (by omega)).trans g6) rfl λM nM gM kM=> ?_;repeat refine W.g ?_
  refine BodyQ.cellE rfl rfl rfl gM rfl rfl ?_;have e1:w.oneX n no=(w.runAt j no,0):=by rw[hjn];exact WorldD.oneX_there c0 hj (hb.1 rfl)
  have:=q M t0 n0 vA vD arr dep (Ext.store (Y5.trans X_) nM kM (by omega) (by omega)) (((O5.ext X_).keep (h':=M) (by omega) λk hk=>kM k (by have:=(O5.lt k hk).1;omega)).low (by omega)) (by rw[e1];exact hrun rfl);rw[e1]at this;exact this
end
end Go.Proofs.YtnjkaahbhebaeaaGreatDoor
