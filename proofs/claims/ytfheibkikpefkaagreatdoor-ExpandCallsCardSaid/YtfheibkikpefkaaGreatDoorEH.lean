/- How many of a trip's runs are there; whether a world may be; a run told: by the program. No condition but that the table of spaces lies where it does and memory beyond the next number is empty. -/
import Derived.Test.YtfheibkikpefkaaGreatDoorXU
import Derived.Test.YtfheibkikpefkaaGreatDoorEG
import Derived.Test.YtfheibkikpefkaaGreatDoorZYc
set_option linter.unusedVariables false
set_option linter.unusedSimpArgs false
namespace Go.Proofs.YtfheibkikpefkaaGreatDoor
open Go Go.CM Go.CM.Tt
noncomputable section
set_option maxHeartbeats 16000000
theorem aGt (i j:Nat) (h:i+j<=9223372036854775807):IntKind.i64.wrap ((IntKind.u64.wrap ((i:Int)+(j:Int))).fdiv (2 ^ min (Int.toNat 1) IntKind.u64.bits))=(((i+j)/2:Nat):Int):=by
 rw[show IntKind.u64.wrap ((i:Int)+(j:Int))=(i:Int)+j from IntWalk.u64_in _ (by omega)];have e:((2:Int) ^ min (Int.toNat 1) IntKind.u64.bits)=2:=rfl;rw[e,Int.fdiv_eq_ediv_of_nonneg _ (by omega)];rw[IntWalk.i64_in _ (by omega)];omega
theorem aKf {h:Heap} {tm:Tm} {Q:R->Prop} {f:CV} (n:Nat) (hn:n<=2199023255552) (P:Nat->Prop) (anti:∀a b,a<=b->P b->P a)
  (hf:∀(h':Heap) (j:Nat) (Q':R->Prop),Ext h h'->j<n->(∀h2 (b:Bool),Ext h' h2->(b=true↔¬P j)->Q' (.val (.bool b) h2))->W E1 (.call f [.int .i64 (j:Int)]) .leaf h' Q')
  (q:∀h' (k:Nat),Ext h h'->k<=n->(∀j,j<k->P j)->(k<n->¬P k)->Q (.val (.int .i64 (k:Int)) h')):W E1 (.call (.fn 105 [] []) [.int .i64 (n:Int),f]) tm h Q:=by
 refine W.fn (s:=aB Tryz.f105) rfl rfl rfl rfl ?_;repeat refine W.g ?_
 refine cD 1 5 6 λT=> ?_
 refine W.loop (σ:=Nat×Nat) (λp tm h'=>Ext h h'/\tm.look 1=f/\tm.look 5= .int .i64 (p.1:Int)/\tm.look 6= .int .i64 (p.2:Int)/\p.1<=p.2/\p.2<=n/\(∀m,m<p.1->P m)/\(p.2<n->¬P p.2)) (λp=>p.2-p.1) ?_ (s:=(0,n))
  ⟨Ext.refl _,rfl,rfl,rfl,Nat.zero_le _,Nat.le_refl _,λm hm=>absurd hm (Nat.not_lt_zero _),λh=>absurd h (Nat.lt_irrefl _)⟩
 rintro⟨i,j⟩ tm h' ⟨X,w1,w5,w6,q1,q2,q3,q4⟩;simp only at w5 w6 q1 q2 q3 q4;obtain⟨T,rfl⟩:=cF w1 w5 w6;clear w1 w5 w6;by_cases c1:i<j
 ·obtain⟨md,hmd⟩:∃md:Nat,md=(i+j)/2:=⟨_,rfl⟩
  have hmid:=aGt i j (by omega);rw[<-hmd]at hmid;repeat refine W.g ?_
  refine aBg (λtm=>tm.look 1=f/\tm.look 5= .int .i64 (i:Int)/\tm.look 6= .int .i64 (j:Int)/\tm.look 7= .int .i64 (md:Int)/\tm.look 18=f/\tm.look 19= .int .i64 (md:Int)) ⟨rfl,rfl,rfl,congrArg (CV.int .i64) hmid,rfl,congrArg (CV.int .i64) hmid⟩ ?_;rintro tm ⟨w1,w5,w6,w7,w18,w19⟩;obtain⟨T,rfl⟩:=pG w1 w5 w6 w7 w18 w19;clear w1 w5 w6 w7 w18 w19;refine W.call rfl rfl rfl (hf h' md _ X (by omega) λh2 b X2 hb=> ?_);refine gS 1 5 6 7 20 λT=> ?_;cases b
  ·have pm:P md:=Classical.byContradiction λhh=>absurd (hb.2 hh) (λh=>by cases h)
   repeat refine W.g ?_
   exact⟨(md+1,j),by show j-(md+1)<j-i;omega,X.trans X2,rfl,rfl,rfl,by show md+1<=j;omega,q2,λm hm=>anti m md (by have:m<md+1:=hm;omega) pm,q4⟩
  ·repeat refine W.g ?_
   exact⟨(i,md),by show md-i<j-i;omega,X.trans X2,rfl,rfl,rfl,by show i<=md;omega,by show md<=n;omega,q3,λ_=>hb.1 rfl⟩
 ·have e:i=j:=by omega
  subst e;repeat refine W.g ?_
  exact q h' i X q2 q3 q4
theorem aMq {h:Heap} {tm:Tm} {Q:R->Prop} {cs:List CV} {w:WorldD} {t:TripW} {r:RouteW} {jr b2 b3:Nat} (L2:LocE h b2 0 cs) (rw0:Rp.R h cs w) (fr:Fresh h) (hz:TickOk w.hz) (j:Nat) (L3:LocE h b3 0 [.int .i64 (j:Int)]) (T:w.Trip j t r jr) (no:Int)
  (q:∀h' (b:Bool),Ext h h'->(b=true↔¬w.hasAt j no)->Q (.val (.bool b) h')):W E1 (.call (.fn 107 [] [.ptr (some (b2,0)),.ptr (some (b3,0))]) [.int .i64 no]) tm h Q:=by
 have r0:=rw0;obtain⟨v1,v2,v3,v4,v5,v6,v7,v8,v9,v10,v11,rfl,_⟩:=rw0;refine W.fn (s:=aB Tryz.f107) rfl rfl rfl rfl ?_;repeat refine W.g ?_
 refine W.call rfl rfl rfl (aLj r0 fr hz j T no λh' t0 n0 vA vD arr dep b X hb _ _=> ?_);refine aUy 11 λT=> ?_;cases b
 ·repeat (first|refine W.g ?_|refine W.m λh_ X_ n_ g_ L_=> ?_)
  exact q _ true (X.trans X_) (Iff.intro (λ_ hh=>absurd (hb.2 hh) (λh=>by cases h)) (λ_=>rfl))
 ·repeat (first|refine W.g ?_|refine W.m λh_ X_ n_ g_ L_=> ?_)
  exact q _ false (X.trans X_) (Iff.intro (λh=>by cases h) (λhh=>absurd (hb.1 rfl) hh))
theorem pW {f e u:Int} (hf:TickOk f) (he:TickOk e) (hu:TickOk u):bD f e u<=1099511627777:=by
 have:=hf.1;have:=he.1;have:=hu.2;unfold bD;split
 ·omega
 ·split
  ·omega
  ·have:(u-f)/e<=u-f:=Int.ediv_le_self e (by omega)
   omega
theorem wH {h:Heap} {tm:Tm} {Q:R->Prop} {cs:List CV} {w:WorldD} {t:TripW} {r:RouteW} {jr:Nat} (rw0:Rp.R h cs w) (fr:Fresh h) (hz:TickOk w.hz) (j:Nat) (T:w.Trip j t r jr)
  (q:∀h',Ext h h'->Q (.val (.int .i64 (w.cntAt j)) h')):W E1 (.call (.fn 63 [] []) [.agg cs,.int .i64 (j:Int)]) tm h Q:=by
 have r0:=rw0;obtain⟨v1,v2,v3,v4,v5,v6,v7,v8,v9,v10,v11,rfl,s1,s2,s3,s4,s5,s6,s7,s8,s9,s10,s11⟩:=rw0;have TT:=T;obtain⟨⟨hj,ht⟩,⟨hjr,hr⟩,er,tf,tv,tu,fu,tame,_,_,ta,to⟩:=id T;refine W.fn (s:=aB Tryz.f63) rfl rfl rfl rfl ?_;repeat (refine W.seq ?_)
 refine W.region ?_;refine W.box rfl rfl rfl λH1 X1 n1 g1 L1=> ?_;refine W.box rfl rfl rfl λH2 X2 n2 g2 L2=> ?_;repeat refine W.g ?_
 refine eN s10 hj rfl rfl rfl rfl rfl rfl rfl λi1 o1 M1=> ?_;replace M1:=show LocE h i1 o1 [.int .i64 (jr:Int),.int .i64 t.frm,.int .i64 t.evr,.int .i64 t.untl]from by rw[<-er,<-ht];exact M1
 repeat (first|refine W.g ?_|refine W.m λh_ X_ n_ g_ L_=> ?_)
 refine W.call rfl rfl rfl (aAv t.frm t.evr t.untl tf tv tu ?_);have g:=kQ (f:=t.frm) (u:=t.untl) tv.1;have g':=pW tf tv tu;obtain⟨n,hn⟩:∃n:Nat,bD t.frm t.evr t.untl=(n:Int):=⟨(bD t.frm t.evr t.untl).toNat,by omega⟩;rw[hn]at g' ⊢;have XK:Ext h h_:=(X1.trans X2).trans X_;have L1:=(L1.ext X2).ext X_;have L2:=L2.ext X_;refine cD 2 3 17 λT=> ?_;repeat refine W.g ?_
 refine W.call rfl rfl rfl (aKf n (by omega) (λm=>w.hasAt j (m:Int)) (λa b hab hb=> ?_) (λh' m Q' X hm q'=>aMq (L1.ext X) (Rp.ext (XK.trans X) r0) ((XK.trans X).fr fr) hz j (L2.ext X) TT (m:Int) q') λh' k X hk h1 h2=> ?_)
 ·have hb:w.hasAt j (b:Int):=hb
  rw[TT.has,cN tv.1 (by omega)]at hb;show w.hasAt j (a:Int);rw[TT.has,cN tv.1 (by omega)];omega
 refine aUy 19 λT=> ?_;repeat refine W.g ?_
 have e:(k:Int)=w.cntAt j:=by
  unfold WorldD.cntAt;rw[ta,to];refine pD tv.1 (λm hm=>(TT.has).1 (h1 m hm)) ?_;rw[<-TT.has (no:=(k:Int))];by_cases c:k<n
  ·exact h2 c
  ·intro hh
   rw[TT.has]at hh;have:=hh.2.1;omega
 rw[e];exact q _ (XK.trans X)
theorem aFd {h:Heap} {tm:Tm} {Q:R->Prop} {cs:List CV} {w:WorldD} (r:Rp.R h cs w) (rh:RH h) (fr:Fresh h) (sm:w.small) (sl:w.whole->w.told.slim) (q:∀h' (b:Bool),Ext h h'->(b=true↔w.check.err=0)->Q (.val (.bool b) h')):W E1 (.call (.fn 61 [] []) [.agg cs]) tm h Q:=by
 have r0:=r;obtain⟨v1,v2,v3,v4,v5,v6,v7,v8,v9,v10,v11,rfl,_⟩:=r;refine W.fn (s:=aB Tryz.f61) rfl rfl rfl rfl ?_;repeat (first|refine W.g ?_|refine W.m λh_ X_ n_ g_ L_=> ?_)
 refine W.call rfl rfl rfl (aQr (Rp.ext X_ r0) (rh.ext X_) (X_.fr fr) sm sl λh' X=> ?_);obtain⟨c,hc⟩:∃c,c=w.check:=⟨_,rfl⟩;rw[<-hc]at q ⊢;refine aUy 4 λT=> ?_;by_cases c0:c.err=0
 ·repeat refine W.g ?_
  exact q _ true (X_.trans X) (Iff.intro (λ_=>c0) (λ_=>rfl))
 ·repeat refine W.g ?_
  exact q _ false (X_.trans X) (Iff.intro (λh=>by cases h) (λh=>absurd h c0))
theorem aWu {h:Heap} {tm:Tm} {Q:R->Prop} {cs:List CV} {w:WorldD} (r:Rp.R h cs w) (n:Int) (q:∀h' (b:Bool),Ext h h'->(b=true↔0<=n/\n<w.trips.length)->Q (.val (.bool b) h')):W E1 (.call (.fn 62 [] []) [.agg cs,.int .i64 n]) tm h Q:=by
 obtain⟨v1,v2,v3,v4,v5,v6,v7,v8,v9,v10,v11,rfl,s1,s2,s3,s4,s5,s6,s7,s8,s9,s10,s11⟩:=r;refine W.fn (s:=aB Tryz.f62) rfl rfl rfl rfl ?_;by_cases c1:0<=n
 ·by_cases c2:n<(w.trips.length:Int)
  ·repeat (first|refine W.g ?_|refine W.m λh_ X_ n_ g_ L_=> ?_)
   exact q _ true X_ (Iff.intro (λ_=>⟨c1,c2⟩) (λ_=>rfl))
  ·repeat (first|refine W.g ?_|refine W.m λh_ X_ n_ g_ L_=> ?_)
   exact q _ false X_ (Iff.intro (λh=>by cases h) (λh=>absurd h.2 c2))
 ·repeat (first|refine W.g ?_|refine W.m λh_ X_ n_ g_ L_=> ?_)
  exact q _ false X_ (Iff.intro (λh=>by cases h) (λh=>absurd h.1 c1))
end
end Go.Proofs.YtfheibkikpefkaaGreatDoor

namespace Go.Proofs.YtfheibkikpefkaaGreatDoor
open Go Go.CM Go.CM.Tt
noncomputable section
set_option maxHeartbeats 16000000
theorem mG {h:Heap} {tm:Tm} {Q:R->Prop} {cs:List CV} {w:WorldD} {t:TripW} {ro:RouteW} {jr:Nat} (rw0:Rp.R h cs w) (fr:Fresh h) (hz:TickOk w.hz) (j:Nat) (T:w.Trip j t ro jr)
  (q:∀h',Ext h h'->Q (.val (.int .i64 (w.cntAt j)) h')):W E1 (.call (.fn 70 [] []) [.agg cs,.int .i64 (j:Int)]) tm h Q:=by
 have r0:=rw0;have TT:=T;obtain⟨v1,v2,v3,v4,v5,v6,v7,v8,v9,v10,v11,rfl,s1,s2,s3,s4,s5,s6,s7,s8,s9,s10,s11⟩:=rw0;obtain⟨⟨hj,ht⟩,⟨hjr,hr⟩,er,tf,tv,tu,fu,tame,_,_,ta,to⟩:=id T;refine W.fn (s:=aB Tryz.f70) rfl rfl rfl rfl ?_;repeat (refine W.seq ?_)
 refine W.region ?_;refine W.box rfl rfl rfl λH1 X1 n1 g1 L1=> ?_;have lit:(Flat.enc w.trips[j]:List CV)=[.int .i64 (jr:Int),.int .i64 t.frm,.int .i64 t.evr,.int .i64 t.untl]:=by rw[<-er,<-ht];rfl
 repeat refine W.g ?_
 have ds:=aD (X1.fr fr);repeat (first|refine aC ?_|refine W.e λr_ h_ ds_ s_=> ?_)
 refine aE s10 hj rfl rfl rfl rfl rfl rfl rfl λi1 o1 M1=> ?_;rw[lit]at M1;repeat (first|refine aC ?_|refine W.e λr_ h_ ds_ s_=> ?_)
 refine aE s10 hj rfl rfl rfl rfl rfl rfl rfl λi2 o2 M2=> ?_;rw[lit]at M2;repeat (first|refine aC ?_|refine W.e λr_ h_ ds_ s_=> ?_)
 refine aE s10 hj rfl rfl rfl rfl rfl rfl rfl λi3 o3 M3=> ?_;rw[lit]at M3;repeat (first|refine aC ?_|refine W.e λr_ h_ ds_ s_=> ?_)
 refine aH ds_ rfl rfl rfl rfl (vK t.frm t.evr t.untl (DZ.val (Ext.refl _) λq1 N1 ds1 t1=> ?_));rw[if_pos ⟨tf,tv,tu⟩];have g:=kQ (f:=t.frm) (u:=t.untl) tv.1;have g':=pW tf tv tu;obtain⟨n,hn⟩:∃n:Nat,bD t.frm t.evr t.untl=(n:Int):=⟨(bD t.frm t.evr t.untl).toNat,by omega⟩;rw[hn]at g' ⊢;repeat refine aC ?_
 repeat refine W.g ?_
 have XN:=X1.trans ds1.x;have L1:=L1.ext ds1.x;clear ds ds_ M1 M2 M3;refine dB 1 2 5 6 λT=> ?_
 refine W.loop (σ:=Nat×Nat) (λp tm h'=>Ext N1 h'/\tm.look 1= .int .i64 (j:Int)/\tm.look 2= .ptr (some (h.next,0))/\tm.look 5= .int .i64 (p.1:Int)/\tm.look 6= .int .i64 (p.2:Int)/\p.1<=p.2/\p.2<=n/\(∀m:Nat,m<p.1->w.hasAt j (m:Int))/\(p.2<n->¬w.hasAt j (p.2:Int))) (λp=>p.2-p.1) ?_ (s:=(0,n))
  ⟨Ext.refl _,rfl,rfl,rfl,rfl,Nat.zero_le _,Nat.le_refl _,λm hm=>absurd hm (Nat.not_lt_zero _),λh=>absurd h (Nat.lt_irrefl _)⟩
 rintro⟨i,k⟩ tm h' ⟨X,w1,w2,w5,w6,q1,q2,q3,q4⟩;simp only at w5 w6 q1 q2 q3 q4;obtain⟨T,rfl⟩:=cE w1 w2 w5 w6;clear w1 w2 w5 w6;by_cases c1:i<k
 ·obtain⟨md,hmd⟩:∃md:Nat,md=(i+k)/2:=⟨_,rfl⟩
  repeat refine W.g ?_
  have hmid:IntKind.i64.wrap (((i:Int)+(k:Int)).tdiv 2)=(md:Int):=by
   rw[Int.tdiv_eq_ediv_of_nonneg (by omega),IntWalk.i64_in _ (by omega)];omega
  refine aBg (λtm=>tm.look 1= .int .i64 (j:Int)/\tm.look 2= .ptr (some (h.next,0))/\tm.look 5= .int .i64 (i:Int)/\tm.look 6= .int .i64 (k:Int)/\tm.look 7= .int .i64 (md:Int)/\tm.look 37= .agg [.int .i64 w.hz,v1,v2,v3,v4,v5,v6,v7,v8,v9,v10,v11]/\tm.look 38= .int .i64 (j:Int)/\tm.look 39= .int .i64 (md:Int)) ⟨rfl,rfl,rfl,rfl,congrArg (CV.int .i64) hmid,rfl,rfl,congrArg (CV.int .i64) hmid⟩ ?_;rintro tm ⟨w1,w2,w5,w6,w7,w37,w38,w39⟩;obtain⟨T,rfl⟩:=aTf w1 w2 w5 w6 w7 w37 w38 w39;clear w1 w2 w5 w6 w7 w37 w38 w39;refine W.call rfl rfl rfl (zK (Rp.ext (XN.trans X) r0) ((XN.trans X).fr fr) hz j TT (md:Int) λh2 t0 n0 vA vD arr dep b X2 hb O2 _=> ?_);refine fT 1 2 5 6 7 40 λT=> ?_;cases b
  ·repeat (first|refine W.g ?_|refine W.m λh_ X_ n_ g_ L_=> ?_)
   exact⟨(i,md),by show md-i<k-i;omega,(X.trans X2).trans X_,rfl,rfl,rfl,rfl,by show i<=md;omega,by show md<=n;omega,q3,λ_ hh=>absurd (hb.2 hh) (λh=>by cases h)⟩
  ·have pm:=hb.1 rfl
   repeat (first|refine W.g ?_|refine W.m λh_ X_ n_ g_ L_=> ?_)
   refine⟨(md+1,k),by show k-(md+1)<k-i;omega,(X.trans X2).trans X_,rfl,rfl,rfl,rfl,by show md+1<=k;omega,q2,λm hm=> ?_,q4⟩;have hm:m<md+1:=hm;rw[TT.has,cN tv.1 (by omega)]at pm ⊢;omega
 ·have e:i=k:=by omega
  subst e;repeat refine W.g ?_
  have e:(i:Int)=w.cntAt j:=by
   unfold WorldD.cntAt;rw[ta,to];refine pD tv.1 (λm hm=>(TT.has).1 (q3 m hm)) ?_;rw[<-TT.has (no:=(i:Int))];by_cases c:i<n
   ·exact q4 c
   ·intro hh
    rw[TT.has]at hh;have:=hh.2.1;omega
  rw[e];exact q _ (XN.trans X)
theorem aKq {h:Heap} {tm:Tm} {Q:R->Prop} {cs:List CV} {w:WorldD} (r:Rp.R h cs w) (n:Int) (q:∀h' (b:Bool),Ext h h'->(b=true↔0<=n/\n<w.trips.length)->Q (.val (.bool b) h')):W E1 (.call (.fn 68 [] []) [.agg cs,.int .i64 n]) tm h Q:=by
 obtain⟨v1,v2,v3,v4,v5,v6,v7,v8,v9,v10,v11,rfl,s1,s2,s3,s4,s5,s6,s7,s8,s9,s10,s11⟩:=r;refine W.fn (s:=aB Tryz.f68) rfl rfl rfl rfl ?_;by_cases c1:0<=n
 ·by_cases c2:n<(w.trips.length:Int)
  ·repeat (first|refine W.g ?_|refine W.m λh_ X_ n_ g_ L_=> ?_)
   exact q _ true X_ (Iff.intro (λ_=>⟨c1,c2⟩) (λ_=>rfl))
  ·repeat (first|refine W.g ?_|refine W.m λh_ X_ n_ g_ L_=> ?_)
   exact q _ false X_ (Iff.intro (λh=>by cases h) (λh=>absurd h.2 c2))
 ·repeat (first|refine W.g ?_|refine W.m λh_ X_ n_ g_ L_=> ?_)
  exact q _ false X_ (Iff.intro (λh=>by cases h) (λh=>absurd h.1 c1))
end
end Go.Proofs.YtfheibkikpefkaaGreatDoor
