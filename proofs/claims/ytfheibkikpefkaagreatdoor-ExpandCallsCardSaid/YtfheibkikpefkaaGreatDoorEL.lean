/- The law's guard; runs counted: by the document. No condition but that memory beyond the next number is empty. -/
import Derived.Test.YtfheibkikpefkaaGreatDoorXU
import Derived.Test.YtfheibkikpefkaaGreatDoorEH
import Derived.Test.YtfheibkikpefkaaGreatDoorRLc
import Derived.Test.YtfheibkikpefkaaGreatDoorZC
import Derived.Test.YtfheibkikpefkaaGreatDoorZB
set_option linter.unusedVariables false
set_option linter.unusedSimpArgs false
namespace Go.Proofs.YtfheibkikpefkaaGreatDoor
open Go Go.CM Go.CM.Tt
noncomputable section
set_option maxHeartbeats 16000000
def _root_.Go.CM.Tt.WorldD.total (w:WorldD):Nat->Int
 |0=>0
 |k+1=>w.total k+w.cntAt k
def _root_.Go.CM.Tt.WorldD.lightX (w:WorldD):Prop:=w.lightW4/\(w.check.err=0->w.total w.trips.length<=600\/16384<w.total w.trips.length)
theorem qX {w:WorldD} (l:w.lightW4):w.small:=by
 obtain⟨l1,l2,l3,l4,l5,l6,l7,l8,l9,l10,l11,l12⟩:=l;refine⟨by omega,by omega,by omega,by omega,by omega,by omega,by omega,by omega,by omega,by omega,by omega,λr hr=> ?_⟩;have:=l12 r hr;omega
theorem tK {w:WorldD} (l:w.lightW4):w.told.slim:=by
 obtain⟨l1,l2,l3,l4,l5,l6,l7,l8,l9,l10,l11,l12⟩:=l;intro r hr;obtain⟨i,hi,rfl⟩:=List.mem_mapIdx.1 hr;obtain⟨h1,h2,h3⟩:=l12 _ (List.getElem_mem hi);exact⟨by simp only[RouteW.told,List.length_map];omega,by show w.routes[i].rides.length<=1000;omega,by show w.routes[i].stays.length<=1000;omega⟩
theorem dJ {w:WorldD} (f:w.Fine) {j:Nat} (hj:j<w.trips.length):0<=w.cntAt j/\w.cntAt j<=1099511627777:=by
 obtain⟨t,r,jr,T⟩:=f.at hj;unfold WorldD.cntAt;rw[T.at_,T.of_];refine⟨pE T.v.1,?_⟩;by_cases c:w.cnt t r<=bD t.frm t.evr t.untl
 ·have:=pW T.f T.v T.u
  omega
 ·exfalso
  have g:=kQ (f:=t.frm) (u:=t.untl) T.v.1;have:=(cN (w:=w) (r:=r) T.v.1 g).2 (by omega);have:=this.2.1;omega
theorem jD {w:WorldD} (f:w.Fine):∀k:Nat,k<=w.trips.length->0<=w.total k/\w.total k<=k*1099511627777
 |0,_=>⟨Int.le_refl _,Int.le_refl _⟩
 |k+1,hk=>by
  have:=jD f k (by omega);have:=dJ f (j:=k) (by omega);unfold WorldD.total;omega
theorem aBu {h:Heap} {tm:Tm} {Q:R->Prop} {cs:List CV} {w:WorldD} (r:Rp.R h cs w) (fr:Fresh h) (sm:w.small) (sl:w.whole->w.told.slim) (n:Int) (q:∀h',Ext h h'->Q (.val (.int .i64 (w.countX n)) h')):W E1 (.call (.fn 25 [] []) [.agg cs,.int .i64 n]) tm h Q:=by
 have r0:=r;obtain⟨v1,v2,v3,v4,v5,v6,v7,v8,v9,v10,v11,rfl,_⟩:=r;refine W.fn (s:=aB Tryz.f25) rfl rfl rfl rfl ?_;repeat (refine W.seq ?_)
 refine W.region ?_;refine W.box rfl rfl rfl λH1 X1 n1 g1 L1=> ?_;repeat refine W.g ?_
 refine W.call rfl rfl rfl (mL (Rp.ext X1 r0) (X1.fr fr) sm sl λH2 X2=> ?_);obtain⟨c,hc⟩:∃c,c=w.check:=⟨_,rfl⟩;rw[<-hc];have L1:=L1.ext X2;have Y2:=X1.trans X2;refine cD 1 2 6 λT=> ?_;by_cases c0:¬c.err=0
 ·repeat refine W.g ?_
  have:=q _ Y2;rw[eC (λh=>c0 (by rw[hc];exact h.1))]at this;exact this
 have c0:c.err=0:=Decidable.not_not.1 c0;have c1:w.check.err=0:=by rw[<-hc];exact c0
 repeat refine W.g ?_
 refine W.call rfl rfl rfl (aKq (Rp.ext Y2 r0) n λH3 b X3 hb3=> ?_);have L1:=L1.ext X3;have Y3:=Y2.trans X3;refine dB 1 2 9 12 λT=> ?_;cases b
 ·repeat refine W.g ?_
  have:=q _ Y3;rw[eC (λh=>absurd (hb3.2 h.2) (λh=>by cases h))]at this;exact this
 obtain⟨p1,p2⟩:=hb3.1 rfl;obtain⟨j,rfl⟩:∃j:Nat,n=(j:Int):=⟨n.toNat,by omega⟩;have hj:j<w.trips.length:=by omega
 have f:=bW c1;obtain⟨t,ro,jr,T⟩:=f.at hj;repeat refine W.g ?_
 refine W.call rfl rfl rfl (mG (Rp.ext Y3 r0) (Y3.fr fr) f.hz j T λH4 X4=> ?_);repeat refine W.g ?_
 have:=q _ (Y3.trans X4);rw[eQ c1 hj]at this;exact this
theorem aQf {h:Heap} {tm:Tm} {Q:R->Prop} {cs:List CV} {w:WorldD} (r:Rp.R h cs w) (fr:Fresh h) (q:∀h' (b:Bool),Ext h h'->(b=true↔w.lightX)->Q (.val (.bool b) h')):W E1 (.call (.fn 10 [] []) [.agg cs]) tm h Q:=by
 have r0:=r;obtain⟨v1,v2,v3,v4,v5,v6,v7,v8,v9,v10,v11,rfl,s1,s2,s3,s4,s5,s6,s7,s8,s9,s10,s11⟩:=r;refine W.fn (s:=aB Tryz.f10) rfl rfl rfl rfl ?_;repeat (refine W.seq ?_)
 refine W.region ?_;refine W.box rfl rfl rfl λH1 X1 n1 g1 L1=> ?_;repeat refine W.g ?_
 refine W.call rfl rfl rfl (jQ (Rp.ext X1 r0) λH2 b X2 hb=> ?_);have L1:=L1.ext X2;have Y2:=X1.trans X2;refine mA 1 6 λT=> ?_;cases b
 ·repeat refine W.g ?_
  refine W.call rfl rfl rfl (jQ (Rp.ext Y2 r0) λH3 b X3 hb3=> ?_);cases b
  ·repeat refine W.g ?_
   exact q _ false (Y2.trans X3) (Iff.intro (λh=>by cases h) (λh=>absurd (hb3.2 h.1) (λh=>by cases h)))
  ·exact absurd (hb.2 (hb3.1 rfl)) (λh=>by cases h)
 have lw:=hb.1 rfl;have sm:=qX lw;have sl:w.whole->w.told.slim:=λ_=>tK lw;repeat refine W.g ?_
 refine W.call rfl rfl rfl (mL (Rp.ext Y2 r0) (Y2.fr fr) sm sl λH3 X3=> ?_);obtain⟨c,hc⟩:∃c,c=w.check:=⟨_,rfl⟩;rw[<-hc];have L1:=L1.ext X3;have Y3:=Y2.trans X3;refine cD 1 8 10 λT=> ?_;by_cases c0:¬c.err=0
 ·repeat refine W.g ?_
  refine W.call rfl rfl rfl (jQ (Rp.ext Y3 r0) λH4 b X4 hb4=> ?_);cases b
  ·exact absurd (hb4.2 lw) (λh=>by cases h)
  ·repeat refine W.g ?_
   exact q _ true (Y3.trans X4) (Iff.intro (λ_=>⟨lw,λh=>absurd (by rw[hc];exact h) c0⟩) (λ_=>rfl))
 have c0:c.err=0:=Decidable.not_not.1 c0;have c1:w.check.err=0:=by rw[<-hc];exact c0
 have f:=bW c1;have hl:w.trips.length<=40:=lw.2.2.2.2.2.2.2.2.2.1;repeat refine W.g ?_
 refine cD 1 3 4 λT=> ?_;refine W.loop (σ:=Nat) (λk tm h'=>Ext H3 h'/\tm.look 1= .ptr (some (h.next,0))/\tm.look 3= .int .i64 (w.total k)/\tm.look 4= .int .i64 (k:Int)/\k<=w.trips.length) (λk=>w.trips.length-k) ?_ (s:=0) ⟨Ext.refl _,rfl,rfl,rfl,Nat.zero_le _⟩;rintro k tm h' ⟨X,w1,w3,w4,hk⟩;obtain⟨T,rfl⟩:=cF w1 w3 w4;clear w1 w3 w4;have XX:=Y3.trans X;have tb:=jD f k hk;by_cases e1:k<w.trips.length
 ·have cb:=dJ f e1
  repeat refine W.g ?_
  refine W.call rfl rfl rfl (aBu (Rp.ext XX r0) (XX.fr fr) sm sl (k:Int) λH4 X4=> ?_);rw[eQ c1 e1];repeat refine W.g ?_
  exact⟨k+1,aI e1,X.trans X4,rfl,rfl,rfl,e1⟩
 ·obtain rfl:k=w.trips.length:=by omega
  repeat refine W.g ?_
  refine mA 3 30 λT=> ?_;by_cases d1:w.total w.trips.length<=600
  ·repeat refine W.g ?_
   exact q _ true XX (Iff.intro (λ_=>⟨lw,λ_=> .inl d1⟩) (λ_=>rfl))
  ·by_cases d2:16384<w.total w.trips.length
   ·repeat refine W.g ?_
    exact q _ true XX (Iff.intro (λ_=>⟨lw,λ_=> .inr d2⟩) (λ_=>rfl))
   ·repeat refine W.g ?_
    exact q _ false XX (Iff.intro (λh=>by cases h) (λh=>by rcases h.2 c1 with h|h<;>omega))
end
end Go.Proofs.YtfheibkikpefkaaGreatDoor

namespace Go.Proofs.YtfheibkikpefkaaGreatDoor
open Go Go.CM Go.CM.Tt
noncomputable section
set_option maxHeartbeats 16000000
theorem aRx {h:Heap} {tm:Tm} {Q:R->Prop} {cs:List CV} {w:WorldD} (r:Rp.R h cs w) (rh:RH h) (fr:Fresh h) (sm:w.small) (sl:w.whole->w.told.slim) (n:Int) (q:∀h',Ext h h'->Q (.val (.int .i64 (w.countX n)) h')):W E1 (.call (.fn 14 [] []) [.agg cs,.int .i64 n]) tm h Q:=by
 have r0:=r;obtain⟨v1,v2,v3,v4,v5,v6,v7,v8,v9,v10,v11,rfl,_⟩:=r;refine W.fn (s:=aB Tryz.f14) rfl rfl rfl rfl ?_;repeat (refine W.seq ?_)
 refine W.region ?_;refine W.box rfl rfl rfl λH1 X1 n1 g1 L1=> ?_;repeat refine W.g ?_
 refine W.call rfl rfl rfl (aFd (Rp.ext X1 r0) (rh.ext X1) (X1.fr fr) sm sl λH2 b X2 hb=> ?_);have L1:=L1.ext X2;have Y2:=X1.trans X2;refine cD 1 2 6 λT=> ?_;cases b
 ·repeat refine W.g ?_
  have:=q _ Y2;rw[eC (λh=>absurd (hb.2 h.1) (λh=>by cases h))]at this;exact this
 have c0:=hb.1 rfl;repeat refine W.g ?_
 refine W.call rfl rfl rfl (aWu (Rp.ext Y2 r0) n λH3 b X3 hb3=> ?_);have L1:=L1.ext X3;have Y3:=Y2.trans X3;refine dB 1 2 8 11 λT=> ?_;cases b
 ·repeat refine W.g ?_
  have:=q _ Y3;rw[eC (λh=>absurd (hb3.2 h.2) (λh=>by cases h))]at this;exact this
 obtain⟨p1,p2⟩:=hb3.1 rfl;obtain⟨j,rfl⟩:∃j:Nat,n=(j:Int):=⟨n.toNat,by omega⟩;have hj:j<w.trips.length:=by omega
 have f:=bW c0;obtain⟨t,ro,jr,T⟩:=f.at hj;repeat refine W.g ?_
 refine W.call rfl rfl rfl (wH (Rp.ext Y3 r0) (Y3.fr fr) f.hz j T λH4 X4=> ?_);repeat refine W.g ?_
 have:=q _ (Y3.trans X4);rw[eQ c0 hj]at this;exact this
theorem aTh {h:Heap} {tm:Tm} {Q:R->Prop} {cs:List CV} {w:WorldD} (r:Rp.R h cs w) (rh:RH h) (fr:Fresh h) (sm:w.small) (sl:w.whole->w.told.slim) (n no:Int)
  (q:∀h' t0 n0 vA vD arr dep,Ext h h'->OwnG h' h.next [(1,vA,List.map Flat.enc arr),(1,vD,List.map Flat.enc dep)] []->(⟨t0,n0,arr,dep⟩:RunD)=(w.oneX n no).1->Q (.val (.tup [.agg [.int .i64 t0,.int .i64 n0,vA,vD],.int .i64 (w.oneX n no).2]) h')):
  W E1 (.call (.fn 15 [] []) [.agg cs,.int .i64 n,.int .i64 no]) tm h Q:=by
 have r0:=r;obtain⟨v1,v2,v3,v4,v5,v6,v7,v8,v9,v10,v11,rfl,_⟩:=r;refine W.fn (s:=aB Tryz.f15) rfl rfl rfl rfl ?_;repeat (refine W.seq ?_)
 refine W.region ?_;refine W.box rfl rfl rfl λH1 X1 n1 g1 L1=> ?_;refine jV rfl rfl rfl λH2 X2 n2 g2 L2=> ?_;have g6:H2.get H1.next=some (.cells [.int .i64 0,.int .i64 0,.slice none 0 0 0,.slice none 0 0 0] false):=g2;have L1:=L1.ext X2;have XK:=X1.trans X2;clear L2 g1 g2;obtain⟨b6,hb6⟩:∃b,b=H1.next:=⟨_,rfl⟩;rw[<-hb6]at g6 ⊢;have l6:b6<H2.next:=by omega
 have l60:h.next<b6:=by omega
 have zero:∀{M:Heap} {e:Int},Ext h M->w.oneX n no=(RunD.none,e)->Q (.val (.tup [.agg [.int .i64 0,.int .i64 0,.slice none 0 0 0,.slice none 0 0 0],.int .i64 e]) M):=λXM e=>by
  have:=q _ 0 0 _ _ [] [] XM aPj (by rw[e];rfl);rw[e]at this;exact this
 repeat refine W.g ?_
 refine W.call rfl rfl rfl (aFd (Rp.ext XK r0) (rh.ext XK) (XK.fr fr) sm sl λH3 b X3 hb=> ?_);have L1:=L1.ext X3;have g6:=(X3.old b6 l6).trans g6;have Y3:=XK.trans X3;have nX3:=X3.next;refine gS 1 2 3 6 11 λT=> ?_;cases b
 ·repeat refine W.g ?_
  refine aK (vs:=[.int .i64 0,.int .i64 0,.slice none 0 0 0,.slice none 0 0 0]) (cs':=[.int .i64 0,.int .i64 0,.slice none 0 0 0,.slice none 0 0 0]) rfl rfl rfl rfl rfl rfl g6 rfl λM nM gM kM=> ?_;repeat refine W.g ?_
  refine aQ rfl rfl rfl gM rfl rfl ?_;exact zero (Ext.store Y3 nM kM (by omega) (by omega)) (dY (λh=>absurd (hb.2 h) (λh=>by cases h)))
 have c0:=hb.1 rfl;clear hb;repeat refine W.g ?_
 refine W.call rfl rfl rfl (aWu (Rp.ext Y3 r0) n λH4 b X4 hb=> ?_);have L1:=L1.ext X4;have g6:=(X4.old b6 (by omega)).trans g6;have Y4:=Y3.trans X4;have nX4:=X4.next;refine gS 1 2 3 6 16 λT=> ?_;cases b
 ·repeat refine W.g ?_
  refine aK (vs:=[.int .i64 0,.int .i64 0,.slice none 0 0 0,.slice none 0 0 0]) (cs':=[.int .i64 0,.int .i64 0,.slice none 0 0 0,.slice none 0 0 0]) rfl rfl rfl rfl rfl rfl g6 rfl λM nM gM kM=> ?_;repeat refine W.g ?_
  refine aQ rfl rfl rfl gM rfl rfl ?_;exact zero (Ext.store Y4 nM kM (by omega) (by omega)) (bN c0 (λh=>absurd (hb.2 h.1) (λh=>by cases h)))
 obtain⟨p1,p2⟩:=hb.1 rfl;clear hb;obtain⟨j,hjn⟩:∃j:Nat,n=(j:Int):=⟨n.toNat,by omega⟩;have hj:j<w.trips.length:=by omega
 have f:=bW c0;obtain⟨t,ro,jr,T⟩:=f.at hj;rw[hjn];repeat refine W.g ?_
 refine W.call rfl rfl rfl (aLj (Rp.ext Y4 r0) (Y4.fr fr) f.hz j T no λH5 t0 n0 vA vD arr dep b X5 hb O5 hrun=> ?_);have g6:=(X5.old b6 (by omega)).trans g6;have Y5:=Y4.trans X5;have nX5:=X5.next;clear L1;refine mA 6 21 λT=> ?_;cases b
 ·repeat (first|refine W.g ?_|refine W.m λh_ X_ n_ g_ L_=> ?_)
  refine aK (vs:=[.int .i64 0,.int .i64 0,.slice none 0 0 0,.slice none 0 0 0]) (cs':=[.int .i64 0,.int .i64 0,.slice none 0 0 0,.slice none 0 0 0]) rfl rfl rfl rfl rfl rfl ((X_.old b6 (by omega)).trans g6) rfl λM nM gM kM=> ?_;repeat refine W.g ?_
  refine aQ rfl rfl rfl gM rfl rfl ?_
  exact zero (Ext.store (Y5.trans X_) nM kM (by omega) (by omega)) (bN c0 (λh=>by
   have h2:=h.2;rw[hjn,Int.toNat_natCast]at h2;exact absurd (hb.2 h2) (λh=>by cases h)))
 ·repeat (first|refine W.g ?_|refine W.m λh_ X_ n_ g_ L_=> ?_)
  refine aK (vs:=[.int .i64 t0,.int .i64 n0,vA,vD]) (cs':=[.int .i64 t0,.int .i64 n0,vA,vD]) rfl rfl rfl rfl rfl rfl ((X_.old b6 (by omega)).trans g6) rfl λM nM gM kM=> ?_;repeat refine W.g ?_
  refine aQ rfl rfl rfl gM rfl rfl ?_;have e1:w.oneX n no=(w.runAt j no,0):=by rw[hjn];exact eB c0 hj (hb.1 rfl)
  have:=q M t0 n0 vA vD arr dep (Ext.store (Y5.trans X_) nM kM (by omega) (by omega)) (((O5.ext X_).keep (h':=M) (by omega) λk hk=>kM k (by have:=(O5.lt k hk).1;omega)).low (by omega)) (by rw[e1];exact hrun rfl);rw[e1]at this;exact this
end
end Go.Proofs.YtfheibkikpefkaaGreatDoor
