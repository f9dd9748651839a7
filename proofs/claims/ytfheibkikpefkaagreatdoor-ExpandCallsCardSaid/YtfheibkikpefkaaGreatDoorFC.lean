/- Times looked at, a run looked at, by the document; a run made later: by the program. No condition but that memory beyond the next number is empty and the run is not endless. -/
import Derived.Test.YtfheibkikpefkaaGreatDoorXU
import Derived.Test.YtfheibkikpefkaaGreatDoorXZ
import Derived.Test.YtfheibkikpefkaaGreatDoorRN
import Derived.Test.YtfheibkikpefkaaGreatDoorZB
import Derived.Test.YtfheibkikpefkaaGreatDoorEJ
set_option linter.unusedVariables false
set_option linter.unusedSimpArgs false
namespace Go.Proofs.YtfheibkikpefkaaGreatDoor
open Go Go.CM Go.CM.Tt
noncomputable section
set_option maxHeartbeats 16000000
theorem aGi {h:Heap} {tm:Tm} {Q:R->Prop} {cs:List CV} {r:RunD} (rr:Rp.R h cs r) (fr:Fresh h) (hm:r.arr.length<=1099511627776) (q:∀h' (b:Bool),Ext h h'->(b=true↔r.timesOk)->Q (.val (.bool b) h')):W E1 (.call (.fn 72 [] []) [.agg cs]) tm h Q:=by
 have r0:=rr;obtain⟨vA,vD,rfl,s1,s2⟩:=rr;refine W.fn (s:=aB Tryz.f72) rfl rfl rfl rfl ?_;repeat (refine W.seq ?_)
 refine W.region ?_;refine W.box rfl rfl rfl λH1 X1 n1 g1 L1=> ?_;have no:∀{M:Heap},Ext h M->¬r.timesOk->Q (.val (.bool false) M):=λX hh=>q _ false X (Iff.intro (λh=>by cases h) (λh=>absurd h hh));have frK:=X1.fr fr;repeat (first|refine W.g ?_|refine W.m λh_ X_ n_ g_ L_=> ?_|refine W.n λh_ X_ n_ g_ S_=> ?_)
 have ds:=aD frK;by_cases c1:r.arr.length<2
 ·repeat (first|refine aC ?_|refine W.e λr_ h_ ds_ s_=> ?_)
  repeat (first|refine W.g ?_|refine W.m λh_ X_ n_ g_ L_=> ?_|refine W.n λh_ X_ n_ g_ S_=> ?_)
  exact no X1 (λhh=>by have:=hh.1;omega)
 obtain⟨n,hn⟩:∃n,r.arr.length=n+1:=⟨r.arr.length-1,by omega⟩;have hn1:r.arr.length-1=n:=by omega
 repeat (first|refine aC ?_|refine W.e λr_ h_ ds_ s_=> ?_)
 refine hS s2 rfl rfl rfl rfl rfl rfl rfl ?_;by_cases c2:¬r.dep.length=r.arr.length
 ·repeat (first|refine aC ?_|refine W.e λr_ h_ ds_ s_=> ?_)
  repeat (first|refine W.g ?_|refine W.m λh_ X_ n_ g_ L_=> ?_|refine W.n λh_ X_ n_ g_ S_=> ?_)
  exact no (X1.trans ds_.x) (λhh=>c2 hh.2.1)
 repeat (first|refine aC ?_|refine W.e λr_ h_ ds_ s_=> ?_)
 refine dR s1 (j:=0) (by omega) λiM1 oM1 M1=> ?_;repeat (first|refine aC ?_|refine W.e λr_ h_ ds_ s_=> ?_)
 refine dR s2 (j:=0) (by omega) λiM2 oM2 M2=> ?_;by_cases c3:¬r.arr.getD 0 0=r.dep.getD 0 0
 ·repeat (first|refine aC ?_|refine W.e λr_ h_ ds_ s_=> ?_)
  repeat (first|refine W.g ?_|refine W.m λh_ X_ n_ g_ L_=> ?_|refine W.n λh_ X_ n_ g_ S_=> ?_)
  exact no (X1.trans ds_.x) (λhh=>c3 hh.2.2.1)
 repeat (first|refine aC ?_|refine W.e λr_ h_ ds_ s_=> ?_)
 rw[show((r.arr.length:Int)-1)=(n:Int) by omega];refine dR s1 (j:=n) (by omega) λiM3 oM3 M3=> ?_;repeat (first|refine aC ?_|refine W.e λr_ h_ ds_ s_=> ?_)
 rw[show((r.arr.length:Int)-1)=(n:Int) by omega];refine dR s2 (j:=n) (by omega) λiM4 oM4 M4=> ?_;by_cases c4:¬r.arr.getD n 0=r.dep.getD n 0
 ·repeat (first|refine aC ?_|refine W.e λr_ h_ ds_ s_=> ?_)
  repeat (first|refine W.g ?_|refine W.m λh_ X_ n_ g_ L_=> ?_|refine W.n λh_ X_ n_ g_ S_=> ?_)
  exact no (X1.trans ds_.x) (λhh=>c4 (by have:=hh.2.2.2.1;rw[hn1]at this;exact this.symm))
 repeat (first|refine aC ?_|refine W.e λr_ h_ ds_ s_=> ?_)
 refine dR s1 (j:=0) (by omega) λiM1 oM1 M1=> ?_;by_cases c5:r.arr.getD 0 0<0
 ·repeat (first|refine aC ?_|refine W.e λr_ h_ ds_ s_=> ?_)
  repeat (first|refine W.g ?_|refine W.m λh_ X_ n_ g_ L_=> ?_|refine W.n λh_ X_ n_ g_ S_=> ?_)
  exact no (X1.trans ds_.x) (λhh=>by have:=hh.2.2.2.2.1;omega)
 repeat (first|refine aC ?_|refine W.e λr_ h_ ds_ s_=> ?_)
 rw[show((r.arr.length:Int)-1)=(n:Int) by omega];refine dR s1 (j:=n) (by omega) λiM5 oM5 M5=> ?_;by_cases c6:1099511627776<r.arr.getD n 0
 ·repeat (first|refine aC ?_|refine W.e λr_ h_ ds_ s_=> ?_)
  repeat (first|refine W.g ?_|refine W.m λh_ X_ n_ g_ L_=> ?_|refine W.n λh_ X_ n_ g_ S_=> ?_)
  exact no (X1.trans ds_.x) (λhh=>by have:=hh.2.2.2.2.2.1;rw[hn1]at this;omega)
 repeat (first|refine aC ?_|refine W.e λr_ h_ ds_ s_=> ?_)
 repeat (first|refine W.g ?_|refine W.m λh_ X_ n_ g_ L_=> ?_|refine W.n λh_ X_ n_ g_ S_=> ?_)
 have XN:=X1.trans ds_.x;have L1:=L1.ext ds_.x;refine cD 1 3 4 λT=> ?_
 refine W.loop (σ:=Nat) (λk tm h'=>Ext h h'/\LocE h' h.next 0 [.int .i64 r.trip,.int .i64 r.no,vA,vD]/\tm.look 1= .ptr (some (h.next,0))/\tm.look 3= .int .i64 (r.arr.length:Int)/\tm.look 4= .int .i64 (k:Int)/\1<=k/\k<=r.arr.length/\∀j,j+1<k->r.dep.getD j 0<r.arr.getD (j+1) 0/\r.arr.getD (j+1) 0<=r.dep.getD (j+1) 0) (λk=>r.arr.length-k) ?_ (s:=1)
  ⟨XN,L1,rfl,rfl,rfl,Nat.le_refl _,by omega,λj hj=>by omega⟩
 clear L1 ds ds_ XN;rintro k tm h' ⟨XX,L1,w1,w3,w4,k1,k2,hk⟩;obtain⟨T,rfl⟩:=cF w1 w3 w4;clear w1 w3 w4;by_cases e1:k<r.arr.length
 ·repeat (first|refine W.g ?_|refine W.m λh_ X_ n_ g_ L_=> ?_|refine W.n λh_ X_ n_ g_ S_=> ?_)
  have ds:=aD (XX.fr fr);repeat (first|refine aC ?_|refine W.e λr_ h_ ds_ s_=> ?_)
  refine dR s1 (j:=k) (by omega) λiP1 oP1 P1=> ?_;repeat (first|refine aC ?_|refine W.e λr_ h_ ds_ s_=> ?_)
  rw[show((k:Int)-1)=((k-1:Nat):Int) by omega];refine dR s2 (j:=(k-1)) (by omega) λiP2 oP2 P2=> ?_;by_cases d1:r.arr.getD k 0<=r.dep.getD (k-1) 0
  ·repeat (first|refine aC ?_|refine W.e λr_ h_ ds_ s_=> ?_)
   repeat (first|refine W.g ?_|refine W.m λh_ X_ n_ g_ L_=> ?_|refine W.n λh_ X_ n_ g_ S_=> ?_)
   exact no (XX.trans ds_.x) (λhh=>by
    have:=(hh.2.2.2.2.2.2 (k-1) (by omega)).1;rw[show k-1+1=k by omega]at this;omega)
  repeat (first|refine aC ?_|refine W.e λr_ h_ ds_ s_=> ?_)
  refine dR s2 (j:=k) (by omega) λiP3 oP3 P3=> ?_;repeat (first|refine aC ?_|refine W.e λr_ h_ ds_ s_=> ?_)
  refine dR s1 (j:=k) (by omega) λiP4 oP4 P4=> ?_;by_cases d2:r.dep.getD k 0<r.arr.getD k 0
  ·repeat (first|refine aC ?_|refine W.e λr_ h_ ds_ s_=> ?_)
   repeat (first|refine W.g ?_|refine W.m λh_ X_ n_ g_ L_=> ?_|refine W.n λh_ X_ n_ g_ S_=> ?_)
   exact no (XX.trans ds_.x) (λhh=>by
    have:=(hh.2.2.2.2.2.2 (k-1) (by omega)).2;rw[show k-1+1=k by omega]at this;omega)
  repeat (first|refine aC ?_|refine W.e λr_ h_ ds_ s_=> ?_)
  repeat (first|refine W.g ?_|refine W.m λh_ X_ n_ g_ L_=> ?_|refine W.n λh_ X_ n_ g_ S_=> ?_)
  refine⟨k+1,aI e1,XX.trans ds_.x,L1.ext ds_.x,rfl,rfl,rfl,by omega,e1,λj hj=> ?_⟩;by_cases ej:j+1=k
  ·obtain rfl:j=k-1:=by omega
   rw[show k-1+1=k by omega];exact⟨by omega,by omega⟩
  ·exact hk j (by omega)
 ·repeat (first|refine W.g ?_|refine W.m λh_ X_ n_ g_ L_=> ?_|refine W.n λh_ X_ n_ g_ S_=> ?_)
  exact q _ true XX (Iff.intro (λ_=>⟨by omega,Decidable.not_not.1 c2,Decidable.not_not.1 c3,by rw[hn1];exact(Decidable.not_not.1 c4).symm,by omega,by rw[hn1];omega,λj hj=>hk j (by omega)⟩) (λ_=>rfl))
theorem aKw {h:Heap} {tm:Tm} {Q:R->Prop} {cw cr:List CV} {w:WorldD} {rt rn:Int} {ra rd:List Int} (rw0:Rp.R h cw w) (rr0:Rp.R h cr (⟨rt,rn,ra,rd⟩:RunD)) (rh:RH h) (fr:Fresh h) (sm:w.small) (sl:w.whole->w.told.slim) (hm:ra.length<=1099511627776)
  (q:∀h',Ext h h'->Q (.val (.int .i64 (w.checkR ⟨rt,rn,ra,rd⟩)) h')):W E1 (.call (.fn 27 [] []) [.agg cw,.agg cr]) tm h Q:=by
 have r0:=rw0;have u0:=rr0;obtain⟨v1,v2,v3,v4,v5,v6,v7,v8,v9,v10,v11,rfl,s1,s2,s3,s4,s5,s6,s7,s8,s9,s10,s11⟩:=rw0;obtain⟨vA,vD,rfl,t1,t2⟩:=rr0;have t1:Sl h vA ra:=t1;have t2:Sl h vD rd:=t2;refine W.fn (s:=aB Tryz.f27) rfl rfl rfl rfl ?_;repeat (refine W.seq ?_)
 refine W.region ?_;refine W.box rfl rfl rfl λH1 X1 n1 g1 L1=> ?_;refine W.box rfl rfl rfl λH2 X2 n2 g2 L2=> ?_;have L1:=L1.ext X2;have Y2:=X1.trans X2;have L2:LocE H2 H1.next 0 [.int .i64 rt,.int .i64 rn,vA,vD]:=L2;clear g1 g2;repeat (first|refine W.g ?_|refine W.m λh_ X_ n_ g_ L_=> ?_|refine W.n λh_ X_ n_ g_ S_=> ?_)
 refine W.call rfl rfl rfl (mL (Rp.ext Y2 r0) (Y2.fr fr) sm sl λH3 X3=> ?_);obtain⟨cc,hc⟩:∃c,c=w.check:=⟨_,rfl⟩;rw[<-hc];have L1:=L1.ext X3;have L2:=L2.ext X3;have Y3:=Y2.trans X3;refine dB 2 3 4 8 λT=> ?_
 have bad:∀{e:Int},(w.oneX rt rn).2=e->e≠0->w.checkR ⟨rt,rn,ra,rd⟩=e:=λh1 h2=>by
  unfold WorldD.checkR;rw[if_pos (by show(w.oneX rt rn).2≠0;rw[h1];exact h2)];exact h1
 by_cases c0:¬cc.err=0
 ·repeat (first|refine W.g ?_|refine W.m λh_ X_ n_ g_ L_=> ?_|refine W.n λh_ X_ n_ g_ S_=> ?_)
  have:=q _ Y3;rw[bad (e:=2) (by rw[dY (by rw[<-hc];exact c0)]) (by decide)]at this;exact this
 have c0:cc.err=0:=Decidable.not_not.1 c0;have c1:w.check.err=0:=by rw[<-hc];exact c0
 repeat (first|refine W.g ?_|refine W.m λh_ X_ n_ g_ L_=> ?_|refine W.n λh_ X_ n_ g_ S_=> ?_)
 refine W.call rfl rfl rfl (aKq (Rp.ext Y3 r0) rt λH4 b X4 hb=> ?_);have L1:=L1.ext X4;have L2:=L2.ext X4;have Y4:=Y3.trans X4;refine dB 2 3 4 14 λT=> ?_;cases b
 ·repeat (first|refine W.g ?_|refine W.m λh_ X_ n_ g_ L_=> ?_|refine W.n λh_ X_ n_ g_ S_=> ?_)
  have:=q _ Y4;rw[bad (e:=5) (by rw[bN c1 (λh=>absurd (hb.2 h.1) (λh=>by cases h))]) (by decide)]at this;exact this
 obtain⟨p1,p2⟩:=hb.1 rfl;clear hb;obtain⟨j,hjn⟩:∃j:Nat,rt=(j:Int):=⟨rt.toNat,by omega⟩;have hj:j<w.trips.length:=by omega
 have f:=bW c1;obtain⟨t,ro,jr,TT⟩:=f.at hj;repeat (first|refine W.g ?_|refine W.m λh_ X_ n_ g_ L_=> ?_|refine W.n λh_ X_ n_ g_ S_=> ?_)
 rw[hjn];refine W.call rfl rfl rfl (zK (Rp.ext Y4 r0) (Y4.fr fr) f.hz j TT rn λH5 t0 n0 uA uD arr dep b X5 hb O5 hrun=> ?_);have L1:=L1.ext X5;have L2:=L2.ext X5;have Y5:=Y4.trans X5;refine dB 2 3 4 22 λT=> ?_;cases b
 ·repeat (first|refine W.g ?_|refine W.m λh_ X_ n_ g_ L_=> ?_|refine W.n λh_ X_ n_ g_ S_=> ?_)
  have:=q _ (Y5.trans X_)
  rw[bad (e:=5) (by rw[bN c1 (λh=>by
   have h2:=h.2;rw[hjn,Int.toNat_natCast]at h2;exact absurd (hb.2 h2) (λh=>by cases h))]) (by decide)]at this
  exact this
 have hA:=hb.1 rfl;have et:w.routeOf (w.tripAt rt.toNat)=ro:=by rw[hjn,Int.toNat_natCast,TT.at_,TT.of_]
 obtain⟨⟨hj',ht⟩,⟨hjr,hro⟩,er,_,_,_,_,_,_,hst,_,_⟩:=id TT
 have hck:w.checkR ⟨rt,rn,ra,rd⟩=(open Classical in if ¬(⟨rt,rn,ra,rd⟩:RunD).timesOk\/ra.length≠ro.stops.length then 2 else if w.hz<ra.getD (ra.length-1) 0 then 9 else 0):=by
  unfold WorldD.checkR;rw[if_neg (by show ¬(w.oneX rt rn).2≠0;rw[hjn,eB c1 hj hA];exact λh=>h rfl),et]
 rw[hck]at q;repeat (first|refine W.g ?_|refine W.m λh_ X_ n_ g_ L_=> ?_|refine W.n λh_ X_ n_ g_ S_=> ?_)
 have Y4:=Y5.trans X_;have L1:=L1.ext X_;have L2:=L2.ext X_;obtain⟨K,hK⟩:∃K,K=h_:=⟨_,rfl⟩;rw[<-hK]at L1 L2 Y4 ⊢;clear L_ g_ X_ n_ hK;refine cD 2 3 4 λT=> ?_;have ds:=aD (Y4.fr fr);repeat (first|refine aC ?_|refine W.e λr_ h_ ds_ s_=> ?_)
 refine aH ds_ rfl rfl rfl rfl (aGi (Rp.ext (Y4.trans ds_.x) u0) ((Y4.trans ds_.x).fr fr) hm λh1 b Y1 hb=>DZ.val Y1 λq1 N1 ds1 a1=> ?_);refine dB 2 3 4 28 λT=> ?_;cases b
 ·repeat (first|refine aC ?_|refine W.e λr_ h_ ds_ s_=> ?_)
  repeat (first|refine W.g ?_|refine W.m λh_ X_ n_ g_ L_=> ?_|refine W.n λh_ X_ n_ g_ S_=> ?_)
  have:=q _ (Y4.trans ds1.x);rw[if_pos (.inl λh=>absurd (hb.2 h) (λh=>by cases h))]at this;exact this
 have tok:=hb.1 rfl;repeat (first|refine aC ?_|refine W.e λr_ h_ ds_ s_=> ?_)
 refine hS t1 rfl rfl rfl rfl rfl rfl rfl ?_;repeat (first|refine aC ?_|refine W.e λr_ h_ ds_ s_=> ?_)
 rw[show rt=(j:Int)from hjn];refine aE s10 hj rfl rfl rfl rfl rfl rfl rfl λi1 o1 M1=> ?_;replace M1:=show LocE h i1 o1 [.int .i64 (jr:Int),.int .i64 t.frm,.int .i64 t.evr,.int .i64 t.untl]from by rw[<-er,<-ht];exact M1
 repeat (first|refine aC ?_|refine W.e λr_ h_ ds_ s_=> ?_)
 refine dQ s9 hjr rfl rfl rfl rfl rfl rfl rfl λi2 o2 e2 M2 re2=> ?_;rw[hro]at re2;obtain⟨z1,z2,z3,ee,y1,y2,y3⟩:=id re2;subst ee;repeat (first|refine aC ?_|refine W.e λr_ h_ ds_ s_=> ?_)
 refine hS y1 rfl rfl rfl rfl rfl rfl rfl ?_;by_cases c3:¬ra.length=ro.stops.length
 ·repeat (first|refine aC ?_|refine W.e λr_ h_ ds_ s_=> ?_)
  repeat (first|refine W.g ?_|refine W.m λh_ X_ n_ g_ L_=> ?_|refine W.n λh_ X_ n_ g_ S_=> ?_)
  have:=q _ (Y4.trans ds_.x);rw[if_pos (.inr c3)]at this;exact this
 have c3:ra.length=ro.stops.length:=Decidable.not_not.1 c3;rw[if_neg (λh=>h.elim (λh=>h tok) (λh=>h c3))]at q;repeat (first|refine aC ?_|refine W.e λr_ h_ ds_ s_=> ?_)
 have Y5:=Y4.trans ds_.x;have L1:=L1.ext ds_.x;have L2:=L2.ext ds_.x;repeat (first|refine W.g ?_|refine W.m λh_ X_ n_ g_ L_=> ?_|refine W.n λh_ X_ n_ g_ S_=> ?_)
 obtain⟨n,hn⟩:∃n,ra.length=n+1:=⟨ra.length-1,by have:=tok.1;have h2:2<=ra.length:=this;omega⟩;rw[show ra.length-1=n by omega]at q;obtain⟨K5,hK5⟩:∃K,K=h_:=⟨_,rfl⟩;rw[<-hK5]at L1 L2 Y5 ⊢;clear ds ds1 ds_ s_ M1 M2 hK5;refine cD 2 3 4 λT=> ?_;have ds:=aD (Y5.fr fr);repeat (first|refine aC ?_|refine W.e λr_ h_ ds_ s_=> ?_)
 refine hS t1 rfl rfl rfl rfl rfl rfl rfl ?_;repeat (first|refine aC ?_|refine W.e λr_ h_ ds_ s_=> ?_)
 rw[show((ra.length:Int)-1)=(n:Int) by omega];refine dR t1 (j:=n) (by omega) λiM1 oM1 M1=> ?_;by_cases c4:w.hz<ra.getD n 0
 ·repeat (first|refine aC ?_|refine W.e λr_ h_ ds_ s_=> ?_)
  repeat (first|refine W.g ?_|refine W.m λh_ X_ n_ g_ L_=> ?_|refine W.n λh_ X_ n_ g_ S_=> ?_)
  have:=q _ (Y5.trans ds_.x);rw[if_pos c4]at this;exact this
 ·repeat (first|refine aC ?_|refine W.e λr_ h_ ds_ s_=> ?_)
  repeat (first|refine W.g ?_|refine W.m λh_ X_ n_ g_ L_=> ?_|refine W.n λh_ X_ n_ g_ S_=> ?_)
  have:=q _ (Y5.trans ds_.x);rw[if_neg c4]at this;exact this
end
end Go.Proofs.YtfheibkikpefkaaGreatDoor
