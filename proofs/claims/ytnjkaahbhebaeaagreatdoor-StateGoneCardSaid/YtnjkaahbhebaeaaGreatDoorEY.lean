/- All runs of a world: by the program. No condition but that the table of spaces lies where it does and memory beyond the next number is empty. -/
import Derived.Test.YtnjkaahbhebaeaaGreatDoorXU
import Derived.Test.YtnjkaahbhebaeaaGreatDoorXZ
import Derived.Test.YtnjkaahbhebaeaaGreatDoorZB
import Derived.Test.YtnjkaahbhebaeaaGreatDoorEJ
import Derived.Test.YtnjkaahbhebaeaaGreatDoorEH
import Derived.Test.YtnjkaahbhebaeaaGreatDoorZC
set_option linter.unusedVariables false
set_option linter.unusedSimpArgs false
set_option maxRecDepth 100000
namespace Go.Proofs.YtnjkaahbhebaeaaGreatDoor
open Go Go.CM Go.CM.Tt
noncomputable section
set_option maxHeartbeats 16000000
theorem total_mono {w:WorldD} (f:w.Fine):∀k j:Nat,j<=k->k<=w.trips.length->w.total j<=w.total k
 |0,j,h,_=>by rw[show j=0 by omega];exact Int.le_refl _
 |k+1,j,h,hk=>by
  by_cases e:j=k+1
  ·rw[e];exact Int.le_refl _
  ·have:=total_mono f k j (by omega) (by omega)
   have:=cntAt_bound f (j:=k) (by omega);show _<=w.total k+w.cntAt k;omega
theorem runs_len {w:WorldD} (f:w.Fine):∀k:Nat,k<=w.trips.length->((w.runs k).length:Int)=w.total k
 |0,_=>rfl
 |k+1,hk=>by
  have:=runs_len f k (by omega);have:=cntAt_bound f (j:=k) (by omega);show((w.runs k++w.runsT k (w.cntAt k).toNat).length:Int)=w.total k+w.cntAt k;rw[List.length_append,WorldD.runsT_len];omega
theorem runs_tame {w:WorldD} (f:w.Fine) {x:RunD}:∀k:Nat,k<=w.trips.length->x∈w.runs k->x.arr.length<=1099511627776/\x.dep.length<=1099511627776
 |0,_,h=>by cases h
 |k+1,hk,h=>by
  rcases List.mem_append.1 h with h|h
  ·exact runs_tame f k (by omega) h
  ·obtain⟨n,_,rfl⟩:=List.mem_map.1 h
   obtain⟨t,r,jr,T⟩:=f.at (j:=k) (by omega);have:=T.tame.1;rw[T.run];exact⟨by rw[RouteW.arrs_len];omega,by rw[RouteW.deps_len];omega⟩
theorem hasAt_lt {w:WorldD} (f:w.Fine) {j:Nat} (hj:j<w.trips.length) {no:Nat} (h:(no:Int)<w.cntAt j):w.hasAt j (no:Int):=by
 obtain⟨t,r,jr,T⟩:=f.at hj;rw[T.has,WorldD.has_iff T.v.1 (by omega)];unfold WorldD.cntAt at h;rwa[T.at_,T.of_]at h
theorem each2_w {H h:Heap} {tm:Tm} {Q:R->Prop} {b y:Nat} {cs:List CV} {w:WorldD} (I:Nat->Heap->Prop) (J:Heap->Prop) (rw0:Rp.R H cs w) (fr:Fresh H) (f:w.Fine) (hT:w.trips.length<=1048576)
  (h0:I 0 h) (hX:∀k h',I k h'->Ext H h'/\LocE h' b 0 cs) (hI:∀k h' h2,I k h'->Ext h' h2->I k h2)
  (hy:∀k:Nat,k<w.trips.length->∀(h':Heap) (tm:Tm) (Q:R->Prop),I k h'->(∀h2,I (k+1) h2->Q (.val (.bool true) h2))->(∀h2,J h2->Q (.val (.bool false) h2))->W E1 (.call (.yield y) [.int .i64 (k:Int),.int .i64 (w.cntAt k)]) tm h' Q)
  (q:∀h',I w.trips.length h'->Q (.val (.tup []) h')) (qj:∀h',J h'->Q (.val (.tup []) h')):W E1 (.call (.fn 229 [] [.ptr (some (b,0))]) [.yield y]) tm h Q:=by
 have r0:=rw0;obtain⟨v1,v2,v3,v4,v5,v6,v7,v8,v9,v10,v11,rfl,s1,s2,s3,s4,s5,s6,s7,s8,s9,s10,s11⟩:=rw0;refine W.fn (s:=fnOf Tryz.f229) rfl rfl rfl rfl ?_;obtain⟨X0,L0⟩:=hX 0 h h0;repeat (first|refine W.g ?_|refine W.m λh_ X_ n_ g_ L_=> ?_|refine W.n λh_ X_ n_ g_ S_=> ?_)
 refine W.k4 0 1 6 7 λT=> ?_;clear L0
 refine W.loop (σ:=Nat) (λk tm h'=>I k h'/\tm.look 0= .yield y/\tm.look 1= .ptr (some (b,0))/\tm.look 6= .int .i64 (w.trips.length:Int)/\tm.look 7= .int .i64 (k:Int)/\k<=w.trips.length) (λk=>w.trips.length-k) ?_ (s:=0)
  ⟨h0,rfl,rfl,rfl,rfl,Nat.zero_le _⟩
 rintro k tm h' ⟨hI0,w0,w1,w6,w7,hk⟩;obtain⟨T,rfl⟩:=Tm.t4 w0 w1 w6 w7;clear w0 w1 w6 w7;obtain⟨X1,L1⟩:=hX k h' hI0;by_cases c1:k<w.trips.length
 ·obtain⟨t,ro,jr,T⟩:=f.at c1
  repeat (first|refine W.g ?_|refine W.m λh_ X_ n_ g_ L_=> ?_|refine W.n λh_ X_ n_ g_ S_=> ?_)
  refine W.call rfl rfl rfl (expCount_w (Rp.ext X1 r0) (X1.fr fr) f.hz k T λh2 X2=> ?_);have hI2:=hI k h' h2 hI0 X2;refine W.k7 0 1 6 7 10 11 14 λT=> ?_;clear L1;repeat (first|refine W.g ?_|refine W.m λh_ X_ n_ g_ L_=> ?_|refine W.n λh_ X_ n_ g_ S_=> ?_)
  refine W.call rfl rfl rfl (hy k c1 h2 _ _ hI2 (λh3 hI3=> ?_) (λh3 hJ=> ?_))
  ·repeat (first|refine W.g ?_|refine W.m λh_ X_ n_ g_ L_=> ?_|refine W.n λh_ X_ n_ g_ S_=> ?_)
   exact⟨k+1,lessN c1,hI3,rfl,rfl,rfl,rfl,c1⟩
  ·repeat (first|refine W.g ?_|refine W.m λh_ X_ n_ g_ L_=> ?_|refine W.n λh_ X_ n_ g_ S_=> ?_)
   exact qj _ hJ
 ·repeat (first|refine W.g ?_|refine W.m λh_ X_ n_ g_ L_=> ?_|refine W.n λh_ X_ n_ g_ S_=> ?_)
  rw[show k=w.trips.length by omega]at hI0;exact q _ hI0
theorem each_ex {h:Heap} {tm:Tm} {Q:R->Prop} {cs:List CV} (q:∀h',Ext h h'->LocE h' h.next 0 cs->h.next<h'.next->Q (.val (.fn 229 [] [.ptr (some (h.next,0))]) h')):W E1 (.call (.fn 162 [] []) [.agg cs]) tm h Q:=by
 refine W.fn (s:=fnOf Tryz.f162) rfl rfl rfl rfl ?_;repeat (refine W.seq ?_)
 refine W.region ?_;refine W.box rfl rfl rfl λH1 X1 n1 g1 L1=> ?_;repeat (first|refine W.g ?_|refine W.m λh_ X_ n_ g_ L_=> ?_|refine W.n λh_ X_ n_ g_ S_=> ?_)
 exact q _ X1 L1 (by omega)
def allOk (w:WorldD) (h:Heap) (v:CV) (e:Int):Prop:=
 (¬w.check.err=0/\e=2/\v= .slice none 0 0 0)\/(w.check.err=0/\16384<w.total w.trips.length/\e=3/\v= .slice none 0 0 0)\/(w.check.err=0/\w.total w.trips.length<=16384/\e=0/\Sl h v (w.runs w.trips.length))
def allOk0 (w:WorldD) (h:Heap) (lo:Nat) (v:CV) (e:Int):Prop:=
 (¬w.check.err=0/\e=2/\v= .slice none 0 0 0)\/(w.check.err=0/\16384<w.total w.trips.length/\e=3/\v= .slice none 0 0 0)\/(w.check.err=0/\w.total w.trips.length<=16384/\e=0/\∃css,RunsB h lo (λa=>a<lo) v css (w.runs w.trips.length))
theorem All_w0 {h:Heap} {tm:Tm} {Q:R->Prop} {cs:List CV} {w:WorldD} (r:Rp.R h cs w) (rh:RH h) (fr:Fresh h) (sm:w.small) (sl:w.whole->w.told.slim)
  (q:∀h' v e,Ext h h'->allOk0 w h' h.next v e->Q (.val (.tup [v,.int .i64 e]) h')):W E1 (.call (.fn 100 [] []) [.agg cs]) tm h Q:=by
 have r0:=r;obtain⟨v1,v2,v3,v4,v5,v6,v7,v8,v9,v10,v11,rfl,_⟩:=r;refine W.fn (s:=fnOf Tryz.f100) rfl rfl rfl rfl ?_;repeat (refine W.seq ?_)
 refine W.region ?_;refine W.box rfl rfl rfl λH1 X1 n1 g1 L1=> ?_;refine W.al rfl rfl rfl λH2 X2 n2 g2 L2=> ?_;refine W.al rfl rfl rfl λH3 X3 n3 g3 L3=> ?_;have g2:H2.get H1.next=some (.cells [.slice none 0 0 0] false):=g2;have g3:H3.get H2.next=some (.cells [.int .i64 0] false):=g3;have g2:=(X3.old _ (by omega)).trans g2;have L1:=(L1.ext X2).ext X3;have Y3:=(X1.trans X2).trans X3;clear L2 L3;obtain⟨b2,hb2⟩:∃b,b=H1.next:=⟨_,rfl⟩;obtain⟨b3,hb3⟩:∃b,b=H2.next:=⟨_,rfl⟩;rw[<-hb2]at g2 ⊢;rw[<-hb3]at g3 ⊢;have l2:b2<b3:=by omega
 have l20:h.next<b2:=by omega
 have l3:b3<H3.next:=by omega
 repeat (first|refine W.g ?_|refine W.m λh_ X_ n_ g_ L_=> ?_|refine W.n λh_ X_ n_ g_ S_=> ?_)
 refine W.call rfl rfl rfl (good_w (Rp.ext Y3 r0) (rh.ext Y3) (Y3.fr fr) sm sl λH4 b X4 hb=> ?_);have g2:=(X4.old _ (by omega)).trans g2;have g3:=(X4.old _ (by omega)).trans g3;have L1:=L1.ext X4;have Y4:=Y3.trans X4;have n4:=X4.next;refine W.k4 1 2 3 14 λT=> ?_;cases b
 ·have nc:¬w.check.err=0:=λh=>by have:=hb.2 h;cases this
  repeat (first|refine W.g ?_|refine W.m λh_ X_ n_ g_ L_=> ?_|refine W.n λh_ X_ n_ g_ S_=> ?_)
  refine W.stn (vs:=[.slice none 0 0 0]) (cs':=[.slice none 0 0 0]) rfl rfl rfl rfl rfl rfl g2 rfl λM nM gM kM=> ?_;repeat (first|refine W.g ?_|refine W.m λh_ X_ n_ g_ L_=> ?_|refine W.n λh_ X_ n_ g_ S_=> ?_)
  refine W.stn (vs:=[.int .i64 2]) (cs':=[.int .i64 2]) rfl rfl rfl rfl rfl rfl ((kM b3 (by omega)).trans g3) rfl λN nN gN kN=> ?_;repeat (first|refine W.g ?_|refine W.m λh_ X_ n_ g_ L_=> ?_|refine W.n λh_ X_ n_ g_ S_=> ?_)
  refine BodyQ.cell2 rfl rfl rfl ((kN b2 (by omega)).trans gM) gN rfl rfl rfl rfl ?_;exact q _ _ _ (Ext.store (Ext.store Y4 nM kM (by omega) (by omega)) nN kN (by omega) (by omega)) (.inl ⟨nc,rfl,rfl⟩)
 have c1:=hb.1 rfl;have f:=WorldD.fine c1;have hT:w.trips.length<=1048576:=sm.2.2.2.2.2.2.2.2.2.1;repeat (first|refine W.g ?_|refine W.m λh_ X_ n_ g_ L_=> ?_|refine W.n λh_ X_ n_ g_ S_=> ?_)
 obtain⟨b4,hb4⟩:∃b,b=H4.next:=⟨_,rfl⟩;obtain⟨K,hK⟩:∃K,K=h_:=⟨_,rfl⟩;have g4:K.get b4=some (.cells [.int .i64 0] false):=by rw[hK,hb4];exact g_
 rw[<-hK]at n_;have g2:K.get b2=some (.cells [.slice none 0 0 0] false):=by rw[hK];exact(X_.old _ (by omega)).trans g2
 have g3:K.get b3=some (.cells [.int .i64 0] false):=by rw[hK];exact(X_.old _ (by omega)).trans g3
 have L1:LocE K h.next 0 [.int .i64 w.hz,v1,v2,v3,v4,v5,v6,v7,v8,v9,v10,v11]:=by rw[hK];exact L1.ext X_
 have XK:Ext h K:=by rw[hK];exact Y4.trans X_
 rw[<-hK,<-hb4];have l4:b3<b4:=by omega
 have l4K:b4<K.next:=by omega
 clear L_ g_ X_ hK;refine W.call rfl rfl rfl (each_ex λH5 X5 L5 l5=> ?_);have g2:=(X5.old _ (by omega)).trans g2;have g3:=(X5.old _ (by omega)).trans g3;have g4:=(X5.old _ (by omega)).trans g4;have L1:=L1.ext X5;have Y5:=XK.trans X5;have n5:=X5.next;obtain⟨b5,hb5⟩:∃b,b=K.next:=⟨_,rfl⟩;rw[<-hb5]at L5 l5 ⊢;refine W.k5 1 2 3 4 17 λT=> ?_;repeat (first|refine W.g ?_|refine W.m λh_ X_ n_ g_ L_=> ?_|refine W.n λh_ X_ n_ g_ S_=> ?_)
 refine W.rangeX rfl λB hB=> ?_;obtain⟨y,hy⟩:∃y,y=H5.next:=⟨_,rfl⟩;rw[<-hy];have XN:Ext H5 (H5.new B):=Ext.new _ _
 refine each2_w (H:=h) (w:=w) (λk h'=>Ext h h'/\LocE h' h.next 0 [.int .i64 w.hz,v1,v2,v3,v4,v5,v6,v7,v8,v9,v10,v11]/\LocE h' b5 0 [.int .i64 w.hz,v1,v2,v3,v4,v5,v6,v7,v8,v9,v10,v11]/\h'.get b2=some (.cells [.slice none 0 0 0] false)/\h'.get b3=some (.cells [.int .i64 0] false)/\h'.get b4=some (.cells [.int .i64 (w.total k)] false)/\h'.get y=some B/\y<h'.next/\w.total k<=16384)
  (λh'=>Ext h h'/\h'.get b2=some (.cells [.slice none 0 0 0] false)/\h'.get b3=some (.cells [.int .i64 3] false)/\(∃tx px ax bx,h'.get y=some (.loop tx px ax bx 2 (some .ret)))/\y<h'.next/\16384<w.total w.trips.length) r0 fr f hT
  ⟨Y5.trans XN,L1.ext XN,L5.ext XN,(XN.old _ (by omega)).trans g2,(XN.old _ (by omega)).trans g3,(XN.old _ (by omega)).trans g4,by rw[hy];exact new_same _ _,by rw[hy];exact Nat.lt_succ_self _,by show(0:Int)<=16384;decide⟩
  (λk h' hi=>⟨hi.1,hi.2.2.1⟩)
  (λk h' h2 ⟨i1,i2,i3,i4,i5,i6,i7,i8,i9⟩ X=>⟨i1.trans X,i2.ext X,i3.ext X,(X.old _ (by omega)).trans i4,(X.old _ (by omega)).trans i5,(X.old _ (by omega)).trans i6,(X.old _ (by omega)).trans i7,Nat.lt_of_lt_of_le i8 X.next,i9⟩) ?_ ?_ ?_
 ·clear g2 g3 g4 L1 L5 XN
  rintro k hk h' tm' Q' ⟨X,L1,L5,g2,g3,g4,gy,ly,tk⟩ qt qf;have gyB:=gy;rw[hB]at gy;refine W.yieldX gy rfl ?_;repeat (first|refine W.g ?_|refine W.m λh_ X_ n_ g_ L_=> ?_|refine W.n λh_ X_ n_ g_ S_=> ?_)
  refine⟨_,_,_,_,_,gy,λG nG gG kG=> ?_⟩;have tb:=total_bound f k (by omega);have cb:=cntAt_bound f hk;have g4G:=(kG b4 (by omega)).trans g4;have Lb4:LocE G b4 0 [.int .i64 (w.total k)]:=⟨_,_,g4G,by omega,rfl⟩;have XG:=Ext.store X nG kG (by omega) ly;repeat (first|refine W.g ?_|refine W.m λh_ X_ n_ g_ L_=> ?_|refine W.n λh_ X_ n_ g_ S_=> ?_)
  refine W.stn (vs:=[.int .i64 (w.total k+w.cntAt k)]) (cs':=[.int .i64 (w.total k+w.cntAt k)]) rfl rfl rfl rfl rfl rfl g4G rfl λM nM gM kM=> ?_;have LM:LocE M b4 0 [.int .i64 (w.total k+w.cntAt k)]:=⟨_,_,gM,by omega,rfl⟩;have XM:=Ext.store XG nM kM (by omega) (by omega);clear Lb4;by_cases c:16384<w.total k+w.cntAt k
  ·repeat (first|refine W.g ?_|refine W.m λh_ X_ n_ g_ L_=> ?_|refine W.n λh_ X_ n_ g_ S_=> ?_)
   refine W.stn (vs:=[.slice none 0 0 0]) (cs':=[.slice none 0 0 0]) rfl rfl rfl rfl rfl rfl ((kM b2 (by omega)).trans ((kG b2 (by omega)).trans g2)) rfl λN nN gN kN=> ?_;clear LM;repeat (first|refine W.g ?_|refine W.m λh_ X_ n_ g_ L_=> ?_|refine W.n λh_ X_ n_ g_ S_=> ?_)
   refine W.stn (vs:=[.int .i64 3]) (cs':=[.int .i64 3]) rfl rfl rfl rfl rfl rfl ((kN b3 (by omega)).trans ((kM b3 (by omega)).trans ((kG b3 (by omega)).trans g3))) rfl λO nO gO kO=> ?_;repeat (first|refine W.g ?_|refine W.m λh_ X_ n_ g_ L_=> ?_|refine W.n λh_ X_ n_ g_ S_=> ?_)
   refine RoundQ.retX ((kO y (by omega)).trans ((kN y (by omega)).trans ((kM y (by omega)).trans gG))) λJ nJ gJ kJ=>qf J ⟨Ext.store (Ext.store (Ext.store XM nN kN (by omega) (by omega)) nO kO (by omega) (by omega)) nJ kJ (by omega) (by omega),(kJ b2 (by omega)).trans ((kO b2 (by omega)).trans gN),(kJ b3 (by omega)).trans gO,⟨_,_,_,_,gJ⟩,by omega,?_⟩;have:=total_mono f w.trips.length (k+1) hk (Nat.le_refl _);have e:w.total (k+1)=w.total k+w.cntAt k:=rfl;omega
  ·repeat (first|refine W.g ?_|refine W.m λh_ X_ n_ g_ L_=> ?_|refine W.n λh_ X_ n_ g_ S_=> ?_)
   refine RoundQ.norm ((kM y (by omega)).trans gG) λJ nJ gJ kJ=>qt J ⟨Ext.store XM nJ kJ (by omega) (by omega),?_,?_,(kJ b2 (by omega)).trans ((kM b2 (by omega)).trans ((kG b2 (by omega)).trans g2)),(kJ b3 (by omega)).trans ((kM b3 (by omega)).trans ((kG b3 (by omega)).trans g3)),(kJ b4 (by omega)).trans gM,by rw[hB];exact gJ,by omega,by show w.total k+w.cntAt k<=16384;omega⟩
   ·exact L1.of_get ((kJ h.next (by omega)).trans ((kM h.next (by omega)).trans (kG h.next (by omega)))) (by omega)
   ·exact L5.of_get ((kJ b5 (by omega)).trans ((kM b5 (by omega)).trans (kG b5 (by omega)))) (by omega)
 ·clear g2 g3 g4 L1 L5 XN
  rintro h' ⟨X,L1,L5,g2,g3,g4,gy,ly,tk⟩;rw[hB]at gy;refine RangeQ.val gy rfl ?_;have dl:∀k,k≠y->(h'.del y).get k=h'.get k:=λk hk=>by rw[Heap.get_del,if_neg (Ne.symm hk)]
  have XD:=X.del (i:=y) (by omega);have nD:(h'.del y).next=h'.next:=rfl;obtain⟨D,hD⟩:∃D,D=h'.del y:=⟨_,rfl⟩;rw[<-hD]at dl XD nD;rw[<-hD];have L1:LocE D h.next 0 _:=L1.of_get (dl _ (by omega)) (by omega);have g2:=(dl b2 (by omega)).trans g2;have g3:=(dl b3 (by omega)).trans g3;clear L5 g4 gy hB B;refine W.k3 1 2 3 λT=> ?_;repeat (first|refine W.g ?_|refine W.m λh_ X_ n_ g_ L_=> ?_|refine W.n λh_ X_ n_ g_ S_=> ?_)
  obtain⟨b7,hb7⟩:∃b,b=D.next:=⟨_,rfl⟩;obtain⟨K,hK⟩:∃K,K=h_:=⟨_,rfl⟩;have g7:K.get b7=some (.cells [.slice none 0 0 0] false):=by rw[hK,hb7];exact g_
  rw[<-hK]at n_;have g2:K.get b2=some (.cells [.slice none 0 0 0] false):=by rw[hK];exact(X_.old _ (by omega)).trans g2
  have g3:K.get b3=some (.cells [.int .i64 0] false):=by rw[hK];exact(X_.old _ (by omega)).trans g3
  have L1:LocE K h.next 0 [.int .i64 w.hz,v1,v2,v3,v4,v5,v6,v7,v8,v9,v10,v11]:=by rw[hK];exact L1.ext X_
  have XK:Ext h K:=by rw[hK];exact XD.trans X_
  rw[<-hK,<-hb7];have l7:b4<b7:=by omega
  have l7K:b7<K.next:=by omega
  clear L_ g_ X_ hK dl hD XD nD;refine W.call rfl rfl rfl (each_ex λH6 X6 L6 l6=> ?_);have g2:=(X6.old _ (by omega)).trans g2;have g3:=(X6.old _ (by omega)).trans g3;have g7:=(X6.old _ (by omega)).trans g7;have L1:=L1.ext X6;have Y6:=XK.trans X6;have n6:=X6.next;obtain⟨b6,hb6⟩:∃b,b=K.next:=⟨_,rfl⟩;rw[<-hb6]at L6 l6 ⊢;refine W.k5 1 2 3 7 26 λT=> ?_;repeat (first|refine W.g ?_|refine W.m λh_ X_ n_ g_ L_=> ?_|refine W.n λh_ X_ n_ g_ S_=> ?_)
  refine W.rangeX rfl λB hB=> ?_;obtain⟨z,hz⟩:∃y,y=H6.next:=⟨_,rfl⟩;rw[<-hz];have XN:Ext H6 (H6.new B):=Ext.new _ _
  refine each2_w (H:=h) (w:=w) (λk h'=>Ext h h'/\LocE h' h.next 0 [.int .i64 w.hz,v1,v2,v3,v4,v5,v6,v7,v8,v9,v10,v11]/\LocE h' b6 0 [.int .i64 w.hz,v1,v2,v3,v4,v5,v6,v7,v8,v9,v10,v11]/\h'.get b2=some (.cells [.slice none 0 0 0] false)/\h'.get b3=some (.cells [.int .i64 0] false)/\(∃v css,h'.get b7=some (.cells [v] false)/\RunsB h' h.next (λa=>a<=z) v css (w.runs k))/\h'.get z=some B/\z<h'.next)
   (λh'=>False) r0 fr f hT
   ⟨Y6.trans XN,L1.ext XN,L6.ext XN,(XN.old _ (by omega)).trans g2,(XN.old _ (by omega)).trans g3,⟨_,[],(XN.old _ (by omega)).trans g7,RunsB.nil⟩,by rw[hz];exact new_same _ _,by rw[hz];exact Nat.lt_succ_self _⟩
   (λk h' hi=>⟨hi.1,hi.2.2.1⟩)
   (λk h' h2 ⟨i1,i2,i3,i4,i5,⟨v,css,i6,i7⟩,i8,i9⟩ X=>⟨i1.trans X,i2.ext X,i3.ext X,(X.old _ (by omega)).trans i4,(X.old _ (by omega)).trans i5,⟨v,css,(X.old _ (by omega)).trans i6,i7.keep X.next λa ha _=>X.old a ha⟩,(X.old _ (by omega)).trans i8,Nat.lt_of_lt_of_le i9 X.next⟩) ?_ ?_ (λ_ h=>h.elim)
  ·clear g2 g3 g7 L1 L6 XN
   rintro k hk h' tm' Q' ⟨X,L1,L6,g2,g3,⟨v,css,g7,RB⟩,gz,lz⟩ qt qf;rw[hB]at gz;refine W.yieldX gz rfl ?_;repeat (first|refine W.g ?_|refine W.m λh_ X_ n_ g_ L_=> ?_|refine W.n λh_ X_ n_ g_ S_=> ?_)
   refine⟨_,_,_,_,_,gz,λG nG gG kG=> ?_⟩;have cb:=cntAt_bound f hk;obtain⟨n,hn⟩:∃n:Nat,w.cntAt k=(n:Int):=⟨(w.cntAt k).toNat,by omega⟩;have htot:=total_mono f w.trips.length (k+1) hk (Nat.le_refl _);have htk:w.total (k+1)=w.total k+w.cntAt k:=rfl;have hlen:=runs_len f k (by omega);have XG:=Ext.store X nG kG (by omega) lz;have L1:=L1.of_get (kG h.next (by omega)) (by omega);have L6:=L6.of_get (kG b6 (by omega)) (by omega);have g2:=(kG b2 (by omega)).trans g2;have g3:=(kG b3 (by omega)).trans g3;have g7:=(kG b7 (by omega)).trans g7;have RB:=RB.keep (h':=G) (by omega) λa _ ha=>kG a (by omega);obtain⟨t,ro,jr,TT⟩:=f.at hk;clear gz;rw[hn];repeat (first|refine W.g ?_|refine W.m λh_ X_ n_ g_ L_=> ?_|refine W.n λh_ X_ n_ g_ S_=> ?_)
   refine W.k5 1 7 8 29 30 λT=> ?_
   refine W.loop (σ:=Nat) (λi tm h'=>Ext h h'/\LocE h' h.next 0 [.int .i64 w.hz,v1,v2,v3,v4,v5,v6,v7,v8,v9,v10,v11]/\LocE h' b6 0 [.int .i64 w.hz,v1,v2,v3,v4,v5,v6,v7,v8,v9,v10,v11]/\h'.get b2=some (.cells [.slice none 0 0 0] false)/\h'.get b3=some (.cells [.int .i64 0] false)/\(∃v css,h'.get b7=some (.cells [v] false)/\RunsB h' h.next (λa=>a<=z) v css (w.runs k++w.runsT k i))/\h'.get z=G.get z/\z<h'.next/\tm.look 1= .ptr (some (h.next,0))/\tm.look 7= .ptr (some (b7,0))/\tm.look 8= .int .i64 (k:Int)/\tm.look 29= .int .i64 (n:Int)/\tm.look 30= .int .i64 (i:Int)/\i<=n) (λi=>n-i) ?_ (s:=0)
    ⟨XG,L1,L6,g2,g3,⟨v,css,g7,by rw[show w.runsT k 0=[]from rfl,List.append_nil];exact RB⟩,rfl,by omega,rfl,rfl,rfl,rfl,rfl,Nat.zero_le _⟩
   clear g2 g3 g7 RB L1 L6 XG X;rintro i tm h' ⟨X,L1,L6,g2,g3,⟨v,css,g7,RB⟩,gz,lz,w1,w7,w8,w29,w30,hi⟩;obtain⟨T,rfl⟩:=Tm.t5 w1 w7 w8 w29 w30;clear w1 w7 w8 w29 w30;have nX:=X.next;have Lb7:LocE h' b7 0 [v]:=⟨_,_,g7,by omega,rfl⟩;by_cases c2:i<n
   ·repeat (first|refine W.g ?_|refine W.m λh_ X_ n_ g_ L_=> ?_|refine W.n λh_ X_ n_ g_ S_=> ?_)
    refine W.call rfl rfl rfl (one_w (Rp.ext X r0) (X.fr fr) f.hz k TT (i:Int) λh2 t0 n0 vA vD arr dep bb X2 hb O2 hr=> ?_);have hbb:=hb.2 (hasAt_lt f hk (by omega));subst hbb;have er:=hr rfl;have L1':=L1;have L1:=L1.ext X2;have Lb7:=Lb7.ext X2;have nX2:=X2.next;refine W.k7 1 7 8 10 29 30 37 λT=> ?_;repeat (first|refine W.g ?_|refine W.m λh_ X_ n_ g_ L_=> ?_|refine W.n λh_ X_ n_ g_ S_=> ?_)
    rename_i h3 X3 n3 g3';have S_:SlG h_ 4 (.slice (some (h3.next,0)) 1 1 0) [[.int .i64 t0,.int .i64 n0,vA,vD]]:=S_;have X23:=(X2.trans X3).trans X_
    have bl:css.length<=16384:=by
     rw[RB.2.1,List.length_append,WorldD.runsT_len];omega
    refine W.apR2 (H:=h) (z:=4) (X.trans X23) (RB.1.ext X23) S_ (by simp) rfl rfl rfl rfl rfl rfl rfl rfl rfl rfl rfl rfl (by
     show(_+1)*64<=_;omega) λv' h5 X5 O5 k5 n5 i5=> ?_
    have E:=((OwnRn.of (t:=t0) (n:=n0) O2).ext X3).ext X_;rw[er]at E;have RM:=RB.more X23 nX (λa ha=>by have:a<=z:=ha;omega) (Nat.le_refl _) E O5 k5 n5 i5;have ne:∀a,a<=z->idOf v≠[a]:=λa ha e=>RB.2.2.2.2 a (by rw[e];simp) ha;have n23:=X23.next;have k5':∀a,a<=z->h5.get a=h'.get a:=λa ha=>(k5 a (by omega) (ne a ha)).trans (X23.old a (by omega));obtain⟨pv,nv,cv,xv,ev⟩:=O5.form;have hcells:v'.cells=some [v']:=by rw[ev];rfl
    clear Lb7 L_ g3' g_ S_;repeat (first|refine W.g ?_|refine W.m λh_ X_ n_ g_ L_=> ?_|refine W.n λh_ X_ n_ g_ S_=> ?_)
    refine W.stn (vs:=[v']) (cs':=[v']) rfl rfl rfl hcells rfl rfl ((k5' b7 (by omega)).trans g7) rfl λM nM gM kM=> ?_;have kM':∀a,a<=z->a≠b7->M.get a=h'.get a:=λa h1 h2=>(kM a h2).trans (k5' a h1)
    have RF:RunsB M h.next (λa=>a<=z) v' (css++[[.int .i64 t0,.int .i64 n0,vA,vD]]) (w.runs k++w.runsT k (i+1)):=by
     rw[WorldD.runsT_more,<-List.append_assoc];exact RM.keep (by omega) λa _ ha=>kM a (λe=>ha (by show a<=z;omega))
    repeat (first|refine W.g ?_|refine W.m λh_ X_ n_ g_ L_=> ?_|refine W.n λh_ X_ n_ g_ S_=> ?_)
    refine⟨i+1,lessN c2,Ext.store X5 nM kM (by omega) (by omega),?_,?_,(kM' b2 (by omega) (by omega)).trans g2,(kM' b3 (by omega) (by omega)).trans g3,⟨v',_,gM,RF⟩,(kM' z (by omega) (by omega)).trans gz,by omega,rfl,rfl,rfl,rfl,rfl,c2⟩
    ·exact L1'.of_get (kM' _ (by omega) (by omega)) (by omega)
    ·exact L6.of_get (kM' _ (by omega) (by omega)) (by omega)
   ·repeat (first|refine W.g ?_|refine W.m λh_ X_ n_ g_ L_=> ?_|refine W.n λh_ X_ n_ g_ S_=> ?_)
    have ei:i=n:=by omega
    refine RoundQ.norm (gz.trans gG) λJ nJ gJ kJ=>qt J ⟨Ext.store X nJ kJ (by omega) (by omega),L1.of_get (kJ _ (by omega)) (by omega),L6.of_get (kJ _ (by omega)) (by omega),(kJ _ (by omega)).trans g2,(kJ _ (by omega)).trans g3,⟨v,css,(kJ _ (by omega)).trans g7,?_⟩,by rw[hB];exact gJ,by omega⟩;show RunsB J _ _ v css (w.runs k++w.runsT k (w.cntAt k).toNat);rw[hn,Int.toNat_natCast,<-ei];exact RB.keep (by omega) λa _ ha=>kJ a (λe=>ha (by show a<=z;omega))
  ·clear g2 g3 g7 L1 L6 XN
   rintro h' ⟨X,L1,L6,g2,g3,⟨v,css,g7,RB⟩,gz,lz⟩;rw[hB]at gz;refine RangeQ.val gz rfl ?_;have dl:∀k,k≠z->(h'.del z).get k=h'.get k:=λk hk=>by rw[Heap.get_del,if_neg (Ne.symm hk)]
   have XD:=X.del (i:=z) (by omega);have nD:(h'.del z).next=h'.next:=rfl;obtain⟨D2,hD⟩:∃D,D=h'.del z:=⟨_,rfl⟩;rw[<-hD]at dl XD nD;rw[<-hD];have RD:=RB.keep (h':=D2) (by omega) λa _ ha=>dl a (λe=>ha (by show a<=z;omega));have g2:=(dl b2 (by omega)).trans g2;have g3:=(dl b3 (by omega)).trans g3;have L7:LocE D2 b7 0 [v]:=⟨_,_,(dl b7 (by omega)).trans g7,by omega,rfl⟩;obtain⟨pv,nv,cv,xv,ev⟩:=RD.1.form;have hcells:v.cells=some [v]:=by rw[ev];rfl
   clear L1 L6;refine W.k4 1 2 3 7 λT=> ?_;repeat (first|refine W.g ?_|refine W.m λh_ X_ n_ g_ L_=> ?_|refine W.n λh_ X_ n_ g_ S_=> ?_)
   refine W.stn (vs:=[v]) (cs':=[v]) rfl rfl rfl hcells rfl rfl g2 rfl λM nM gM kM=> ?_;repeat (first|refine W.g ?_|refine W.m λh_ X_ n_ g_ L_=> ?_|refine W.n λh_ X_ n_ g_ S_=> ?_)
   refine W.stn (vs:=[.int .i64 0]) (cs':=[.int .i64 0]) rfl rfl rfl rfl rfl rfl ((kM b3 (by omega)).trans g3) rfl λN nN gN kN=> ?_;repeat (first|refine W.g ?_|refine W.m λh_ X_ n_ g_ L_=> ?_|refine W.n λh_ X_ n_ g_ S_=> ?_)
   refine BodyQ.cell2 rfl rfl rfl ((kN b2 (by omega)).trans gM) gN rfl rfl rfl rfl ?_;have RN:=(RD.keep (h':=M) (by omega) λa _ ha=>kM a (λe=>ha (by show a<=z;omega))).keep (h':=N) (by omega) λa _ ha=>kN a (λe=>ha (by show a<=z;omega));exact q _ _ _ (Ext.store (Ext.store XD nM kM (by omega) (by omega)) nN kN (by omega) (by omega)) (.inr (.inr ⟨c1,tk,rfl,css,RN.1,RN.2.1,RN.2.2.1,λa ha=>⟨(RN.2.2.2.1 a ha).1,(RN.2.2.2.1 a ha).2.1,λ(hp:a<h.next)=>(RN.2.2.2.1 a ha).2.2 (show a<=z by omega)⟩,λa ha (hp:a<h.next)=>RN.2.2.2.2 a ha (show a<=z by omega)⟩))
 ·rintro h' ⟨X,g2,g3,⟨tx,px,ax,bx,gy⟩,ly,ht⟩
  refine RangeQ.ret gy rfl ?_;repeat (first|refine W.g ?_|refine W.m λh_ X_ n_ g_ L_=> ?_|refine W.n λh_ X_ n_ g_ S_=> ?_)
  refine BodyQ.cell2 rfl rfl rfl (by rw[Heap.get_del,if_neg (by omega)];exact g2) (by rw[Heap.get_del,if_neg (by omega)];exact g3) rfl rfl rfl rfl ?_;exact q _ _ _ (X.del (by omega)) (.inr (.inl ⟨c1,ht,rfl,rfl⟩))
theorem All_w {h:Heap} {tm:Tm} {Q:R->Prop} {cs:List CV} {w:WorldD} (r:Rp.R h cs w) (rh:RH h) (fr:Fresh h) (sm:w.small) (sl:w.whole->w.told.slim)
  (q:∀h' v e,Ext h h'->allOk w h' v e->Q (.val (.tup [v,.int .i64 e]) h')):W E1 (.call (.fn 100 [] []) [.agg cs]) tm h Q:=
 All_w0 r rh fr sm sl λh' v e X a=>q h' v e X (a.imp id (Or.imp id λ⟨c,t,e,css,b⟩=>⟨c,t,e,b.toSl⟩))
theorem runSame_w {h:Heap} {tm:Tm} {Q:R->Prop} {ca cb:List CV} {d:RunD} (ra:Rp.R h ca d) (rb:Rp.R h cb d) (fr:Fresh h) (la:d.arr.length<=1099511627776) (ld:d.dep.length<=1099511627776)
  (q:∀h',Ext h h'->Q (.val (.bool true) h')):W E1 (.call (.fn 40 [] []) [.agg ca,.agg cb]) tm h Q:=by
 obtain⟨u1,u2,rfl,s1,s2⟩:=ra;obtain⟨u3,u4,rfl,s3,s4⟩:=rb;refine W.fn (s:=fnOf Tryz.f40) rfl rfl rfl rfl ?_;repeat (refine W.seq ?_)
 refine W.region ?_;refine W.box rfl rfl rfl λH1 X1 n1 g1 L1=> ?_;refine W.box rfl rfl rfl λH2 X2 n2 g2 L2=> ?_;have L1:=L1.ext X2;have Y2:=X1.trans X2;repeat (first|refine W.g ?_|refine W.m λh_ X_ n_ g_ L_=> ?_|refine W.n λh_ X_ n_ g_ S_=> ?_)
 refine W.call rfl rfl rfl (same2_int (Y2.fr fr) (s1.ext Y2) (s3.ext Y2) la la λH3 b X3 hb=> ?_);have hb:=hb.2 rfl;subst hb;have L1:=L1.ext X3;have L2:=L2.ext X3;have Y3:=Y2.trans X3;refine W.k4 2 3 17 22 λT=> ?_;repeat (first|refine W.g ?_|refine W.m λh_ X_ n_ g_ L_=> ?_|refine W.n λh_ X_ n_ g_ S_=> ?_)
 refine W.call rfl rfl rfl (same2_int (Y3.fr fr) (s2.ext Y3) (s4.ext Y3) ld ld λH4 b X4 hb=> ?_);have hb:=hb.2 rfl;subst hb;repeat (first|refine W.g ?_|refine W.m λh_ X_ n_ g_ L_=> ?_|refine W.n λh_ X_ n_ g_ S_=> ?_)
 exact q _ (Y3.trans X4)
end
end Go.Proofs.YtnjkaahbhebaeaaGreatDoor
