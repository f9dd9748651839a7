/- What is made of a sheet. No condition but that the table of spaces lies where it does and memory beyond the next number is empty. -/
import Derived.Test.YtfheibkikpefkaaGreatDoorXU
import Derived.Test.YtfheibkikpefkaaGreatDoorYS
import Derived.Test.YtfheibkikpefkaaGreatDoorYF
import Derived.Test.YtfheibkikpefkaaGreatDoorYL
import Derived.Test.YtfheibkikpefkaaGreatDoorYM
import Derived.Test.YtfheibkikpefkaaGreatDoorXQ4
import Derived.Test.YtfheibkikpefkaaGreatDoorZYa
import Derived.Test.YtfheibkikpefkaaGreatDoorZYc
import Derived.Test.YtfheibkikpefkaaGreatDoorEG
set_option linter.unusedVariables false
set_option linter.unusedSimpArgs false
namespace Go.Proofs.YtfheibkikpefkaaGreatDoor
open Go Go.CM Go.CM.Tt
noncomputable section
set_option maxHeartbeats 16000000
theorem make_w0 {h:Heap} {tm:Tm} {Q:R->Prop} {cs:List CV} {x:SheetD} (r:Rp.R h cs x) (rh:RH h) (fr:Fresh h) (sm:x.slim) (q:∀h' c1,Ext h h'->(∀M:Heap,h'.next<=M.next->(∀k,h.next<=k->k<h'.next->M.get k=h'.get k)->Rp.R M c1 x.make.1)->Q (.val (.tup [.agg c1,.agg x.make.2.enc]) h')):W E1 (.call (.fn 113 [] []) [.agg cs]) tm h Q:=by
 have r0:=r;obtain⟨v1,v2,v3,v4,v5,v6,rfl,s1,s2,s3,s4,s5,s6⟩:=r;refine W.fn (s:=fnOf Tryz.f113) rfl rfl rfl rfl ?_;repeat (refine W.seq ?_)
 refine W.region ?_;refine W.box rfl rfl rfl λH1 X1 n1 g1 L1=> ?_;refine W.al rfl rfl rfl λH2 X2 n2 g2 L2=> ?_;refine W.al rfl rfl rfl λH3 X3 n3 g3 L3=> ?_;clear L2 L3;have g2:H3.get H1.next=some (.cells [.int .i64 0,.slice none 0 0 0,.slice none 0 0 0,.slice none 0 0 0,.slice none 0 0 0,.slice none 0 0 0,.slice none 0 0 0,.slice none 0 0 0,.slice none 0 0 0,.slice none 0 0 0,.slice none 0 0 0,.slice none 0 0 0] false):=(X3.old _ (by omega)).trans g2;have g3:H3.get H2.next=some (.cells [.int .i64 0,.int .i64 0,.int .i64 0] false):=g3;have X0:Ext h H3:=(X1.trans X2).trans X3;have L1:=(L1.ext X2).ext X3;have l1:H1.next<H3.next:=by omega
 have l2:H2.next<H3.next:=by omega
 have l0:h.next<H1.next:=by omega
 have l12:H1.next<H2.next:=by omega
 clear g1;repeat refine W.g ?_
 refine W.call rfl rfl rfl (sheetCheck_w (Rp.ext X0 r0) (rh.ext X0) sm λH4 X4=> ?_);refine W.k4 1 2 3 8 λT=> ?_;have L1:=L1.ext X4;have g2:=(X4.old _ l1).trans g2;have g3:=(X4.old _ l2).trans g3;have Y4:=X0.trans X4;have nx4:=X4.next;by_cases c:x.err=0
 ·have ok:x.Ok:=SheetD.err_zero.1 c
  repeat refine W.g ?_
  refine W.call rfl rfl rfl (numbered_w (Rp.ext Y4 r0) (Y4.fr fr) ok.1 sm λH5 e X5 r50=> ?_);have r5:=r50 H5 (Nat.le_refl _) λ_ _ _=>rfl;have r51:=r5;obtain⟨u1,u2,u3,u4,u5,u6,u7,u8,u9,u10,u11,rfl,t1,t2,t3,t4,t5,t6,t7,t8,t9,t10,t11⟩:=r5;refine W.k4 1 2 3 15 λT=> ?_;have nx5:=X5.next;repeat (first|refine W.g ?_|refine W.m λh_ X_ n_ g_ L_=> ?_)
  have Y5:Ext h h_:=(Y4.trans X5).trans X_;have nx6:=X_.next;refine W.call rfl rfl rfl (wrong_w (rh.ext Y5) (Y5.fr fr) L_ (Rp.ext X_ r51) ok.numNames ok.numFew x.numLens ok.numRoutes λH6 X6=> ?_);have L5:=L_.ext X6;have nx7:=X6.next;have g2:=(X6.old _ (by omega)).trans ((X_.old _ (by omega)).trans ((X5.old _ (by omega)).trans g2));have g3:=(X6.old _ (by omega)).trans ((X_.old _ (by omega)).trans ((X5.old _ (by omega)).trans g3));have r6:=Rp.ext X6 (Rp.ext X_ r51);have Y6:=Y5.trans X6;have Z6:=X_.trans X6;have b5:H4.next<=H5.next:=nx5;refine W.k5 1 2 3 5 16 λT=> ?_;clear g_ L_ X_;repeat (first|refine W.g ?_|refine W.m λh_ X_ n_ g_ L_=> ?_)
  have Y7:Ext h h_:=Y6.trans X_;have Z5:Ext H5 h_:=Z6.trans X_;have L5:=L5.ext X_;have r7:=Rp.ext X_ r6;have g2:=(X_.old _ (by omega)).trans g2;have g3:=(X_.old _ (by omega)).trans g3;have lb1:H1.next<h_.next:=by omega
  have lb2:H2.next<h_.next:=by omega
  by_cases c2:x.num.wrong.err=0
  ·have em:x.make=(x.num,Wrong0):=by unfold SheetD.make;rw[if_pos c,if_pos c2]
   rw[em]at q;repeat refine W.g ?_
   refine W.stn (vs:=[.int .i64 x.num.hz,u1,u2,u3,u4,u5,u6,u7,u8,u9,u10,u11]) (cs':=[.int .i64 x.num.hz,u1,u2,u3,u4,u5,u6,u7,u8,u9,u10,u11]) rfl rfl rfl rfl rfl rfl g2 rfl λM1 m1 gM1 kM1=> ?_;refine W.stn (vs:=[.int .i64 0,.int .i64 0,.int .i64 0]) (cs':=[.int .i64 0,.int .i64 0,.int .i64 0]) rfl rfl rfl rfl rfl rfl ((kM1 H2.next (by omega)).trans g3) rfl λM2 m2 gM2 kM2=> ?_;repeat refine W.g ?_
   refine BodyQ.cell2 rfl rfl rfl ((kM2 H1.next (by omega)).trans gM1) gM2 rfl rfl rfl rfl ?_;refine q M2 _ (Ext.store (Ext.store Y7 m1 kM1 (by omega) lb1) m2 kM2 (by omega) (by omega)) (λM hMn hM=>r50 M (by have:=Z5.next;omega) λk a b=> ?_);have:=Z5.next;rw[hM k (by have:=X4.next;have:=X0.next;omega) (by omega),kM2 k (by omega),kM1 k (by omega)];exact Z5.old k b
  ·have em:x.make=(WorldD.none,x.num.wrong):=by unfold SheetD.make;rw[if_pos c,if_neg c2]
   rw[em]at q;repeat refine W.g ?_
   have dv:DV (λb=>b=H6.next) h_ [] [] []:=DV.start (λb hb=>by rw[hb];omega);try refine W.dv ?_
   refine W.ldVw dv rfl L_ rfl rfl rfl rfl rfl rfl λq1 G1 dv1 s1 L1'=> ?_;try refine W.dv ?_
   refine W.stV (vs:=[.int .i64 0,.slice none 0 0 0,.slice none 0 0 0,.slice none 0 0 0,.slice none 0 0 0,.slice none 0 0 0,.slice none 0 0 0,.slice none 0 0 0,.slice none 0 0 0,.slice none 0 0 0,.slice none 0 0 0,.slice none 0 0 0]) (cs':=[.int .i64 0,.slice none 0 0 0,.slice none 0 0 0,.slice none 0 0 0,.slice none 0 0 0,.slice none 0 0 0,.slice none 0 0 0,.slice none 0 0 0,.slice none 0 0 0,.slice none 0 0 0,.slice none 0 0 0,.slice none 0 0 0]) dv1 (by show ¬H1.next=H6.next;omega) rfl rfl rfl rfl rfl rfl rfl ((s1.get _).trans g2) rfl λq2 G2 hr2 s2=> ?_;try refine W.dv ?_
   have n1':=s1.next;have n2':G2.next=G1.next:=s2.next;have k2:∀k,k≠H1.next->G2.get k=G1.get k:=λk hk=>by rw[s2.get,Heap.get_put,if_neg (Ne.symm hk)]
   have gG2:G2.get H1.next=some (.cells [.int .i64 0,.slice none 0 0 0,.slice none 0 0 0,.slice none 0 0 0,.slice none 0 0 0,.slice none 0 0 0,.slice none 0 0 0,.slice none 0 0 0,.slice none 0 0 0,.slice none 0 0 0,.slice none 0 0 0,.slice none 0 0 0] false):=by rw[s2.get,put_same]
   refine W.dst (vs:=[.int .i64 x.num.wrong.err,.int .i64 x.num.wrong.kind,.int .i64 x.num.wrong.pos]) (cs':=[.int .i64 x.num.wrong.err,.int .i64 x.num.wrong.kind,.int .i64 x.num.wrong.pos]) hr2 rfl rfl rfl rfl rfl rfl rfl ((k2 H2.next (by omega)).trans ((s1.get _).trans g3)) rfl λq3 G3 hr3 s3=> ?_;try refine W.dv ?_
   have n3':G3.next=G2.next:=s3.next;have k3:∀k,k≠H2.next->G3.get k=G2.get k:=λk hk=>by rw[s3.get,Heap.get_put,if_neg (Ne.symm hk)]
   have gG3:G3.get H2.next=some (.cells [.int .i64 x.num.wrong.err,.int .i64 x.num.wrong.kind,.int .i64 x.num.wrong.pos] false):=by rw[s3.get,put_same]
   repeat refine W.g ?_
   refine BodyQ.cell2 rfl rfl rfl ((k3 H1.next (by omega)).trans gG2) gG3 rfl rfl rfl rfl ?_;exact q G3 _ (Ext.store (Ext.store (Y7.trans s1.ext) n2' k2 (by omega) (by omega)) n3' k3 (by omega) (by omega)) λ_ _ _=>⟨_,_,_,_,_,_,_,_,_,_,_,rfl,Sl.nil,Sl.nil,Sl.nil,Sl.nil,Sl.nil,Sl.nil,Sl.nil,Sl.nil,Sl.nil,Sl.nil,Sl.nil⟩
 ·have em:x.make=(WorldD.none,⟨x.err,0,0⟩):=by unfold SheetD.make;rw[if_neg c]
  rw[em]at q;repeat refine W.g ?_
  refine W.stn (vs:=[.int .i64 0,.slice none 0 0 0,.slice none 0 0 0,.slice none 0 0 0,.slice none 0 0 0,.slice none 0 0 0,.slice none 0 0 0,.slice none 0 0 0,.slice none 0 0 0,.slice none 0 0 0,.slice none 0 0 0,.slice none 0 0 0]) (cs':=[.int .i64 0,.slice none 0 0 0,.slice none 0 0 0,.slice none 0 0 0,.slice none 0 0 0,.slice none 0 0 0,.slice none 0 0 0,.slice none 0 0 0,.slice none 0 0 0,.slice none 0 0 0,.slice none 0 0 0,.slice none 0 0 0]) rfl rfl rfl rfl rfl rfl g2 rfl λM1 m1 gM1 kM1=> ?_;refine W.stn (vs:=[.int .i64 x.err,.int .i64 0,.int .i64 0]) (cs':=[.int .i64 x.err,.int .i64 0,.int .i64 0]) rfl rfl rfl rfl rfl rfl ((kM1 H2.next (by omega)).trans g3) rfl λM2 m2 gM2 kM2=> ?_;repeat refine W.g ?_
  refine BodyQ.cell2 rfl rfl rfl ((kM2 H1.next (by omega)).trans gM1) gM2 rfl rfl rfl rfl ?_;exact q M2 _ (Ext.store (Ext.store Y4 m1 kM1 (by omega) (by omega)) m2 kM2 (by omega) (by omega)) λ_ _ _=>⟨_,_,_,_,_,_,_,_,_,_,_,rfl,Sl.nil,Sl.nil,Sl.nil,Sl.nil,Sl.nil,Sl.nil,Sl.nil,Sl.nil,Sl.nil,Sl.nil,Sl.nil⟩
theorem make_w {h:Heap} {tm:Tm} {Q:R->Prop} {cs:List CV} {x:SheetD} (r:Rp.R h cs x) (rh:RH h) (fr:Fresh h) (sm:x.slim) (q:∀h' c1,Ext h h'->Rp.R h' c1 x.make.1->Q (.val (.tup [.agg c1,.agg x.make.2.enc]) h')):W E1 (.call (.fn 113 [] []) [.agg cs]) tm h Q:=
 make_w0 r rh fr sm λh' c1 X s=>q h' c1 X (s h' (Nat.le_refl _) λ_ _ _=>rfl)
end
end Go.Proofs.YtfheibkikpefkaaGreatDoor

namespace Go.Proofs.YtfheibkikpefkaaGreatDoor
open Go Go.CM Go.CM.Tt
noncomputable section
set_option maxHeartbeats 16000000
set_option maxRecDepth 100000
theorem check_w {h:Heap} {tm:Tm} {Q:R->Prop} {cs:List CV} {w:WorldD} (r:Rp.R h cs w) (rh:RH h) (fr:Fresh h) (sm:w.small) (sl:w.whole->w.told.slim) (q:∀h',Ext h h'->Q (.val (.agg w.check.enc) h')):W E1 (.call (.fn 74 [] []) [.agg cs]) tm h Q:=by
 have r0:=r;obtain⟨v1,v2,v3,v4,v5,v6,v7,v8,v9,v10,v11,rfl,_⟩:=r;refine W.fn (s:=fnOf Tryz.f74) rfl rfl rfl rfl ?_;repeat (refine W.seq ?_)
 refine W.region ?_;refine W.box rfl rfl rfl λHa Xa na ga La=> ?_;refine W.al rfl rfl rfl λH0 X0 n0 g0 L0=> ?_;clear L0;have g0:H0.get Ha.next=some (.cells [.int .i64 0,.int .i64 0,.int .i64 0] false):=g0;have L1:=La.ext X0;have X1:=Xa.trans X0;have nX1:=X1.next;clear La;repeat refine W.g ?_
 refine W.call rfl rfl rfl (whole_w (Rp.ext X1 r0) sm λH2 b X2 hb=> ?_);have L1:=L1.ext X2;have g0:=(X2.old _ (by omega)).trans g0;have Y2:=X1.trans X2;have nX2:=X2.next;refine W.k3 1 2 6 λT=> ?_;cases b
 case false=>
  have e:w.check=⟨2,0,0⟩:=by unfold WorldD.check;rw[if_neg (λh=>by cases hb.2 h)]
  rw[e]at q;repeat refine W.g ?_
  refine W.stn (vs:=[.int .i64 2,.int .i64 0,.int .i64 0]) (cs':=[.int .i64 2,.int .i64 0,.int .i64 0]) rfl rfl rfl rfl rfl rfl g0 rfl λM nM gM kM=> ?_;repeat refine W.g ?_
  refine BodyQ.cell1 rfl rfl gM rfl rfl ?_;exact q M (Ext.store Y2 nM kM (by omega) (by omega))
 have hw:=hb.1 rfl;have e:w.check=w.told.make.2:=by unfold WorldD.check;rw[if_pos hw]
 rw[e]at q;repeat refine W.g ?_
 refine W.call rfl rfl rfl (told_w (Rp.ext Y2 r0) (Y2.fr fr) hw sm λH3 e3 X3 r3=> ?_);have Y3:=Y2.trans X3;have nX3:=X3.next;have g0:=(X3.old _ (by omega)).trans g0;have r30:=r3;obtain⟨x1,x2,x3,x4,x5,x6,rfl,_⟩:=r3;refine W.k3 1 2 11 λT=> ?_;refine W.call rfl rfl rfl (make_w r30 (rh.ext Y3) (Y3.fr fr) (sl hw) λH4 c4 X4 r4=> ?_);have Y4:=Y3.trans X4;have nX4:=X4.next;have g0:=(X4.old _ (by omega)).trans g0;obtain⟨u1,u2,u3,u4,u5,u6,u7,u8,u9,u10,u11,rfl,_⟩:=r4;clear L1;refine W.k3 1 2 12 λT=> ?_;repeat (first|refine W.g ?_|refine W.m λh_ X_ n_ g_ L_=> ?_)
 rename_i M2 j2 n2 g2 L2;clear L2 L_;have g2:=(X_.old H4.next (by omega)).trans g2;have g0:=((j2.trans X_).old _ (by omega)).trans g0;refine W.stn (vs:=[.int .i64 w.told.make.1.hz,u1,u2,u3,u4,u5,u6,u7,u8,u9,u10,u11]) (cs':=[.int .i64 w.told.make.1.hz,u1,u2,u3,u4,u5,u6,u7,u8,u9,u10,u11]) rfl rfl rfl rfl rfl rfl g2 rfl λM4 m4 h4 k4=> ?_;refine W.stn (vs:=w.told.make.2.enc) (cs':=w.told.make.2.enc) rfl rfl rfl rfl rfl rfl ((k4 M2.next (by omega)).trans g_) rfl λM5 m5 h5 k5=> ?_;have J5:Ext H4 M5:=Ext.store (Ext.store (j2.trans X_) m4 k4 (by omega) (by omega)) m5 k5 (by omega) (by omega);have Lf:LocE M5 M2.next 0 w.told.make.2.enc:=⟨_,_,h5,by omega,rfl⟩;have g0:=(k5 Ha.next (by omega)).trans ((k4 Ha.next (by omega)).trans g0);clear X_ g2 g_ h4 k4 k5 j2;refine W.k3 1 2 4 λT=> ?_;repeat refine W.g ?_
 refine W.stn (vs:=w.told.make.2.enc) (cs':=w.told.make.2.enc) rfl rfl rfl rfl rfl rfl g0 rfl λM nM gM kM=> ?_;repeat refine W.g ?_
 refine BodyQ.cell1 rfl rfl gM rfl rfl ?_;exact q M (Ext.store (Y4.trans J5) nM kM (by omega) (by omega))
end
end Go.Proofs.YtfheibkikpefkaaGreatDoor

namespace Go.Proofs.YtfheibkikpefkaaGreatDoor
open Go Go.CM Go.CM.Tt
noncomputable section
set_option maxHeartbeats 16000000
theorem midS_eq (i j:Nat) (h:i+j<=9223372036854775807):IntKind.i64.wrap ((IntKind.u64.wrap ((i:Int)+(j:Int))).fdiv (2 ^ min (Int.toNat 1) IntKind.u64.bits))=(((i+j)/2:Nat):Int):=by
 rw[show IntKind.u64.wrap ((i:Int)+(j:Int))=(i:Int)+j from IntWalk.u64_in _ (by omega)];have e:((2:Int) ^ min (Int.toNat 1) IntKind.u64.bits)=2:=rfl;rw[e,Int.fdiv_eq_ediv_of_nonneg _ (by omega)];rw[IntWalk.i64_in _ (by omega)];omega
theorem search_w {h:Heap} {tm:Tm} {Q:R->Prop} {f:CV} (n:Nat) (hn:n<=2199023255552) (P:Nat->Prop) (anti:∀a b,a<=b->P b->P a)
  (hf:∀(h':Heap) (j:Nat) (Q':R->Prop),Ext h h'->j<n->(∀h2 (b:Bool),Ext h' h2->(b=true↔¬P j)->Q' (.val (.bool b) h2))->W E1 (.call f [.int .i64 (j:Int)]) .leaf h' Q')
  (q:∀h' (k:Nat),Ext h h'->k<=n->(∀j,j<k->P j)->(k<n->¬P k)->Q (.val (.int .i64 (k:Int)) h')):W E1 (.call (.fn 105 [] []) [.int .i64 (n:Int),f]) tm h Q:=by
 refine W.fn (s:=fnOf Tryz.f105) rfl rfl rfl rfl ?_;repeat (first|refine W.g ?_|refine W.m λh_ X_ n_ g_ L_=> ?_|refine W.n λh_ X_ n_ g_ S_=> ?_)
 refine W.k3 1 5 6 λT=> ?_
 refine W.loop (σ:=Nat×Nat) (λp tm h'=>Ext h h'/\tm.look 1=f/\tm.look 5= .int .i64 (p.1:Int)/\tm.look 6= .int .i64 (p.2:Int)/\p.1<=p.2/\p.2<=n/\(∀m,m<p.1->P m)/\(p.2<n->¬P p.2)) (λp=>p.2-p.1) ?_ (s:=(0,n))
  ⟨Ext.refl _,rfl,rfl,rfl,Nat.zero_le _,Nat.le_refl _,λm hm=>absurd hm (Nat.not_lt_zero _),λh=>absurd h (Nat.lt_irrefl _)⟩
 rintro⟨i,j⟩ tm h' ⟨X,w1,w5,w6,q1,q2,q3,q4⟩;simp only at w5 w6 q1 q2 q3 q4;obtain⟨T,rfl⟩:=Tm.t3 w1 w5 w6;clear w1 w5 w6;by_cases c1:i<j
 ·obtain⟨md,hmd⟩:∃md:Nat,md=(i+j)/2:=⟨_,rfl⟩
  have hmid:=midS_eq i j (by omega);rw[<-hmd]at hmid;repeat (first|refine W.g ?_|refine W.m λh_ X_ n_ g_ L_=> ?_|refine W.n λh_ X_ n_ g_ S_=> ?_)
  refine W.anyTm (λtm=>tm.look 1=f/\tm.look 5= .int .i64 (i:Int)/\tm.look 6= .int .i64 (j:Int)/\tm.look 7= .int .i64 (md:Int)/\tm.look 18=f/\tm.look 19= .int .i64 (md:Int)) ⟨rfl,rfl,rfl,congrArg (CV.int .i64) hmid,rfl,congrArg (CV.int .i64) hmid⟩ ?_;rintro tm ⟨w1,w5,w6,w7,w18,w19⟩;obtain⟨T,rfl⟩:=Tm.t6 w1 w5 w6 w7 w18 w19;clear w1 w5 w6 w7 w18 w19;refine W.call rfl rfl rfl (hf h' md _ X (by omega) λh2 b X2 hb=> ?_);refine W.k5 1 5 6 7 20 λT=> ?_;cases b
  ·have pm:P md:=Classical.byContradiction λhh=>absurd (hb.2 hh) (λh=>by cases h)
   repeat (first|refine W.g ?_|refine W.m λh_ X_ n_ g_ L_=> ?_|refine W.n λh_ X_ n_ g_ S_=> ?_)
   exact⟨(md+1,j),by show j-(md+1)<j-i;omega,X.trans X2,rfl,rfl,rfl,by show md+1<=j;omega,q2,λm hm=>anti m md (by have:m<md+1:=hm;omega) pm,q4⟩
  ·repeat (first|refine W.g ?_|refine W.m λh_ X_ n_ g_ L_=> ?_|refine W.n λh_ X_ n_ g_ S_=> ?_)
   exact⟨(i,md),by show md-i<j-i;omega,X.trans X2,rfl,rfl,rfl,by show i<=md;omega,by show md<=n;omega,q3,λ_=>hb.1 rfl⟩
 ·have e:i=j:=by omega
  subst e;repeat (first|refine W.g ?_|refine W.m λh_ X_ n_ g_ L_=> ?_|refine W.n λh_ X_ n_ g_ S_=> ?_)
  exact q h' i X q2 q3 q4
theorem count1_w {h:Heap} {tm:Tm} {Q:R->Prop} {cs:List CV} {w:WorldD} {t:TripW} {r:RouteW} {jr b2 b3:Nat} (L2:LocE h b2 0 cs) (rw0:Rp.R h cs w) (fr:Fresh h) (hz:TickOk w.hz) (j:Nat) (L3:LocE h b3 0 [.int .i64 (j:Int)]) (T:w.Trip j t r jr) (no:Int)
  (q:∀h' (b:Bool),Ext h h'->(b=true↔¬w.hasAt j no)->Q (.val (.bool b) h')):W E1 (.call (.fn 107 [] [.ptr (some (b2,0)),.ptr (some (b3,0))]) [.int .i64 no]) tm h Q:=by
 have r0:=rw0;obtain⟨v1,v2,v3,v4,v5,v6,v7,v8,v9,v10,v11,rfl,_⟩:=rw0;refine W.fn (s:=fnOf Tryz.f107) rfl rfl rfl rfl ?_;repeat (first|refine W.g ?_|refine W.m λh_ X_ n_ g_ L_=> ?_|refine W.n λh_ X_ n_ g_ S_=> ?_)
 refine W.call rfl rfl rfl (one_w r0 fr hz j T no λh' t0 n0 vA vD arr dep b X hb _ _=> ?_);refine W.k1 11 λT=> ?_;cases b
 ·repeat (first|refine W.g ?_|refine W.m λh_ X_ n_ g_ L_=> ?_|refine W.n λh_ X_ n_ g_ S_=> ?_)
  exact q _ true (X.trans X_) (Iff.intro (λ_ hh=>absurd (hb.2 hh) (λh=>by cases h)) (λ_=>rfl))
 ·repeat (first|refine W.g ?_|refine W.m λh_ X_ n_ g_ L_=> ?_|refine W.n λh_ X_ n_ g_ S_=> ?_)
  exact q _ false (X.trans X_) (Iff.intro (λh=>by cases h) (λhh=>absurd (hb.1 rfl) hh))
theorem countT_big {f e u:Int} (hf:TickOk f) (he:TickOk e) (hu:TickOk u):countT f e u<=1099511627777:=by
 have:=hf.1;have:=he.1;have:=hu.2;unfold countT;split
 ·omega
 ·split
  ·omega
  ·have:(u-f)/e<=u-f:=Int.ediv_le_self e (by omega)
   omega
theorem expCount_w {h:Heap} {tm:Tm} {Q:R->Prop} {cs:List CV} {w:WorldD} {t:TripW} {r:RouteW} {jr:Nat} (rw0:Rp.R h cs w) (fr:Fresh h) (hz:TickOk w.hz) (j:Nat) (T:w.Trip j t r jr)
  (q:∀h',Ext h h'->Q (.val (.int .i64 (w.cntAt j)) h')):W E1 (.call (.fn 63 [] []) [.agg cs,.int .i64 (j:Int)]) tm h Q:=by
 have r0:=rw0;obtain⟨v1,v2,v3,v4,v5,v6,v7,v8,v9,v10,v11,rfl,s1,s2,s3,s4,s5,s6,s7,s8,s9,s10,s11⟩:=rw0;have TT:=T;obtain⟨⟨hj,ht⟩,⟨hjr,hr⟩,er,tf,tv,tu,fu,tame,_,_,ta,to⟩:=id T;refine W.fn (s:=fnOf Tryz.f63) rfl rfl rfl rfl ?_;repeat (refine W.seq ?_)
 refine W.region ?_;refine W.box rfl rfl rfl λH1 X1 n1 g1 L1=> ?_;refine W.box rfl rfl rfl λH2 X2 n2 g2 L2=> ?_;repeat (first|refine W.g ?_|refine W.m λh_ X_ n_ g_ L_=> ?_|refine W.n λh_ X_ n_ g_ S_=> ?_)
 refine W.ixF s10 hj rfl rfl rfl rfl rfl rfl rfl λi1 o1 M1=> ?_;replace M1:=show LocE h i1 o1 [.int .i64 (jr:Int),.int .i64 t.frm,.int .i64 t.evr,.int .i64 t.untl]from by rw[<-er,<-ht];exact M1
 repeat (first|refine W.g ?_|refine W.m λh_ X_ n_ g_ L_=> ?_|refine W.n λh_ X_ n_ g_ S_=> ?_)
 refine W.call rfl rfl rfl (count_w t.frm t.evr t.untl tf tv tu ?_);have g:=countT_ge (f:=t.frm) (u:=t.untl) tv.1;have g':=countT_big tf tv tu;obtain⟨n,hn⟩:∃n:Nat,countT t.frm t.evr t.untl=(n:Int):=⟨(countT t.frm t.evr t.untl).toNat,by omega⟩;rw[hn]at g' ⊢;have XK:Ext h h_:=(X1.trans X2).trans X_;have L1:=(L1.ext X2).ext X_;have L2:=L2.ext X_;refine W.k3 2 3 17 λT=> ?_;repeat (first|refine W.g ?_|refine W.m λh_ X_ n_ g_ L_=> ?_|refine W.n λh_ X_ n_ g_ S_=> ?_)
 refine W.call rfl rfl rfl (search_w n (by omega) (λm=>w.hasAt j (m:Int)) (λa b hab hb=> ?_) (λh' m Q' X hm q'=>count1_w (L1.ext X) (Rp.ext (XK.trans X) r0) ((XK.trans X).fr fr) hz j (L2.ext X) TT (m:Int) q') λh' k X hk h1 h2=> ?_)
 ·have hb:w.hasAt j (b:Int):=hb
  rw[TT.has,WorldD.has_iff tv.1 (by omega)]at hb;show w.hasAt j (a:Int);rw[TT.has,WorldD.has_iff tv.1 (by omega)];omega
 refine W.k1 19 λT=> ?_;repeat (first|refine W.g ?_|refine W.m λh_ X_ n_ g_ L_=> ?_|refine W.n λh_ X_ n_ g_ S_=> ?_)
 have e:(k:Int)=w.cntAt j:=by
  unfold WorldD.cntAt;rw[ta,to];refine WorldD.cnt_of tv.1 (λm hm=>(TT.has).1 (h1 m hm)) ?_;rw[<-TT.has (no:=(k:Int))];by_cases c:k<n
  ·exact h2 c
  ·intro hh
   rw[TT.has]at hh;have:=hh.2.1;omega
 rw[e];exact q _ (XK.trans X)
theorem good_w {h:Heap} {tm:Tm} {Q:R->Prop} {cs:List CV} {w:WorldD} (r:Rp.R h cs w) (rh:RH h) (fr:Fresh h) (sm:w.small) (sl:w.whole->w.told.slim) (q:∀h' (b:Bool),Ext h h'->(b=true↔w.check.err=0)->Q (.val (.bool b) h')):W E1 (.call (.fn 61 [] []) [.agg cs]) tm h Q:=by
 have r0:=r;obtain⟨v1,v2,v3,v4,v5,v6,v7,v8,v9,v10,v11,rfl,_⟩:=r;refine W.fn (s:=fnOf Tryz.f61) rfl rfl rfl rfl ?_;repeat (first|refine W.g ?_|refine W.m λh_ X_ n_ g_ L_=> ?_|refine W.n λh_ X_ n_ g_ S_=> ?_)
 refine W.call rfl rfl rfl (check_w (Rp.ext X_ r0) (rh.ext X_) (X_.fr fr) sm sl λh' X=> ?_);obtain⟨c,hc⟩:∃c,c=w.check:=⟨_,rfl⟩;rw[<-hc]at q ⊢;refine W.k1 4 λT=> ?_;by_cases c0:c.err=0
 ·repeat (first|refine W.g ?_|refine W.m λh_ X_ n_ g_ L_=> ?_|refine W.n λh_ X_ n_ g_ S_=> ?_)
  exact q _ true (X_.trans X) (Iff.intro (λ_=>c0) (λ_=>rfl))
 ·repeat (first|refine W.g ?_|refine W.m λh_ X_ n_ g_ L_=> ?_|refine W.n λh_ X_ n_ g_ S_=> ?_)
  exact q _ false (X_.trans X) (Iff.intro (λh=>by cases h) (λh=>absurd h c0))
theorem is_w {h:Heap} {tm:Tm} {Q:R->Prop} {cs:List CV} {w:WorldD} (r:Rp.R h cs w) (n:Int) (q:∀h' (b:Bool),Ext h h'->(b=true↔0<=n/\n<w.trips.length)->Q (.val (.bool b) h')):W E1 (.call (.fn 62 [] []) [.agg cs,.int .i64 n]) tm h Q:=by
 obtain⟨v1,v2,v3,v4,v5,v6,v7,v8,v9,v10,v11,rfl,s1,s2,s3,s4,s5,s6,s7,s8,s9,s10,s11⟩:=r;refine W.fn (s:=fnOf Tryz.f62) rfl rfl rfl rfl ?_;by_cases c1:0<=n
 ·by_cases c2:n<(w.trips.length:Int)
  ·repeat (first|refine W.g ?_|refine W.m λh_ X_ n_ g_ L_=> ?_|refine W.n λh_ X_ n_ g_ S_=> ?_)
   exact q _ true X_ (Iff.intro (λ_=>⟨c1,c2⟩) (λ_=>rfl))
  ·repeat (first|refine W.g ?_|refine W.m λh_ X_ n_ g_ L_=> ?_|refine W.n λh_ X_ n_ g_ S_=> ?_)
   exact q _ false X_ (Iff.intro (λh=>by cases h) (λh=>absurd h.2 c2))
 ·repeat (first|refine W.g ?_|refine W.m λh_ X_ n_ g_ L_=> ?_|refine W.n λh_ X_ n_ g_ S_=> ?_)
  exact q _ false X_ (Iff.intro (λh=>by cases h) (λh=>absurd h.1 c1))
end
end Go.Proofs.YtfheibkikpefkaaGreatDoor

namespace Go.Proofs.YtfheibkikpefkaaGreatDoor
open Go Go.CM Go.CM.Tt
noncomputable section
set_option maxHeartbeats 16000000
theorem rexpCount_w {h:Heap} {tm:Tm} {Q:R->Prop} {cs:List CV} {w:WorldD} {t:TripW} {ro:RouteW} {jr:Nat} (rw0:Rp.R h cs w) (fr:Fresh h) (hz:TickOk w.hz) (j:Nat) (T:w.Trip j t ro jr)
  (q:∀h',Ext h h'->Q (.val (.int .i64 (w.cntAt j)) h')):W E1 (.call (.fn 70 [] []) [.agg cs,.int .i64 (j:Int)]) tm h Q:=by
 have r0:=rw0;have TT:=T;obtain⟨v1,v2,v3,v4,v5,v6,v7,v8,v9,v10,v11,rfl,s1,s2,s3,s4,s5,s6,s7,s8,s9,s10,s11⟩:=rw0;obtain⟨⟨hj,ht⟩,⟨hjr,hr⟩,er,tf,tv,tu,fu,tame,_,_,ta,to⟩:=id T;refine W.fn (s:=fnOf Tryz.f70) rfl rfl rfl rfl ?_;repeat (refine W.seq ?_)
 refine W.region ?_;refine W.box rfl rfl rfl λH1 X1 n1 g1 L1=> ?_;have lit:(Flat.enc w.trips[j]:List CV)=[.int .i64 (jr:Int),.int .i64 t.frm,.int .i64 t.evr,.int .i64 t.untl]:=by rw[<-er,<-ht];rfl
 repeat (first|refine W.g ?_|refine W.m λh_ X_ n_ g_ L_=> ?_|refine W.n λh_ X_ n_ g_ S_=> ?_)
 have ds:=DX.start (X1.fr fr);repeat (first|refine W.gd ?_|refine W.e λr_ h_ ds_ s_=> ?_)
 refine W.dixF s10 hj rfl rfl rfl rfl rfl rfl rfl λi1 o1 M1=> ?_;rw[lit]at M1;repeat (first|refine W.gd ?_|refine W.e λr_ h_ ds_ s_=> ?_)
 refine W.dixF s10 hj rfl rfl rfl rfl rfl rfl rfl λi2 o2 M2=> ?_;rw[lit]at M2;repeat (first|refine W.gd ?_|refine W.e λr_ h_ ds_ s_=> ?_)
 refine W.dixF s10 hj rfl rfl rfl rfl rfl rfl rfl λi3 o3 M3=> ?_;rw[lit]at M3;repeat (first|refine W.gd ?_|refine W.e λr_ h_ ds_ s_=> ?_)
 refine W.dcallZ ds_ rfl rfl rfl rfl (rcount_w t.frm t.evr t.untl (DZ.val (Ext.refl _) λq1 N1 ds1 t1=> ?_));rw[if_pos ⟨tf,tv,tu⟩];have g:=countT_ge (f:=t.frm) (u:=t.untl) tv.1;have g':=countT_big tf tv tu;obtain⟨n,hn⟩:∃n:Nat,countT t.frm t.evr t.untl=(n:Int):=⟨(countT t.frm t.evr t.untl).toNat,by omega⟩;rw[hn]at g' ⊢;repeat (first|refine W.gd ?_|refine W.e λr_ h_ ds_ s_=> ?_)
 repeat (first|refine W.g ?_|refine W.m λh_ X_ n_ g_ L_=> ?_|refine W.n λh_ X_ n_ g_ S_=> ?_)
 have XN:=X1.trans ds1.x;have L1:=L1.ext ds1.x;clear ds ds_ M1 M2 M3;refine W.k4 1 2 5 6 λT=> ?_
 refine W.loop (σ:=Nat×Nat) (λp tm h'=>Ext N1 h'/\tm.look 1= .int .i64 (j:Int)/\tm.look 2= .ptr (some (h.next,0))/\tm.look 5= .int .i64 (p.1:Int)/\tm.look 6= .int .i64 (p.2:Int)/\p.1<=p.2/\p.2<=n/\(∀m:Nat,m<p.1->w.hasAt j (m:Int))/\(p.2<n->¬w.hasAt j (p.2:Int))) (λp=>p.2-p.1) ?_ (s:=(0,n))
  ⟨Ext.refl _,rfl,rfl,rfl,rfl,Nat.zero_le _,Nat.le_refl _,λm hm=>absurd hm (Nat.not_lt_zero _),λh=>absurd h (Nat.lt_irrefl _)⟩
 rintro⟨i,k⟩ tm h' ⟨X,w1,w2,w5,w6,q1,q2,q3,q4⟩;simp only at w5 w6 q1 q2 q3 q4;obtain⟨T,rfl⟩:=Tm.t4 w1 w2 w5 w6;clear w1 w2 w5 w6;by_cases c1:i<k
 ·obtain⟨md,hmd⟩:∃md:Nat,md=(i+k)/2:=⟨_,rfl⟩
  repeat (first|refine W.g ?_|refine W.m λh_ X_ n_ g_ L_=> ?_|refine W.n λh_ X_ n_ g_ S_=> ?_)
  have hmid:IntKind.i64.wrap (((i:Int)+(k:Int)).tdiv 2)=(md:Int):=by
   rw[Int.tdiv_eq_ediv_of_nonneg (by omega),IntWalk.i64_in _ (by omega)];omega
  refine W.anyTm (λtm=>tm.look 1= .int .i64 (j:Int)/\tm.look 2= .ptr (some (h.next,0))/\tm.look 5= .int .i64 (i:Int)/\tm.look 6= .int .i64 (k:Int)/\tm.look 7= .int .i64 (md:Int)/\tm.look 37= .agg [.int .i64 w.hz,v1,v2,v3,v4,v5,v6,v7,v8,v9,v10,v11]/\tm.look 38= .int .i64 (j:Int)/\tm.look 39= .int .i64 (md:Int)) ⟨rfl,rfl,rfl,rfl,congrArg (CV.int .i64) hmid,rfl,rfl,congrArg (CV.int .i64) hmid⟩ ?_;rintro tm ⟨w1,w2,w5,w6,w7,w37,w38,w39⟩;obtain⟨T,rfl⟩:=Tm.t8 w1 w2 w5 w6 w7 w37 w38 w39;clear w1 w2 w5 w6 w7 w37 w38 w39;refine W.call rfl rfl rfl (rrun_w (Rp.ext (XN.trans X) r0) ((XN.trans X).fr fr) hz j TT (md:Int) λh2 t0 n0 vA vD arr dep b X2 hb O2 _=> ?_);refine W.k6 1 2 5 6 7 40 λT=> ?_;cases b
  ·repeat (first|refine W.g ?_|refine W.m λh_ X_ n_ g_ L_=> ?_|refine W.n λh_ X_ n_ g_ S_=> ?_)
   exact⟨(i,md),by show md-i<k-i;omega,(X.trans X2).trans X_,rfl,rfl,rfl,rfl,by show i<=md;omega,by show md<=n;omega,q3,λ_ hh=>absurd (hb.2 hh) (λh=>by cases h)⟩
  ·have pm:=hb.1 rfl
   repeat (first|refine W.g ?_|refine W.m λh_ X_ n_ g_ L_=> ?_|refine W.n λh_ X_ n_ g_ S_=> ?_)
   refine⟨(md+1,k),by show k-(md+1)<k-i;omega,(X.trans X2).trans X_,rfl,rfl,rfl,rfl,by show md+1<=k;omega,q2,λm hm=> ?_,q4⟩;have hm:m<md+1:=hm;rw[TT.has,WorldD.has_iff tv.1 (by omega)]at pm ⊢;omega
 ·have e:i=k:=by omega
  subst e;repeat (first|refine W.g ?_|refine W.m λh_ X_ n_ g_ L_=> ?_|refine W.n λh_ X_ n_ g_ S_=> ?_)
  have e:(i:Int)=w.cntAt j:=by
   unfold WorldD.cntAt;rw[ta,to];refine WorldD.cnt_of tv.1 (λm hm=>(TT.has).1 (q3 m hm)) ?_;rw[<-TT.has (no:=(i:Int))];by_cases c:i<n
   ·exact q4 c
   ·intro hh
    rw[TT.has]at hh;have:=hh.2.1;omega
  rw[e];exact q _ (XN.trans X)
theorem ris_w {h:Heap} {tm:Tm} {Q:R->Prop} {cs:List CV} {w:WorldD} (r:Rp.R h cs w) (n:Int) (q:∀h' (b:Bool),Ext h h'->(b=true↔0<=n/\n<w.trips.length)->Q (.val (.bool b) h')):W E1 (.call (.fn 68 [] []) [.agg cs,.int .i64 n]) tm h Q:=by
 obtain⟨v1,v2,v3,v4,v5,v6,v7,v8,v9,v10,v11,rfl,s1,s2,s3,s4,s5,s6,s7,s8,s9,s10,s11⟩:=r;refine W.fn (s:=fnOf Tryz.f68) rfl rfl rfl rfl ?_;by_cases c1:0<=n
 ·by_cases c2:n<(w.trips.length:Int)
  ·repeat (first|refine W.g ?_|refine W.m λh_ X_ n_ g_ L_=> ?_|refine W.n λh_ X_ n_ g_ S_=> ?_)
   exact q _ true X_ (Iff.intro (λ_=>⟨c1,c2⟩) (λ_=>rfl))
  ·repeat (first|refine W.g ?_|refine W.m λh_ X_ n_ g_ L_=> ?_|refine W.n λh_ X_ n_ g_ S_=> ?_)
   exact q _ false X_ (Iff.intro (λh=>by cases h) (λh=>absurd h.2 c2))
 ·repeat (first|refine W.g ?_|refine W.m λh_ X_ n_ g_ L_=> ?_|refine W.n λh_ X_ n_ g_ S_=> ?_)
  exact q _ false X_ (Iff.intro (λh=>by cases h) (λh=>absurd h.1 c1))
end
end Go.Proofs.YtfheibkikpefkaaGreatDoor
