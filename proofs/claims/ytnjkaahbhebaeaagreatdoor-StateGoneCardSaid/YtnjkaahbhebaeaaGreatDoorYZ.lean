/- What is made of a sheet. No condition but that the table of spaces lies where it does and memory beyond the next number is empty. -/
import Derived.Test.YtnjkaahbhebaeaaGreatDoorXU
import Derived.Test.YtnjkaahbhebaeaaGreatDoorYW
import Derived.Test.YtnjkaahbhebaeaaGreatDoorYG
import Derived.Test.YtnjkaahbhebaeaaGreatDoorYL
import Derived.Test.YtnjkaahbhebaeaaGreatDoorYA
import Derived.Test.YtnjkaahbhebaeaaGreatDoorXZ
set_option linter.unusedVariables false
set_option linter.unusedSimpArgs false
set_option maxRecDepth 100000
namespace Go.Proofs.YtnjkaahbhebaeaaGreatDoor
open Go Go.CM Go.CM.Tt
noncomputable section
set_option maxHeartbeats 16000000
theorem make_w0 {h:Heap} {tm:Tm} {Q:R->Prop} {cs:List CV} {x:SheetD} (r:Rp.R h cs x) (rh:RH h) (fr:Fresh h) (sm:x.slim) (q:∀h' c1,Ext h h'->(∀M:Heap,h'.next<=M.next->(∀k,h.next<=k->k<h'.next->M.get k=h'.get k)->Rp.R M c1 x.make.1)->Q (.val (.tup [.agg c1,.agg x.make.2.enc]) h')):W E1 (.call (.fn 142 [] []) [.agg cs]) tm h Q:=by
 have r0:=r;obtain⟨v1,v2,v3,v4,v5,v6,rfl,s1,s2,s3,s4,s5,s6⟩:=r;refine W.fn (s:=fnOf Tryz.f142) rfl rfl rfl rfl ?_;repeat (refine W.seq ?_)
 refine W.region ?_;refine W.box rfl rfl rfl λH1 X1 n1 g1 L1=> ?_;refine W.al rfl rfl rfl λH2 X2 n2 g2 L2=> ?_;refine W.al rfl rfl rfl λH3 X3 n3 g3 L3=> ?_;clear L2 L3;have g2:H3.get H1.next=some (.cells [.int .i64 0,.slice none 0 0 0,.slice none 0 0 0,.slice none 0 0 0,.slice none 0 0 0,.slice none 0 0 0,.slice none 0 0 0,.slice none 0 0 0,.slice none 0 0 0,.slice none 0 0 0,.slice none 0 0 0,.slice none 0 0 0] false):=(X3.old _ (by omega)).trans g2;have g3:H3.get H2.next=some (.cells [.int .i64 0,.int .i64 0,.int .i64 0] false):=g3;have X0:Ext h H3:=(X1.trans X2).trans X3;have L1:=(L1.ext X2).ext X3;have l1:H1.next<H3.next:=by omega
 have l2:H2.next<H3.next:=by omega
 have l0:h.next<H1.next:=by omega
 have l12:H1.next<H2.next:=by omega
 clear g1;repeat refine W.g ?_
 refine W.call rfl rfl rfl (sheetCheck_w (Rp.ext X0 r0) (rh.ext X0) sm λH4 X4=> ?_);refine W.k4 1 2 3 8 λT=> ?_;have L1:=L1.ext X4;have g2:=(X4.old _ l1).trans g2;have g3:=(X4.old _ l2).trans g3;have Y4:=X0.trans X4;have nx4:=X4.next;by_cases c:x.err=0
 ·have ok:x.Ok:=SheetD.err_zero.1 c
  repeat refine W.g ?_
  refine W.call rfl rfl rfl (numbered_w (Rp.ext Y4 r0) (Y4.fr fr) ok.1 sm λH5 e X5 r50=> ?_);have r5:=r50 H5 (Nat.le_refl _) λ_ _ _=>rfl;have r51:=r5;obtain⟨u1,u2,u3,u4,u5,u6,u7,u8,u9,u10,u11,rfl,t1,t2,t3,t4,t5,t6,t7,t8,t9,t10,t11⟩:=r5;refine W.k4 1 2 3 15 λT=> ?_;have nx5:=X5.next;repeat (first|refine W.g ?_|refine W.m λh_ X_ n_ g_ L_=> ?_)
  have Y5:Ext h h_:=(Y4.trans X5).trans X_;have nx6:=X_.next;refine W.call rfl rfl rfl (wrong_w (rh.ext Y5) (Y5.fr fr) L_ (Rp.ext X_ r51) ok.numNames ok.numFew x.numLens ok.numRoutes λH6 X6=> ?_);have L5:=L_.ext X6;have nx7:=X6.next;have g2:=(X6.old _ (by omega)).trans ((X_.old _ (by omega)).trans ((X5.old _ (by omega)).trans g2));have g3:=(X6.old _ (by omega)).trans ((X_.old _ (by omega)).trans ((X5.old _ (by omega)).trans g3));have r6:=Rp.ext X6 (Rp.ext X_ r51);have Y6:=Y5.trans X6;have Z6:=X_.trans X6;have b5:H4.next<=H5.next:=nx5;refine W.k5 1 2 3 5 16 λT=> ?_;clear g_ L_ X_;repeat (first|refine W.g ?_|refine W.m λh_ X_ n_ g_ L_=> ?_)
  have Y7:Ext h h_:=Y6.trans X_;have Z5:Ext H5 h_:=Z6.trans X_;have L5:=L5.ext X_;have r7:=Rp.ext X_ r6;have g2:=(X_.old _ (by omega)).trans g2;have g3:=(X_.old _ (by omega)).trans g3;have lb1:H1.next<h_.next:=by omega
  have lb2:H2.next<h_.next:=by omega
  by_cases c2:x.num.wrong.err=0
  ·have em:x.make=(x.num,Wrong0):=by unfold SheetD.make;rw[if_pos c,if_pos c2]
   rw[em]at q;repeat refine W.g ?_
   refine W.stn (vs:=[.int .i64 x.num.hz,u1,u2,u3,u4,u5,u6,u7,u8,u9,u10,u11]) (cs':=[.int .i64 x.num.hz,u1,u2,u3,u4,u5,u6,u7,u8,u9,u10,u11]) rfl rfl rfl rfl rfl rfl g2 rfl λM1 m1 gM1 kM1=> ?_;refine W.stn (vs:=[.int .i64 0,.int .i64 0,.int .i64 0]) (cs':=[.int .i64 0,.int .i64 0,.int .i64 0]) rfl rfl rfl rfl rfl rfl ((kM1 H2.next (by omega)).trans g3) rfl λM2 m2 gM2 kM2=> ?_;repeat refine W.g ?_
   refine BodyQ.cell2 rfl rfl rfl ((kM2 H1.next (by omega)).trans gM1) gM2 rfl rfl rfl rfl ?_;refine q M2 _ (Ext.store (Ext.store Y7 m1 kM1 (by omega) lb1) m2 kM2 (by omega) (by omega)) (λM hMn hM=>r50 M (by have:=Z5.next;omega) λk a b=> ?_);have:=Z5.next;rw[hM k (by have:=X4.next;have:=X0.next;omega) (by omega),kM2 k (by omega),kM1 k (by omega)];exact Z5.old k b
  ·have em:x.make=(WorldD.none,x.num.wrong):=by unfold SheetD.make;rw[if_pos c,if_neg c2]
   rw[em]at q;repeat refine W.g ?_
   have dv:DV (λb=>b=H6.next) h_ [] [] []:=DV.start (λb hb=>by rw[hb];omega);try refine W.dv ?_
   refine W.ldVw dv rfl L_ rfl rfl rfl rfl rfl rfl λq1 G1 dv1 s1 L1'=> ?_;try refine W.dv ?_
   refine W.stV (vs:=[.int .i64 0,.slice none 0 0 0,.slice none 0 0 0,.slice none 0 0 0,.slice none 0 0 0,.slice none 0 0 0,.slice none 0 0 0,.slice none 0 0 0,.slice none 0 0 0,.slice none 0 0 0,.slice none 0 0 0,.slice none 0 0 0]) (cs':=[.int .i64 0,.slice none 0 0 0,.slice none 0 0 0,.slice none 0 0 0,.slice none 0 0 0,.slice none 0 0 0,.slice none 0 0 0,.slice none 0 0 0,.slice none 0 0 0,.slice none 0 0 0,.slice none 0 0 0,.slice none 0 0 0]) dv1 (by show ¬H1.next=H6.next;omega) rfl rfl rfl rfl rfl rfl rfl ((s1.get _).trans g2) rfl λq2 G2 hr2 s2=> ?_;try refine W.dv ?_
   have n1':=s1.next;have n2':G2.next=G1.next:=s2.next;have k2:∀k,k≠H1.next->G2.get k=G1.get k:=λk hk=>by rw[s2.get,Heap.get_put,if_neg (Ne.symm hk)]
   have gG2:G2.get H1.next=some (.cells [.int .i64 0,.slice none 0 0 0,.slice none 0 0 0,.slice none 0 0 0,.slice none 0 0 0,.slice none 0 0 0,.slice none 0 0 0,.slice none 0 0 0,.slice none 0 0 0,.slice none 0 0 0,.slice none 0 0 0,.slice none 0 0 0] false):=by rw[s2.get,put_same]
   refine W.dst (vs:=[.int .i64 x.num.wrong.err,.int .i64 x.num.wrong.kind,.int .i64 x.num.wrong.pos]) (cs':=[.int .i64 x.num.wrong.err,.int .i64 x.num.wrong.kind,.int .i64 x.num.wrong.pos]) hr2 rfl rfl rfl rfl rfl rfl rfl ((k2 H2.next (by omega)).trans ((s1.get _).trans g3)) rfl λq3 G3 hr3 s3=> ?_;try refine W.dv ?_
   have n3':G3.next=G2.next:=s3.next;have k3:∀k,k≠H2.next->G3.get k=G2.get k:=λk hk=>by rw[s3.get,Heap.get_put,if_neg (Ne.symm hk)]
   have gG3:G3.get H2.next=some (.cells [.int .i64 x.num.wrong.err,.int .i64 x.num.wrong.kind,.int .i64 x.num.wrong.pos] false):=by rw[s3.get,put_same]
   repeat refine W.g ?_
   refine BodyQ.cell2 rfl rfl rfl ((k3 H1.next (by omega)).trans gG2) gG3 rfl rfl rfl rfl ?_;exact q G3 _ (Ext.store (Ext.store (Y7.trans s1.ext) n2' k2 (by omega) (by omega)) n3' k3 (by omega) (by omega)) λ_ _ _=>⟨_,_,_,_,_,_,_,_,_,_,_,rfl,Sl.nil,Sl.nil,Sl.nil,Sl.nil,Sl.nil,Sl.nil,Sl.nil,Sl.nil,Sl.nil,Sl.nil,Sl.nil⟩
 ·have em:x.make=(WorldD.none,⟨x.err,0,0⟩):=by unfold SheetD.make;rw[if_neg c]
  rw[em]at q;repeat refine W.g ?_
  refine W.stn (vs:=[.int .i64 0,.slice none 0 0 0,.slice none 0 0 0,.slice none 0 0 0,.slice none 0 0 0,.slice none 0 0 0,.slice none 0 0 0,.slice none 0 0 0,.slice none 0 0 0,.slice none 0 0 0,.slice none 0 0 0,.slice none 0 0 0]) (cs':=[.int .i64 0,.slice none 0 0 0,.slice none 0 0 0,.slice none 0 0 0,.slice none 0 0 0,.slice none 0 0 0,.slice none 0 0 0,.slice none 0 0 0,.slice none 0 0 0,.slice none 0 0 0,.slice none 0 0 0,.slice none 0 0 0]) rfl rfl rfl rfl rfl rfl g2 rfl λM1 m1 gM1 kM1=> ?_;refine W.stn (vs:=[.int .i64 x.err,.int .i64 0,.int .i64 0]) (cs':=[.int .i64 x.err,.int .i64 0,.int .i64 0]) rfl rfl rfl rfl rfl rfl ((kM1 H2.next (by omega)).trans g3) rfl λM2 m2 gM2 kM2=> ?_;repeat refine W.g ?_
  refine BodyQ.cell2 rfl rfl rfl ((kM2 H1.next (by omega)).trans gM1) gM2 rfl rfl rfl rfl ?_;exact q M2 _ (Ext.store (Ext.store Y4 m1 kM1 (by omega) (by omega)) m2 kM2 (by omega) (by omega)) λ_ _ _=>⟨_,_,_,_,_,_,_,_,_,_,_,rfl,Sl.nil,Sl.nil,Sl.nil,Sl.nil,Sl.nil,Sl.nil,Sl.nil,Sl.nil,Sl.nil,Sl.nil,Sl.nil⟩
theorem make_w {h:Heap} {tm:Tm} {Q:R->Prop} {cs:List CV} {x:SheetD} (r:Rp.R h cs x) (rh:RH h) (fr:Fresh h) (sm:x.slim) (q:∀h' c1,Ext h h'->Rp.R h' c1 x.make.1->Q (.val (.tup [.agg c1,.agg x.make.2.enc]) h')):W E1 (.call (.fn 142 [] []) [.agg cs]) tm h Q:=
 make_w0 r rh fr sm λh' c1 X s=>q h' c1 X (s h' (Nat.le_refl _) λ_ _ _=>rfl)
end
end Go.Proofs.YtnjkaahbhebaeaaGreatDoor
