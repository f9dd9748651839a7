/- What is made of a sheet. No condition but that the table of spaces lies where it does and memory beyond the next number is empty. -/
import Derived.Test.YtmgpjfnlciapkaaGreatDoorXG
import Derived.Test.YtmgpjfnlciapkaaGreatDoorYW
import Derived.Test.YtmgpjfnlciapkaaGreatDoorYG
import Derived.Test.YtmgpjfnlciapkaaGreatDoorYL
import Derived.Test.YtmgpjfnlciapkaaGreatDoorYV
import Derived.Test.YtmgpjfnlciapkaaGreatDoorXQ4
import Derived.Test.YtmgpjfnlciapkaaGreatDoorZYb
import Derived.Test.YtmgpjfnlciapkaaGreatDoorZYc
set_option linter.unusedVariables false
set_option linter.unusedSimpArgs false
namespace Go.Proofs.YtmgpjfnlciapkaaGreatDoor
open Go Go.CM Go.CM.Tt
noncomputable section
set_option maxHeartbeats 16000000
theorem make_w0 {h:Heap} {tm:Tm} {Q:R->Prop} {cs:List CV} {x:SheetD} (r:Rp.R h cs x) (rh:RH h) (fr:Fresh h) (sm:x.slim) (q:∀h' c1,Ext h h'->(∀M:Heap,h'.next<=M.next->(∀k,h.next<=k->k<h'.next->M.get k=h'.get k)->Rp.R M c1 x.make.1)->Q (.val (.tup [.agg c1,.agg x.make.2.enc]) h')):W E1 (.call (.fn 8 [] []) [.agg cs]) tm h Q:=by
 have r0:=r
 obtain⟨v1,v2,v3,v4,v5,v6,rfl,s1,s2,s3,s4,s5,s6⟩:=r
 refine W.fn (s:=fnOf Tryz.f8) rfl rfl rfl rfl ?_
 repeat (refine W.seq ?_)
 refine W.region ?_
 refine W.box rfl rfl rfl λH1 X1 n1 g1 L1=> ?_
 refine W.al rfl rfl rfl λH2 X2 n2 g2 L2=> ?_
 refine W.al rfl rfl rfl λH3 X3 n3 g3 L3=> ?_
 clear L2 L3
 have g2:H3.get H1.next=some (.cells [.int .i64 0,.slice none 0 0 0,.slice none 0 0 0,.slice none 0 0 0,.slice none 0 0 0,.slice none 0 0 0,.slice none 0 0 0,.slice none 0 0 0,.slice none 0 0 0,.slice none 0 0 0,.slice none 0 0 0,.slice none 0 0 0] false):=(X3.old _ (by omega)).trans g2
 have g3:H3.get H2.next=some (.cells [.int .i64 0,.int .i64 0,.int .i64 0] false):=g3
 have X0:Ext h H3:=(X1.trans X2).trans X3
 have L1:=(L1.ext X2).ext X3
 have l1:H1.next<H3.next:=by omega
 have l2:H2.next<H3.next:=by omega
 have l0:h.next<H1.next:=by omega
 have l12:H1.next<H2.next:=by omega
 clear g1
 refine W.g ?_
 refine W.call rfl rfl rfl (sheetCheck_w (Rp.ext X0 r0) (rh.ext X0) sm λH4 X4=> ?_)
 refine W.k4 1 2 3 8 λT=> ?_
 have L1:=L1.ext X4
 have g2:=(X4.old _ l1).trans g2
 have g3:=(X4.old _ l2).trans g3
 have Y4:=X0.trans X4
 have nx4:=X4.next
 by_cases c:x.err=0
 ·have ok:x.Ok:=SheetD.err_zero.1 c
  refine W.g ?_
  refine W.call rfl rfl rfl (numbered_w (Rp.ext Y4 r0) (Y4.fr fr) ok.1 sm λH5 e X5 r50=> ?_)
  have r5:=r50 H5 (Nat.le_refl _) λ_ _ _=>rfl
  have r51:=r5
  obtain⟨u1,u2,u3,u4,u5,u6,u7,u8,u9,u10,u11,rfl,t1,t2,t3,t4,t5,t6,t7,t8,t9,t10,t11⟩:=r5
  refine W.k4 1 2 3 15 λT=> ?_
  have nx5:=X5.next
  repeat (first|refine W.g ?_|refine W.m λh_ X_ n_ g_ L_=> ?_)
  have Y5:Ext h h_:=(Y4.trans X5).trans X_
  have nx6:=X_.next
  refine W.call rfl rfl rfl (wrong_w (rh.ext Y5) (Y5.fr fr) L_ (Rp.ext X_ r51) ok.numNames ok.numFew x.numLens ok.numRoutes λH6 X6=> ?_)
  have L5:=L_.ext X6
  have nx7:=X6.next
  have g2:=(X6.old _ (by omega)).trans ((X_.old _ (by omega)).trans ((X5.old _ (by omega)).trans g2))
  have g3:=(X6.old _ (by omega)).trans ((X_.old _ (by omega)).trans ((X5.old _ (by omega)).trans g3))
  have r6:=Rp.ext X6 (Rp.ext X_ r51)
  have Y6:=Y5.trans X6
  have Z6:=X_.trans X6
  have b5:H4.next<=H5.next:=nx5
  refine W.k5 1 2 3 5 16 λT=> ?_
  clear g_ L_ X_
  repeat (first|refine W.g ?_|refine W.m λh_ X_ n_ g_ L_=> ?_)
  have Y7:Ext h h_:=Y6.trans X_
  have Z5:Ext H5 h_:=Z6.trans X_
  have L5:=L5.ext X_
  have r7:=Rp.ext X_ r6
  have g2:=(X_.old _ (by omega)).trans g2
  have g3:=(X_.old _ (by omega)).trans g3
  have lb1:H1.next<h_.next:=by omega
  have lb2:H2.next<h_.next:=by omega
  by_cases c2:x.num.wrong.err=0
  ·have em:x.make=(x.num,Wrong0):=by unfold SheetD.make;rw[if_pos c,if_pos c2]
   rw[em]at q
   refine W.g ?_
   refine W.stn (vs:=[.int .i64 x.num.hz,u1,u2,u3,u4,u5,u6,u7,u8,u9,u10,u11]) (cs':=[.int .i64 x.num.hz,u1,u2,u3,u4,u5,u6,u7,u8,u9,u10,u11]) rfl rfl rfl rfl rfl rfl g2 rfl λM1 m1 gM1 kM1=> ?_
   skip
   refine W.stn (vs:=[.int .i64 0,.int .i64 0,.int .i64 0]) (cs':=[.int .i64 0,.int .i64 0,.int .i64 0]) rfl rfl rfl rfl rfl rfl ((kM1 H2.next (by omega)).trans g3) rfl λM2 m2 gM2 kM2=> ?_
   refine W.g ?_
   refine BodyQ.cell2 rfl rfl rfl ((kM2 H1.next (by omega)).trans gM1) gM2 rfl rfl rfl rfl ?_
   refine q M2 _ (Ext.store (Ext.store Y7 m1 kM1 (by omega) lb1) m2 kM2 (by omega) (by omega)) (λM hMn hM=>r50 M (by have:=Z5.next;omega) λk a b=> ?_)
   have:=Z5.next
   rw[hM k (by have:=X4.next;have:=X0.next;omega) (by omega),kM2 k (by omega),kM1 k (by omega)]
   exact Z5.old k b
  ·have em:x.make=(WorldD.none,x.num.wrong):=by unfold SheetD.make;rw[if_pos c,if_neg c2]
   rw[em]at q
   refine W.g ?_
   have dv:DV (λb=>b=H6.next) h_ [] [] []:=DV.start (λb hb=>by rw[hb];omega)
   refine W.dv ?_
   refine W.ldVw dv rfl L_ rfl rfl rfl rfl rfl rfl λq1 G1 dv1 s1 L1'=> ?_
   skip
   refine W.stV (vs:=[.int .i64 0,.slice none 0 0 0,.slice none 0 0 0,.slice none 0 0 0,.slice none 0 0 0,.slice none 0 0 0,.slice none 0 0 0,.slice none 0 0 0,.slice none 0 0 0,.slice none 0 0 0,.slice none 0 0 0,.slice none 0 0 0]) (cs':=[.int .i64 0,.slice none 0 0 0,.slice none 0 0 0,.slice none 0 0 0,.slice none 0 0 0,.slice none 0 0 0,.slice none 0 0 0,.slice none 0 0 0,.slice none 0 0 0,.slice none 0 0 0,.slice none 0 0 0,.slice none 0 0 0]) dv1 (by show ¬H1.next=H6.next;omega) rfl rfl rfl rfl rfl rfl rfl ((s1.get _).trans g2) rfl λq2 G2 hr2 s2=> ?_
   skip
   have n1':=s1.next
   have n2':G2.next=G1.next:=s2.next
   have k2:∀k,k≠H1.next->G2.get k=G1.get k:=λk hk=>by rw[s2.get,Heap.get_put,if_neg (Ne.symm hk)]
   have gG2:G2.get H1.next=some (.cells [.int .i64 0,.slice none 0 0 0,.slice none 0 0 0,.slice none 0 0 0,.slice none 0 0 0,.slice none 0 0 0,.slice none 0 0 0,.slice none 0 0 0,.slice none 0 0 0,.slice none 0 0 0,.slice none 0 0 0,.slice none 0 0 0] false):=by rw[s2.get,put_same]
   refine W.dst (vs:=[.int .i64 x.num.wrong.err,.int .i64 x.num.wrong.kind,.int .i64 x.num.wrong.pos]) (cs':=[.int .i64 x.num.wrong.err,.int .i64 x.num.wrong.kind,.int .i64 x.num.wrong.pos]) hr2 rfl rfl rfl rfl rfl rfl rfl ((k2 H2.next (by omega)).trans ((s1.get _).trans g3)) rfl λq3 G3 hr3 s3=> ?_
   refine W.dv ?_
   have n3':G3.next=G2.next:=s3.next
   have k3:∀k,k≠H2.next->G3.get k=G2.get k:=λk hk=>by rw[s3.get,Heap.get_put,if_neg (Ne.symm hk)]
   have gG3:G3.get H2.next=some (.cells [.int .i64 x.num.wrong.err,.int .i64 x.num.wrong.kind,.int .i64 x.num.wrong.pos] false):=by rw[s3.get,put_same]
   refine W.g ?_
   refine BodyQ.cell2 rfl rfl rfl ((k3 H1.next (by omega)).trans gG2) gG3 rfl rfl rfl rfl ?_
   exact q G3 _ (Ext.store (Ext.store (Y7.trans s1.ext) n2' k2 (by omega) (by omega)) n3' k3 (by omega) (by omega)) λ_ _ _=>⟨_,_,_,_,_,_,_,_,_,_,_,rfl,Sl.nil,Sl.nil,Sl.nil,Sl.nil,Sl.nil,Sl.nil,Sl.nil,Sl.nil,Sl.nil,Sl.nil,Sl.nil⟩
 ·have em:x.make=(WorldD.none,⟨x.err,0,0⟩):=by unfold SheetD.make;rw[if_neg c]
  rw[em]at q
  refine W.g ?_
  refine W.stn (vs:=[.int .i64 0,.slice none 0 0 0,.slice none 0 0 0,.slice none 0 0 0,.slice none 0 0 0,.slice none 0 0 0,.slice none 0 0 0,.slice none 0 0 0,.slice none 0 0 0,.slice none 0 0 0,.slice none 0 0 0,.slice none 0 0 0]) (cs':=[.int .i64 0,.slice none 0 0 0,.slice none 0 0 0,.slice none 0 0 0,.slice none 0 0 0,.slice none 0 0 0,.slice none 0 0 0,.slice none 0 0 0,.slice none 0 0 0,.slice none 0 0 0,.slice none 0 0 0,.slice none 0 0 0]) rfl rfl rfl rfl rfl rfl g2 rfl λM1 m1 gM1 kM1=> ?_
  skip
  refine W.stn (vs:=[.int .i64 x.err,.int .i64 0,.int .i64 0]) (cs':=[.int .i64 x.err,.int .i64 0,.int .i64 0]) rfl rfl rfl rfl rfl rfl ((kM1 H2.next (by omega)).trans g3) rfl λM2 m2 gM2 kM2=> ?_
  refine W.g ?_
  refine BodyQ.cell2 rfl rfl rfl ((kM2 H1.next (by omega)).trans gM1) gM2 rfl rfl rfl rfl ?_
  exact q M2 _ (Ext.store (Ext.store Y4 m1 kM1 (by omega) (by omega)) m2 kM2 (by omega) (by omega)) λ_ _ _=>⟨_,_,_,_,_,_,_,_,_,_,_,rfl,Sl.nil,Sl.nil,Sl.nil,Sl.nil,Sl.nil,Sl.nil,Sl.nil,Sl.nil,Sl.nil,Sl.nil,Sl.nil⟩
theorem make_w {h:Heap} {tm:Tm} {Q:R->Prop} {cs:List CV} {x:SheetD} (r:Rp.R h cs x) (rh:RH h) (fr:Fresh h) (sm:x.slim) (q:∀h' c1,Ext h h'->Rp.R h' c1 x.make.1->Q (.val (.tup [.agg c1,.agg x.make.2.enc]) h')):W E1 (.call (.fn 8 [] []) [.agg cs]) tm h Q:=
 make_w0 r rh fr sm λh' c1 X s=>q h' c1 X (s h' (Nat.le_refl _) λ_ _ _=>rfl)
end
end Go.Proofs.YtmgpjfnlciapkaaGreatDoor

namespace Go.Proofs.YtmgpjfnlciapkaaGreatDoor
open Go Go.CM Go.CM.Tt
noncomputable section
set_option maxHeartbeats 16000000
set_option maxRecDepth 100000
theorem BodyQ.cellT {E:Env} {tm:Tm} {h:Heap} {Q:R->Prop} {rs:List ResultVar} {a b i off:Nat} {t:TypeId} {s:TyS} {cs:List CV} {ro:Bool} {v v2:CV} (hrs:rs=[.cell a t,.tmp b]) (ha:tm.look a= .ptr (some (i,off))) (hb:tm.look b=v2) (hg:h.get i=some (.cells cs ro)) (hs:E.ty t=some s) (hp:CM.part cs off s.size s.agg=some v)
  (q:Q (.val (.tup [v,v2]) h)):BodyQ E rs Q (.code .ret tm h):=by
 show Q (kBody E rs (.code .ret tm h))
 have e:resultVals E h tm rs=some [v,v2]:=by
  subst hrs
  have hl:CM.load E h t i off=some v:=by
   unfold CM.load loadB
   simp only[hg,hs,hp]
  have h3:tm.get a=some (.ptr (some (i,off))):=by
   have:tm.get a=some (tm.look a):=rfl
   rw[this,ha]
  have h4:tm.get b=some v2:=by
   have:tm.get b=some (tm.look b):=rfl
   rw[this,hb]
  unfold resultVals
  simp only[h3,hl]
  unfold resultVals
  simp only[h4,resultVals,Option.getD_some]
 unfold kBody
 simp only[e]
 exact q
theorem check_w {h:Heap} {tm:Tm} {Q:R->Prop} {cs:List CV} {w:WorldD} (r:Rp.R h cs w) (rh:RH h) (fr:Fresh h) (sm:w.small) (sl:w.whole->w.told.slim) (q:∀h',Ext h h'->Q (.val (.agg w.check.enc) h')):W E1 (.call (.fn 19 [] []) [.agg cs]) tm h Q:=by
 have r0:=r
 obtain⟨v1,v2,v3,v4,v5,v6,v7,v8,v9,v10,v11,rfl,_⟩:=r
 refine W.fn (s:=fnOf Tryz.f19) rfl rfl rfl rfl ?_
 repeat (refine W.seq ?_)
 refine W.region ?_
 refine W.box rfl rfl rfl λHa Xa na ga La=> ?_
 refine W.al rfl rfl rfl λH0 X0 n0 g0 L0=> ?_
 clear L0
 have g0:H0.get Ha.next=some (.cells [.int .i64 0,.int .i64 0,.int .i64 0] false):=g0
 have L1:=La.ext X0
 have X1:=Xa.trans X0
 have nX1:=X1.next
 clear La
 refine W.g ?_
 refine W.call rfl rfl rfl (whole_w (Rp.ext X1 r0) sm λH2 b X2 hb=> ?_)
 have L1:=L1.ext X2
 have g0:=(X2.old _ (by omega)).trans g0
 have Y2:=X1.trans X2
 have nX2:=X2.next
 refine W.k3 1 2 6 λT=> ?_
 cases b
 case false=>
  have e:w.check=⟨2,0,0⟩:=by unfold WorldD.check;rw[if_neg (λh=>by cases hb.2 h)]
  rw[e]at q
  refine W.g ?_
  refine W.stn (vs:=[.int .i64 2,.int .i64 0,.int .i64 0]) (cs':=[.int .i64 2,.int .i64 0,.int .i64 0]) rfl rfl rfl rfl rfl rfl g0 rfl λM nM gM kM=> ?_
  refine W.g ?_
  refine BodyQ.cell1 rfl rfl gM rfl rfl ?_
  exact q M (Ext.store Y2 nM kM (by omega) (by omega))
 have hw:=hb.1 rfl
 have e:w.check=w.told.make.2:=by unfold WorldD.check;rw[if_pos hw]
 rw[e]at q
 refine W.g ?_
 refine W.call rfl rfl rfl (told_w (Rp.ext Y2 r0) (Y2.fr fr) hw sm λH3 e3 X3 r3=> ?_)
 have Y3:=Y2.trans X3
 have nX3:=X3.next
 have g0:=(X3.old _ (by omega)).trans g0
 have r30:=r3
 obtain⟨x1,x2,x3,x4,x5,x6,rfl,_⟩:=r3
 refine W.k3 1 2 11 λT=> ?_
 skip
 refine W.call rfl rfl rfl (make_w r30 (rh.ext Y3) (Y3.fr fr) (sl hw) λH4 c4 X4 r4=> ?_)
 have Y4:=Y3.trans X4
 have nX4:=X4.next
 have g0:=(X4.old _ (by omega)).trans g0
 obtain⟨u1,u2,u3,u4,u5,u6,u7,u8,u9,u10,u11,rfl,_⟩:=r4
 clear L1
 refine W.k3 1 2 12 λT=> ?_
 repeat (first|refine W.g ?_|refine W.m λh_ X_ n_ g_ L_=> ?_)
 rename_i M2 j2 n2 g2 L2
 clear L2 L_
 have g2:=(X_.old H4.next (by omega)).trans g2
 have g0:=((j2.trans X_).old _ (by omega)).trans g0
 refine W.stn (vs:=[.int .i64 w.told.make.1.hz,u1,u2,u3,u4,u5,u6,u7,u8,u9,u10,u11]) (cs':=[.int .i64 w.told.make.1.hz,u1,u2,u3,u4,u5,u6,u7,u8,u9,u10,u11]) rfl rfl rfl rfl rfl rfl g2 rfl λM4 m4 h4 k4=> ?_
 refine W.stn (vs:=w.told.make.2.enc) (cs':=w.told.make.2.enc) rfl rfl rfl rfl rfl rfl ((k4 M2.next (by omega)).trans g_) rfl λM5 m5 h5 k5=> ?_
 have J5:Ext H4 M5:=Ext.store (Ext.store (j2.trans X_) m4 k4 (by omega) (by omega)) m5 k5 (by omega) (by omega)
 have Lf:LocE M5 M2.next 0 w.told.make.2.enc:=⟨_,_,h5,by omega,rfl⟩
 have g0:=(k5 Ha.next (by omega)).trans ((k4 Ha.next (by omega)).trans g0)
 clear X_ g2 g_ h4 k4 k5 j2
 refine W.k3 1 2 4 λT=> ?_
 refine W.g ?_
 refine W.stn (vs:=w.told.make.2.enc) (cs':=w.told.make.2.enc) rfl rfl rfl rfl rfl rfl g0 rfl λM nM gM kM=> ?_
 refine W.g ?_
 refine BodyQ.cell1 rfl rfl gM rfl rfl ?_
 exact q M (Ext.store (Y4.trans J5) nM kM (by omega) (by omega))
theorem wsheet_w {h:Heap} {tm:Tm} {Q:R->Prop} {cs:List CV} {w:WorldD} (r:Rp.R h cs w) (rh:RH h) (fr:Fresh h) (sm:w.small) (sl:w.whole->w.told.slim) (q:∀h' c1,Ext h h'->Rp.R h' c1 w.sheet.1->Q (.val (.tup [.agg c1,.int .i64 w.sheet.2]) h')):W E1 (.call (.fn 15 [] []) [.agg cs]) tm h Q:=by
 have r0:=r
 obtain⟨v1,v2,v3,v4,v5,v6,v7,v8,v9,v10,v11,rfl,_⟩:=r
 refine W.fn (s:=fnOf Tryz.f15) rfl rfl rfl rfl ?_
 repeat (refine W.seq ?_)
 refine W.region ?_
 refine W.box rfl rfl rfl λHa Xa na ga La=> ?_
 refine W.al rfl rfl rfl λH0 X0 n0 g0 L0=> ?_
 clear L0
 have g0:H0.get Ha.next=some (.cells [.int .i64 0,.slice none 0 0 0,.slice none 0 0 0,.slice none 0 0 0,.slice none 0 0 0,.slice none 0 0 0,.slice none 0 0 0] false):=g0
 have L1:=La.ext X0
 have X1:=Xa.trans X0
 have nX1:=X1.next
 clear La
 refine W.g ?_
 refine W.call rfl rfl rfl (check_w (Rp.ext X1 r0) (rh.ext X1) (X1.fr fr) sm sl λH2 X2=> ?_)
 have L1:=L1.ext X2
 have g0:=(X2.old _ (by omega)).trans g0
 have Y2:=X1.trans X2
 have nX2:=X2.next
 refine W.k4 1 2 3 6 λT=> ?_
 repeat (first|refine W.g ?_|refine W.m λh_ X_ n_ g_ L_=> ?_)
 have Lc:LocE h_ H2.next 0 w.check.enc:=L_
 have L1:=L1.ext X_
 have g0:=(X_.old _ (by omega)).trans g0
 have Y3:Ext h h_:=Y2.trans X_
 have nX3:=X_.next
 obtain⟨K,hK⟩:∃K,K=h_:=⟨_,rfl⟩
 rw[<-hK]at Lc L1 g0 Y3 nX3 ⊢
 clear X_ g_ L_
 by_cases c:w.check.err=0
 ·have hw:w.whole:=by
    by_cases hw:w.whole
    ·exact hw
    ·exfalso
     unfold WorldD.check at c
     rw[if_neg hw]at c
     cases c
  have e:w.sheet=(w.told,0):=by unfold WorldD.sheet;rw[if_pos c]
  rw[e]at q
  refine W.g ?_
  refine W.call rfl rfl rfl (told_w0 (Rp.ext Y3 r0) (Y3.fr fr) hw sm λH3 e3 X3 r30=> ?_)
  have nX4:=X3.next
  have g0:=(X3.old _ (by omega)).trans g0
  have r3:=r30 H3 (Nat.le_refl _) λ_ _ _=>rfl
  obtain⟨x1,x2,x3,x4,x5,x6,rfl,_⟩:=r3
  refine W.k4 1 2 3 14 λT=> ?_
  skip
  refine W.stn (vs:=[.int .i64 w.told.hz,x1,x2,x3,x4,x5,x6]) (cs':=[.int .i64 w.told.hz,x1,x2,x3,x4,x5,x6]) rfl rfl rfl rfl rfl rfl g0 rfl λM nM gM kM=> ?_
  refine W.g ?_
  refine BodyQ.cellT rfl rfl rfl gM rfl rfl ?_
  exact q M _ (Ext.store (Y3.trans X3) nM kM (by omega) (by omega)) (r30 M (by omega) λk h1 h2=>kM k (by omega))
 ·have e:w.sheet=(SheetD.none,w.check.err):=by unfold WorldD.sheet;rw[if_neg c]
  rw[e]at q
  refine W.g ?_
  have dv:DV (λb=>b=H2.next) K [] [] []:=DV.start (λb hb=>by rw[hb];obtain⟨_,_,_,hl,_⟩:=Lc;exact hl)
  refine W.dv ?_
  refine W.ldV (k:=0) dv rfl Lc rfl rfl rfl rfl rfl rfl rfl λq1 G1 dv1 s1 L1'=> ?_
  skip
  have n1':=s1.next
  refine W.stV (vs:=[.int .i64 0,.slice none 0 0 0,.slice none 0 0 0,.slice none 0 0 0,.slice none 0 0 0,.slice none 0 0 0,.slice none 0 0 0]) (cs':=[.int .i64 0,.slice none 0 0 0,.slice none 0 0 0,.slice none 0 0 0,.slice none 0 0 0,.slice none 0 0 0,.slice none 0 0 0]) dv1 (by intro hc;have hc:Ha.next=H2.next:=hc;omega) rfl rfl rfl rfl rfl rfl rfl ((s1.get _).trans g0) rfl λq2 M hr2 s2=> ?_
  refine W.dv ?_
  have nM:M.next=G1.next:=s2.next
  have kM:∀k,k≠Ha.next->M.get k=G1.get k:=λk hk=>by rw[s2.get,Heap.get_put,if_neg (Ne.symm hk)]
  have gM:M.get Ha.next=some (.cells [.int .i64 0,.slice none 0 0 0,.slice none 0 0 0,.slice none 0 0 0,.slice none 0 0 0,.slice none 0 0 0,.slice none 0 0 0] false):=by rw[s2.get,put_same]
  refine W.g ?_
  refine BodyQ.cellT rfl rfl rfl gM rfl rfl ?_
  exact q M _ (Ext.store (Y3.trans s1.ext) nM kM (by omega) (by omega)) ⟨_,_,_,_,_,_,rfl,Sl.nil,Sl.nil,Sl.nil,Sl.nil,Sl.nil,Sl.nil⟩
end
end Go.Proofs.YtmgpjfnlciapkaaGreatDoor

noncomputable section
namespace Go.CM
section
variable {E:Env} {tm:Tm} {H h:Heap} {Q:R->Prop} {all rest:List Oper} {o:Oper} {bs:List Bits} {recs:List Rec} {i:Nat} {idx nr:List Nat}
theorem W.dstZ {t:TypeId} {x y:Operand} {id off:Nat} {cs cs' vs:List CV} {s:TyS} (ds:DX H h idx nr recs) (hB:H.next<=id) (hid:(nr.all λj=>bit j ((nth bs i).getD Bits.nil))=true) (hgd:guardOn all tm o=some true) (hop:o.op= .store t x y) (hx:cvOf E.globs tm x= .ptr (some (id,off))) (hy:(cvOf E.globs tm y).cells=some vs)
  (hs:E.ty t=some s) (hl:Nat.beq (len vs) s.size=true) (hg:h.get id=some (.cells cs false)) (hp:setAt cs vs off=some cs')
  (w:∀recs' h',(∀r∈recs',recIdx r∈i::idx)->Same (h.put id (.cells cs' false)) h'->W E (.draw bs all rest (i+1) recs') (putTmp tm o.dst .undef) h' Q):W E (.draw bs all (o::rest) i recs) tm h Q:=by
 have hri:∀r∈recs,recIdx r∈idx:=ds.hri
 have hrr:∀r∈recs,recIdx r∈nr\/∃i fp lo,r= .op i fp false lo lo/\(∀k∈fp,k<H.next)/\∀k∈fp,k<h.next:=λr hr=>by
  have hx:=ds.x.next
  rcases(ds.r r hr).1 with⟨i,fp,lo,h1,h2⟩|⟨i,lo,hi,h1,h2,_⟩|⟨i,d,d',h1,h2,_⟩
  ·exact .inr ⟨i,fp,lo,h1,λk hk=>(h2 k hk).1,λk hk=>Nat.lt_of_lt_of_le (h2 k hk).1 hx⟩
  ·left;rw[h1];exact h2
  ·left;rw[h1];exact h2
 have hfp:fpAny E o tm=[id]:=by
  unfold fpAny
  rw[hop]
  show idOf (cvOf E.globs tm x)=[id]
  rw[hx];rfl
 have hwr:wrOf o.op=true:=by rw[hop];rfl
 have hget:(only h [id]).get id=some (.cells cs false):=by rw[only_get];simpa using hg
 have ho:opAny E o tm (only h (fpAny E o tm))=some (.undef,(only h [id]).put id (.cells cs' false)):=by
  rw[hfp]
  unfold opAny
  rw[hop]
  show oStore E t (cvOf E.globs tm x) (cvOf E.globs tm y) (only h [id])=_
  rw[hx]
  unfold oStore CM.store storeV
  simp only[hs,hy,hl]
  unfold putCells
  simp only[hget,hp,Option.map_some,ofH]
 have hnx:((only h [id]).put id (.cells cs' false)).next=h.next:=only_next _ _
 have hsame:Same (h.put id (.cells cs' false)) (back h ((only h [id]).put id (.cells cs' false)) ([id]++span h.next 0)):=by
  refine⟨by rw[back_next,hnx];rfl,λk=> ?_⟩
  rw[back_get,Heap.get_put,Heap.get_put]
  split
  ·rename_i hk
   have:k=id:=by
    have hk:k∈[id]:=hk
    simpa using hk
   subst this
   simp
  ·rename_i hk
   have:¬id=k:=by
    intro e;subst e
    exact hk (by show id∈[id];simp)
   rw[if_neg this]
 have hall:okPairs ((nth bs i).getD Bits.nil) [id] true (span h.next 0) recs=true:=DV.pairs (B:=λk=>k<H.next) (h:=h) (nr:=nr) (λb hb hm=>by rw[List.mem_singleton]at hm;rw[hm]at hb;have hb:id<H.next:=hb;omega) (λk hk=>(by cases hk)) (λj hj=>List.all_eq_true.1 hid _ hj) hrr
 obtain⟨r,⟨N,e⟩,q⟩:=w (.op i [id] true h.next h.next::recs) _ (λr hm=>by
  rcases List.mem_cons.1 hm with rfl|hm
  ·simp[recIdx]
  ·exact List.mem_cons_of_mem _ (hri r hm)) hsame
 refine⟨r,.step ⟨N,λm hm=> ?_⟩,q⟩
 show(match guardOn all tm o with
  |some true=>dOp E (run E m) bs all rest o i recs tm h
  |some false=>run E m (.draw bs all rest (i+1) recs) (putTmp tm o.dst (.tup [])) h
  |none=> .stop)=r
 rw[hgd]
 show dOp E (run E m) bs all rest o i recs tm h=r
 rw[dOp_any ho,hfp,hwr]
 show(match okPairs ((nth bs i).getD Bits.nil) [id] true (span h.next (((only h [id]).put id (.cells cs' false)).next-h.next)) recs with
  |true=>run E m (.draw bs all rest (i+1) (.op i [id] true h.next ((only h [id]).put id (.cells cs' false)).next::recs)) (putTmp tm o.dst .undef) (back h ((only h [id]).put id (.cells cs' false)) ([id]++span h.next (((only h [id]).put id (.cells cs' false)).next-h.next)))
  |false=> .stop)=r
 rw[hnx,Nat.sub_self,hall]
 exact e m hm
end
end Go.CM
