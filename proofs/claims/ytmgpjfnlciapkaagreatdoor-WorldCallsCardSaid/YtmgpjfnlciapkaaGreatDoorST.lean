/- What is wrong with a sheet, or a world, is what the document says first: the law's own function. No condition but that the table of spaces lies where it does and memory beyond the next number is empty. -/
import Derived.Test.YtmgpjfnlciapkaaGreatDoorXU
import Derived.Test.YtmgpjfnlciapkaaGreatDoorYW
import Derived.Test.YtmgpjfnlciapkaaGreatDoorZH
import Derived.Test.YtmgpjfnlciapkaaGreatDoorZYf
import Derived.Test.YtmgpjfnlciapkaaGreatDoorZC
import Derived.Test.YtmgpjfnlciapkaaGreatDoorZL
import Derived.Test.YtmgpjfnlciapkaaGreatDoorZB
import Derived.Test.YtmgpjfnlciapkaaGreatDoorZZa
import Derived.Test.YtmgpjfnlciapkaaGreatDoorRL
import Derived.Test.YtmgpjfnlciapkaaGreatDoorRQ
import Derived.Test.YtmgpjfnlciapkaaGreatDoorYA
import Derived.Test.YtmgpjfnlciapkaaGreatDoorXMa
import Derived.Test.YtmgpjfnlciapkaaGreatDoorCmZ
set_option linter.unusedVariables false
set_option linter.unusedSimpArgs false
namespace Go.Proofs.YtmgpjfnlciapkaaGreatDoor
open Go Go.CM Go.CM.Tt
noncomputable section
set_option maxHeartbeats 40000000
set_option maxRecDepth 100000
theorem eq_wrC (d:WrongD):eqT E1 20 43 (.agg d.enc) (.agg d.enc)=some true:=eqS rfl (eqF rfl rfl (eqT_i rfl) (eqF rfl rfl (eqT_i rfl) (eqF rfl rfl (eqT_i rfl) rfl)))
theorem op_wrC {d:WrongD} {h:Heap}:withH h ((eqT E1 20 43 (.agg d.enc) (.agg d.enc)).map .bool)=some (.bool true,h):=by rw[eq_wrC];rfl
theorem lightShortC {x:SheetD} (li:x.light):x.short:=by
 have ls:=li.slim;obtain⟨l1,l2,l3,l4,l5,l6,_⟩:=li;refine⟨by omega,by omega,by omega,by omega,by omega,by omega,λr hr=> ?_⟩;have:=ls r hr;omega
theorem lightW_small {w:WorldD} (l:w.lightW):w.small:=by
 obtain⟨l1,l2,l3,l4,l5,l6,l7,l8,l9,l10,l11,l12⟩:=l;refine⟨by omega,by omega,by omega,by omega,by omega,by omega,by omega,by omega,by omega,by omega,by omega,λr hr=> ?_⟩;have:=l12 r hr;omega
theorem lightW_short {w:WorldD} (l:w.lightW):w.short:=by
 obtain⟨l1,l2,l3,l4,l5,l6,l7,l8,l9,l10,l11,l12⟩:=l;refine⟨by omega,by omega,by omega,by omega,by omega,by omega,by omega,by omega,by omega,by omega,by omega,λr hr=> ?_⟩;have:=l12 r hr;omega
theorem lightW_told {w:WorldD} (l:w.lightW):w.told.light:=by
 obtain⟨l1,l2,l3,l4,l5,l6,l7,l8,l9,l10,l11,l12⟩:=l;refine⟨l1,?_,?_,?_,?_,?_,λr hr=> ?_⟩;iterate 5 (simp only[WorldD.told,List.length_mapIdx];assumption)
 obtain⟨i,hi,rfl⟩:=List.mem_mapIdx.1 hr;obtain⟨h1,h2,h3⟩:=l12 _ (List.getElem_mem hi);exact⟨by simp only[RouteW.told,List.length_map];exact h1,h2,h3⟩
theorem none_short:SheetD.none.short:=⟨Nat.zero_le _,Nat.zero_le _,Nat.zero_le _,Nat.zero_le _,Nat.zero_le _,Nat.zero_le _,λr hr=>by cases hr⟩
theorem sheet_short {w:WorldD} (l:w.lightW):w.sheet.1.short:=by
 unfold WorldD.sheet;split
 ·exact lightShortC (lightW_told l)
 ·exact none_short
theorem make_short {x:SheetD}:x.make.1.short:=by
 by_cases e:x.make.2.err=0
 ·have fit:=fit_of_make e
  rw[fit.make];exact SheetD.num_short fit.ok
 ·rw[SheetD.make_none e]
  refine⟨?_,?_,?_,?_,?_,?_,?_,?_,?_,?_,?_,λr hr=>by cases hr⟩<;>exact Nat.zero_le _
theorem calls_w {h:Heap} {tm:Tm} {cs cw cv:List CV} {x:SheetD} {w v:WorldD} (s:Str) (r:Rp.R h cs x) (rw0:Rp.R h cw w) (rv0:Rp.R h cv v) (rh:RH h) (fr:Fresh h):W E1 (.call (.fn 4 [] []) [.agg cs,.agg cw,.agg cv,.str s]) tm h (λr=>∃h',r= .val (.bool true) h'):=by
 have r0:=r;obtain⟨v1,v2,v3,v4,v5,v6,rfl,_⟩:=r;have w0:=rw0;obtain⟨a1,a2,a3,a4,a5,a6,a7,a8,a9,a10,a11,rfl,_⟩:=rw0;have u0:=rv0;obtain⟨d1,d2,d3,d4,d5,d6,d7,d8,d9,d10,d11,rfl,_⟩:=rv0;refine W.fn (s:=fnOf Tryz.f4) rfl rfl rfl rfl ?_;repeat (refine W.seq ?_)
 refine W.region ?_;refine W.box rfl rfl rfl λA1 X1 n1 g1 L1=> ?_;refine W.box rfl rfl rfl λA2 X2 n2 g2 L2=> ?_;refine W.box rfl rfl rfl λA3 X3 n3 g3 L3=> ?_;have L1:=L1.ext (X2.trans X3);have L2:=L2.ext X3;have Y3:=(X1.trans X2).trans X3;have nA3:=Y3.next;clear g1 g2 g3;repeat refine W.g ?_
 refine W.call rfl rfl rfl (W.known rfl (rh.ext Y3).1 ?_);repeat refine W.g ?_
 refine W.call rfl rfl rfl (lightSheet_w (Rp.ext Y3 r0) λB1 b F1 hb=> ?_);have Z1:=Y3.trans F1;have L1:=L1.ext F1;have L2:=L2.ext F1;have L3:=L3.ext F1;refine W.k5 3 4 5 6 24 λT=> ?_;cases b
 ·repeat refine W.g ?_
  exact⟨_,rfl⟩
 have li:=hb.1 rfl;clear hb;repeat refine W.g ?_
 refine W.call rfl rfl rfl (lightWorld_w (Rp.ext Z1 w0) λB2 b F2 hb=> ?_);have Z2:=Z1.trans F2;have L1:=L1.ext F2;have L2:=L2.ext F2;have L3:=L3.ext F2;refine W.k6 3 4 5 6 26 28 λT=> ?_;cases b
 ·repeat refine W.g ?_
  exact⟨_,rfl⟩
 have lw:=hb.1 rfl;clear hb;repeat refine W.g ?_
 refine W.call rfl rfl rfl (lightWorld_w (Rp.ext Z2 u0) λB3 b F3 hb=> ?_);have Z3:=Z2.trans F3;have L1:=L1.ext F3;have L2:=L2.ext F3;have L3:=L3.ext F3;refine W.k6 3 4 5 6 31 33 λT=> ?_;cases b
 ·repeat refine W.g ?_
  exact⟨_,rfl⟩
 have lv:=hb.1 rfl;clear hb;by_cases c0:60<s.length
 ·repeat refine W.g ?_
  exact⟨_,rfl⟩
 repeat refine W.g ?_
 have few:x.few:=by
  obtain⟨l1,l2,l3,l4,l5,l6,_⟩:=li;exact⟨by omega,by omega,by omega,by omega,by omega,by omega⟩
 obtain⟨mw,hmw⟩:∃m,m=x.make:=⟨_,rfl⟩;have msh:mw.1.short:=by rw[hmw];exact make_short
 obtain⟨sw,hsw⟩:∃m,m=w.sheet:=⟨_,rfl⟩;have ssh:sw.1.short:=by rw[hsw];exact sheet_short lw
 obtain⟨fk,hfk⟩:∃m,m=w.names.find s:=⟨_,rfl⟩;obtain⟨wc,hwc⟩:∃m,m=w.check:=⟨_,rfl⟩;have tsl:w.whole->w.told.slim:=λ_=>(lightW_told lw).slim;refine W.call rfl rfl rfl (ownSheet_w (Rp.ext Z3 r0) (Z3.fr fr) few li.slim λC1 n0 m1 m2 m3 mr m5 m6 E1' O=> ?_);have L1:=L1.ext E1';have L2:=L2.ext E1';have L3:=L3.ext E1';have Z4:=Z3.trans E1';have nZ4:=Z4.next;refine W.k5 3 4 5 6 43 λT=> ?_;refine W.call rfl rfl rfl (make_w O.rp (rh.ext Z4) (Z4.fr fr) li.slim λC2 c2 E2 r2=> ?_);rw[<-hmw]at r2 ⊢;have r20:=r2;obtain⟨u21,u22,u23,u24,u25,u26,u27,u28,u29,u210,u211,rfl,_⟩:=r2;have L1:=L1.ext E2;have L2:=L2.ext E2;have L3:=L3.ext E2;have Z5:=Z4.trans E2;have nZ5:=Z5.next;refine W.k5 3 4 5 6 44 λT=> ?_;repeat (first|refine W.g ?_|refine W.m λh_ X_ n_ g_ L_=> ?_)
 rename_i D2 P2 p2 g2 l2;clear l2 L_;refine W.stn (vs:=[.int .i64 mw.1.hz,u21,u22,u23,u24,u25,u26,u27,u28,u29,u210,u211]) (cs':=[.int .i64 mw.1.hz,u21,u22,u23,u24,u25,u26,u27,u28,u29,u210,u211]) rfl rfl rfl rfl rfl rfl ((X_.old C2.next (by omega)).trans g2) rfl λG2 s2 k2 o2=> ?_;refine W.stn (vs:=mw.2.enc) (cs':=mw.2.enc) rfl rfl rfl rfl rfl rfl ((o2 D2.next (by omega)).trans g_) rfl λK2 s'2 k'2 o'2=> ?_;have La:LocE K2 C2.next 0 [.int .i64 mw.1.hz,u21,u22,u23,u24,u25,u26,u27,u28,u29,u210,u211]:=⟨_,_,(o'2 _ (by omega)).trans k2,by omega,rfl⟩;have Le:LocE K2 D2.next 0 mw.2.enc:=⟨_,_,k'2,by omega,rfl⟩;have J2:Ext C2 K2:=Ext.store (Ext.store (P2.trans X_) s2 o2 (by omega) (by omega)) s'2 o'2 (by omega) (by omega);have L1:=L1.ext J2;have L2:=L2.ext J2;have L3:=L3.ext J2;have r2:=Rp.ext J2 r20;have Z6:=Z5.trans J2;have nZ6:=Z6.next;obtain⟨b2,hb2⟩:∃b,b=C2.next:=⟨_,rfl⟩;rw[<-hb2]at La ⊢;obtain⟨b'2,hb'2⟩:∃b,b=D2.next:=⟨_,rfl⟩;rw[<-hb'2]at Le ⊢;clear g2 P2 X_ g_ n_ k2 o2 s2 k'2 o'2 s'2 r20;refine W.k6 3 4 5 6 9 10 λT=> ?_;repeat refine W.g ?_
 refine W.call rfl rfl rfl (rmake_w (Rp.ext Z6 r0) (Z6.fr fr) li.slim λC3 c3 E3 r3=> ?_);rw[<-hmw]at r3 ⊢;have r30:=r3;obtain⟨u31,u32,u33,u34,u35,u36,u37,u38,u39,u310,u311,rfl,_⟩:=r3;have L1:=L1.ext E3;have L2:=L2.ext E3;have L3:=L3.ext E3;have La:=La.ext E3;have Le:=Le.ext E3;have Z7:=Z6.trans E3;have nZ7:=Z7.next;refine W.k6 3 5 6 9 10 49 λT=> ?_;repeat (first|refine W.g ?_|refine W.m λh_ X_ n_ g_ L_=> ?_)
 rename_i D3 P3 p3 g3 l3;clear l3 L_;refine W.stn (vs:=[.int .i64 mw.1.hz,u31,u32,u33,u34,u35,u36,u37,u38,u39,u310,u311]) (cs':=[.int .i64 mw.1.hz,u31,u32,u33,u34,u35,u36,u37,u38,u39,u310,u311]) rfl rfl rfl rfl rfl rfl ((X_.old C3.next (by omega)).trans g3) rfl λG3 s3 k3 o3=> ?_;refine W.stn (vs:=mw.2.enc) (cs':=mw.2.enc) rfl rfl rfl rfl rfl rfl ((o3 D3.next (by omega)).trans g_) rfl λK3 s'3 k'3 o'3=> ?_;have Lb:LocE K3 C3.next 0 [.int .i64 mw.1.hz,u31,u32,u33,u34,u35,u36,u37,u38,u39,u310,u311]:=⟨_,_,(o'3 _ (by omega)).trans k3,by omega,rfl⟩;have Lf:LocE K3 D3.next 0 mw.2.enc:=⟨_,_,k'3,by omega,rfl⟩;have J3:Ext C3 K3:=Ext.store (Ext.store (P3.trans X_) s3 o3 (by omega) (by omega)) s'3 o'3 (by omega) (by omega);have L1:=L1.ext J3;have L2:=L2.ext J3;have L3:=L3.ext J3;have La:=La.ext J3;have Le:=Le.ext J3;have r3:=Rp.ext J3 r30;have Z8:=Z7.trans J3;have nZ8:=Z8.next;obtain⟨b3,hb3⟩:∃b,b=C3.next:=⟨_,rfl⟩;rw[<-hb3]at Lb ⊢;obtain⟨b'3,hb'3⟩:∃b,b=D3.next:=⟨_,rfl⟩;rw[<-hb'3]at Lf ⊢;clear g3 P3 X_ g_ n_ k3 o3 s3 k'3 o'3 s'3 r30;have r2:=Rp.ext (E3.trans J3) r2;clear L1;refine W.k7 3 5 6 9 10 11 12 λT=> ?_;repeat refine W.g ?_
 refine W.call rfl rfl rfl (ownWorld_w (Rp.ext Z8 w0) (Z8.fr fr) (lightW_small lw) λC4 hz1 e1 e2 e3 e4 e5 e6 ep ed er et ez E4 OW=> ?_);have L2:=L2.ext E4;have L3:=L3.ext E4;have La:=La.ext E4;have Le:=Le.ext E4;have Lb:=Lb.ext E4;have Lf:=Lf.ext E4;have Z9:=Z8.trans E4;have nZ9:=Z9.next;refine W.k8 3 5 6 9 10 11 12 54 λT=> ?_;refine W.call rfl rfl rfl (wsheet_w OW.rp (rh.ext Z9) (Z9.fr fr) (lightW_small lw) tsl λC5 c5 E5 r5=> ?_);rw[<-hsw]at r5 ⊢;have r50:=r5;obtain⟨y51,y52,y53,y54,y55,y56,rfl,_⟩:=r5;have L2:=L2.ext E5;have L3:=L3.ext E5;have La:=La.ext E5;have Le:=Le.ext E5;have Lb:=Lb.ext E5;have Lf:=Lf.ext E5;have Z10:=Z9.trans E5;have nZ10:=Z10.next;refine W.k8 3 5 6 9 10 11 12 55 λT=> ?_;repeat (first|refine W.g ?_|refine W.m λh_ X_ n_ g_ L_=> ?_)
 have Lc:LocE h_ C5.next 0 [.int .i64 sw.1.hz,y51,y52,y53,y54,y55,y56]:=L_;have L2:=L2.ext X_;have L3:=L3.ext X_;have La:=La.ext X_;have Le:=Le.ext X_;have Lb:=Lb.ext X_;have Lf:=Lf.ext X_;have r5:=Rp.ext X_ r50;obtain⟨K5,hK5⟩:∃K,K=h_:=⟨_,rfl⟩;have J5:Ext C5 K5:=by rw[hK5];exact X_
 have r5:Rp.R K5 [.int .i64 sw.1.hz,y51,y52,y53,y54,y55,y56] sw.1:=by rw[hK5];exact r5
 rw[<-hK5]at L2 L3 La Le Lb Lf Lc ⊢;clear g_ L_ X_ n_ hK5;have Z11:=Z10.trans J5;have nZ11:=Z11.next;obtain⟨b5,hb5⟩:∃b,b=C5.next:=⟨_,rfl⟩;rw[<-hb5]at Lc ⊢;refine W.k10 3 5 6 9 10 11 12 13 14 59 λT=> ?_;refine W.call rfl rfl rfl (rsheet_w (Rp.ext Z11 w0) (Z11.fr fr) (lightW_small lw) tsl λC6 c6 E6 r6=> ?_);rw[<-hsw]at r6 ⊢;have r60:=r6;obtain⟨y61,y62,y63,y64,y65,y66,rfl,_⟩:=r6;have L2:=L2.ext E6;have L3:=L3.ext E6;have La:=La.ext E6;have Le:=Le.ext E6;have Lb:=Lb.ext E6;have Lf:=Lf.ext E6;have Lc:=Lc.ext E6;have Z12:=Z11.trans E6;have nZ12:=Z12.next;refine W.k10 3 5 6 9 10 11 12 13 14 60 λT=> ?_;repeat (first|refine W.g ?_|refine W.m λh_ X_ n_ g_ L_=> ?_)
 have Ld:LocE h_ C6.next 0 [.int .i64 sw.1.hz,y61,y62,y63,y64,y65,y66]:=L_;have L2:=L2.ext X_;have L3:=L3.ext X_;have La:=La.ext X_;have Le:=Le.ext X_;have Lb:=Lb.ext X_;have Lf:=Lf.ext X_;have Lc:=Lc.ext X_;have r6:=Rp.ext X_ r60;obtain⟨K6,hK6⟩:∃K,K=h_:=⟨_,rfl⟩;have J6:Ext C6 K6:=by rw[hK6];exact X_
 have r6:Rp.R K6 [.int .i64 sw.1.hz,y61,y62,y63,y64,y65,y66] sw.1:=by rw[hK6];exact r6
 rw[<-hK6]at L2 L3 La Le Lb Lf Lc Ld ⊢;clear g_ L_ X_ n_ hK6;have Z13:=Z12.trans J6;have nZ13:=Z13.next;obtain⟨b6,hb6⟩:∃b,b=C6.next:=⟨_,rfl⟩;rw[<-hb6]at Ld ⊢;have r5:=Rp.ext (E6.trans J6) r5;refine W.k13 3 5 6 9 10 11 12 13 14 15 16 64 65 λT=> ?_
 have fsh:∀l∈w.names.lists,l.length<=1099511627776:=(λl hl=>by
  obtain⟨l1,l2,l3,l4,l5,l6,_⟩:=lw;simp only[NamesD.lists,List.mem_cons,List.not_mem_nil,or_false]at hl;rcases hl with rfl|rfl|rfl|rfl|rfl|rfl|rfl|rfl<;>first|(exact Nat.zero_le _)|omega)
 refine W.call rfl rfl rfl (find_w (Z13.fr fr) (Rp.ext Z13 w0) s fsh λC7 E7=> ?_);rw[<-hfk];have L2:=L2.ext E7;have L3:=L3.ext E7;have La:=La.ext E7;have Le:=Le.ext E7;have Lb:=Lb.ext E7;have Lf:=Lf.ext E7;have Lc:=Lc.ext E7;have Ld:=Ld.ext E7;have Z14:=Z13.trans E7;have nZ14:=Z14.next;refine W.k12 3 5 6 9 10 11 12 13 14 15 16 66 λT=> ?_;repeat refine W.g ?_
 refine W.call rfl rfl rfl (rfind_w s (Rp.ext Z14 w0) (lightW_small lw) λC8 E8=> ?_);rw[<-hfk];have L2:=L2.ext E8;have L3:=L3.ext E8;have La:=La.ext E8;have Le:=Le.ext E8;have Lb:=Lb.ext E8;have Lf:=Lf.ext E8;have Lc:=Lc.ext E8;have Ld:=Ld.ext E8;have Z15:=Z14.trans E8;have nZ15:=Z15.next;refine W.k14 3 5 6 9 10 11 12 13 14 15 16 17 18 72 λT=> ?_;repeat refine W.g ?_
 refine W.k14 5 6 9 10 11 12 13 14 15 16 17 18 19 20 λT=> ?_;have ra:=Rp.ext ((E4.trans (E5.trans (J5.trans (E6.trans (J6.trans (E7.trans E8))))))) r2;have rb:=Rp.ext ((E4.trans (E5.trans (J5.trans (E6.trans (J6.trans (E7.trans E8))))))) r3;have rc:=Rp.ext (E7.trans E8) r5;have rd:=Rp.ext (E7.trans E8) r6;obtain⟨K,hK⟩:∃K,K=C8:=⟨_,rfl⟩;rw[<-hK]at ra rb rc rd Z15 L2 L3 La Le Lb Lf Lc Ld ⊢;have ZK:Ext h K:=Z15;clear hK O OW E7 E8 r2 r3 r5 r6;have ds:=DX.start (ZK.fr fr);repeat refine W.e λr_ h_ ds_ s_=> ?_
 have XX:=ZK.trans ds_.x;refine W.dcallZ ds_ rfl rfl rfl rfl (world_w (XX.fr fr) (Rp.ext ds_.x ra) (Rp.ext ds_.x rb) msh λh1 Y1=>DZ.val Y1 λq1 M1 ds1 s1=> ?_);clear XX;refine W.k13 5 6 10 12 13 14 15 16 17 18 19 20 77 λT=> ?_;clear ds ds_;repeat (first|refine W.gd ?_|refine W.e λr_ h_ ds_ s_=> ?_)
 refine W.dopn rfl rfl (op_wrC (d:=mw.2)) rfl ?_;refine W.k12 5 6 13 14 15 16 17 18 19 20 78 81 λT=> ?_;clear ds1;repeat (first|refine W.gd ?_|refine W.e λr_ h_ ds_ s_=> ?_)
 have XX:=ZK.trans ds_.x;refine W.dcallZ ds_ rfl rfl rfl rfl (sheetEq_w (XX.fr fr) (Rp.ext ds_.x rc) (Rp.ext ds_.x rd) ssh λh1 Y1=>DZ.val Y1 λq2 M2 ds2 s2=> ?_);clear XX;refine W.k10 5 6 14 16 17 18 19 20 83 86 λT=> ?_;clear ds_;repeat (first|refine W.gd ?_|refine W.e λr_ h_ ds_ s_=> ?_)
 have XX:=ZK.trans ds_.x;refine W.dcallZ ds_ rfl rfl rfl rfl (check_w (Rp.ext XX w0) (rh.ext XX) (XX.fr fr) (lightW_small lw) tsl λh1 Y1=>DZ.val Y1 λq3 M3 ds3 s3=> ?_);rw[<-hwc];clear XX ds_ ds2;refine W.k4 5 6 103 105 λT=> ?_;repeat refine W.e λr_ h_ ds_ s_=> ?_
 have XX:=ZK.trans ds_.x;refine W.dcallZ ds_ rfl rfl rfl rfl (rcheck_w (Rp.ext XX w0) (XX.fr fr) (lightW_small lw) tsl λh1 Y1=>DZ.val Y1 λq4 M4 ds4 s4=> ?_);rw[<-hwc];clear XX ds_ ds3;refine W.k5 5 6 103 105 107 λT=> ?_;refine W.dopn rfl rfl (op_wrC (d:=wc)) rfl ?_;repeat (first|refine W.gd ?_|refine W.e λr_ h_ ds_ s_=> ?_)
 have XX:=ZK.trans ds_.x;refine W.dcallZ ds_ rfl rfl rfl rfl (wsame2_w (XX.fr fr) (Rp.ext XX w0) (Rp.ext XX u0) (lightW_short lw) (lightW_short lv) λh1 t1 Y1 ht1=>DZ.val Y1 λq5 M5 ds5 s5=> ?_);clear XX ds_ ds4;refine W.k4 5 6 110 113 λT=> ?_;repeat refine W.e λr_ h_ ds_ s_=> ?_
 have XX:=ZK.trans ds_.x;refine W.dcallZ ds_ rfl rfl rfl rfl (world2_w (XX.fr fr) (Rp.ext XX w0) (Rp.ext XX u0) (lightW_short lw) (lightW_short lv) λh1 t2 Y1 ht2=>DZ.val Y1 λq6 M6 ds6 s6=> ?_);clear XX ds_ ds5;have et:t1=t2:=Bool.eq_iff_iff.2 (ht1.trans ht2.symm);subst et;refine W.k4 5 110 113 116 λT=> ?_;refine W.dopn (v:= .bool true) rfl rfl (by cases t1<;>rfl) rfl ?_;repeat (first|refine W.gd ?_|refine W.e λr_ h_ ds_ s_=> ?_)
 have XX:=ZK.trans ds_.x;refine W.dcallZ ds_ rfl rfl rfl rfl (ownWorld_w (Rp.ext XX w0) (XX.fr fr) (lightW_small lw) λh1 hz2 f1 f2 f3 f4 f5 f6 fp fd fr1 ft fz Y1 OW=>DZ.val Y1 λq7 M7 ds7 s7=> ?_);clear ds_ ds6;have XX:=ZK.trans ds7.x;refine W.k3 119 120 122 λT=> ?_;refine W.dcallZ ds7 rfl rfl rfl rfl (wsame_w (XX.fr fr) (Rp.ext XX w0) (OW.ext s7.ext).rp (lightW_short lw) λh1 Y1=>DZ.val Y1 λq8 M8 ds8 s8=> ?_);repeat refine W.gd ?_
 repeat refine W.g ?_
 exact⟨_,rfl⟩
end
end Go.Proofs.YtmgpjfnlciapkaaGreatDoor

noncomputable section
namespace Go.CM.Tt
open Go.CM
theorem choose_list {α β:Type} {R:α->β->Prop}:∀{xs:List α},(∀x∈xs,∃y,R x y)->∃ys:List β,ys.length=xs.length/\∀(j:Nat) (x:α) (y:β),xs[j]? =some x->ys[j]? =some y->R x y
 |[],_=>⟨[],rfl,λj x y h=>by simp at h⟩
 |x::xs,h=>by
  obtain⟨y,hy⟩:=h x (by simp);obtain⟨ys,h1,h2⟩:=choose_list (R:=R) (xs:=xs) λz hz=>h z (List.mem_cons_of_mem _ hz);refine⟨y::ys,by simp[h1],λj a b ha hb=> ?_⟩;cases j with
  |zero=>simp at ha hb;subst ha hb;exact hy
  |succ j=>exact h2 j a b (by simpa using ha) (by simpa using hb)
theorem rep_int {h:Heap} {k:IntKind} {vs:List CV} {d:Dat} (r:Rep h (.int k) vs d):∃n,vs=[.int k n]:=by
 cases r with
 |int _ n _=>exact⟨n,rfl⟩
theorem rep_str {h:Heap} {vs:List CV} {d:Dat} (r:Rep h .str vs d):∃s:Str,vs=[.str s]:=by
 cases r with
 |str s _=>exact⟨s,rfl⟩
theorem rep_bool {h:Heap} {vs:List CV} {d:Dat} (r:Rep h .bool vs d):∃b,vs=[.bool b]:=by
 cases r with
 |bool b=>exact⟨b,rfl⟩
theorem rep_slice {h:Heap} {e:PT} {vs:List CV} {d:Dat} (r:Rep h (.slice e) vs d):∃v vss,vs=[v]/\SlG h e.size v vss/\∀u∈vss,∃d,Rep h e u d:=by
 obtain⟨v,ds,rfl,rfl⟩:∃v ds,vs=[v]/\d= .row ds:=by
  cases r with
  |nil=>exact⟨_,_,rfl,rfl⟩
  |emp=>exact⟨_,_,rfl,rfl⟩
  |row=>exact⟨_,_,rfl,rfl⟩
 obtain⟨vss,h1,h2,h3⟩:=r.sl;refine⟨v,vss,rfl,h1,λu hu=> ?_⟩;obtain⟨j,hj⟩:=List.getElem?_of_mem hu;have hl:=(List.getElem?_eq_some_iff.1 hj).1;exact⟨_,h3 j u _ hj (List.getElem?_eq_getElem (by omega))⟩
theorem rep_struct {h:Heap} {Ts:List PT} {vs:List CV} {d:Dat} (r:Rep h (.struct Ts) vs d):∃vss:List (List CV),vs=vss.flatten/\vss.length=Ts.length/\∀(j:Nat) (T:PT) (u:List CV),Ts[j]? =some T->vss[j]? =some u->∃d,Rep h T u d:=by
 cases r with
 |struct _ vss ds h1 h2 hr=>
  refine⟨vss,rfl,h1,λj T u hT hu=> ?_⟩;have hl:=(List.getElem?_eq_some_iff.1 hT).1;exact⟨_,hr j T u _ hT hu (List.getElem?_eq_getElem (by omega))⟩
theorem rep_sl {h:Heap} {α:Type} [Rp α] {T:PT} {vs:List CV} {d:Dat} (hz:T.size=Rp.z α) (f:∀vs d,Rep h T vs d->∃a:α,Rp.R h vs a) (r:Rep h (.slice T) vs d):∃(v:CV) (l:List α),vs=[v]/\Sl h v l:=by
 obtain⟨v,vss,rfl,h1,h2⟩:=rep_slice r
 obtain⟨l,l1,l2⟩:=choose_list (R:=λ(x:List CV) (a:α)=>Rp.R h x a) (xs:=vss) λx hx=>by
  obtain⟨d,hd⟩:=h2 x hx;exact f x d hd
 exact⟨v,l,rfl,vss,by rw[<-hz];exact h1,l1.symm,l2⟩
theorem rep_sstr {h:Heap} {vs:List CV} {d:Dat} (r:Rep h (.slice .str) vs d):∃(v:CV) (l:List Str),vs=[v]/\Sl h v l:=rep_sl rfl (λvs d r=>rep_str r) r
theorem rep_sint {h:Heap} {vs:List CV} {d:Dat} (r:Rep h (.slice (.int .i64)) vs d):∃(v:CV) (l:List Int),vs=[v]/\Sl h v l:=rep_sl rfl (λvs d r=>rep_int r) r
def ptTimes:PT:= .struct [.int .i64,.int .i64,.int .i64]
theorem rep_times {h:Heap} {vs:List CV} {d:Dat} (r:Rep h ptTimes vs d):∃x:Times,Rp.R h vs x:=by
 obtain⟨vss,rfl,hl,hr⟩:=rep_struct r
 match vss,hl with
 |[c0,c1,c2],_=>
  obtain⟨_,r0⟩:=hr 0 _ c0 rfl rfl;obtain⟨x0,rfl⟩:=rep_int r0;obtain⟨_,r1⟩:=hr 1 _ c1 rfl rfl;obtain⟨x1,rfl⟩:=rep_int r1;obtain⟨_,r2⟩:=hr 2 _ c2 rfl rfl;obtain⟨x2,rfl⟩:=rep_int r2;exact⟨⟨x0,x1,x2⟩,rfl⟩
def ptPath:PT:= .struct [.str,.str,.str,.int .i64]
theorem rep_path {h:Heap} {vs:List CV} {d:Dat} (r:Rep h ptPath vs d):∃x:PathS,Rp.R h vs x:=by
 obtain⟨vss,rfl,hl,hr⟩:=rep_struct r
 match vss,hl with
 |[c0,c1,c2,c3],_=>
  obtain⟨_,r0⟩:=hr 0 _ c0 rfl rfl;obtain⟨x0,rfl⟩:=rep_str r0;obtain⟨_,r1⟩:=hr 1 _ c1 rfl rfl;obtain⟨x1,rfl⟩:=rep_str r1;obtain⟨_,r2⟩:=hr 2 _ c2 rfl rfl;obtain⟨x2,rfl⟩:=rep_str r2;obtain⟨_,r3⟩:=hr 3 _ c3 rfl rfl;obtain⟨x3,rfl⟩:=rep_int r3;exact⟨⟨x0,x1,x2,x3⟩,rfl⟩
def ptDoor:PT:= .struct [.str,.str,.str,.int .i64,ptTimes]
theorem rep_door {h:Heap} {vs:List CV} {d:Dat} (r:Rep h ptDoor vs d):∃x:DoorS,Rp.R h vs x:=by
 obtain⟨vss,rfl,hl,hr⟩:=rep_struct r
 match vss,hl with
 |[c0,c1,c2,c3,c4],_=>
  obtain⟨_,r0⟩:=hr 0 _ c0 rfl rfl;obtain⟨x0,rfl⟩:=rep_str r0;obtain⟨_,r1⟩:=hr 1 _ c1 rfl rfl;obtain⟨x1,rfl⟩:=rep_str r1;obtain⟨_,r2⟩:=hr 2 _ c2 rfl rfl;obtain⟨x2,rfl⟩:=rep_str r2;obtain⟨_,r3⟩:=hr 3 _ c3 rfl rfl;obtain⟨x3,rfl⟩:=rep_int r3;obtain⟨_,r4⟩:=hr 4 _ c4 rfl rfl;obtain⟨x4,rt⟩:=rep_times r4;have rt:c4=x4.enc:=rt;subst rt;exact⟨⟨x0,x1,x2,x3,x4⟩,rfl⟩
def ptTrip:PT:= .struct [.str,.str,.int .i64,.int .i64,.int .i64]
theorem rep_trip {h:Heap} {vs:List CV} {d:Dat} (r:Rep h ptTrip vs d):∃x:TripS,Rp.R h vs x:=by
 obtain⟨vss,rfl,hl,hr⟩:=rep_struct r
 match vss,hl with
 |[c0,c1,c2,c3,c4],_=>
  obtain⟨_,r0⟩:=hr 0 _ c0 rfl rfl;obtain⟨x0,rfl⟩:=rep_str r0;obtain⟨_,r1⟩:=hr 1 _ c1 rfl rfl;obtain⟨x1,rfl⟩:=rep_str r1;obtain⟨_,r2⟩:=hr 2 _ c2 rfl rfl;obtain⟨x2,rfl⟩:=rep_int r2;obtain⟨_,r3⟩:=hr 3 _ c3 rfl rfl;obtain⟨x3,rfl⟩:=rep_int r3;obtain⟨_,r4⟩:=hr 4 _ c4 rfl rfl;obtain⟨x4,rfl⟩:=rep_int r4;exact⟨⟨x0,x1,x2,x3,x4⟩,rfl⟩
def ptHaz:PT:= .struct [.str,.str,ptTimes]
theorem rep_haz {h:Heap} {vs:List CV} {d:Dat} (r:Rep h ptHaz vs d):∃x:HazS,Rp.R h vs x:=by
 obtain⟨vss,rfl,hl,hr⟩:=rep_struct r
 match vss,hl with
 |[c0,c1,c2],_=>
  obtain⟨_,r0⟩:=hr 0 _ c0 rfl rfl;obtain⟨x0,rfl⟩:=rep_str r0;obtain⟨_,r1⟩:=hr 1 _ c1 rfl rfl;obtain⟨x1,rfl⟩:=rep_str r1;obtain⟨_,r2⟩:=hr 2 _ c2 rfl rfl;obtain⟨x2,rt⟩:=rep_times r2;have rt:c2=x2.enc:=rt;subst rt;exact⟨⟨x0,x1,x2⟩,rfl⟩
def ptRoute:PT:= .struct [.str,.slice .str,.slice (.int .i64),.slice (.int .i64)]
theorem rep_route {h:Heap} {vs:List CV} {d:Dat} (r:Rep h ptRoute vs d):∃x:RouteS,Rp.R h vs x:=by
 obtain⟨vss,rfl,hl,hr⟩:=rep_struct r
 match vss,hl with
 |[c0,c1,c2,c3],_=>
  obtain⟨_,r0⟩:=hr 0 _ c0 rfl rfl;obtain⟨x0,rfl⟩:=rep_str r0;obtain⟨_,r1⟩:=hr 1 _ c1 rfl rfl;obtain⟨v1,x1,rfl,s1⟩:=rep_sstr r1;obtain⟨_,r2⟩:=hr 2 _ c2 rfl rfl;obtain⟨v2,x2,rfl,s2⟩:=rep_sint r2;obtain⟨_,r3⟩:=hr 3 _ c3 rfl rfl;obtain⟨v3,x3,rfl,s3⟩:=rep_sint r3;exact⟨⟨x0,x1,x2,x3⟩,v1,v2,v3,rfl,s1,s2,s3⟩
def ptSheet:PT:= .struct [.int .i64,.slice .str,.slice ptPath,.slice ptDoor,.slice ptRoute,.slice ptTrip,.slice ptHaz]
theorem rep_sheet {h:Heap} {vs:List CV} {d:Dat} (r:Rep h ptSheet vs d):∃x:SheetD,Rp.R h vs x:=by
 obtain⟨vss,rfl,hl,hr⟩:=rep_struct r
 match vss,hl with
 |[c0,c1,c2,c3,c4,c5,c6],_=>
  obtain⟨_,r0⟩:=hr 0 _ c0 rfl rfl;obtain⟨x0,rfl⟩:=rep_int r0;obtain⟨_,r1⟩:=hr 1 _ c1 rfl rfl;obtain⟨v1,x1,rfl,s1⟩:=rep_sstr r1;obtain⟨_,r2⟩:=hr 2 _ c2 rfl rfl;obtain⟨v2,x2,rfl,s2⟩:=rep_sl (α:=PathS) rfl (λvs d r=>rep_path r) r2;obtain⟨_,r3⟩:=hr 3 _ c3 rfl rfl;obtain⟨v3,x3,rfl,s3⟩:=rep_sl (α:=DoorS) rfl (λvs d r=>rep_door r) r3;obtain⟨_,r4⟩:=hr 4 _ c4 rfl rfl;obtain⟨v4,x4,rfl,s4⟩:=rep_sl (α:=RouteS) rfl (λvs d r=>rep_route r) r4;obtain⟨_,r5⟩:=hr 5 _ c5 rfl rfl;obtain⟨v5,x5,rfl,s5⟩:=rep_sl (α:=TripS) rfl (λvs d r=>rep_trip r) r5;obtain⟨_,r6⟩:=hr 6 _ c6 rfl rfl;obtain⟨v6,x6,rfl,s6⟩:=rep_sl (α:=HazS) rfl (λvs d r=>rep_haz r) r6;exact⟨⟨x0,x1,x2,x3,x4,x5,x6⟩,v1,v2,v3,v4,v5,v6,rfl,s1,s2,s3,s4,s5,s6⟩
end Go.CM.Tt

noncomputable section
namespace Go.CM
theorem open_vals {H:Type} {enc:TypeId×Value->H} {P:Program} {W:World}:∀(items:List (PT×Value)),(∀it∈items,∃t d ps,PTok P it.1 t/\DataW.Trod enc P W 0 (λ_=>true) true t it.2 d ps)->∀base,
  ∃(bs:List ArgB) (vss:List (List CV)),vss.length=items.length/\(∀b∈bs,ArgOk W b)/\
   (∀ρ,Placed ρ base bs->(∀b∈bs,ArgVR W ρ b)/\∀(i:Nat) (it:PT×Value) (vs:List CV),items[i]? =some it->vss[i]? =some vs->VRs ρ vs it.2.cells.toList)/\
   (∀vs∈vss,∀c∈vs,c.one=true)/\
   ∀h,Laid h base bs->∀(i:Nat) (it:PT×Value) (vs:List CV),items[i]? =some it->vss[i]? =some vs->∃d,Rep h it.1 vs d
 |[],_,base=>⟨[],[],rfl,λb hb=>by simp at hb,λρ _=>⟨λb hb=>by simp at hb,λi it vs h=>by simp at h⟩,λvs h=>by simp at h,λh _ i it vs hi=>by simp at hi⟩
 |it::items,hit,base=>by
  obtain⟨t,d,ps,ok,fuel,ht⟩:=hit it (by simp);obtain⟨vs0,bs0,d0,o⟩:=open_pt ok fuel _ _ ht base;obtain⟨bs,vss,k1,k2,k3,k4,k5⟩:=open_vals items (λx hx=>hit x (List.mem_cons_of_mem _ hx)) (base+bs0.length);refine⟨bs0++bs,vs0::vss,by simp[k1],λb hb=> ?_,λρ p=>⟨λb hb=> ?_,λi x vs h1 h2=> ?_⟩,λvs hv=> ?_,λh p i x vs h1 h2=> ?_⟩
  ·rcases List.mem_append.1 hb with hb|hb
   ·exact o.ok b hb
   ·exact k2 b hb
  ·rcases List.mem_append.1 hb with hb|hb
   ·exact(o.vr ρ p.split.1).2 b hb
   ·exact(k3 ρ p.split.2).1 b hb
  ·cases i with
   |zero=>simp at h1 h2;subst h1 h2;exact(o.vr ρ p.split.1).1
   |succ i=>exact(k3 ρ p.split.2).2 i x vs (by simpa using h1) (by simpa using h2)
  ·rcases List.mem_cons.1 hv with rfl|hv
   ·exact o.one
   ·exact k4 vs hv
  ·cases i with
   |zero=>simp at h1 h2;subst h1 h2;exact⟨_,o.rep h p.split.1⟩
   |succ i=>exact k5 h p.split.2 i x vs (by simpa using h1) (by simpa using h2)
theorem open_args {H:Type} {enc:TypeId×Value->H} {P:Program} {W:World} {g:Nat} {rows:List (Nat×List CV)} (items:List (PT×Value)) (hit:∀it∈items,∃t d ps,PTok P it.1 t/\DataW.Trod enc P W 0 (λ_=>true) true t it.2 d ps)
  (h1:g<=W.heap.size) (hrows:∀r∈rows,r.1<g/\r.2.all CV.plain=true) (h2:RowsAt W rows (rho0 g)):
  ∃(bs:List ArgB) (vss:List (List CV)),vss.length=items.length/\HR (rhoA g bs) (heapOf g rows (bs.map (·.cs))) W/\
   ∀(i:Nat) (it:PT×Value) (vs:List CV),items[i]? =some it->vss[i]? =some vs->VRs (rhoA g bs) vs it.2.cells.toList/\(∀c∈vs,c.one=true)/\∃d,Rep (heapOf g rows (bs.map (·.cs))) it.1 vs d:=by
 obtain⟨bs,vss,k1,k2,k3,k4,k5⟩:=open_vals items hit g
 have hpl:Placed (rhoA g bs) g bs:=λn b hb=>by
  show(if g+n<g then some (g+n,0)else(bs[g+n-g]?).map λb=>(b.blk,b.off))=_
  rw[if_neg (by omega),show g+n-g=n by omega,hb];rfl
 have hlaid:Laid (heapOf g rows (bs.map (·.cs))) g bs:=λn b hb=>by
  have hn:=(List.getElem?_eq_some_iff.1 hb).1;refine⟨?_,heapOf_at (by rw[List.getElem?_map,hb];rfl)⟩;rw[heapOf_next,List.length_map];omega
 obtain⟨hvr,hv⟩:=k3 _ hpl;refine⟨bs,vss,k1,hr_args h1 hrows h2 (λb hb=> ?_),λi it vs a1 a2=>⟨hv i it vs a1 a2,k4 vs (List.mem_of_getElem? a2),k5 _ hlaid i it vs a1 a2⟩⟩;obtain⟨arr,ty,fz,q1,q2,q3⟩:=k2 b hb;exact⟨arr,ty,fz,q1,q2,hvr b hb arr ty fz q1,q3⟩
theorem agg_of {ρ:Rho} {vs:List CV} {v:Value} (h:VRs ρ vs v.cells.toList) (h1:∀c∈vs,c.one=true) (hn:vs.length≠1):∃arr,v= .agg arr/\VR ρ (.agg vs) (.agg arr):=by
 have hl:=h.1;cases v with
 |agg arr=>exact⟨arr,rfl,VRs.agg h h1⟩
 |_=>simp[Value.cells]at hl;omega
end Go.CM

noncomputable section
namespace Go.CM.Tt
open Go.CM
def ptPathW:PT:= .struct [.int .i64,.int .i64,.int .i64]
theorem rep_pathW {h:Heap} {vs:List CV} {d:Dat} (r:Rep h ptPathW vs d):∃x:PathW,Rp.R h vs x:=by
 obtain⟨vss,rfl,hl,hr⟩:=rep_struct r
 match vss,hl with
 |[c0,c1,c2],_=>
  obtain⟨_,r0⟩:=hr 0 _ c0 rfl rfl;obtain⟨x0,rfl⟩:=rep_int r0;obtain⟨_,r1⟩:=hr 1 _ c1 rfl rfl;obtain⟨x1,rfl⟩:=rep_int r1;obtain⟨_,r2⟩:=hr 2 _ c2 rfl rfl;obtain⟨x2,rfl⟩:=rep_int r2;exact⟨⟨x0,x1,x2⟩,rfl⟩
def ptDoorW:PT:= .struct [.int .i64,.int .i64,.int .i64,ptTimes]
theorem rep_doorW {h:Heap} {vs:List CV} {d:Dat} (r:Rep h ptDoorW vs d):∃x:DoorW,Rp.R h vs x:=by
 obtain⟨vss,rfl,hl,hr⟩:=rep_struct r
 match vss,hl with
 |[c0,c1,c2,c3],_=>
  obtain⟨_,r0⟩:=hr 0 _ c0 rfl rfl;obtain⟨x0,rfl⟩:=rep_int r0;obtain⟨_,r1⟩:=hr 1 _ c1 rfl rfl;obtain⟨x1,rfl⟩:=rep_int r1;obtain⟨_,r2⟩:=hr 2 _ c2 rfl rfl;obtain⟨x2,rfl⟩:=rep_int r2;obtain⟨_,r3⟩:=hr 3 _ c3 rfl rfl;obtain⟨x3,rt⟩:=rep_times r3;have rt:c3=x3.enc:=rt;subst rt;exact⟨⟨x0,x1,x2,x3⟩,rfl⟩
def ptTripW:PT:= .struct [.int .i64,.int .i64,.int .i64,.int .i64]
theorem rep_tripW {h:Heap} {vs:List CV} {d:Dat} (r:Rep h ptTripW vs d):∃x:TripW,Rp.R h vs x:=by
 obtain⟨vss,rfl,hl,hr⟩:=rep_struct r
 match vss,hl with
 |[c0,c1,c2,c3],_=>
  obtain⟨_,r0⟩:=hr 0 _ c0 rfl rfl;obtain⟨x0,rfl⟩:=rep_int r0;obtain⟨_,r1⟩:=hr 1 _ c1 rfl rfl;obtain⟨x1,rfl⟩:=rep_int r1;obtain⟨_,r2⟩:=hr 2 _ c2 rfl rfl;obtain⟨x2,rfl⟩:=rep_int r2;obtain⟨_,r3⟩:=hr 3 _ c3 rfl rfl;obtain⟨x3,rfl⟩:=rep_int r3;exact⟨⟨x0,x1,x2,x3⟩,rfl⟩
def ptHazW:PT:= .struct [.bool,.int .i64,ptTimes]
theorem rep_hazW {h:Heap} {vs:List CV} {d:Dat} (r:Rep h ptHazW vs d):∃x:HazW,Rp.R h vs x:=by
 obtain⟨vss,rfl,hl,hr⟩:=rep_struct r
 match vss,hl with
 |[c0,c1,c2],_=>
  obtain⟨_,r0⟩:=hr 0 _ c0 rfl rfl;obtain⟨x0,rfl⟩:=rep_bool r0;obtain⟨_,r1⟩:=hr 1 _ c1 rfl rfl;obtain⟨x1,rfl⟩:=rep_int r1;obtain⟨_,r2⟩:=hr 2 _ c2 rfl rfl;obtain⟨x2,rt⟩:=rep_times r2;have rt:c2=x2.enc:=rt;subst rt;exact⟨⟨x0,x1,x2⟩,rfl⟩
def ptRouteW:PT:= .struct [.slice (.int .i64),.slice (.int .i64),.slice (.int .i64)]
theorem rep_routeW {h:Heap} {vs:List CV} {d:Dat} (r:Rep h ptRouteW vs d):∃x:RouteW,Rp.R h vs x:=by
 obtain⟨vss,rfl,hl,hr⟩:=rep_struct r
 match vss,hl with
 |[c1,c2,c3],_=>
  obtain⟨_,r1⟩:=hr 0 _ c1 rfl rfl;obtain⟨v1,x1,rfl,s1⟩:=rep_sint r1;obtain⟨_,r2⟩:=hr 1 _ c2 rfl rfl;obtain⟨v2,x2,rfl,s2⟩:=rep_sint r2;obtain⟨_,r3⟩:=hr 2 _ c3 rfl rfl;obtain⟨v3,x3,rfl,s3⟩:=rep_sint r3;exact⟨⟨x1,x2,x3⟩,v1,v2,v3,rfl,s1,s2,s3⟩
def ptNames:PT:= .struct [.slice .str,.slice .str,.slice .str,.slice .str,.slice .str,.slice .str]
theorem rep_names {h:Heap} {vs:List CV} {d:Dat} (r:Rep h ptNames vs d):∃(x:NamesD) (v1 v2 v3 v4 v5 v6:CV),vs=[v1,v2,v3,v4,v5,v6]/\Sl h v1 x.stops/\Sl h v2 x.paths/\Sl h v3 x.doors/\Sl h v4 x.routes/\Sl h v5 x.trips/\Sl h v6 x.hazards:=by
 obtain⟨vss,rfl,hl,hr⟩:=rep_struct r
 match vss,hl with
 |[c1,c2,c3,c4,c5,c6],_=>
  obtain⟨_,r1⟩:=hr 0 _ c1 rfl rfl;obtain⟨v1,x1,rfl,s1⟩:=rep_sstr r1;obtain⟨_,r2⟩:=hr 1 _ c2 rfl rfl;obtain⟨v2,x2,rfl,s2⟩:=rep_sstr r2;obtain⟨_,r3⟩:=hr 2 _ c3 rfl rfl;obtain⟨v3,x3,rfl,s3⟩:=rep_sstr r3;obtain⟨_,r4⟩:=hr 3 _ c4 rfl rfl;obtain⟨v4,x4,rfl,s4⟩:=rep_sstr r4;obtain⟨_,r5⟩:=hr 4 _ c5 rfl rfl;obtain⟨v5,x5,rfl,s5⟩:=rep_sstr r5;obtain⟨_,r6⟩:=hr 5 _ c6 rfl rfl;obtain⟨v6,x6,rfl,s6⟩:=rep_sstr r6;exact⟨⟨x1,x2,x3,x4,x5,x6⟩,v1,v2,v3,v4,v5,v6,rfl,s1,s2,s3,s4,s5,s6⟩
def ptWorld:PT:= .struct [.int .i64,ptNames,.slice ptPathW,.slice ptDoorW,.slice ptRouteW,.slice ptTripW,.slice ptHazW]
theorem rep_world {h:Heap} {vs:List CV} {d:Dat} (r:Rep h ptWorld vs d):∃x:WorldD,Rp.R h vs x:=by
 obtain⟨vss,rfl,hl,hr⟩:=rep_struct r
 match vss,hl with
 |[c0,c1,c2,c3,c4,c5,c6],_=>
  obtain⟨_,r0⟩:=hr 0 _ c0 rfl rfl;obtain⟨x0,rfl⟩:=rep_int r0;obtain⟨_,r1⟩:=hr 1 _ c1 rfl rfl;obtain⟨x1,n1,n2,n3,n4,n5,n6,rfl,t1,t2,t3,t4,t5,t6⟩:=rep_names r1;obtain⟨_,r2⟩:=hr 2 _ c2 rfl rfl;obtain⟨v2,x2,rfl,s2⟩:=rep_sl (α:=PathW) rfl (λvs d r=>rep_pathW r) r2;obtain⟨_,r3⟩:=hr 3 _ c3 rfl rfl;obtain⟨v3,x3,rfl,s3⟩:=rep_sl (α:=DoorW) rfl (λvs d r=>rep_doorW r) r3;obtain⟨_,r4⟩:=hr 4 _ c4 rfl rfl;obtain⟨v4,x4,rfl,s4⟩:=rep_sl (α:=RouteW) rfl (λvs d r=>rep_routeW r) r4;obtain⟨_,r5⟩:=hr 5 _ c5 rfl rfl;obtain⟨v5,x5,rfl,s5⟩:=rep_sl (α:=TripW) rfl (λvs d r=>rep_tripW r) r5;obtain⟨_,r6⟩:=hr 6 _ c6 rfl rfl;obtain⟨v6,x6,rfl,s6⟩:=rep_sl (α:=HazW) rfl (λvs d r=>rep_hazW r) r6;exact⟨⟨x0,x1,x2,x3,x4,x5,x6⟩,n1,n2,n3,n4,n5,n6,v2,v3,v4,v5,v6,rfl,t1,t2,t3,t4,t5,t6,s2,s3,s4,s5,s6⟩
end Go.CM.Tt

noncomputable section
namespace Go.CM
theorem envW_small2 {P:Program} {tyL:List (Nat×TyS)} {fnL:List (Nat×FnS)} {g:Nat} {kn:List KE} {rows:List (Nat×List CV)} (ht:∀p∈tyL,tyOf P p.1 p.2.cmp=some p.2/\(p.2.cmp=true->cmpB P p.1=true))
  (hf:∀p∈fnL,∃fn,P.funcs[p.1]? =some fn/\p.2=fnOf fn/\fnGood fn=true) (hm:P.follows .mixedOrders=true) (hr:rowsGood g rows=true) (hk:∀e∈kn,KnownOk P g rows e):EnvW P ⟨lk tyL,lk fnL,g,kn,rows⟩:=by
 have row:∀f s,lk fnL f=some s->∃fn,P.funcs[f]? =some fn/\s=⟨fn.ntmps,fn.results.toList,fn.body⟩/\fnGood fn=true:=by
  intro f s h;obtain⟨fn,h1,h2,h3⟩:=hf _ (lk_mem h);exact⟨fn,h1,h2,h3⟩
 refine⟨⟨λt s h=> ?_,λf s h=> ?_⟩,λf s c h hb=> ?_,λf s fn h hfn=> ?_,hm,hk,λr hmm=> ?_⟩
 ·have h1:=ht _ (lk_mem h)
  exact⟨h1.1,λe=>cmpB_ok (h1.2 e)⟩
 ·obtain⟨fn,h1,rfl,_⟩:=row f s h
  exact⟨fn,h1,rfl,rfl,rfl⟩
 ·obtain⟨fn,h1,rfl,h2⟩:=row f s h
  unfold fnGood at h2;rw[Bool.and_eq_true]at h2;have hb:fn.body=some c:=hb;rw[hb]at h2;exact h2.2
 ·obtain⟨fn',h1,rfl,h2⟩:=row f s h
  rw[h1]at hfn;cases hfn;unfold fnGood at h2;rw[Bool.and_eq_true]at h2;simpa using h2.1
 ·have:=List.all_eq_true.1 hr r hmm
  rw[Bool.and_eq_true]at this;exact⟨by have:=this.1;rw[Nat.blt_eq]at this;exact this,this.2⟩
end Go.CM
