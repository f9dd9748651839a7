/- The document's answer: what is wrong with a world, the sheet that it tells, where a name is found. No condition but that memory beyond the next number is empty. -/
import Derived.Test.YtfheibkikpefkaaGreatDoorXU
import Derived.Test.YtfheibkikpefkaaGreatDoorRH
import Derived.Test.YtfheibkikpefkaaGreatDoorRI
import Derived.Test.YtfheibkikpefkaaGreatDoorRJ
import Derived.Test.YtfheibkikpefkaaGreatDoorYA
import Derived.Test.YtfheibkikpefkaaGreatDoorZYc
set_option linter.unusedVariables false
set_option linter.unusedSimpArgs false
namespace Go.Proofs.YtfheibkikpefkaaGreatDoor
open Go Go.CM Go.CM.Tt
noncomputable section
set_option maxHeartbeats 16000000
theorem mL {h:Heap} {tm:Tm} {Q:R->Prop} {cs:List CV} {w:WorldD} (r:Rp.R h cs w) (fr:Fresh h) (sm:w.small) (sl:w.whole->w.told.slim) (q:∀h',Ext h h'->Q (.val (.agg w.check.enc) h')):W E1 (.call (.fn 11 [] []) [.agg cs]) tm h Q:=by
 have r0:=r;obtain⟨v1,v2,v3,v4,v5,v6,v7,v8,v9,v10,v11,rfl,s1,s2,s3,s4,s5,s6,s7,s8,s9,s10,s11⟩:=r;refine W.fn (s:=aB Tryz.f11) rfl rfl rfl rfl ?_;repeat (refine W.seq ?_)
 refine W.region ?_;refine W.box rfl rfl rfl λH1 XH1 nH1 gH1 LH1=> ?_;repeat (first|refine W.g ?_|refine W.m λh_ X_ n_ g_ L_=> ?_)
 obtain⟨H,hH⟩:∃H,H=h_:=⟨_,rfl⟩;rw[<-hH]at X_ n_ g_ L_ ⊢;have XA:=X_;have nA:=n_;have gR:H.get H1.next=some (.cells [.int .i64 0,.int .i64 0,.int .i64 0] false):=g_;clear X_ n_ g_ L_ hH;have XH:Ext h H:=XH1.trans XA;have LH:=LH1.ext XA;refine W.call rfl rfl rfl (aKi (Rp.ext XH r0) (XH.fr fr) sm λH2 b X2 hb=> ?_);have nX2:=X2.next;have L2:=LH.ext X2;clear LH LH1;cases b
 ·have e:w.check=⟨2,0,0⟩:=by unfold WorldD.check;rw[if_neg (λh=>by cases hb.2 h)]
  rw[e]at q;repeat refine W.g ?_
  refine W.call rfl rfl rfl (eG _ _ _ λH3 X3=> ?_);have nX3:=X3.next;repeat refine W.g ?_
  refine aK (vs:=[.int .i64 2,.int .i64 0,.int .i64 0]) (cs':=[.int .i64 2,.int .i64 0,.int .i64 0]) rfl rfl rfl rfl rfl rfl (((X2.trans X3).old _ (by omega)).trans gR) rfl λM nM gM kM=> ?_;repeat refine W.g ?_
  refine aJ rfl rfl gM rfl rfl ?_;exact q M (Ext.store (XH.trans (X2.trans X3)) nM kM (by omega) (by omega))
 have hw:=hb.1 rfl;have e:w.check=w.told.make.2:=by unfold WorldD.check;rw[if_pos hw]
 rw[e]at q;have Y2:=XH.trans X2;repeat refine W.g ?_
 refine W.call rfl rfl rfl (aPa (Rp.ext Y2 r0) (Y2.fr fr) hw sm λH3 e3 X3 r3=> ?_);have nX3:=X3.next;repeat refine W.g ?_
 refine W.call rfl rfl rfl (aPd (r3 H3 (Nat.le_refl _) λ_ _ _=>rfl) ((Y2.trans X3).fr fr) (sl hw) λH4 c4 X4 r4=> ?_);have nX4:=X4.next;obtain⟨y1,y2,y3,y4,y5,y6,y7,y8,y9,y10,y11,rfl,_⟩:=r4;repeat (first|refine W.g ?_|refine W.m λh_ X_ n_ g_ L_=> ?_)
 rename_i G1 XG1 nG1 gG1 LG1;clear LG1 L_;have nXG:=X_.next;refine aK (vs:=[.int .i64 w.told.make.1.hz,y1,y2,y3,y4,y5,y6,y7,y8,y9,y10,y11]) (cs':=[.int .i64 w.told.make.1.hz,y1,y2,y3,y4,y5,y6,y7,y8,y9,y10,y11]) rfl rfl rfl rfl rfl rfl ((X_.old H4.next (by omega)).trans gG1) rfl λM1 m1 gM1 kM1=> ?_;repeat (first|refine W.g ?_|refine W.m λh_ X_ n_ g_ L_=> ?_|refine W.n λh_ X_ n_ g_ S_=> ?_)
 refine aK (vs:=w.told.make.2.enc) (cs':=w.told.make.2.enc) rfl rfl rfl rfl rfl rfl ((kM1 G1.next (by omega)).trans g_) rfl λM2 m2 gM2 kM2=> ?_;have L4:LocE M2 G1.next 0 w.told.make.2.enc:=⟨_,_,gM2,by omega,rfl⟩;repeat refine W.g ?_
 refine aK (vs:=w.told.make.2.enc) (cs':=w.told.make.2.enc) rfl rfl rfl rfl rfl rfl ((kM2 H1.next (by omega)).trans ((kM1 H1.next (by omega)).trans (((X2.trans (X3.trans (X4.trans (XG1.trans X_)))).old H1.next (by omega)).trans gR))) rfl λM3 m3 gM3 kM3=> ?_;repeat refine W.g ?_
 refine aJ rfl rfl gM3 rfl rfl ?_;exact q M3 (Ext.store (Ext.store (Ext.store (Y2.trans (X3.trans (X4.trans (XG1.trans X_)))) m1 kM1 (by omega) (by omega)) m2 kM2 (by omega) (by omega)) m3 kM3 (by omega) (by omega))
end
end Go.Proofs.YtfheibkikpefkaaGreatDoor
