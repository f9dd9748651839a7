/- The document's answer: the first thing that does not hold; what is made of a sheet. No condition but that memory beyond the next number is empty. -/
import Derived.Test.YtfheibkikpefkaaGreatDoorXU
import Derived.Test.YtfheibkikpefkaaGreatDoorRB
import Derived.Test.YtfheibkikpefkaaGreatDoorRD
import Derived.Test.YtfheibkikpefkaaGreatDoorRF
import Derived.Test.YtfheibkikpefkaaGreatDoorRG
set_option linter.unusedVariables false
set_option linter.unusedSimpArgs false
namespace Go.Proofs.YtfheibkikpefkaaGreatDoor
open Go Go.CM Go.CM.Tt
noncomputable section
set_option maxHeartbeats 16000000
theorem aKr {h:Heap} {tm:Tm} {Q:R->Prop} {cs:List CV} {w:WorldD} (r:Rp.R h cs w) (fr:Fresh h) (hl:∀r∈w.routes,r.rides.length+1=r.stops.length/\r.stops.length<=1000/\∀s∈r.stops,-1<=s)
  (n1:w.paths.length<=1048576) (n2:w.doors.length<=1048576) (n3:w.routes.length<=1048576) (n4:w.trips.length<=1048576) (n5:w.hazards.length<=1048576)
  (q:∀h',Ext h h'->Q (.val (.agg w.first.enc) h')):W E1 (.call (.fn 104 [] []) [.agg cs]) tm h Q:=by
 refine W.fn (s:=aB Tryz.f104) rfl rfl rfl rfl ?_;obtain⟨v1,v2,v3,v4,v5,v6,v7,v8,v9,v10,v11,rfl,s1,s2,s3,s4,s5,s6,s7,s8,s9,s10,s11⟩:=r;repeat (refine W.seq ?_)
 refine W.region ?_;refine W.box rfl rfl rfl λH1 XH1 nH1 gH1 LH1=> ?_;repeat (first|refine W.g ?_|refine W.m λh_ X_ n_ g_ L_=> ?_)
 obtain⟨H,hH⟩:∃H,H=h_:=⟨_,rfl⟩;rw[<-hH]at X_ n_ g_ L_ ⊢;have XA:=X_;have nA:=n_;have gA:=g_;have LA:=L_;clear X_ n_ g_ L_ hH;have XH:Ext h H:=XH1.trans XA;have LH:=LH1.ext XA;have gR:H.get H1.next=some (.cells [.int .i64 0,.int .i64 0,.int .i64 0] false):=gA;have t7:=s7.ext XH;have t8:=s8.ext XH;have t9:=s9.ext XH;have t10:=s10.ext XH;have t11:=s11.ext XH;have X:=Ext.refl H;clear s1 s2 s3 s4 s5 s6 s7 s8 s9 s10 s11 XA gA LA LH1 XH1 gH1;refine cD 1 2 3 λT=> ?_;refine W.loop (σ:=Nat) (λk tm h'=>Ext H h'/\tm.look 1= .ptr (some (h.next,0))/\tm.look 2= .ptr (some (H1.next,0))/\tm.look 3= .int .i64 (k:Int)/\k<=w.paths.length/\UpTo PathW.err w.paths k) (λk=>w.paths.length-k) ?_ (s:=0) ⟨X,rfl,rfl,rfl,Nat.zero_le _,UpTo.zero⟩;clear X;rintro k tm h' ⟨X,w1,w2,w3,hk,hu⟩;obtain⟨T,rfl⟩:=cF w1 w2 w3;clear w1 w2 w3;have nX:=X.next;by_cases c1:k<w.paths.length
 ·repeat refine W.g ?_
  have ds:=aD ((XH.trans X).fr fr);repeat (first|refine aC ?_|refine W.e λr_ h_ ds_ s_=> ?_)
  refine aE (t7.ext X) c1 rfl rfl rfl rfl rfl rfl rfl λi1 o1 L1=> ?_;repeat (first|refine aC ?_|refine W.e λr_ h_ ds_ s_=> ?_)
  refine aE (t7.ext X) c1 rfl rfl rfl rfl rfl rfl rfl λi2 o2 L2=> ?_;repeat (first|refine aC ?_|refine W.e λr_ h_ ds_ s_=> ?_)
  refine aE (t7.ext X) c1 rfl rfl rfl rfl rfl rfl rfl λi3 o3 L3=> ?_;repeat (first|refine aC ?_|refine W.e λr_ h_ ds_ s_=> ?_)
  refine aH ds_ rfl rfl rfl rfl (aKj _ _ _ (DZ.val (Ext.refl _) λq1 g1 d1 z1=> ?_));have X1:=d1.x;repeat refine aC ?_
  by_cases c2:eO w.paths[k].a w.paths[k].b w.paths[k].len=0
  ·repeat refine W.g ?_
   exact⟨k+1,aI c1,X.trans X1,rfl,rfl,rfl,c1,hu.more c1 c2⟩
  ·repeat refine W.g ?_
   refine W.call rfl rfl rfl (eG _ _ _ λhe Xe=> ?_);rw[aCz (gZ hu c1 (c2))]at q;have Xz:=(X.trans X1).trans Xe;have nXz:=Xz.next;repeat refine W.g ?_
   refine aK (vs:=[.int .i64 (eO w.paths[k].a w.paths[k].b w.paths[k].len),.int .i64 2,.int .i64 (k:Int)]) (cs':=[.int .i64 (eO w.paths[k].a w.paths[k].b w.paths[k].len),.int .i64 2,.int .i64 (k:Int)]) rfl rfl rfl rfl rfl rfl ((Xz.old H1.next (by omega)).trans gR) rfl λM nM gM kM=> ?_;repeat refine W.g ?_
   refine aJ rfl rfl gM rfl rfl ?_;exact q _ (Ext.store (XH.trans Xz) nM kM (by omega) (by omega))
 repeat refine W.g ?_
 have e1:=UpTo.all hu c1;clear hu hk c1;refine cD 1 2 5 λT=> ?_;refine W.loop (σ:=Nat) (λk tm h'=>Ext H h'/\tm.look 1= .ptr (some (h.next,0))/\tm.look 2= .ptr (some (H1.next,0))/\tm.look 5= .int .i64 (k:Int)/\k<=w.doors.length/\UpTo (DoorW.err w.hz) w.doors k) (λk=>w.doors.length-k) ?_ (s:=0) ⟨X,rfl,rfl,rfl,Nat.zero_le _,UpTo.zero⟩;clear X;rintro k tm h' ⟨X,w1,w2,w5,hk,hu⟩;obtain⟨T,rfl⟩:=cF w1 w2 w5;clear w1 w2 w5;have nX:=X.next;by_cases c1:k<w.doors.length
 ·repeat refine W.g ?_
  have ds:=aD ((XH.trans X).fr fr);repeat (first|refine aC ?_|refine W.e λr_ h_ ds_ s_=> ?_)
  refine aE (t8.ext X) c1 rfl rfl rfl rfl rfl rfl rfl λi1 o1 L1=> ?_;repeat (first|refine aC ?_|refine W.e λr_ h_ ds_ s_=> ?_)
  refine aE (t8.ext X) c1 rfl rfl rfl rfl rfl rfl rfl λi2 o2 L2=> ?_;repeat (first|refine aC ?_|refine W.e λr_ h_ ds_ s_=> ?_)
  refine aE (t8.ext X) c1 rfl rfl rfl rfl rfl rfl rfl λi3 o3 L3=> ?_;repeat (first|refine aC ?_|refine W.e λr_ h_ ds_ s_=> ?_)
  refine aH ds_ rfl rfl rfl rfl (aKj _ _ _ (DZ.val (Ext.refl _) λq1 g1 d1 z1=> ?_));have X1:=d1.x;repeat refine aC ?_
  have de:DoorW.err w.hz w.doors[k]=if eO w.doors[k].a w.doors[k].b w.doors[k].len=0 then w.doors[k].times.err w.hz else eO w.doors[k].a w.doors[k].b w.doors[k].len:=rfl
  by_cases c2:eO w.doors[k].a w.doors[k].b w.doors[k].len=0
  ·rw[if_pos c2]at de
   refine dB 1 2 5 6 λT=> ?_;repeat refine W.g ?_
   clear ds ds_ d1;have ds:=aD ((XH.trans (X.trans X1)).fr fr);repeat (first|refine aC ?_|refine W.e λr_ h_ ds_ s_=> ?_)
   refine aE (t8.ext (X.trans X1)) c1 rfl rfl rfl rfl rfl rfl rfl λi4 o4 L4=> ?_;repeat (first|refine aC ?_|refine W.e λr_ h_ ds_ s_=> ?_)
   refine aH ds_ rfl rfl rfl rfl (aBp w.doors[k].times w.hz (ds_.x.fr ((XH.trans (X.trans X1)).fr fr)) λg2 Y2=>DZ.val Y2 λq2 g3 d2 z2=> ?_);have X2:=d2.x;repeat refine aC ?_
   by_cases c3:w.doors[k].times.err w.hz=0
   ·repeat refine W.g ?_
    exact⟨k+1,aI c1,(X.trans X1).trans X2,rfl,rfl,rfl,c1,hu.more c1 (de.trans c3)⟩
   ·repeat refine W.g ?_
    refine W.call rfl rfl rfl (eG _ _ _ λhe Xe=> ?_);rw[tN e1 (gZ hu c1 (λg=>c3 (de.symm.trans g)))]at q;rw[de]at q;have Xz:=((X.trans X1).trans X2).trans Xe;have nXz:=Xz.next;repeat refine W.g ?_
    refine aK (vs:=[.int .i64 (w.doors[k].times.err w.hz),.int .i64 3,.int .i64 (k:Int)]) (cs':=[.int .i64 (w.doors[k].times.err w.hz),.int .i64 3,.int .i64 (k:Int)]) rfl rfl rfl rfl rfl rfl ((Xz.old H1.next (by omega)).trans gR) rfl λM nM gM kM=> ?_;repeat refine W.g ?_
    refine aJ rfl rfl gM rfl rfl ?_;exact q _ (Ext.store (XH.trans Xz) nM kM (by omega) (by omega))
  ·rw[if_neg c2]at de
   repeat refine W.g ?_
   refine W.call rfl rfl rfl (eG _ _ _ λhe Xe=> ?_);rw[tN e1 (gZ hu c1 (λg=>c2 (de.symm.trans g)))]at q;rw[de]at q;have Xz:=(X.trans X1).trans Xe;have nXz:=Xz.next;repeat refine W.g ?_
   refine aK (vs:=[.int .i64 (eO w.doors[k].a w.doors[k].b w.doors[k].len),.int .i64 3,.int .i64 (k:Int)]) (cs':=[.int .i64 (eO w.doors[k].a w.doors[k].b w.doors[k].len),.int .i64 3,.int .i64 (k:Int)]) rfl rfl rfl rfl rfl rfl ((Xz.old H1.next (by omega)).trans gR) rfl λM nM gM kM=> ?_;repeat refine W.g ?_
   refine aJ rfl rfl gM rfl rfl ?_;exact q _ (Ext.store (XH.trans Xz) nM kM (by omega) (by omega))
 repeat refine W.g ?_
 have e2:=UpTo.all hu c1;clear hu hk c1;refine cD 1 2 7 λT=> ?_;refine W.loop (σ:=Nat) (λk tm h'=>Ext H h'/\tm.look 1= .ptr (some (h.next,0))/\tm.look 2= .ptr (some (H1.next,0))/\tm.look 7= .int .i64 (k:Int)/\k<=w.routes.length/\UpTo RouteW.err w.routes k) (λk=>w.routes.length-k) ?_ (s:=0) ⟨X,rfl,rfl,rfl,Nat.zero_le _,UpTo.zero⟩;clear X;rintro k tm h' ⟨X,w1,w2,w7,hk,hu⟩;obtain⟨T,rfl⟩:=cF w1 w2 w7;clear w1 w2 w7;have nX:=X.next;by_cases c1:k<w.routes.length
 ·have hr:=hl _ (List.getElem_mem c1)
  repeat refine W.g ?_
  refine dI (t9.ext X) c1 rfl rfl rfl rfl rfl rfl rfl λi1 o1 e L1 re=> ?_;have hlen:=Rp.len re;repeat refine W.g ?_
  refine W.call rfl rfl rfl (aKm re ((XH.trans X).fr fr) hr.1 hr.2.1 hr.2.2 λg1 X1=> ?_);by_cases c2:w.routes[k].err=0
  ·repeat refine W.g ?_
   exact⟨k+1,aI c1,X.trans X1,rfl,rfl,rfl,c1,hu.more c1 c2⟩
  ·repeat refine W.g ?_
   refine W.call rfl rfl rfl (eG _ _ _ λhe Xe=> ?_);rw[aAp e1 e2 (gZ hu c1 (c2))]at q;have Xz:=(X.trans X1).trans Xe;have nXz:=Xz.next;repeat refine W.g ?_
   refine aK (vs:=[.int .i64 w.routes[k].err,.int .i64 4,.int .i64 (k:Int)]) (cs':=[.int .i64 w.routes[k].err,.int .i64 4,.int .i64 (k:Int)]) rfl rfl rfl rfl rfl rfl ((Xz.old H1.next (by omega)).trans gR) rfl λM nM gM kM=> ?_;repeat refine W.g ?_
   refine aJ rfl rfl gM rfl rfl ?_;exact q _ (Ext.store (XH.trans Xz) nM kM (by omega) (by omega))
 repeat refine W.g ?_
 have e3:=UpTo.all hu c1;clear hu hk c1;refine cD 1 2 9 λT=> ?_;refine W.loop (σ:=Nat) (λk tm h'=>Ext H h'/\tm.look 1= .ptr (some (h.next,0))/\tm.look 2= .ptr (some (H1.next,0))/\tm.look 9= .int .i64 (k:Int)/\k<=w.trips.length/\UpTo TripW.err w.trips k) (λk=>w.trips.length-k) ?_ (s:=0) ⟨X,rfl,rfl,rfl,Nat.zero_le _,UpTo.zero⟩;clear X;rintro k tm h' ⟨X,w1,w2,w9,hk,hu⟩;obtain⟨T,rfl⟩:=cF w1 w2 w9;clear w1 w2 w9;have nX:=X.next;by_cases c1:k<w.trips.length
 ·have u10:=t10.ext X
  repeat refine W.g ?_
  refine cH λi_ o_ L_=> ?_;have te:TripW.err w.trips[k]=if w.trips[k].route<0 then 5 else if w.trips[k].untl<w.trips[k].frm then 2 else 0:=rfl
  by_cases c2:w.trips[k].route<0
  ·rw[if_pos c2]at te
   repeat (first|refine W.g ?_|refine W.m λh_ X_ n_ g_ L_=> ?_)
   refine W.call rfl rfl rfl (eG _ _ _ λhe Xe=> ?_);rw[tM e1 e2 e3 (gZ hu c1 (by rw[te];decide))]at q;rw[te]at q;have Xz:=(X.trans X_).trans Xe;have nXz:=Xz.next;repeat refine W.g ?_
   refine aK (vs:=[.int .i64 5,.int .i64 5,.int .i64 (k:Int)]) (cs':=[.int .i64 5,.int .i64 5,.int .i64 (k:Int)]) rfl rfl rfl rfl rfl rfl ((Xz.old H1.next (by omega)).trans gR) rfl λM nM gM kM=> ?_;repeat refine W.g ?_
   refine aJ rfl rfl gM rfl rfl ?_;exact q _ (Ext.store (XH.trans Xz) nM kM (by omega) (by omega))
  ·rw[if_neg c2]at te
   by_cases c3:w.trips[k].untl<w.trips[k].frm
   ·rw[if_pos c3]at te
    repeat (first|refine W.g ?_|refine W.m λh_ X_ n_ g_ L_=> ?_)
    refine W.call rfl rfl rfl (eG _ _ _ λhe Xe=> ?_);rw[tM e1 e2 e3 (gZ hu c1 (by rw[te];decide))]at q;rw[te]at q;have Xz:=(X.trans X_).trans Xe;have nXz:=Xz.next;repeat refine W.g ?_
    refine aK (vs:=[.int .i64 2,.int .i64 5,.int .i64 (k:Int)]) (cs':=[.int .i64 2,.int .i64 5,.int .i64 (k:Int)]) rfl rfl rfl rfl rfl rfl ((Xz.old H1.next (by omega)).trans gR) rfl λM nM gM kM=> ?_;repeat refine W.g ?_
    refine aJ rfl rfl gM rfl rfl ?_;exact q _ (Ext.store (XH.trans Xz) nM kM (by omega) (by omega))
   ·rw[if_neg c3]at te
    repeat (first|refine W.g ?_|refine W.m λh_ X_ n_ g_ L_=> ?_)
    exact⟨k+1,aI c1,X.trans X_,rfl,rfl,rfl,c1,hu.more c1 te⟩
 repeat refine W.g ?_
 have e4:=UpTo.all hu c1;clear hu hk c1;refine cD 1 2 11 λT=> ?_;refine W.loop (σ:=Nat) (λk tm h'=>Ext H h'/\tm.look 1= .ptr (some (h.next,0))/\tm.look 2= .ptr (some (H1.next,0))/\tm.look 11= .int .i64 (k:Int)/\k<=w.hazards.length/\UpTo (HazW.err w.hz) w.hazards k) (λk=>w.hazards.length-k) ?_ (s:=0) ⟨X,rfl,rfl,rfl,Nat.zero_le _,UpTo.zero⟩;clear X;rintro k tm h' ⟨X,w1,w2,w11,hk,hu⟩;obtain⟨T,rfl⟩:=cF w1 w2 w11;clear w1 w2 w11;have nX:=X.next;by_cases c1:k<w.hazards.length
 ·repeat refine W.g ?_
  have ds:=aD ((XH.trans X).fr fr);repeat (first|refine aC ?_|refine W.e λr_ h_ ds_ s_=> ?_)
  refine aE (t11.ext X) c1 rfl rfl rfl rfl rfl rfl rfl λi1 o1 L1=> ?_;repeat (first|refine aC ?_|refine W.e λr_ h_ ds_ s_=> ?_)
  refine aH ds_ rfl rfl rfl rfl (aBp w.hazards[k].times w.hz (ds_.x.fr ((XH.trans X).fr fr)) λg2 Y2=>DZ.val Y2 λq2 g3 d2 z2=> ?_);have X2:=d2.x;repeat refine aC ?_
  have u11:=t11.ext (X.trans X2);repeat refine W.g ?_
  refine cH λi_ o_ L_=> ?_;have te:HazW.err w.hz w.hazards[k]=if w.hazards[k].on<0 then 5 else w.hazards[k].times.err w.hz:=rfl
  by_cases c2:w.hazards[k].on<0
  ·rw[if_pos c2]at te
   repeat refine W.g ?_
   refine W.call rfl rfl rfl (eG _ _ _ λhe Xe=> ?_);rw[oU e1 e2 e3 e4 (gZ hu c1 (by rw[te];decide))]at q;rw[te]at q;have Xz:=(X.trans X2).trans Xe;have nXz:=Xz.next;repeat refine W.g ?_
   refine aK (vs:=[.int .i64 5,.int .i64 6,.int .i64 (k:Int)]) (cs':=[.int .i64 5,.int .i64 6,.int .i64 (k:Int)]) rfl rfl rfl rfl rfl rfl ((Xz.old H1.next (by omega)).trans gR) rfl λM nM gM kM=> ?_;repeat refine W.g ?_
   refine aJ rfl rfl gM rfl rfl ?_;exact q _ (Ext.store (XH.trans Xz) nM kM (by omega) (by omega))
  ·rw[if_neg c2]at te
   by_cases c3:w.hazards[k].times.err w.hz=0
   ·repeat refine W.g ?_
    exact⟨k+1,aI c1,X.trans X2,rfl,rfl,rfl,c1,hu.more c1 (te.trans c3)⟩
   ·repeat refine W.g ?_
    refine W.call rfl rfl rfl (eG _ _ _ λhe Xe=> ?_);rw[oU e1 e2 e3 e4 (gZ hu c1 (λg=>c3 (te.symm.trans g)))]at q;rw[te]at q;have Xz:=(X.trans X2).trans Xe;have nXz:=Xz.next;repeat refine W.g ?_
    refine aK (vs:=[.int .i64 (w.hazards[k].times.err w.hz),.int .i64 6,.int .i64 (k:Int)]) (cs':=[.int .i64 (w.hazards[k].times.err w.hz),.int .i64 6,.int .i64 (k:Int)]) rfl rfl rfl rfl rfl rfl ((Xz.old H1.next (by omega)).trans gR) rfl λM nM gM kM=> ?_;repeat refine W.g ?_
    refine aJ rfl rfl gM rfl rfl ?_;exact q _ (Ext.store (XH.trans Xz) nM kM (by omega) (by omega))
 repeat refine W.g ?_
 have e5:=UpTo.all hu c1;rw[aFe e1 e2 e3 e4 e5]at q;refine aK (vs:=[.int .i64 0,.int .i64 0,.int .i64 0]) (cs':=[.int .i64 0,.int .i64 0,.int .i64 0]) rfl rfl rfl rfl rfl rfl ((X.old H1.next (by omega)).trans gR) rfl λM nM gM kM=> ?_;repeat refine W.g ?_
 refine aJ rfl rfl gM rfl rfl ?_;exact q _ (Ext.store (XH.trans X) nM kM (by omega) (by omega))
theorem aIm {x:SheetD}:x.num.names=x.names:=rfl
theorem nB:∀{L:List (List Str)} {seen:List Str} {k:Int} {e:WrongD},iU seen L k=some e->e.err=6
 |[],_,_,_,h=>by cases h
 |l::L,seen,k,e,h=>by
  unfold iU at h;split at h
  ·cases h;rfl
  ·exact nB h
theorem aIo {x:SheetD} (few:x.few):([x.names.stops,x.names.paths,x.names.doors,x.names.routes,x.names.trips,x.names.hazards]:List (List Str)).flatten.length<=1048576:=by
 obtain⟨f1,f2,f3,f4,f5,f6⟩:=few;simp only[SheetD.names,List.flatten_cons,List.flatten_nil,List.length_append,List.length_map,List.length_nil];omega
theorem aEq {x:SheetD} (ok:∀r∈x.routes,r.ok):∀r∈x.num.routes,r.rides.length+1=r.stops.length/\r.stops.length<=1000/\∀s∈r.stops,-1<=s:=λr hr=>by
 obtain⟨a,ha,rfl⟩:=List.mem_map.1 hr;obtain⟨o1,o2,o3,o4⟩:=ok a ha;refine⟨by show a.rides.length+1=(a.stops.map _).length;rw[List.length_map];exact o3,by show(a.stops.map _).length<=1000;rw[List.length_map];omega,λs hs=> ?_⟩;obtain⟨b,_,rfl⟩:=List.mem_map.1 hs;exact qO _ _
theorem aPd {h:Heap} {tm:Tm} {Q:R->Prop} {cs:List CV} {x:SheetD} (r:Rp.R h cs x) (fr:Fresh h) (sm:x.slim) (q:∀h' c1,Ext h h'->Rp.R h' c1 x.make.1->Q (.val (.tup [.agg c1,.agg x.make.2.enc]) h')):W E1 (.call (.fn 52 [] []) [.agg cs]) tm h Q:=by
 have r0:=r;obtain⟨v1,v2,v3,v4,v5,v6,rfl,s1,s2,s3,s4,s5,s6⟩:=r;refine W.fn (s:=aB Tryz.f52) rfl rfl rfl rfl ?_;repeat (refine W.seq ?_)
 refine W.region ?_;refine W.box rfl rfl rfl λH1 X1 n1 g1 L1=> ?_;refine jV rfl rfl rfl λH2 X2 n2 g2 L2=> ?_;refine jV rfl rfl rfl λH3 X3 n3 g3 L3=> ?_;clear L2 L3;have g2:H3.get H1.next=some (.cells [.int .i64 0,.slice none 0 0 0,.slice none 0 0 0,.slice none 0 0 0,.slice none 0 0 0,.slice none 0 0 0,.slice none 0 0 0,.slice none 0 0 0,.slice none 0 0 0,.slice none 0 0 0,.slice none 0 0 0,.slice none 0 0 0] false):=(X3.old _ (by omega)).trans g2;have g3:H3.get H2.next=some (.cells [.int .i64 0,.int .i64 0,.int .i64 0] false):=g3;have X0:Ext h H3:=(X1.trans X2).trans X3;have L1:=(L1.ext X2).ext X3;clear g1;repeat refine W.g ?_
 refine W.call rfl rfl rfl (xC (Rp.ext X0 r0) (X0.fr fr) sm λH4 X4=> ?_);refine dB 1 2 3 8 λT=> ?_;have g2:=(X4.old _ (by omega)).trans g2;have g3:=(X4.old _ (by omega)).trans g3;have Y4:=X0.trans X4;have nx4:=X4.next;have L1:=L1.ext X4;by_cases c:x.err=0
 rotate_left
 ·have em:x.make=(WorldD.none,⟨x.err,0,0⟩):=by unfold SheetD.make;rw[if_neg c]
  rw[em]at q;repeat refine W.g ?_
  refine W.call rfl rfl rfl (eG _ _ _ λH5 X5=> ?_);have nx5:=X5.next;repeat refine W.g ?_
  refine aK (vs:=[.int .i64 0,.slice none 0 0 0,.slice none 0 0 0,.slice none 0 0 0,.slice none 0 0 0,.slice none 0 0 0,.slice none 0 0 0,.slice none 0 0 0,.slice none 0 0 0,.slice none 0 0 0,.slice none 0 0 0,.slice none 0 0 0]) (cs':=[.int .i64 0,.slice none 0 0 0,.slice none 0 0 0,.slice none 0 0 0,.slice none 0 0 0,.slice none 0 0 0,.slice none 0 0 0,.slice none 0 0 0,.slice none 0 0 0,.slice none 0 0 0,.slice none 0 0 0,.slice none 0 0 0]) rfl rfl rfl rfl rfl rfl ((X5.old _ (by omega)).trans g2) rfl λM1 m1 gM1 kM1=> ?_;refine aK (vs:=[.int .i64 x.err,.int .i64 0,.int .i64 0]) (cs':=[.int .i64 x.err,.int .i64 0,.int .i64 0]) rfl rfl rfl rfl rfl rfl ((kM1 H2.next (by omega)).trans ((X5.old _ (by omega)).trans g3)) rfl λM2 m2 gM2 kM2=> ?_;repeat refine W.g ?_
  refine cV rfl rfl rfl ((kM2 H1.next (by omega)).trans gM1) gM2 rfl rfl rfl rfl ?_;exact q M2 _ (Ext.store (Ext.store (Y4.trans X5) m1 kM1 (by omega) (by omega)) m2 kM2 (by omega) (by omega)) ⟨_,_,_,_,_,_,_,_,_,_,_,rfl,Sl.nil,Sl.nil,Sl.nil,Sl.nil,Sl.nil,Sl.nil,Sl.nil,Sl.nil,Sl.nil,Sl.nil,Sl.nil⟩
 have ok:x.Ok:=hU.1 c;repeat refine W.g ?_
 refine W.call rfl rfl rfl (aBr (Rp.ext Y4 r0) (Y4.fr fr) ok.1 sm λH5 e X5 r50=> ?_);have r5:=r50 H5 (Nat.le_refl _) λ_ _ _=>rfl;have r51:=r5;obtain⟨u1,u2,u3,u4,u5,u6,u7,u8,u9,u10,u11,rfl,t1,t2,t3,t4,t5,t6,t7,t8,t9,t10,t11⟩:=r5;refine cD 2 3 15 λT=> ?_;have nx5:=X5.next;repeat (first|refine W.g ?_|refine W.m λh_ X_ n_ g_ L_=> ?_)
 have Y5:Ext h h_:=(Y4.trans X5).trans X_;have nx6:=X_.next;have n5:h_.next=H5.next+1:=n_;have L5:LocE h_ H5.next 0 [.int .i64 x.hz,u1,u2,u3,u4,u5,u6,u7,u8,u9,u10,u11]:=L_;refine W.call rfl rfl rfl (aKl (n:=x.names) (Rp.ext X_ (show Rp.R H5 [u1,u2,u3,u4,u5,u6] x.names from⟨_,_,_,_,_,_,rfl,t1,t2,t3,t4,t5,t6⟩)) (aIo ok.1) λH6 X6=> ?_);have nx7:=X6.next;have L5:=L5.ext X6;have g2:=(X6.old _ (by omega)).trans ((X_.old _ (by omega)).trans ((X5.old _ (by omega)).trans g2));have g3:=(X6.old _ (by omega)).trans ((X_.old _ (by omega)).trans ((X5.old _ (by omega)).trans g3));have r6:=Rp.ext X6 (Rp.ext X_ r51);have Y6:=Y5.trans X6;have Z5:=X_.trans X6;clear g_ L_ X_;refine dB 2 3 5 18 λT=> ?_;repeat (first|refine W.g ?_|refine W.m λh_ X_ n_ g_ L_=> ?_)
 obtain⟨b6,hb6⟩:∃b,b=H6.next:=⟨_,rfl⟩;rw[<-hb6]at g_ L_ ⊢;refine iZ (λtm' h2=>tm'.look 2= .ptr (some (H1.next,0))/\tm'.look 3= .ptr (some (H2.next,0))/\tm'.look 5= .ptr (some (H5.next,0))/\tm'.look 6= .ptr (some (b6,0))/\Ext H6 h2/\b6<h2.next/\h2.get b6=some (.cells x.num.wrong.enc false)) ?_ ?_
 ·have ew:=uI x.num
  rw[aIm]at ew;rcases ht:x.names.twice with _|e
  ·rw[ht]at ew L_ g_
   have ew:x.num.wrong=x.num.first:=ew;have L6:LocE h_ b6 0 [.int .i64 0,.int .i64 0,.int .i64 0]:=L_;have g6:h_.get b6=some (.cells [.int .i64 0,.int .i64 0,.int .i64 0] false):=g_;repeat refine W.g ?_
   obtain⟨f1,f2,f3,f4,f5,f6⟩:=ok.1;refine W.call rfl rfl rfl (aKr (w:=x.num) (Rp.ext X_ r6) ((Y6.trans X_).fr fr) (aEq ok.2.2.2) (by show(x.paths.map _).length<=_;rw[List.length_map];omega) (by show(x.doors.map _).length<=_;rw[List.length_map];omega) (by show(x.routes.map _).length<=_;rw[List.length_map];omega) (by show(x.trips.map _).length<=_;rw[List.length_map];omega) (by show(x.hazards.map _).length<=_;rw[List.length_map];omega) λH7 X7=> ?_);have nx8:=X7.next;repeat refine W.g ?_
   refine aK (vs:=x.num.first.enc) (cs':=x.num.first.enc) rfl rfl rfl rfl rfl rfl ((X7.old _ (by omega)).trans g6) rfl λM nM gM kM=> ?_;repeat refine W.g ?_
   exact⟨rfl,rfl,rfl,rfl,Ext.store (X_.trans X7) nM kM (by omega) (by omega),by omega,by rw[ew];exact gM⟩
  ·have he:e.err=6:=nB ht
   rw[ht]at ew L_ g_;have ew:x.num.wrong=e:=ew;have L6:LocE h_ b6 0 [.int .i64 e.err,.int .i64 e.kind,.int .i64 e.pos]:=L_;clear L_;have he2:((some e).getD jU).err=6:=he;repeat refine W.g ?_
   exact⟨rfl,rfl,rfl,rfl,X_,by omega,by rw[ew];exact g_⟩
 clear L_ g_ X_ n_ n5;rintro tm' h2 ⟨w2,w3,w5,w6,Xc,l6,g6⟩;obtain⟨T,rfl⟩:=cE w2 w3 w5 w6;clear w2 w3 w5 w6;have nxc:=Xc.next;have L5:=L5.ext Xc;have r7:=Rp.ext Xc r6;have g2:=(Xc.old _ (by omega)).trans g2;have g3:=(Xc.old _ (by omega)).trans g3;have Y7:=Y6.trans Xc;have Z5:=Z5.trans Xc;have nz5:=Z5.next;have L6:LocE h2 b6 0 [.int .i64 x.num.wrong.err,.int .i64 x.num.wrong.kind,.int .i64 x.num.wrong.pos]:=⟨_,_,g6,l6,rfl⟩;by_cases c2:x.num.wrong.err=0
 ·have em:x.make=(x.num,jU):=by unfold SheetD.make;rw[if_pos c,if_pos c2]
  rw[em]at q;repeat refine W.g ?_
  refine aK (vs:=[.int .i64 x.num.hz,u1,u2,u3,u4,u5,u6,u7,u8,u9,u10,u11]) (cs':=[.int .i64 x.num.hz,u1,u2,u3,u4,u5,u6,u7,u8,u9,u10,u11]) rfl rfl rfl rfl rfl rfl g2 rfl λM1 m1 gM1 kM1=> ?_;refine aK (vs:=[.int .i64 0,.int .i64 0,.int .i64 0]) (cs':=[.int .i64 0,.int .i64 0,.int .i64 0]) rfl rfl rfl rfl rfl rfl ((kM1 H2.next (by omega)).trans g3) rfl λM2 m2 gM2 kM2=> ?_;repeat refine W.g ?_
  refine cV rfl rfl rfl ((kM2 H1.next (by omega)).trans gM1) gM2 rfl rfl rfl rfl ?_;refine q M2 _ (Ext.store (Ext.store Y7 m1 kM1 (by omega) (by omega)) m2 kM2 (by omega) (by omega)) (r50 M2 (by omega) λk a b=> ?_);rw[kM2 k (by omega),kM1 k (by omega)];exact Z5.old k b
 ·have em:x.make=(WorldD.none,x.num.wrong):=by unfold SheetD.make;rw[if_pos c,if_neg c2]
  rw[em]at q;repeat refine W.g ?_
  have dv:DV (λb=>b=b6) h2 [] [] []:=kU (λb hb=>by rw[hb];omega);try refine aP ?_
  refine aNs dv rfl L6 rfl rfl rfl rfl rfl rfl λq1 G1 dv1 s1 L1'=> ?_;try refine aP ?_
  refine aTc (vs:=[.int .i64 0,.slice none 0 0 0,.slice none 0 0 0,.slice none 0 0 0,.slice none 0 0 0,.slice none 0 0 0,.slice none 0 0 0,.slice none 0 0 0,.slice none 0 0 0,.slice none 0 0 0,.slice none 0 0 0,.slice none 0 0 0]) (cs':=[.int .i64 0,.slice none 0 0 0,.slice none 0 0 0,.slice none 0 0 0,.slice none 0 0 0,.slice none 0 0 0,.slice none 0 0 0,.slice none 0 0 0,.slice none 0 0 0,.slice none 0 0 0,.slice none 0 0 0,.slice none 0 0 0]) dv1 (by show ¬H1.next=b6;omega) rfl rfl rfl rfl rfl rfl rfl ((s1.get _).trans g2) rfl λq2 G2 hr2 s2=> ?_;try refine aP ?_
  have n1':=s1.next;have n2':G2.next=G1.next:=s2.next;have k2:∀k,k≠H1.next->G2.get k=G1.get k:=λk hk=>by rw[s2.get,aA,if_neg (Ne.symm hk)]
  have gG2:G2.get H1.next=some (.cells [.int .i64 0,.slice none 0 0 0,.slice none 0 0 0,.slice none 0 0 0,.slice none 0 0 0,.slice none 0 0 0,.slice none 0 0 0,.slice none 0 0 0,.slice none 0 0 0,.slice none 0 0 0,.slice none 0 0 0,.slice none 0 0 0] false):=by rw[s2.get,aG]
  refine W.dst (vs:=[.int .i64 x.num.wrong.err,.int .i64 x.num.wrong.kind,.int .i64 x.num.wrong.pos]) (cs':=[.int .i64 x.num.wrong.err,.int .i64 x.num.wrong.kind,.int .i64 x.num.wrong.pos]) hr2 rfl rfl rfl rfl rfl rfl rfl ((k2 H2.next (by omega)).trans ((s1.get _).trans g3)) rfl λq3 G3 hr3 s3=> ?_;try refine aP ?_
  have n3':G3.next=G2.next:=s3.next;have k3:∀k,k≠H2.next->G3.get k=G2.get k:=λk hk=>by rw[s3.get,aA,if_neg (Ne.symm hk)]
  have gG3:G3.get H2.next=some (.cells [.int .i64 x.num.wrong.err,.int .i64 x.num.wrong.kind,.int .i64 x.num.wrong.pos] false):=by rw[s3.get,aG]
  repeat refine W.g ?_
  refine cV rfl rfl rfl ((k3 H1.next (by omega)).trans gG2) gG3 rfl rfl rfl rfl ?_;exact q G3 _ (Ext.store (Ext.store (Y7.trans s1.ext) n2' k2 (by omega) (by omega)) n3' k3 (by omega) (by omega)) ⟨_,_,_,_,_,_,_,_,_,_,_,rfl,Sl.nil,Sl.nil,Sl.nil,Sl.nil,Sl.nil,Sl.nil,Sl.nil,Sl.nil,Sl.nil,Sl.nil,Sl.nil⟩
end
end Go.Proofs.YtfheibkikpefkaaGreatDoor
