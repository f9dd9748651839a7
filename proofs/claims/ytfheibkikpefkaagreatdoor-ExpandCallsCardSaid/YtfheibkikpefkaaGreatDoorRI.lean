/- The document's answer: does a world hold together? No condition but that memory beyond the next number is empty. -/
import Derived.Test.YtfheibkikpefkaaGreatDoorXU
import Derived.Test.YtfheibkikpefkaaGreatDoorYO
import Derived.Test.YtfheibkikpefkaaGreatDoorXZ
import Derived.Test.YtfheibkikpefkaaGreatDoorZB
set_option linter.unusedVariables false
set_option linter.unusedSimpArgs false
namespace Go.Proofs.YtfheibkikpefkaaGreatDoor
open Go Go.CM Go.CM.Tt
noncomputable section
set_option maxHeartbeats 16000000
theorem aKi {h:Heap} {tm:Tm} {Q:R->Prop} {cs:List CV} {w:WorldD} (r:Rp.R h cs w) (fr:Fresh h) (sm:w.small) (q:∀h' (b:Bool),Ext h h'->(b=true↔w.whole)->Q (.val (.bool b) h')):W E1 (.call (.fn 50 [] []) [.agg cs]) tm h Q:=by
 obtain⟨v1,v2,v3,v4,v5,v6,v7,v8,v9,v10,v11,rfl,s1,s2,s3,s4,s5,s6,s7,s8,s9,s10,s11⟩:=r;refine W.fn (s:=aB Tryz.f50) rfl rfl rfl rfl ?_;repeat (refine W.seq ?_)
 refine W.region ?_;refine W.box rfl rfl rfl λH1 XH1 nH1 gH1 LH1=> ?_;repeat (first|refine W.g ?_|refine W.m λh_ X_ n_ g_ L_=> ?_)
 obtain⟨H,hH⟩:∃H,H=h_:=⟨_,rfl⟩;rw[<-hH]at X_ n_ g_ L_ ⊢;have XA:=X_;have nA:=n_;have gA:=g_;have LA:=L_;clear X_ n_ g_ L_ hH;have XH:Ext h H:=XH1.trans XA;have LH:=LH1.ext XA;have LN:LocE H H1.next 0 [v1,v2,v3,v4,v5,v6]:=LA;have t1:=s1.ext XH;have t2:=s2.ext XH;have t3:=s3.ext XH;have t4:=s4.ext XH;have t5:=s5.ext XH;have t6:=s6.ext XH;have t7:=s7.ext XH;have t8:=s8.ext XH;have t9:=s9.ext XH;have t10:=s10.ext XH;have t11:=s11.ext XH;obtain⟨z1,z2,z3,z4,z5,z6,z7,z8,z9,z10,z11⟩:=sm;clear s1 s2 s3 s4 s5 s6 s7 s8 s9 s10 s11 XA gA LA LH1 XH1 gH1
 have hw:w.whole↔(((((w.names.paths.length=w.paths.length/\w.names.doors.length=w.doors.length/\w.names.routes.length=w.routes.length/\w.names.trips.length=w.trips.length/\w.names.hazards.length=w.hazards.length)/\∀p∈w.paths,inL p.a w.names.stops/\inL p.b w.names.stops)/\∀d∈w.doors,inL d.a w.names.stops/\inL d.b w.names.stops)/\∀r∈w.routes,∀s∈r.stops,inL s w.names.stops)/\∀t∈w.trips,inL t.route w.names.routes)/\∀h∈w.hazards,inL h.on (if h.stop then w.names.stops else w.names.paths):=by
  unfold WorldD.whole;simp only[and_assoc]
 rw[hw]at q;clear hw;obtain⟨P,hP⟩:∃P,P=(w.names.paths.length=w.paths.length/\w.names.doors.length=w.doors.length/\w.names.routes.length=w.routes.length/\w.names.trips.length=w.trips.length/\w.names.hazards.length=w.hazards.length):=⟨_,rfl⟩;rw[<-hP]at q;refine iZ (λtm' h'=>h'=H/\tm'.look 1= .ptr (some (h.next,0))/\tm'.look 3= .ptr (some (H1.next,0))/\∃b:Bool,tm'.look 4= .bool b/\(b=true↔P)) ?_ ?_
 ·rw[hP]
  by_cases b1:w.names.paths.length=w.paths.length
  ·by_cases b2:w.names.doors.length=w.doors.length
   ·by_cases b3:w.names.routes.length=w.routes.length
    ·by_cases b4:w.names.trips.length=w.trips.length
     ·by_cases b5:w.names.hazards.length=w.hazards.length
      ·repeat refine W.g ?_
       exact⟨rfl,rfl,rfl,true,rfl,Iff.intro (λ_=>⟨b1,b2,b3,b4,b5⟩) (λ_=>rfl)⟩
      ·repeat refine W.g ?_
       exact⟨rfl,rfl,rfl,false,rfl,Iff.intro (λh=>by cases h) (λh=>absurd h.2.2.2.2 b5)⟩
     ·repeat refine W.g ?_
      exact⟨rfl,rfl,rfl,false,rfl,Iff.intro (λh=>by cases h) (λh=>absurd h.2.2.2.1 b4)⟩
    ·repeat refine W.g ?_
     exact⟨rfl,rfl,rfl,false,rfl,Iff.intro (λh=>by cases h) (λh=>absurd h.2.2.1 b3)⟩
   ·repeat refine W.g ?_
    exact⟨rfl,rfl,rfl,false,rfl,Iff.intro (λh=>by cases h) (λh=>absurd h.2.1 b2)⟩
  ·repeat refine W.g ?_
   exact⟨rfl,rfl,rfl,false,rfl,Iff.intro (λh=>by cases h) (λh=>absurd h.1 b1)⟩
 rintro tm' h' ⟨rfl,w1,w3,b,w4,hb⟩;obtain⟨T,rfl⟩:=cF w1 w3 w4;clear w1 w3 w4 hP;have X:=Ext.refl h';generalize hH:h'=H at t1 t2 t3 t4 t5 t6 t7 t8 t9 t10 t11 LH LN XH nA X;clear hH;repeat refine W.g ?_
 refine W.loop (σ:=Nat) (λk tm h'=>Ext H h'/\tm.look 1= .ptr (some (h.next,0))/\tm.look 3= .ptr (some (H1.next,0))/\tm.look 5= .int .i64 (k:Int)/\k<=w.paths.length/\∃b:Bool,tm.look 4= .bool b/\AllOk P (λp=>inL p.a w.names.stops/\inL p.b w.names.stops) w.paths k b) (λk=>w.paths.length-k) ?_ (s:=0) ⟨X,rfl,rfl,rfl,Nat.zero_le _,b,rfl,fJ hb⟩;clear X hb b;rintro k tm h' ⟨X,w1,w3,w5,hk,b,w4,hb⟩;obtain⟨T,rfl⟩:=cE w1 w3 w5 w4;clear w1 w3 w5 w4;repeat (refine W.seq ?_)
 refine iZ (λtm' h2=>h2=h'/\tm'.look 1= .ptr (some (h.next,0))/\tm'.look 3= .ptr (some (H1.next,0))/\tm'.look 5= .int .i64 (k:Int)/\tm'.look 4= .bool b/\∃c:Bool,tm'.look 64= .bool c/\(c=true↔k<w.paths.length/\b=true)) ?_ ?_
 ·by_cases c:k<w.paths.length
  ·cases b
   ·repeat refine W.g ?_
    exact⟨rfl,rfl,rfl,rfl,rfl,false,rfl,Iff.intro (λh=>by cases h) (λh=>by cases h.2)⟩
   ·repeat refine W.g ?_
    exact⟨rfl,rfl,rfl,rfl,rfl,true,rfl,Iff.intro (λ_=>⟨c,rfl⟩) (λ_=>rfl)⟩
  ·repeat refine W.g ?_
   exact⟨rfl,rfl,rfl,rfl,rfl,false,rfl,Iff.intro (λh=>by cases h) (λh=>absurd h.1 c)⟩
 rintro tm' h2 ⟨rfl,w1,w3,w5,w4,c,wc,hc⟩;obtain⟨T,rfl⟩:=bX w1 w3 w5 w4 wc;clear w1 w3 w5 w4 wc;have nX:=X.next;cases c
 rotate_left
 ·obtain⟨c1,rfl⟩:=hc.1 rfl
  repeat refine W.g ?_
  have ds:=aD ((XH.trans X).fr fr);repeat (first|refine aC ?_|refine W.e λr_ h_ ds_ s_=> ?_)
  refine aE (t7.ext X) c1 rfl rfl rfl rfl rfl rfl rfl λi1 o1 L1=> ?_;repeat (first|refine aC ?_|refine W.e λr_ h_ ds_ s_=> ?_)
  refine aH ds_ rfl rfl rfl rfl (tB (t1.ext (X.trans ds_.x)) _ λe1 he1=>DZ.val (Ext.refl _) λq1 g1 d1 y1=> ?_);clear ds_;cases e1
  ·have X1:=d1.x
   repeat refine aC ?_
   repeat refine W.g ?_
   exact⟨k+1,aI c1,X.trans X1,rfl,rfl,rfl,c1,false,rfl,hb.more c1 (Iff.intro (λh=>by cases h) (λh=>by cases he1.2 h.1))⟩
  repeat (first|refine aC ?_|refine W.e λr_ h_ ds_ s_=> ?_)
  refine aE (t7.ext X) c1 rfl rfl rfl rfl rfl rfl rfl λi2 o2 L2=> ?_;repeat (first|refine aC ?_|refine W.e λr_ h_ ds_ s_=> ?_)
  refine aH ds_ rfl rfl rfl rfl (tB (t1.ext (X.trans ds_.x)) _ λe2 he2=>DZ.val (Ext.refl _) λq2 g2 d2 y2=> ?_);have X2:=d2.x;repeat refine aC ?_
  repeat refine W.g ?_
  exact⟨k+1,aI c1,X.trans X2,rfl,rfl,rfl,c1,e2,rfl,hb.more c1 (Iff.intro (λh=>⟨he1.1 rfl,he2.1 h⟩) (λh=>he2.2 h.2))⟩
 have hx:¬k<w.paths.length\/b=false:=by
  by_cases c:k<w.paths.length
  ·cases b
   ·exact .inr rfl
   ·cases hc.2 ⟨c,rfl⟩
  ·exact .inl c
 replace hb:b=true↔(P/\∀p∈w.paths,inL p.a w.names.stops/\inL p.b w.names.stops):=hb.all hx;clear hx hc hk;obtain⟨P1,hP1⟩:∃P',P'=(P/\∀p∈w.paths,inL p.a w.names.stops/\inL p.b w.names.stops):=⟨_,rfl⟩;rw[<-hP1]at q hb;clear hP1;repeat refine W.g ?_
 refine W.loop (σ:=Nat) (λk tm h'=>Ext H h'/\tm.look 1= .ptr (some (h.next,0))/\tm.look 3= .ptr (some (H1.next,0))/\tm.look 6= .int .i64 (k:Int)/\k<=w.doors.length/\∃b:Bool,tm.look 4= .bool b/\AllOk P1 (λd=>inL d.a w.names.stops/\inL d.b w.names.stops) w.doors k b) (λk=>w.doors.length-k) ?_ (s:=0) ⟨X,rfl,rfl,rfl,Nat.zero_le _,b,rfl,fJ hb⟩;clear X hb b;rintro k tm h' ⟨X,w1,w3,w6,hk,b,w4,hb⟩;obtain⟨T,rfl⟩:=cE w1 w3 w6 w4;clear w1 w3 w6 w4;repeat (refine W.seq ?_)
 refine iZ (λtm' h2=>h2=h'/\tm'.look 1= .ptr (some (h.next,0))/\tm'.look 3= .ptr (some (H1.next,0))/\tm'.look 6= .int .i64 (k:Int)/\tm'.look 4= .bool b/\∃c:Bool,tm'.look 94= .bool c/\(c=true↔k<w.doors.length/\b=true)) ?_ ?_
 ·by_cases c:k<w.doors.length
  ·cases b
   ·repeat refine W.g ?_
    exact⟨rfl,rfl,rfl,rfl,rfl,false,rfl,Iff.intro (λh=>by cases h) (λh=>by cases h.2)⟩
   ·repeat refine W.g ?_
    exact⟨rfl,rfl,rfl,rfl,rfl,true,rfl,Iff.intro (λ_=>⟨c,rfl⟩) (λ_=>rfl)⟩
  ·repeat refine W.g ?_
   exact⟨rfl,rfl,rfl,rfl,rfl,false,rfl,Iff.intro (λh=>by cases h) (λh=>absurd h.1 c)⟩
 rintro tm' h2 ⟨rfl,w1,w3,w6,w4,c,wc,hc⟩;obtain⟨T,rfl⟩:=bX w1 w3 w6 w4 wc;clear w1 w3 w6 w4 wc;have nX:=X.next;cases c
 rotate_left
 ·obtain⟨c1,rfl⟩:=hc.1 rfl
  repeat refine W.g ?_
  have ds:=aD ((XH.trans X).fr fr);repeat (first|refine aC ?_|refine W.e λr_ h_ ds_ s_=> ?_)
  refine aE (t8.ext X) c1 rfl rfl rfl rfl rfl rfl rfl λi1 o1 L1=> ?_;repeat (first|refine aC ?_|refine W.e λr_ h_ ds_ s_=> ?_)
  refine aH ds_ rfl rfl rfl rfl (tB (t1.ext (X.trans ds_.x)) _ λe1 he1=>DZ.val (Ext.refl _) λq1 g1 d1 y1=> ?_);clear ds_;cases e1
  ·have X1:=d1.x
   repeat refine aC ?_
   repeat refine W.g ?_
   exact⟨k+1,aI c1,X.trans X1,rfl,rfl,rfl,c1,false,rfl,hb.more c1 (Iff.intro (λh=>by cases h) (λh=>by cases he1.2 h.1))⟩
  repeat (first|refine aC ?_|refine W.e λr_ h_ ds_ s_=> ?_)
  refine aE (t8.ext X) c1 rfl rfl rfl rfl rfl rfl rfl λi2 o2 L2=> ?_;repeat (first|refine aC ?_|refine W.e λr_ h_ ds_ s_=> ?_)
  refine aH ds_ rfl rfl rfl rfl (tB (t1.ext (X.trans ds_.x)) _ λe2 he2=>DZ.val (Ext.refl _) λq2 g2 d2 y2=> ?_);have X2:=d2.x;repeat refine aC ?_
  repeat refine W.g ?_
  exact⟨k+1,aI c1,X.trans X2,rfl,rfl,rfl,c1,e2,rfl,hb.more c1 (Iff.intro (λh=>⟨he1.1 rfl,he2.1 h⟩) (λh=>he2.2 h.2))⟩
 have hx:¬k<w.doors.length\/b=false:=by
  by_cases c:k<w.doors.length
  ·cases b
   ·exact .inr rfl
   ·cases hc.2 ⟨c,rfl⟩
  ·exact .inl c
 replace hb:b=true↔(P1/\∀d∈w.doors,inL d.a w.names.stops/\inL d.b w.names.stops):=hb.all hx;clear hx hc hk;obtain⟨P2,hP2⟩:∃P',P'=(P1/\∀d∈w.doors,inL d.a w.names.stops/\inL d.b w.names.stops):=⟨_,rfl⟩;rw[<-hP2]at q hb;clear hP2;repeat refine W.g ?_
 refine W.loop (σ:=Nat) (λk tm h'=>Ext H h'/\tm.look 1= .ptr (some (h.next,0))/\tm.look 3= .ptr (some (H1.next,0))/\tm.look 7= .int .i64 (k:Int)/\k<=w.routes.length/\∃b:Bool,tm.look 4= .bool b/\AllOk P2 (λr=>∀s∈r.stops,inL s w.names.stops) w.routes k b) (λk=>w.routes.length-k) ?_ (s:=0) ⟨X,rfl,rfl,rfl,Nat.zero_le _,b,rfl,fJ hb⟩;clear X hb b;rintro k tm h' ⟨X,w1,w3,w7,hk,b,w4,hb⟩;obtain⟨T,rfl⟩:=cE w1 w3 w7 w4;clear w1 w3 w7 w4;repeat (refine W.seq ?_)
 refine iZ (λtm' h2=>h2=h'/\tm'.look 1= .ptr (some (h.next,0))/\tm'.look 3= .ptr (some (H1.next,0))/\tm'.look 7= .int .i64 (k:Int)/\tm'.look 4= .bool b/\∃c:Bool,tm'.look 124= .bool c/\(c=true↔k<w.routes.length/\b=true)) ?_ ?_
 ·by_cases c:k<w.routes.length
  ·cases b
   ·repeat refine W.g ?_
    exact⟨rfl,rfl,rfl,rfl,rfl,false,rfl,Iff.intro (λh=>by cases h) (λh=>by cases h.2)⟩
   ·repeat refine W.g ?_
    exact⟨rfl,rfl,rfl,rfl,rfl,true,rfl,Iff.intro (λ_=>⟨c,rfl⟩) (λ_=>rfl)⟩
  ·repeat refine W.g ?_
   exact⟨rfl,rfl,rfl,rfl,rfl,false,rfl,Iff.intro (λh=>by cases h) (λh=>absurd h.1 c)⟩
 rintro tm' h2 ⟨rfl,w1,w3,w7,w4,c,wc,hc⟩;obtain⟨T,rfl⟩:=bX w1 w3 w7 w4 wc;clear w1 w3 w7 w4 wc;have nX:=X.next;cases c
 rotate_left
 ·obtain⟨c1,rfl⟩:=hc.1 rfl
  repeat refine W.g ?_
  have hat:w.routes[k]? =some w.routes[k]:=List.getElem?_eq_getElem c1;refine W.loop (σ:=Nat) (λj tm h2=>Ext H h2/\tm.look 1= .ptr (some (h.next,0))/\tm.look 3= .ptr (some (H1.next,0))/\tm.look 7= .int .i64 (k:Int)/\tm.look 8= .int .i64 (j:Int)/\j<=w.routes[k].stops.length/\∃b:Bool,tm.look 4= .bool b/\AllOk True (λs=>inL s w.names.stops) w.routes[k].stops j b) (λj=>w.routes[k].stops.length-j) ?_ (s:=0) ⟨X,rfl,rfl,rfl,rfl,Nat.zero_le _,true,rfl,fJ (Iff.intro (λ_=>trivial) (λ_=>rfl))⟩;clear X nX;rintro j tm h2 ⟨X,w1,w3,w7,w8,hj,b,w4,hbi⟩;obtain⟨T,rfl⟩:=bX w1 w3 w7 w8 w4;clear w1 w3 w7 w8 w4;repeat (refine W.seq ?_)
  refine iZ (λtm' h3=>h3=h2/\tm'.look 1= .ptr (some (h.next,0))/\tm'.look 3= .ptr (some (H1.next,0))/\tm'.look 7= .int .i64 (k:Int)/\tm'.look 8= .int .i64 (j:Int)/\tm'.look 4= .bool b/\∃c:Bool,tm'.look 138= .bool c/\(c=true↔j<w.routes[k].stops.length/\b=true)) ?_ ?_
  ·have u9:=t9.ext X
   repeat refine W.g ?_
   refine dI u9 c1 rfl rfl rfl rfl rfl rfl rfl λi1 o1 e1 L1 re=> ?_;obtain⟨y1,y2,y3,rfl,p1,_,_⟩:=re;by_cases c:j<w.routes[k].stops.length
   ·cases b
    ·repeat refine W.g ?_
     exact⟨rfl,rfl,rfl,rfl,rfl,rfl,false,rfl,Iff.intro (λh=>by cases h) (λh=>by cases h.2)⟩
    ·repeat refine W.g ?_
     exact⟨rfl,rfl,rfl,rfl,rfl,rfl,true,rfl,Iff.intro (λ_=>⟨c,rfl⟩) (λ_=>rfl)⟩
   ·repeat refine W.g ?_
    exact⟨rfl,rfl,rfl,rfl,rfl,rfl,false,rfl,Iff.intro (λh=>by cases h) (λh=>absurd h.1 c)⟩
  rintro tm' h3 ⟨rfl,w1,w3,w7,w8,w4,c,wc,hci⟩;obtain⟨T,rfl⟩:=pG w1 w3 w7 w8 w4 wc;clear w1 w3 w7 w8 w4 wc;have nX:=X.next;cases c
  rotate_left
  ·obtain⟨d1,rfl⟩:=hci.1 rfl
   have hsl:=(z11.2 _ (List.getElem_mem c1)).1;repeat refine W.g ?_
   have ds:=aD ((XH.trans X).fr fr);repeat (first|refine aC ?_|refine W.e λr_ h_ ds_ s_=> ?_)
   refine dQ (t9.ext X) c1 rfl rfl rfl rfl rfl rfl rfl λi1 o1 e1 L1 re=> ?_;obtain⟨y1,y2,y3,rfl,p1,_,_⟩:=re;repeat (first|refine aC ?_|refine W.e λr_ h_ ds_ s_=> ?_)
   refine aE p1 d1 rfl rfl rfl rfl rfl rfl rfl λi2 o2 L2=> ?_;repeat (first|refine aC ?_|refine W.e λr_ h_ ds_ s_=> ?_)
   refine aH ds_ rfl rfl rfl rfl (tB (t1.ext (X.trans ds_.x)) _ λe2 he2=>DZ.val (Ext.refl _) λq2 g2 d2 y2=> ?_);have X2:=d2.x;repeat refine aC ?_
   repeat refine W.g ?_
   exact⟨j+1,aI d1,X.trans X2,rfl,rfl,rfl,rfl,d1,e2,rfl,hbi.more d1 he2⟩
  have hx:¬j<w.routes[k].stops.length\/b=false:=by
   by_cases c:j<w.routes[k].stops.length
   ·cases b
    ·exact .inr rfl
    ·cases hci.2 ⟨c,rfl⟩
   ·exact .inl c
  have hbj:b=true↔(True/\∀s∈w.routes[k].stops,inL s w.names.stops):=hbi.all hx;repeat refine W.g ?_
  exact⟨k+1,aI c1,X,rfl,rfl,rfl,c1,b,rfl,hb.more c1 (Iff.intro (λh=>(hbj.1 h).2) (λh=>hbj.2 ⟨trivial,h⟩))⟩
 have hx:¬k<w.routes.length\/b=false:=by
  by_cases c:k<w.routes.length
  ·cases b
   ·exact .inr rfl
   ·cases hc.2 ⟨c,rfl⟩
  ·exact .inl c
 replace hb:b=true↔(P2/\∀r∈w.routes,∀s∈r.stops,inL s w.names.stops):=hb.all hx;clear hx hc hk;obtain⟨P3,hP3⟩:∃P',P'=(P2/\∀r∈w.routes,∀s∈r.stops,inL s w.names.stops):=⟨_,rfl⟩;rw[<-hP3]at q hb;clear hP3;repeat refine W.g ?_
 refine W.loop (σ:=Nat) (λk tm h'=>Ext H h'/\tm.look 1= .ptr (some (h.next,0))/\tm.look 3= .ptr (some (H1.next,0))/\tm.look 9= .int .i64 (k:Int)/\k<=w.trips.length/\∃b:Bool,tm.look 4= .bool b/\AllOk P3 (λt=>inL t.route w.names.routes) w.trips k b) (λk=>w.trips.length-k) ?_ (s:=0) ⟨X,rfl,rfl,rfl,Nat.zero_le _,b,rfl,fJ hb⟩;clear X hb b;rintro k tm h' ⟨X,w1,w3,w9,hk,b,w4,hb⟩;obtain⟨T,rfl⟩:=cE w1 w3 w9 w4;clear w1 w3 w9 w4;repeat (refine W.seq ?_)
 refine iZ (λtm' h2=>h2=h'/\tm'.look 1= .ptr (some (h.next,0))/\tm'.look 3= .ptr (some (H1.next,0))/\tm'.look 9= .int .i64 (k:Int)/\tm'.look 4= .bool b/\∃c:Bool,tm'.look 160= .bool c/\(c=true↔k<w.trips.length/\b=true)) ?_ ?_
 ·by_cases c:k<w.trips.length
  ·cases b
   ·repeat refine W.g ?_
    exact⟨rfl,rfl,rfl,rfl,rfl,false,rfl,Iff.intro (λh=>by cases h) (λh=>by cases h.2)⟩
   ·repeat refine W.g ?_
    exact⟨rfl,rfl,rfl,rfl,rfl,true,rfl,Iff.intro (λ_=>⟨c,rfl⟩) (λ_=>rfl)⟩
  ·repeat refine W.g ?_
   exact⟨rfl,rfl,rfl,rfl,rfl,false,rfl,Iff.intro (λh=>by cases h) (λh=>absurd h.1 c)⟩
 rintro tm' h2 ⟨rfl,w1,w3,w9,w4,c,wc,hc⟩;obtain⟨T,rfl⟩:=bX w1 w3 w9 w4 wc;clear w1 w3 w9 w4 wc;have nX:=X.next;cases c
 rotate_left
 ·obtain⟨c1,rfl⟩:=hc.1 rfl
  repeat refine W.g ?_
  have ds:=aD ((XH.trans X).fr fr);repeat (first|refine aC ?_|refine W.e λr_ h_ ds_ s_=> ?_)
  refine aE (t10.ext X) c1 rfl rfl rfl rfl rfl rfl rfl λi1 o1 L1=> ?_;repeat (first|refine aC ?_|refine W.e λr_ h_ ds_ s_=> ?_)
  refine aH ds_ rfl rfl rfl rfl (tB (t4.ext (X.trans ds_.x)) _ λe2 he2=>DZ.val (Ext.refl _) λq2 g2 d2 y2=> ?_);have X2:=d2.x;repeat refine aC ?_
  repeat refine W.g ?_
  exact⟨k+1,aI c1,X.trans X2,rfl,rfl,rfl,c1,e2,rfl,hb.more c1 he2⟩
 have hx:¬k<w.trips.length\/b=false:=by
  by_cases c:k<w.trips.length
  ·cases b
   ·exact .inr rfl
   ·cases hc.2 ⟨c,rfl⟩
  ·exact .inl c
 replace hb:b=true↔(P3/\∀t∈w.trips,inL t.route w.names.routes):=hb.all hx;clear hx hc hk;obtain⟨P4,hP4⟩:∃P',P'=(P3/\∀t∈w.trips,inL t.route w.names.routes):=⟨_,rfl⟩;rw[<-hP4]at q hb;clear hP4;repeat refine W.g ?_
 refine W.loop (σ:=Nat) (λk tm h'=>Ext H h'/\tm.look 1= .ptr (some (h.next,0))/\tm.look 3= .ptr (some (H1.next,0))/\tm.look 10= .int .i64 (k:Int)/\k<=w.hazards.length/\∃b:Bool,tm.look 4= .bool b/\AllOk P4 (λh=>inL h.on (if h.stop then w.names.stops else w.names.paths)) w.hazards k b) (λk=>w.hazards.length-k) ?_ (s:=0) ⟨X,rfl,rfl,rfl,Nat.zero_le _,b,rfl,fJ hb⟩
 clear X hb b;rintro k tm h' ⟨X,w1,w3,w10,hk,b,w4,hb⟩;obtain⟨T,rfl⟩:=cE w1 w3 w10 w4;clear w1 w3 w10 w4;repeat (refine W.seq ?_)
 refine iZ (λtm' h2=>h2=h'/\tm'.look 1= .ptr (some (h.next,0))/\tm'.look 3= .ptr (some (H1.next,0))/\tm'.look 10= .int .i64 (k:Int)/\tm'.look 4= .bool b/\∃c:Bool,tm'.look 179= .bool c/\(c=true↔k<w.hazards.length/\b=true)) ?_ ?_
 ·by_cases c:k<w.hazards.length
  ·cases b
   ·repeat refine W.g ?_
    exact⟨rfl,rfl,rfl,rfl,rfl,false,rfl,Iff.intro (λh=>by cases h) (λh=>by cases h.2)⟩
   ·repeat refine W.g ?_
    exact⟨rfl,rfl,rfl,rfl,rfl,true,rfl,Iff.intro (λ_=>⟨c,rfl⟩) (λ_=>rfl)⟩
  ·repeat refine W.g ?_
   exact⟨rfl,rfl,rfl,rfl,rfl,false,rfl,Iff.intro (λh=>by cases h) (λh=>absurd h.1 c)⟩
 rintro tm' h2 ⟨rfl,w1,w3,w10,w4,c,wc,hc⟩;obtain⟨T,rfl⟩:=bX w1 w3 w10 w4 wc;clear w1 w3 w10 w4 wc;have nX:=X.next;cases c
 rotate_left
 ·obtain⟨c1,rfl⟩:=hc.1 rfl
  have u11:=t11.ext X;repeat refine W.g ?_
  refine cH λi_ o_ L_=> ?_;repeat refine W.g ?_
  have gi:∀(a:Bool),w.hazards[k].stop=a->(inL w.hazards[k].on (if w.hazards[k].stop then w.names.stops else w.names.paths)↔inL w.hazards[k].on (if a then w.names.stops else w.names.paths)):=λa e=>by rw[e]
  cases hst:w.hazards[k].stop
  ·have gi:=gi false hst
   repeat refine W.g ?_
   refine cH λi_ o_ L_=> ?_;repeat refine W.g ?_
   refine W.call rfl rfl rfl (tB (t2.ext X) _ λe2 he2=> ?_);repeat refine W.g ?_
   exact⟨k+1,aI c1,X,rfl,rfl,rfl,c1,e2,rfl,hb.more c1 (he2.trans gi.symm)⟩
  ·have gi:=gi true hst
   repeat refine W.g ?_
   refine cH λi_ o_ L_=> ?_;repeat refine W.g ?_
   refine W.call rfl rfl rfl (tB (t1.ext X) _ λe2 he2=> ?_);repeat refine W.g ?_
   exact⟨k+1,aI c1,X,rfl,rfl,rfl,c1,e2,rfl,hb.more c1 (he2.trans gi.symm)⟩
 have hx:¬k<w.hazards.length\/b=false:=by
  by_cases c:k<w.hazards.length
  ·cases b
   ·exact .inr rfl
   ·cases hc.2 ⟨c,rfl⟩
  ·exact .inl c
 replace hb:b=true↔(P4/\∀h∈w.hazards,inL h.on (if h.stop then w.names.stops else w.names.paths)):=hb.all hx
 clear hx hc hk;repeat refine W.g ?_
 exact q _ b (XH.trans X) hb
end
end Go.Proofs.YtfheibkikpefkaaGreatDoor
