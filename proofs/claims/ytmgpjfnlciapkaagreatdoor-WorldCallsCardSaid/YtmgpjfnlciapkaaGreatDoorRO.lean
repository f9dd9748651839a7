/- Rows of structs of any content: the same or not. -/
import Derived.Test.YtmgpjfnlciapkaaGreatDoorXU
import Derived.Test.YtmgpjfnlciapkaaGreatDoorRL
set_option linter.unusedVariables false
set_option linter.unusedSimpArgs false
namespace Go.Proofs.YtmgpjfnlciapkaaGreatDoor
open Go Go.CM Go.CM.Tt
noncomputable section
set_option maxHeartbeats 16000000
theorem eqT_i2 {d:Nat} {t:Nat} {a b:Int} (ht:E1.ty t=some ⟨.int .i64,1,8,[.int .i64 0],false,false,[]⟩):eqT E1 (d+1) t (.int .i64 a) (.int .i64 b)=some (decide (a=b)):=by
 show(match E1.ty t with|some s=>eqK E1 (eqT E1 d) s (.int .i64 a) (.int .i64 b)|none=>none)=_
 rw[ht];show some (intEq a b)=_;rw[intEq_eq];exact congrArg some (by rw[Bool.eq_iff_iff];simp)
theorem eqT_b2 {d:Nat} {t:Nat} {a b:Bool} (ht:E1.ty t=some ⟨.bool,1,1,[.bool false],false,false,[]⟩):eqT E1 (d+1) t (.bool a) (.bool b)=some (a==b):=by
 show(match E1.ty t with|some s=>eqK E1 (eqT E1 d) s (.bool a) (.bool b)|none=>none)=_
 rw[ht];rfl
theorem eqF2 {rec:TypeId->CV->CV->Option Bool} {t off:Nat} {r:List (TypeId×Nat)} {xs ys:List CV} {s:TyS} {v v':CV} {b1 b2:Bool} (ht:E1.ty t=some s) (hp:CM.part xs off s.size s.agg=some v) (hp':CM.part ys off s.size s.agg=some v') (hv:rec t v v'=some b1) (hr:eqFields E1 rec r xs ys=some b2):eqFields E1 rec ((t,off)::r) xs ys=some (b1&&b2):=by
 show(match E1.ty t with
  |none=>none
  |some s=>match CM.part xs off s.size s.agg with
   |none=>none
   |some x=>match CM.part ys off s.size s.agg with
    |none=>none
    |some y=>match rec t x y with
     |some true=>eqFields E1 rec r xs ys
     |some false=>some false
     |none=>none)=some (b1&&b2)
 rw[ht];simp only[hp,hp',hv];cases b1
 ·rfl
 ·exact hr
theorem eqS2 {d:Nat} {t:Nat} {xs ys:List CV} {fs:List (TypeId×Nat)} {z b:Nat} {zz:List CV} {ms:List (String×Option (Nat×Bool))} {r:Bool} (ht:E1.ty t=some ⟨.struct fs,z,b,zz,true,true,ms⟩) (hf:eqFields E1 (eqT E1 d) fs xs ys=some r):eqT E1 (d+1) t (.agg xs) (.agg ys)=some r:=by
 show(match E1.ty t with|some s=>eqK E1 (eqT E1 d) s (.agg xs) (.agg ys)|none=>none)=_
 rw[ht];exact hf
theorem ne2_path {d e:PathW}:∃b:Bool,(∀h,withH h ((eqT E1 20 54 (.agg d.enc) (.agg e.enc)).map λb=> .bool (!b))=some (.bool (!b),h))/\(b=true↔d=e):=by
 refine⟨(decide (d.a=e.a)&&(decide (d.b=e.b)&&(decide (d.len=e.len)&&true))),λh=> ?_,?_⟩
 ·rw[show eqT E1 20 54 (.agg d.enc) (.agg e.enc)=some (decide (d.a=e.a)&&(decide (d.b=e.b)&&(decide (d.len=e.len)&&true)))from eqS2 rfl (eqF2 rfl rfl rfl (eqT_i2 rfl) (eqF2 rfl rfl rfl (eqT_i2 rfl) (eqF2 rfl rfl rfl (eqT_i2 rfl) rfl)))];rfl
 ·rcases d with⟨a,b,c⟩
  rcases e with⟨a',b',c'⟩
  simp
theorem same2_path {h:Heap} {tm:Tm} {Q:R->Prop} {v w:CV} {l m:List PathW} (fr:Fresh h) (s1:Sl h v l) (s2:Sl h w m) (hm:l.length<=1099511627776) (hm2:m.length<=1099511627776) (q:∀h' (b:Bool),Ext h h'->(b=true↔l=m)->Q (.val (.bool b) h')):W E1 (.call (.fn 42 [] []) [v,w]) tm h Q:=by
 refine W.fn (s:=fnOf Tryz.f42) rfl rfl rfl rfl ?_;by_cases c0:l.length=m.length
 case neg=>
  have c0':¬(l.length:Int)=(m.length:Int):=by omega
  repeat refine W.g ?_
  exact q _ false (Ext.refl _) (Iff.intro (λh=>by cases h) (λh=>absurd (by rw[h]) c0))
 have c0':(l.length:Int)=(m.length:Int):=by omega
 repeat refine W.g ?_
 refine W.loop (σ:=Nat) (λk tm h'=>Ext h h'/\tm.look 0=v/\tm.look 1=w/\tm.look 5= .int .i64 (k:Int)/\k<=l.length/\∀j:Nat,j<k->l[j]? =m[j]?) (λk=>l.length-k) ?_ (s:=0) ⟨Ext.refl _,rfl,rfl,rfl,Nat.zero_le _,λj hj=>by omega⟩;rintro k tm h' ⟨X,w0,w1,w5,hk,hl⟩;obtain⟨T,rfl⟩:=Tm.t3 w0 w1 w5;clear w0 w1 w5;by_cases c1:k<l.length
 ·have c2:k<m.length:=by omega
  repeat refine W.g ?_
  have ds:=DX.start (X.fr fr);try refine W.dv ?_
  refine W.dixF s1 c1 rfl rfl rfl rfl rfl rfl rfl λi1 o1 L1=> ?_;repeat (first|refine W.gd ?_|refine W.e λr_ h_ ds_ s_=> ?_)
  clear ds;have X1:=ds_.x;refine W.dixF s2 c2 rfl rfl rfl rfl rfl rfl rfl λi2 o2 L2=> ?_;repeat refine W.e λr_ h_ ds_ s_=> ?_
  have X2:=ds_.x;obtain⟨b,hb,he⟩:=ne2_path (d:=l[k]) (e:=m[k]);by_cases d1:l[k]=m[k]
  ·obtain rfl:b=true:=he.2 d1
   refine W.dopn rfl rfl (hb _) rfl ?_;repeat refine W.gd ?_
   repeat refine W.g ?_
   exact⟨k+1,lessN c1,X.trans X2,rfl,rfl,rfl,c1,λj hj=>by
    by_cases e:j=k
    ·rw[e,List.getElem?_eq_getElem c1,List.getElem?_eq_getElem c2,d1]
    ·exact hl j (by omega)⟩
  ·obtain rfl:b=false:=by
     cases b
     ·rfl
     ·exact absurd (he.1 rfl) d1
   refine W.dopn rfl rfl (hb _) rfl ?_;repeat refine W.gd ?_
   repeat refine W.g ?_
   exact q _ false (X.trans X2) (Iff.intro (λh=>by cases h) (λh=>absurd h (list_differ c1 c2 d1)))
 ·repeat refine W.g ?_
  exact q _ true X (Iff.intro (λ_=>list_same c0 λj hj=>hl j (by omega)) (λ_=>rfl))
theorem ne2_door {d e:DoorW}:∃b:Bool,(∀h,withH h ((eqT E1 20 96 (.agg d.enc) (.agg e.enc)).map λb=> .bool (!b))=some (.bool (!b),h))/\(b=true↔d=e):=by
 refine⟨(decide (d.a=e.a)&&(decide (d.b=e.b)&&(decide (d.len=e.len)&&((decide (d.times.frm=e.times.frm)&&(decide (d.times.evr=e.times.evr)&&(decide (d.times.len=e.times.len)&&true)))&&true)))),λh=> ?_,?_⟩
 ·rw[show eqT E1 20 96 (.agg d.enc) (.agg e.enc)=some (decide (d.a=e.a)&&(decide (d.b=e.b)&&(decide (d.len=e.len)&&((decide (d.times.frm=e.times.frm)&&(decide (d.times.evr=e.times.evr)&&(decide (d.times.len=e.times.len)&&true)))&&true))))from eqS2 rfl (eqF2 rfl rfl rfl (eqT_i2 rfl) (eqF2 rfl rfl rfl (eqT_i2 rfl) (eqF2 rfl rfl rfl (eqT_i2 rfl) (eqF2 rfl rfl rfl (eqS2 rfl (eqF2 rfl rfl rfl (eqT_i2 rfl) (eqF2 rfl rfl rfl (eqT_i2 rfl) (eqF2 rfl rfl rfl (eqT_i2 rfl) rfl)))) rfl))))];rfl
 ·rcases d with⟨a,b,c,⟨x,y,z⟩⟩
  rcases e with⟨a',b',c',⟨x',y',z'⟩⟩
  simp
theorem same2_door {h:Heap} {tm:Tm} {Q:R->Prop} {v w:CV} {l m:List DoorW} (fr:Fresh h) (s1:Sl h v l) (s2:Sl h w m) (hm:l.length<=1099511627776) (hm2:m.length<=1099511627776) (q:∀h' (b:Bool),Ext h h'->(b=true↔l=m)->Q (.val (.bool b) h')):W E1 (.call (.fn 43 [] []) [v,w]) tm h Q:=by
 refine W.fn (s:=fnOf Tryz.f43) rfl rfl rfl rfl ?_;by_cases c0:l.length=m.length
 case neg=>
  have c0':¬(l.length:Int)=(m.length:Int):=by omega
  repeat refine W.g ?_
  exact q _ false (Ext.refl _) (Iff.intro (λh=>by cases h) (λh=>absurd (by rw[h]) c0))
 have c0':(l.length:Int)=(m.length:Int):=by omega
 repeat refine W.g ?_
 refine W.loop (σ:=Nat) (λk tm h'=>Ext h h'/\tm.look 0=v/\tm.look 1=w/\tm.look 5= .int .i64 (k:Int)/\k<=l.length/\∀j:Nat,j<k->l[j]? =m[j]?) (λk=>l.length-k) ?_ (s:=0) ⟨Ext.refl _,rfl,rfl,rfl,Nat.zero_le _,λj hj=>by omega⟩;rintro k tm h' ⟨X,w0,w1,w5,hk,hl⟩;obtain⟨T,rfl⟩:=Tm.t3 w0 w1 w5;clear w0 w1 w5;by_cases c1:k<l.length
 ·have c2:k<m.length:=by omega
  repeat refine W.g ?_
  have ds:=DX.start (X.fr fr);try refine W.dv ?_
  refine W.dixF s1 c1 rfl rfl rfl rfl rfl rfl rfl λi1 o1 L1=> ?_;repeat (first|refine W.gd ?_|refine W.e λr_ h_ ds_ s_=> ?_)
  clear ds;have X1:=ds_.x;refine W.dixF s2 c2 rfl rfl rfl rfl rfl rfl rfl λi2 o2 L2=> ?_;repeat refine W.e λr_ h_ ds_ s_=> ?_
  have X2:=ds_.x;obtain⟨b,hb,he⟩:=ne2_door (d:=l[k]) (e:=m[k]);by_cases d1:l[k]=m[k]
  ·obtain rfl:b=true:=he.2 d1
   refine W.dopn rfl rfl (hb _) rfl ?_;repeat refine W.gd ?_
   repeat refine W.g ?_
   exact⟨k+1,lessN c1,X.trans X2,rfl,rfl,rfl,c1,λj hj=>by
    by_cases e:j=k
    ·rw[e,List.getElem?_eq_getElem c1,List.getElem?_eq_getElem c2,d1]
    ·exact hl j (by omega)⟩
  ·obtain rfl:b=false:=by
     cases b
     ·rfl
     ·exact absurd (he.1 rfl) d1
   refine W.dopn rfl rfl (hb _) rfl ?_;repeat refine W.gd ?_
   repeat refine W.g ?_
   exact q _ false (X.trans X2) (Iff.intro (λh=>by cases h) (λh=>absurd h (list_differ c1 c2 d1)))
 ·repeat refine W.g ?_
  exact q _ true X (Iff.intro (λ_=>list_same c0 λj hj=>hl j (by omega)) (λ_=>rfl))
theorem ne2_trip {d e:TripW}:∃b:Bool,(∀h,withH h ((eqT E1 20 65 (.agg d.enc) (.agg e.enc)).map λb=> .bool (!b))=some (.bool (!b),h))/\(b=true↔d=e):=by
 refine⟨(decide (d.route=e.route)&&(decide (d.frm=e.frm)&&(decide (d.evr=e.evr)&&(decide (d.untl=e.untl)&&true)))),λh=> ?_,?_⟩
 ·rw[show eqT E1 20 65 (.agg d.enc) (.agg e.enc)=some (decide (d.route=e.route)&&(decide (d.frm=e.frm)&&(decide (d.evr=e.evr)&&(decide (d.untl=e.untl)&&true))))from eqS2 rfl (eqF2 rfl rfl rfl (eqT_i2 rfl) (eqF2 rfl rfl rfl (eqT_i2 rfl) (eqF2 rfl rfl rfl (eqT_i2 rfl) (eqF2 rfl rfl rfl (eqT_i2 rfl) rfl))))];rfl
 ·rcases d with⟨a,b,c,f⟩
  rcases e with⟨a',b',c',f'⟩
  simp
theorem same2_trip {h:Heap} {tm:Tm} {Q:R->Prop} {v w:CV} {l m:List TripW} (fr:Fresh h) (s1:Sl h v l) (s2:Sl h w m) (hm:l.length<=1099511627776) (hm2:m.length<=1099511627776) (q:∀h' (b:Bool),Ext h h'->(b=true↔l=m)->Q (.val (.bool b) h')):W E1 (.call (.fn 44 [] []) [v,w]) tm h Q:=by
 refine W.fn (s:=fnOf Tryz.f44) rfl rfl rfl rfl ?_;by_cases c0:l.length=m.length
 case neg=>
  have c0':¬(l.length:Int)=(m.length:Int):=by omega
  repeat refine W.g ?_
  exact q _ false (Ext.refl _) (Iff.intro (λh=>by cases h) (λh=>absurd (by rw[h]) c0))
 have c0':(l.length:Int)=(m.length:Int):=by omega
 repeat refine W.g ?_
 refine W.loop (σ:=Nat) (λk tm h'=>Ext h h'/\tm.look 0=v/\tm.look 1=w/\tm.look 5= .int .i64 (k:Int)/\k<=l.length/\∀j:Nat,j<k->l[j]? =m[j]?) (λk=>l.length-k) ?_ (s:=0) ⟨Ext.refl _,rfl,rfl,rfl,Nat.zero_le _,λj hj=>by omega⟩;rintro k tm h' ⟨X,w0,w1,w5,hk,hl⟩;obtain⟨T,rfl⟩:=Tm.t3 w0 w1 w5;clear w0 w1 w5;by_cases c1:k<l.length
 ·have c2:k<m.length:=by omega
  repeat refine W.g ?_
  have ds:=DX.start (X.fr fr);try refine W.dv ?_
  refine W.dixF s1 c1 rfl rfl rfl rfl rfl rfl rfl λi1 o1 L1=> ?_;repeat (first|refine W.gd ?_|refine W.e λr_ h_ ds_ s_=> ?_)
  clear ds;have X1:=ds_.x;refine W.dixF s2 c2 rfl rfl rfl rfl rfl rfl rfl λi2 o2 L2=> ?_;repeat refine W.e λr_ h_ ds_ s_=> ?_
  have X2:=ds_.x;obtain⟨b,hb,he⟩:=ne2_trip (d:=l[k]) (e:=m[k]);by_cases d1:l[k]=m[k]
  ·obtain rfl:b=true:=he.2 d1
   refine W.dopn rfl rfl (hb _) rfl ?_;repeat refine W.gd ?_
   repeat refine W.g ?_
   exact⟨k+1,lessN c1,X.trans X2,rfl,rfl,rfl,c1,λj hj=>by
    by_cases e:j=k
    ·rw[e,List.getElem?_eq_getElem c1,List.getElem?_eq_getElem c2,d1]
    ·exact hl j (by omega)⟩
  ·obtain rfl:b=false:=by
     cases b
     ·rfl
     ·exact absurd (he.1 rfl) d1
   refine W.dopn rfl rfl (hb _) rfl ?_;repeat refine W.gd ?_
   repeat refine W.g ?_
   exact q _ false (X.trans X2) (Iff.intro (λh=>by cases h) (λh=>absurd h (list_differ c1 c2 d1)))
 ·repeat refine W.g ?_
  exact q _ true X (Iff.intro (λ_=>list_same c0 λj hj=>hl j (by omega)) (λ_=>rfl))
theorem ne2_haz {d e:HazW}:∃b:Bool,(∀h,withH h ((eqT E1 20 100 (.agg d.enc) (.agg e.enc)).map λb=> .bool (!b))=some (.bool (!b),h))/\(b=true↔d=e):=by
 refine⟨((d.stop==e.stop)&&(decide (d.on=e.on)&&((decide (d.times.frm=e.times.frm)&&(decide (d.times.evr=e.times.evr)&&(decide (d.times.len=e.times.len)&&true)))&&true))),λh=> ?_,?_⟩
 ·rw[show eqT E1 20 100 (.agg d.enc) (.agg e.enc)=some ((d.stop==e.stop)&&(decide (d.on=e.on)&&((decide (d.times.frm=e.times.frm)&&(decide (d.times.evr=e.times.evr)&&(decide (d.times.len=e.times.len)&&true)))&&true)))from eqS2 rfl (eqF2 rfl rfl rfl (eqT_b2 rfl) (eqF2 rfl rfl rfl (eqT_i2 rfl) (eqF2 rfl rfl rfl (eqS2 rfl (eqF2 rfl rfl rfl (eqT_i2 rfl) (eqF2 rfl rfl rfl (eqT_i2 rfl) (eqF2 rfl rfl rfl (eqT_i2 rfl) rfl)))) rfl)))];rfl
 ·rcases d with⟨a,b,⟨x,y,z⟩⟩
  rcases e with⟨a',b',⟨x',y',z'⟩⟩
  simp
theorem same2_haz {h:Heap} {tm:Tm} {Q:R->Prop} {v w:CV} {l m:List HazW} (fr:Fresh h) (s1:Sl h v l) (s2:Sl h w m) (hm:l.length<=1099511627776) (hm2:m.length<=1099511627776) (q:∀h' (b:Bool),Ext h h'->(b=true↔l=m)->Q (.val (.bool b) h')):W E1 (.call (.fn 45 [] []) [v,w]) tm h Q:=by
 refine W.fn (s:=fnOf Tryz.f45) rfl rfl rfl rfl ?_;by_cases c0:l.length=m.length
 case neg=>
  have c0':¬(l.length:Int)=(m.length:Int):=by omega
  repeat refine W.g ?_
  exact q _ false (Ext.refl _) (Iff.intro (λh=>by cases h) (λh=>absurd (by rw[h]) c0))
 have c0':(l.length:Int)=(m.length:Int):=by omega
 repeat refine W.g ?_
 refine W.loop (σ:=Nat) (λk tm h'=>Ext h h'/\tm.look 0=v/\tm.look 1=w/\tm.look 5= .int .i64 (k:Int)/\k<=l.length/\∀j:Nat,j<k->l[j]? =m[j]?) (λk=>l.length-k) ?_ (s:=0) ⟨Ext.refl _,rfl,rfl,rfl,Nat.zero_le _,λj hj=>by omega⟩;rintro k tm h' ⟨X,w0,w1,w5,hk,hl⟩;obtain⟨T,rfl⟩:=Tm.t3 w0 w1 w5;clear w0 w1 w5;by_cases c1:k<l.length
 ·have c2:k<m.length:=by omega
  repeat refine W.g ?_
  have ds:=DX.start (X.fr fr);try refine W.dv ?_
  refine W.dixF s1 c1 rfl rfl rfl rfl rfl rfl rfl λi1 o1 L1=> ?_;repeat (first|refine W.gd ?_|refine W.e λr_ h_ ds_ s_=> ?_)
  clear ds;have X1:=ds_.x;refine W.dixF s2 c2 rfl rfl rfl rfl rfl rfl rfl λi2 o2 L2=> ?_;repeat refine W.e λr_ h_ ds_ s_=> ?_
  have X2:=ds_.x;obtain⟨b,hb,he⟩:=ne2_haz (d:=l[k]) (e:=m[k]);by_cases d1:l[k]=m[k]
  ·obtain rfl:b=true:=he.2 d1
   refine W.dopn rfl rfl (hb _) rfl ?_;repeat refine W.gd ?_
   repeat refine W.g ?_
   exact⟨k+1,lessN c1,X.trans X2,rfl,rfl,rfl,c1,λj hj=>by
    by_cases e:j=k
    ·rw[e,List.getElem?_eq_getElem c1,List.getElem?_eq_getElem c2,d1]
    ·exact hl j (by omega)⟩
  ·obtain rfl:b=false:=by
     cases b
     ·rfl
     ·exact absurd (he.1 rfl) d1
   refine W.dopn rfl rfl (hb _) rfl ?_;repeat refine W.gd ?_
   repeat refine W.g ?_
   exact q _ false (X.trans X2) (Iff.intro (λh=>by cases h) (λh=>absurd h (list_differ c1 c2 d1)))
 ·repeat refine W.g ?_
  exact q _ true X (Iff.intro (λ_=>list_same c0 λj hj=>hl j (by omega)) (λ_=>rfl))
end
end Go.Proofs.YtmgpjfnlciapkaaGreatDoor

namespace Go.Proofs.YtmgpjfnlciapkaaGreatDoor
open Go Go.CM Go.CM.Tt
noncomputable section
set_option maxHeartbeats 16000000
set_option maxRecDepth 100000
theorem world_ext {w u:WorldD} (h0:w.hz=u.hz) (h1:w.names.stops=u.names.stops) (h2:w.names.paths=u.names.paths) (h3:w.names.doors=u.names.doors) (h4:w.names.routes=u.names.routes) (h5:w.names.trips=u.names.trips) (h6:w.names.hazards=u.names.hazards) (h7:w.paths=u.paths) (h8:w.doors=u.doors) (h9:w.routes=u.routes) (h10:w.trips=u.trips) (h11:w.hazards=u.hazards):w=u:=by
 rcases w with⟨_,⟨_,_,_,_,_,_⟩,_,_,_,_,_⟩
 rcases u with⟨_,⟨_,_,_,_,_,_⟩,_,_,_,_,_⟩
 simp_all
theorem routeW_ext {w u:RouteW} (h1:w.stops=u.stops) (h2:w.rides=u.rides) (h3:w.stays=u.stays):w=u:=by
 cases w;cases u;simp_all
theorem world2_w {h:Heap} {tm:Tm} {Q:R->Prop} {ca cb:List CV} {w u:WorldD} (fr:Fresh h) (ra:Rp.R h ca w) (rb:Rp.R h cb u) (sh:w.short) (sh2:u.short) (q:∀h' (b:Bool),Ext h h'->(b=true↔w=u)->Q (.val (.bool b) h')):W E1 (.call (.fn 12 [] []) [.agg ca,.agg cb]) tm h Q:=by
 obtain⟨a1,a2,a3,a4,a5,a6,a7,a8,a9,a10,a11,rfl,p1,p2,p3,p4,p5,p6,p7,p8,p9,p10,p11⟩:=ra;obtain⟨b1,b2,b3,b4,b5,b6,b7,b8,b9,b10,b11,rfl,q1,q2,q3,q4,q5,q6,q7,q8,q9,q10,q11⟩:=rb;obtain⟨m1,m2,m3,m4,m5,m6,m7,m8,m9,m10,m11,mr⟩:=sh;obtain⟨o1,o2,o3,o4,o5,o6,o7,o8,o9,o10,o11,orr⟩:=sh2;refine W.fn (s:=fnOf Tryz.f12) rfl rfl rfl rfl ?_;repeat (refine W.seq ?_)
 refine W.region ?_;refine W.box rfl rfl rfl λH1 X1 n1 g1 L1=> ?_;refine W.box rfl rfl rfl λH2 X2 n2 g2 L2=> ?_;have L1:=L1.ext X2;have Y2:=X1.trans X2;repeat refine W.g ?_
 have ds:=DX.start (Y2.fr fr);repeat (first|refine W.gd ?_|refine W.e λr_ h_ ds_ s_=> ?_)
 refine W.dalZ ds_ rfl rfl rfl λr3 H3 ds3 x3 n3 g3=> ?_;refine W.dalZ ds3 rfl rfl rfl λr4 H4 ds4 x4 n4 g4=> ?_;have xx:=ds_.x;have nxx:=xx.next;refine W.dstZ (vs:=[a1,a2,a3,a4,a5,a6]) (cs':=[a1,a2,a3,a4,a5,a6]) ds4 (by omega) rfl rfl rfl rfl rfl rfl rfl ((x4.old _ (by omega)).trans g3) rfl λr5 H5 hr5 s5=> ?_;have n5:H5.next=H4.next:=s5.next;have k5:∀k,k≠h_.next->H5.get k=H4.get k:=λk hk=>by rw[s5.get,Heap.get_put,if_neg (Ne.symm hk)]
 have g5:H5.get h_.next=some (.cells [a1,a2,a3,a4,a5,a6] false):=by rw[s5.get,put_same]
 refine W.dst (vs:=[b1,b2,b3,b4,b5,b6]) (cs':=[b1,b2,b3,b4,b5,b6]) hr5 rfl rfl rfl rfl rfl rfl rfl ((k5 _ (by omega)).trans g4) rfl λr6 H6 hr6 s6=> ?_;repeat refine W.gd ?_
 have n6:H6.next=H5.next:=s6.next;have k6:∀k,k≠H3.next->H6.get k=H5.get k:=λk hk=>by rw[s6.get,Heap.get_put,if_neg (Ne.symm hk)]
 have g6:H6.get H3.next=some (.cells [b1,b2,b3,b4,b5,b6] false):=by rw[s6.get,put_same]
 have g5:=(k6 h_.next (by omega)).trans g5;have Y6:Ext H2 H6:=Ext.store (Ext.store ((xx.trans x3).trans x4) n5 k5 (by omega) (by omega)) n6 k6 (by omega) (by omega);have L5:LocE H6 h_.next 0 [a1,a2,a3,a4,a5,a6]:=⟨_,_,g5,by omega,rfl⟩;have L6:LocE H6 H3.next 0 [b1,b2,b3,b4,b5,b6]:=⟨_,_,g6,by omega,rfl⟩;have Z6:=Y2.trans Y6;have L1:=L1.ext Y6;have L2:=L2.ext Y6;clear ds ds_ ds3 ds4 hr5 hr6 s5 s6 k5 k6 n5 n6 g1 g2 g3 g4 g5 g6 x3 x4 xx s_ Y6;refine W.k4 2 3 5 6 λT=> ?_;repeat refine W.g ?_
 refine W.call rfl rfl rfl (same2_str (Z6.fr fr) (p1.ext Z6) (q1.ext Z6) m1 o1 λG1 b V1 hb=> ?_);have U1:=Z6.trans V1;cases b
 ·repeat refine W.g ?_
  exact q _ false U1 (Iff.intro (λh=>by cases h) (λh=>absurd (hb.2 (by rw[h])) (λh=>by cases h)))
 have e1:=hb.1 rfl;clear hb;refine W.k5 2 3 5 6 18 λT=> ?_;have T1:=V1;repeat refine W.g ?_
 refine W.call rfl rfl rfl (same2_str (U1.fr fr) (p2.ext U1) (q2.ext U1) m2 o2 λG2 b V2 hb=> ?_);have U2:=U1.trans V2;cases b
 ·repeat refine W.g ?_
  exact q _ false U2 (Iff.intro (λh=>by cases h) (λh=>absurd (hb.2 (by rw[h])) (λh=>by cases h)))
 have e2:=hb.1 rfl;clear hb;refine W.k6 2 3 5 6 20 25 λT=> ?_;have T2:=T1.trans V2;repeat refine W.g ?_
 refine W.call rfl rfl rfl (same2_str (U2.fr fr) (p3.ext U2) (q3.ext U2) m3 o3 λG3 b V3 hb=> ?_);have U3:=U2.trans V3;cases b
 ·repeat refine W.g ?_
  exact q _ false U3 (Iff.intro (λh=>by cases h) (λh=>absurd (hb.2 (by rw[h])) (λh=>by cases h)))
 have e3:=hb.1 rfl;clear hb;refine W.k6 2 3 5 6 28 33 λT=> ?_;have T3:=T2.trans V3;repeat refine W.g ?_
 refine W.call rfl rfl rfl (same2_str (U3.fr fr) (p4.ext U3) (q4.ext U3) m4 o4 λG4 b V4 hb=> ?_);have U4:=U3.trans V4;cases b
 ·repeat refine W.g ?_
  exact q _ false U4 (Iff.intro (λh=>by cases h) (λh=>absurd (hb.2 (by rw[h])) (λh=>by cases h)))
 have e4:=hb.1 rfl;clear hb;refine W.k6 2 3 5 6 36 41 λT=> ?_;have T4:=T3.trans V4;repeat refine W.g ?_
 refine W.call rfl rfl rfl (same2_str (U4.fr fr) (p5.ext U4) (q5.ext U4) m5 o5 λG5 b V5 hb=> ?_);have U5:=U4.trans V5;cases b
 ·repeat refine W.g ?_
  exact q _ false U5 (Iff.intro (λh=>by cases h) (λh=>absurd (hb.2 (by rw[h])) (λh=>by cases h)))
 have e5:=hb.1 rfl;clear hb;refine W.k6 2 3 5 6 44 49 λT=> ?_;have T5:=T4.trans V5;repeat refine W.g ?_
 refine W.call rfl rfl rfl (same2_str (U5.fr fr) (p6.ext U5) (q6.ext U5) m6 o6 λG6 b V6 hb=> ?_);have U6:=U5.trans V6;cases b
 ·repeat refine W.g ?_
  exact q _ false U6 (Iff.intro (λh=>by cases h) (λh=>absurd (hb.2 (by rw[h])) (λh=>by cases h)))
 have e6:=hb.1 rfl;clear hb;refine W.k6 2 3 5 6 52 57 λT=> ?_;have T6:=T5.trans V6;by_cases ez:w.hz=u.hz
 case neg=>
  repeat refine W.g ?_
  exact q _ false U6 (Iff.intro (λh=>by cases h) (λh=>absurd (by rw[h]) ez))
 repeat refine W.g ?_
 refine W.call rfl rfl rfl (same2_path (U6.fr fr) (p7.ext U6) (q7.ext U6) m7 o7 λG7 b V7 hb=> ?_);have U7:=U6.trans V7;cases b
 ·repeat refine W.g ?_
  exact q _ false U7 (Iff.intro (λh=>by cases h) (λh=>absurd (hb.2 (by rw[h])) (λh=>by cases h)))
 have e7:=hb.1 rfl;clear hb;refine W.k4 2 3 65 70 λT=> ?_;have S7:=V7;repeat refine W.g ?_
 refine W.call rfl rfl rfl (same2_door (U7.fr fr) (p8.ext U7) (q8.ext U7) m8 o8 λG8 b V8 hb=> ?_);have U8:=U7.trans V8;cases b
 ·repeat refine W.g ?_
  exact q _ false U8 (Iff.intro (λh=>by cases h) (λh=>absurd (hb.2 (by rw[h])) (λh=>by cases h)))
 have e8:=hb.1 rfl;clear hb;refine W.k4 2 3 73 78 λT=> ?_;have S8:=S7.trans V8;repeat refine W.g ?_
 refine W.call rfl rfl rfl (same2_trip (U8.fr fr) (p10.ext U8) (q10.ext U8) m10 o10 λG10 b V10 hb=> ?_);have U10:=U8.trans V10;cases b
 ·repeat refine W.g ?_
  exact q _ false U10 (Iff.intro (λh=>by cases h) (λh=>absurd (hb.2 (by rw[h])) (λh=>by cases h)))
 have e10:=hb.1 rfl;clear hb;refine W.k4 2 3 81 86 λT=> ?_;have S10:=S8.trans V10;repeat refine W.g ?_
 refine W.call rfl rfl rfl (same2_haz (U10.fr fr) (p11.ext U10) (q11.ext U10) m11 o11 λG11 b V11 hb=> ?_);have U11:=U10.trans V11;cases b
 ·repeat refine W.g ?_
  exact q _ false U11 (Iff.intro (λh=>by cases h) (λh=>absurd (hb.2 (by rw[h])) (λh=>by cases h)))
 have e11:=hb.1 rfl;clear hb;refine W.k4 2 3 89 94 λT=> ?_;have S11:=S10.trans V11;by_cases el:w.routes.length=u.routes.length
 case neg=>
  have el':¬(w.routes.length:Int)=(u.routes.length:Int):=by omega
  repeat refine W.g ?_
  exact q _ false U11 (Iff.intro (λh=>by cases h) (λh=>absurd (by rw[h]) el))
 have el':(w.routes.length:Int)=(u.routes.length:Int):=by omega
 repeat refine W.g ?_
 have ZZ:=T6.trans S11;have L1:=L1.ext ZZ;have L2:=L2.ext ZZ;have p9:=p9.ext U11;have q9:=q9.ext U11;have fr':=U11.fr fr;obtain⟨K,hK⟩:∃K,K=G11:=⟨_,rfl⟩;rw[<-hK]at L1 L2 p9 q9 fr' U11 ⊢;refine W.k3 2 3 7 λT=> ?_;refine W.loop (σ:=Nat) (λk tm h'=>Ext K h'/\tm.look 2= .ptr (some (h.next,0))/\tm.look 3= .ptr (some (H1.next,0))/\tm.look 7= .int .i64 (k:Int)/\k<=w.routes.length/\∀j:Nat,j<k->w.routes[j]? =u.routes[j]?) (λk=>w.routes.length-k) ?_ (s:=0) ⟨Ext.refl _,rfl,rfl,rfl,Nat.zero_le _,λj hj=>by omega⟩;rintro k tm h' ⟨X,w2,w3,w7,hk,hl⟩;obtain⟨T,rfl⟩:=Tm.t3 w2 w3 w7;clear w2 w3 w7;by_cases c1:k<w.routes.length
 ·have c2:k<u.routes.length:=by omega
  repeat refine W.g ?_
  have ds:=DX.start (X.fr fr');repeat (first|refine W.gd ?_|refine W.e λr_ h_ ds_ s_=> ?_)
  refine W.dixR p9 c1 rfl rfl rfl rfl rfl rfl rfl λi1 o1 e1 Le1 re1=> ?_;have hl1:=Rp.len re1;repeat (first|refine W.gd ?_|refine W.e λr_ h_ ds_ s_=> ?_)
  clear ds;refine W.dixR q9 c2 rfl rfl rfl rfl rfl rfl rfl λi2 o2 e2 Le2 re2=> ?_;have hl2:=Rp.len re2;repeat refine W.e λr_ h_ ds_ s_=> ?_
  have xx:=ds_.x;have nxx:=xx.next;obtain⟨c1',c2',c3',rfl,pa1,pa2,pa3⟩:=re1;obtain⟨d1',d2',d3',rfl,qa1,qa2,qa3⟩:=re2;refine W.dalZ ds_ rfl rfl rfl λr3 J3 ds3 x3 n3 g3=> ?_;refine W.dalZ ds3 rfl rfl rfl λr4 J4 ds4 x4 n4 g4=> ?_;refine W.dstZ (vs:=[c1',c2',c3']) (cs':=[c1',c2',c3']) ds4 (by omega) rfl rfl rfl rfl rfl rfl rfl ((x4.old _ (by omega)).trans g3) rfl λr5 J5 hr5 s5=> ?_;have n5:J5.next=J4.next:=s5.next;have k5:∀k,k≠h_.next->J5.get k=J4.get k:=λk hk=>by rw[s5.get,Heap.get_put,if_neg (Ne.symm hk)]
  have g5:J5.get h_.next=some (.cells [c1',c2',c3'] false):=by rw[s5.get,put_same]
  refine W.dst (vs:=[d1',d2',d3']) (cs':=[d1',d2',d3']) hr5 rfl rfl rfl rfl rfl rfl rfl ((k5 _ (by omega)).trans g4) rfl λr6 J6 hr6 s6=> ?_;repeat refine W.gd ?_
  have n6:J6.next=J5.next:=s6.next;have k6:∀k,k≠J3.next->J6.get k=J5.get k:=λk hk=>by rw[s6.get,Heap.get_put,if_neg (Ne.symm hk)]
  have g6:J6.get J3.next=some (.cells [d1',d2',d3'] false):=by rw[s6.get,put_same]
  have g5:=(k6 h_.next (by omega)).trans g5;have Y6:Ext h' J6:=Ext.store (Ext.store ((xx.trans x3).trans x4) n5 k5 (by omega) (by omega)) n6 k6 (by omega) (by omega);have La:LocE J6 h_.next 0 [c1',c2',c3']:=⟨_,_,g5,by omega,rfl⟩;have Lb:LocE J6 J3.next 0 [d1',d2',d3']:=⟨_,_,g6,by omega,rfl⟩;have Z:=X.trans Y6;have mm:=mr _ (List.getElem_mem c1);have oo:=orr _ (List.getElem_mem c2);have no:¬w.routes[k]=u.routes[k]->¬w=u:=λh1 h2=>h1 (by subst h2;rfl);clear ds_ ds3 ds4 hr5 hr6 s5 s6 k5 k6 g3 g4 g5 g6 xx x3 x4 Le1 Le2;refine W.k5 2 3 7 8 9 λT=> ?_;repeat refine W.g ?_
  refine W.call rfl rfl rfl (same2_nt (Z.fr fr') (pa1.ext Z) (qa1.ext Z) mm.1 oo.1 λJ7 b W7 hb=> ?_);cases b
  ·repeat refine W.g ?_
   exact q _ false (U11.trans (Z.trans W7)) (Iff.intro (λh=>by cases h) (λh=>absurd h (no λh=>absurd (hb.2 (by rw[h])) (λh=>by cases h))))
  have y1:=hb.1 rfl;clear hb;have Z7:=Z.trans W7;refine W.k6 2 3 7 8 9 127 λT=> ?_;repeat refine W.g ?_
  refine W.call rfl rfl rfl (same2_int (Z7.fr fr') (pa2.ext Z7) (qa2.ext Z7) mm.2.1 oo.2.1 λJ8 b W8 hb=> ?_);cases b
  ·repeat refine W.g ?_
   exact q _ false (U11.trans (Z7.trans W8)) (Iff.intro (λh=>by cases h) (λh=>absurd h (no λh=>absurd (hb.2 (by rw[h])) (λh=>by cases h))))
  have y2:=hb.1 rfl;clear hb;have Z8:=Z7.trans W8;have W8':=W7.trans W8;refine W.k7 2 3 7 8 9 129 134 λT=> ?_;repeat refine W.g ?_
  refine W.call rfl rfl rfl (same2_int (Z8.fr fr') (pa3.ext Z8) (qa3.ext Z8) mm.2.2 oo.2.2 λJ9 b W9 hb=> ?_);cases b
  ·repeat refine W.g ?_
   exact q _ false (U11.trans (Z8.trans W9)) (Iff.intro (λh=>by cases h) (λh=>absurd h (no λh=>absurd (hb.2 (by rw[h])) (λh=>by cases h))))
  have y3:=hb.1 rfl;clear hb;refine W.k5 2 3 7 137 142 λT=> ?_;repeat refine W.g ?_
  exact⟨k+1,lessN c1,Z8.trans W9,rfl,rfl,rfl,c1,λj hj=>by
   by_cases e:j=k
   ·rw[e,List.getElem?_eq_getElem c1,List.getElem?_eq_getElem c2,routeW_ext y1 y2 y3]
   ·exact hl j (by omega)⟩
 ·repeat refine W.g ?_
  exact q _ true (U11.trans X) (Iff.intro (λ_=>world_ext ez e1 e2 e3 e4 e5 e6 e7 e8 (list_same el λj hj=>hl j (by omega)) e10 e11) (λ_=>rfl))
end
end Go.Proofs.YtmgpjfnlciapkaaGreatDoor
