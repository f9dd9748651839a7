/- Worlds of the same content are the same, as the program tells. No condition but that memory beyond the next number is empty. -/
import Derived.Test.YtmgpjfnlciapkaaGreatDoorXU
import Derived.Test.YtmgpjfnlciapkaaGreatDoorZH
import Derived.Test.YtmgpjfnlciapkaaGreatDoorYS
import Derived.Test.YtmgpjfnlciapkaaGreatDoorZYa
set_option linter.unusedVariables false
set_option linter.unusedSimpArgs false
namespace Go.Proofs.YtmgpjfnlciapkaaGreatDoor
open Go Go.CM Go.CM.Tt
noncomputable section
set_option maxHeartbeats 16000000
set_option maxRecDepth 100000
theorem _root_.Go.CM.W.dixp {E:Env} {tm:Tm} {h:Heap} {Q:R->Prop} {all rest:List Oper} {o:Oper} {bs:List Bits} {recs:List Rec} {i:Nat} {t e:TypeId} {x y:Operand} {s:TyS} {kk:IntKind} {id off j n:Nat} {m:Int} (hgd:guardOn all tm o=some true) (hop:o.op= .indexAddr t x y) (hx:cvOf E.globs tm x= .ptr (some (id,off))) (hy:cvOf E.globs tm y= .int kk m) (hs:E.ty t=some s) (hk:s.kind= .array n e) (hz:sizeOf? E e=some 1) (hn:place m n=some j)
  (w:W E (.draw bs all rest (i+1) recs) (putTmp tm o.dst (.ptr (some (id,off+j)))) h Q):W E (.draw bs all (o::rest) i recs) tm h Q:=by
 refine W.dop hgd (v:= .ptr (some (id,off+j))) ?_ ?_ w
 ·unfold fpAny;rw[hop];rfl
 ·unfold opAny
  rw[hop];show oIndexAddr E (E.ty t) (cvOf E.globs tm x) (cvOf E.globs tm y) _=_;rw[hx,hy,hs];unfold oIndexAddr;simp only[hk,hz,hn,addrAt,Nat.mul_one]
theorem eql_str {h:Heap} {tm:Tm} {Q:R->Prop} {v w:CV} {l:List Str} (fr:Fresh h) (s1:Sl h v l) (s2:Sl h w l) (hm:l.length<=1099511627776) (q:∀h',Ext h h'->Q (.val (.bool true) h')):W E1 (.call (.fn 64 [] []) [v,w]) tm h Q:=by
 refine W.fn (s:=fnOf Tryz.f64) rfl rfl rfl rfl ?_;repeat refine W.g ?_
 refine W.loop (σ:=Nat) (λk tm h'=>Ext h h'/\tm.look 0=v/\tm.look 1=w/\tm.look 12= .int .i64 (l.length:Int)/\tm.look 13= .int .i64 (k:Int)/\k<=l.length) (λk=>l.length-k) ?_ (s:=0) ⟨Ext.refl _,rfl,rfl,rfl,rfl,Nat.zero_le _⟩;rintro k tm h' ⟨X,w0,w1,w12,w13,hk⟩;obtain⟨T,rfl⟩:=Tm.t4 w0 w1 w12 w13;clear w0 w1 w12 w13;by_cases c1:k<l.length
 ·repeat refine W.g ?_
  have ds:=DX.start (X.fr fr);try refine W.dv ?_
  refine W.dixF s1 c1 rfl rfl rfl rfl rfl rfl rfl λi1 o1 L1=> ?_;repeat (first|refine W.gd ?_|refine W.e λr_ h_ ds_ s_=> ?_)
  clear ds;have X1:=ds_.x;refine W.dixF s2 c1 rfl rfl rfl rfl rfl rfl rfl λi2 o2 L2=> ?_;repeat (first|refine W.gd ?_|refine W.e λr_ h_ ds_ s_=> ?_)
  have X2:=ds_.x;rw[show bytesEq l[k] l[k]=true by rw[bytesEq_eq];simp];repeat refine W.g ?_
  exact⟨k+1,lessN c1,X.trans X2,rfl,rfl,rfl,rfl,c1⟩
 ·repeat refine W.g ?_
  exact q _ X
theorem eql_nt {h:Heap} {tm:Tm} {Q:R->Prop} {v w:CV} {l:List Int} (fr:Fresh h) (s1:Sl h v l) (s2:Sl h w l) (hm:l.length<=1099511627776) (q:∀h',Ext h h'->Q (.val (.bool true) h')):W E1 (.call (.fn 66 [] []) [v,w]) tm h Q:=by
 refine W.fn (s:=fnOf Tryz.f66) rfl rfl rfl rfl ?_;repeat refine W.g ?_
 refine W.loop (σ:=Nat) (λk tm h'=>Ext h h'/\tm.look 0=v/\tm.look 1=w/\tm.look 12= .int .i64 (l.length:Int)/\tm.look 13= .int .i64 (k:Int)/\k<=l.length) (λk=>l.length-k) ?_ (s:=0) ⟨Ext.refl _,rfl,rfl,rfl,rfl,Nat.zero_le _⟩;rintro k tm h' ⟨X,w0,w1,w12,w13,hk⟩;obtain⟨T,rfl⟩:=Tm.t4 w0 w1 w12 w13;clear w0 w1 w12 w13;by_cases c1:k<l.length
 ·repeat refine W.g ?_
  have ds:=DX.start (X.fr fr);try refine W.dv ?_
  refine W.dixF s1 c1 rfl rfl rfl rfl rfl rfl rfl λi1 o1 L1=> ?_;repeat (first|refine W.gd ?_|refine W.e λr_ h_ ds_ s_=> ?_)
  clear ds;have X1:=ds_.x;refine W.dixF s2 c1 rfl rfl rfl rfl rfl rfl rfl λi2 o2 L2=> ?_;repeat (first|refine W.gd ?_|refine W.e λr_ h_ ds_ s_=> ?_)
  have X2:=ds_.x;repeat refine W.g ?_
  exact⟨k+1,lessN c1,X.trans X2,rfl,rfl,rfl,rfl,c1⟩
 ·repeat refine W.g ?_
  exact q _ X
theorem eql_int {h:Heap} {tm:Tm} {Q:R->Prop} {v w:CV} {l:List Int} (fr:Fresh h) (s1:Sl h v l) (s2:Sl h w l) (hm:l.length<=1099511627776) (q:∀h',Ext h h'->Q (.val (.bool true) h')):W E1 (.call (.fn 67 [] []) [v,w]) tm h Q:=by
 refine W.fn (s:=fnOf Tryz.f67) rfl rfl rfl rfl ?_;repeat refine W.g ?_
 refine W.loop (σ:=Nat) (λk tm h'=>Ext h h'/\tm.look 0=v/\tm.look 1=w/\tm.look 12= .int .i64 (l.length:Int)/\tm.look 13= .int .i64 (k:Int)/\k<=l.length) (λk=>l.length-k) ?_ (s:=0) ⟨Ext.refl _,rfl,rfl,rfl,rfl,Nat.zero_le _⟩;rintro k tm h' ⟨X,w0,w1,w12,w13,hk⟩;obtain⟨T,rfl⟩:=Tm.t4 w0 w1 w12 w13;clear w0 w1 w12 w13;by_cases c1:k<l.length
 ·repeat refine W.g ?_
  have ds:=DX.start (X.fr fr);try refine W.dv ?_
  refine W.dixF s1 c1 rfl rfl rfl rfl rfl rfl rfl λi1 o1 L1=> ?_;repeat (first|refine W.gd ?_|refine W.e λr_ h_ ds_ s_=> ?_)
  clear ds;have X1:=ds_.x;refine W.dixF s2 c1 rfl rfl rfl rfl rfl rfl rfl λi2 o2 L2=> ?_;repeat (first|refine W.gd ?_|refine W.e λr_ h_ ds_ s_=> ?_)
  have X2:=ds_.x;repeat refine W.g ?_
  exact⟨k+1,lessN c1,X.trans X2,rfl,rfl,rfl,rfl,c1⟩
 ·repeat refine W.g ?_
  exact q _ X
theorem eql_path {h:Heap} {tm:Tm} {Q:R->Prop} {v w:CV} {l:List PathW} (fr:Fresh h) (s1:Sl h v l) (s2:Sl h w l) (hm:l.length<=1099511627776) (q:∀h',Ext h h'->Q (.val (.bool true) h')):W E1 (.call (.fn 68 [] []) [v,w]) tm h Q:=by
 refine W.fn (s:=fnOf Tryz.f68) rfl rfl rfl rfl ?_;repeat refine W.g ?_
 refine W.loop (σ:=Nat) (λk tm h'=>Ext h h'/\tm.look 0=v/\tm.look 1=w/\tm.look 12= .int .i64 (l.length:Int)/\tm.look 13= .int .i64 (k:Int)/\k<=l.length) (λk=>l.length-k) ?_ (s:=0) ⟨Ext.refl _,rfl,rfl,rfl,rfl,Nat.zero_le _⟩;rintro k tm h' ⟨X,w0,w1,w12,w13,hk⟩;obtain⟨T,rfl⟩:=Tm.t4 w0 w1 w12 w13;clear w0 w1 w12 w13;by_cases c1:k<l.length
 ·repeat refine W.g ?_
  have ds:=DX.start (X.fr fr);try refine W.dv ?_
  refine W.dixF s1 c1 rfl rfl rfl rfl rfl rfl rfl λi1 o1 L1=> ?_;repeat (first|refine W.gd ?_|refine W.e λr_ h_ ds_ s_=> ?_)
  clear ds;have X1:=ds_.x;refine W.dixF s2 c1 rfl rfl rfl rfl rfl rfl rfl λi2 o2 L2=> ?_;repeat refine W.e λr_ h_ ds_ s_=> ?_
  have X2:=ds_.x;refine W.dopn rfl rfl (ne_path (d:=l[k])) rfl ?_;repeat refine W.gd ?_
  repeat refine W.g ?_
  exact⟨k+1,lessN c1,X.trans X2,rfl,rfl,rfl,rfl,c1⟩
 ·repeat refine W.g ?_
  exact q _ X
theorem eql_door {h:Heap} {tm:Tm} {Q:R->Prop} {v w:CV} {l:List DoorW} (fr:Fresh h) (s1:Sl h v l) (s2:Sl h w l) (hm:l.length<=1099511627776) (q:∀h',Ext h h'->Q (.val (.bool true) h')):W E1 (.call (.fn 69 [] []) [v,w]) tm h Q:=by
 refine W.fn (s:=fnOf Tryz.f69) rfl rfl rfl rfl ?_;repeat refine W.g ?_
 refine W.loop (σ:=Nat) (λk tm h'=>Ext h h'/\tm.look 0=v/\tm.look 1=w/\tm.look 12= .int .i64 (l.length:Int)/\tm.look 13= .int .i64 (k:Int)/\k<=l.length) (λk=>l.length-k) ?_ (s:=0) ⟨Ext.refl _,rfl,rfl,rfl,rfl,Nat.zero_le _⟩;rintro k tm h' ⟨X,w0,w1,w12,w13,hk⟩;obtain⟨T,rfl⟩:=Tm.t4 w0 w1 w12 w13;clear w0 w1 w12 w13;by_cases c1:k<l.length
 ·repeat refine W.g ?_
  have ds:=DX.start (X.fr fr);try refine W.dv ?_
  refine W.dixF s1 c1 rfl rfl rfl rfl rfl rfl rfl λi1 o1 L1=> ?_;repeat (first|refine W.gd ?_|refine W.e λr_ h_ ds_ s_=> ?_)
  clear ds;have X1:=ds_.x;refine W.dixF s2 c1 rfl rfl rfl rfl rfl rfl rfl λi2 o2 L2=> ?_;repeat refine W.e λr_ h_ ds_ s_=> ?_
  have X2:=ds_.x;refine W.dopn rfl rfl (ne_door (d:=l[k])) rfl ?_;repeat refine W.gd ?_
  repeat refine W.g ?_
  exact⟨k+1,lessN c1,X.trans X2,rfl,rfl,rfl,rfl,c1⟩
 ·repeat refine W.g ?_
  exact q _ X
theorem eql_trip {h:Heap} {tm:Tm} {Q:R->Prop} {v w:CV} {l:List TripW} (fr:Fresh h) (s1:Sl h v l) (s2:Sl h w l) (hm:l.length<=1099511627776) (q:∀h',Ext h h'->Q (.val (.bool true) h')):W E1 (.call (.fn 71 [] []) [v,w]) tm h Q:=by
 refine W.fn (s:=fnOf Tryz.f71) rfl rfl rfl rfl ?_;repeat refine W.g ?_
 refine W.loop (σ:=Nat) (λk tm h'=>Ext h h'/\tm.look 0=v/\tm.look 1=w/\tm.look 12= .int .i64 (l.length:Int)/\tm.look 13= .int .i64 (k:Int)/\k<=l.length) (λk=>l.length-k) ?_ (s:=0) ⟨Ext.refl _,rfl,rfl,rfl,rfl,Nat.zero_le _⟩;rintro k tm h' ⟨X,w0,w1,w12,w13,hk⟩;obtain⟨T,rfl⟩:=Tm.t4 w0 w1 w12 w13;clear w0 w1 w12 w13;by_cases c1:k<l.length
 ·repeat refine W.g ?_
  have ds:=DX.start (X.fr fr);try refine W.dv ?_
  refine W.dixF s1 c1 rfl rfl rfl rfl rfl rfl rfl λi1 o1 L1=> ?_;repeat (first|refine W.gd ?_|refine W.e λr_ h_ ds_ s_=> ?_)
  clear ds;have X1:=ds_.x;refine W.dixF s2 c1 rfl rfl rfl rfl rfl rfl rfl λi2 o2 L2=> ?_;repeat refine W.e λr_ h_ ds_ s_=> ?_
  have X2:=ds_.x;refine W.dopn rfl rfl (ne_trip (d:=l[k])) rfl ?_;repeat refine W.gd ?_
  repeat refine W.g ?_
  exact⟨k+1,lessN c1,X.trans X2,rfl,rfl,rfl,rfl,c1⟩
 ·repeat refine W.g ?_
  exact q _ X
theorem eql_haz {h:Heap} {tm:Tm} {Q:R->Prop} {v w:CV} {l:List HazW} (fr:Fresh h) (s1:Sl h v l) (s2:Sl h w l) (hm:l.length<=1099511627776) (q:∀h',Ext h h'->Q (.val (.bool true) h')):W E1 (.call (.fn 72 [] []) [v,w]) tm h Q:=by
 refine W.fn (s:=fnOf Tryz.f72) rfl rfl rfl rfl ?_;repeat refine W.g ?_
 refine W.loop (σ:=Nat) (λk tm h'=>Ext h h'/\tm.look 0=v/\tm.look 1=w/\tm.look 12= .int .i64 (l.length:Int)/\tm.look 13= .int .i64 (k:Int)/\k<=l.length) (λk=>l.length-k) ?_ (s:=0) ⟨Ext.refl _,rfl,rfl,rfl,rfl,Nat.zero_le _⟩;rintro k tm h' ⟨X,w0,w1,w12,w13,hk⟩;obtain⟨T,rfl⟩:=Tm.t4 w0 w1 w12 w13;clear w0 w1 w12 w13;by_cases c1:k<l.length
 ·repeat refine W.g ?_
  have ds:=DX.start (X.fr fr);try refine W.dv ?_
  refine W.dixF s1 c1 rfl rfl rfl rfl rfl rfl rfl λi1 o1 L1=> ?_;repeat (first|refine W.gd ?_|refine W.e λr_ h_ ds_ s_=> ?_)
  clear ds;have X1:=ds_.x;refine W.dixF s2 c1 rfl rfl rfl rfl rfl rfl rfl λi2 o2 L2=> ?_;repeat refine W.e λr_ h_ ds_ s_=> ?_
  have X2:=ds_.x;refine W.dopn rfl rfl (ne_haz (d:=l[k])) rfl ?_;repeat refine W.gd ?_
  repeat refine W.g ?_
  exact⟨k+1,lessN c1,X.trans X2,rfl,rfl,rfl,rfl,c1⟩
 ·repeat refine W.g ?_
  exact q _ X
theorem routeWEq_w {h:Heap} {tm:Tm} {Q:R->Prop} {ca cb:List CV} {d:RouteW} (fr:Fresh h) (ra:Rp.R h ca d) (rb:Rp.R h cb d) (sh:d.stops.length<=1099511627776/\d.rides.length<=1099511627776/\d.stays.length<=1099511627776) (q:∀h',Ext h h'->Q (.val (.bool true) h')):W E1 (.call (.fn 65 [] []) [.agg ca,.agg cb]) tm h Q:=by
 obtain⟨a1,a2,a3,rfl,p1,p2,p3⟩:=ra;obtain⟨b1,b2,b3,rfl,q1,q2,q3⟩:=rb;obtain⟨m1,m2,m3⟩:=sh;refine W.fn (s:=fnOf Tryz.f65) rfl rfl rfl rfl ?_;repeat (refine W.seq ?_)
 refine W.region ?_;refine W.box rfl rfl rfl λH1 X1 n1 g1 L1=> ?_;refine W.box rfl rfl rfl λH2 X2 n2 g2 L2=> ?_;have L1:=L1.ext X2;have Y2:=X1.trans X2;repeat refine W.g ?_
 refine W.call rfl rfl rfl (eql_nt (Y2.fr fr) (p1.ext Y2) (q1.ext Y2) m1 λG1 V1=> ?_);have U1:=Y2.trans V1;have L1:=L1.ext V1;have L2:=L2.ext V1;refine W.k3 2 3 9 λT=> ?_;repeat refine W.g ?_
 refine W.call rfl rfl rfl (eql_int (U1.fr fr) (p2.ext U1) (q2.ext U1) m2 λG2 V2=> ?_);have U2:=U1.trans V2;have L1:=L1.ext V2;have L2:=L2.ext V2;refine W.k4 2 3 10 15 λT=> ?_;repeat refine W.g ?_
 refine W.call rfl rfl rfl (eql_int (U2.fr fr) (p3.ext U2) (q3.ext U2) m3 λG3 V3=> ?_);have U3:=U2.trans V3;refine W.k2 17 22 λT=> ?_;repeat refine W.g ?_
 exact q _ U3
theorem eqlF_route {h:Heap} {tm:Tm} {Q:R->Prop} {v w:CV} {l:List RouteW} (fr:Fresh h) (s1:Sl h v l) (s2:Sl h w l) (hm:l.length<=1099511627776) (mr:∀r∈l,r.stops.length<=1099511627776/\r.rides.length<=1099511627776/\r.stays.length<=1099511627776) (q:∀h',Ext h h'->Q (.val (.bool true) h')):W E1 (.call (.fn 70 [] []) [v,w,.fn 65 [] []]) tm h Q:=by
 refine W.fn (s:=fnOf Tryz.f70) rfl rfl rfl rfl ?_;repeat refine W.g ?_
 refine W.loop (σ:=Nat) (λk tm h'=>Ext h h'/\tm.look 1=w/\tm.look 2= .fn 65 [] []/\tm.look 15=v/\tm.look 16= .int .i64 (l.length:Int)/\tm.look 17= .int .i64 (k:Int)/\k<=l.length) (λk=>l.length-k) ?_ (s:=0) ⟨Ext.refl _,rfl,rfl,rfl,rfl,rfl,Nat.zero_le _⟩;rintro k tm h' ⟨X,w1,w2,w15,w16,w17,hk⟩;obtain⟨T,rfl⟩:=Tm.t5 w1 w2 w15 w16 w17;clear w1 w2 w15 w16 w17;by_cases c1:k<l.length
 ·repeat refine W.g ?_
  refine W.ixR s1 c1 rfl rfl rfl rfl rfl rfl rfl λi_ o_ e1 L_ re1=> ?_;have hl1:=Rp.len re1;have re10:=re1;obtain⟨c1',c2',c3',rfl,_,_,_⟩:=re1;repeat (first|refine W.g ?_|refine W.m λh_ X_ n_ g_ L_=> ?_)
  refine W.stn (vs:=[c1',c2',c3']) (cs':=[c1',c2',c3']) rfl rfl rfl rfl rfl rfl g_ rfl λP nP gP kP=> ?_;have XP:Ext h' P:=Ext.store X_ nP kP (Nat.le_refl _) (by omega);have g6:P.get h'.next=some (.cells [c1',c2',c3'] false):=gP;have L6:LocE P h'.next 0 [c1',c2',c3']:=⟨_,_,g6,by omega,rfl⟩;have XhP:Ext h P:=X.trans XP;clear L_ g_ X_ kP gP g6;refine W.k7 1 2 8 15 16 17 7 λT=> ?_;repeat refine W.g ?_
  refine W.ixR s2 c1 rfl rfl rfl rfl rfl rfl rfl λi_ o_ e2 L_ re2=> ?_;have hl2:=Rp.len re2;have re20:=re2;obtain⟨d1',d2',d3',rfl,_,_,_⟩:=re2;repeat (first|refine W.g ?_|refine W.m λh_ X_ n_ g_ L_=> ?_)
  have Z:=XhP.trans X_;refine W.call rfl rfl rfl (routeWEq_w (Z.fr fr) (Rp.ext Z re10) (Rp.ext Z re20) (mr _ (List.getElem_mem c1)) λG V=> ?_);refine W.k6 1 2 15 16 17 29 λT=> ?_;repeat refine W.g ?_
  exact⟨k+1,lessN c1,Z.trans V,rfl,rfl,rfl,rfl,rfl,c1⟩
 ·repeat refine W.g ?_
  exact q _ X
theorem wsame_w {h:Heap} {tm:Tm} {Q:R->Prop} {ca cb:List CV} {w:WorldD} (fr:Fresh h) (ra:Rp.R h ca w) (rb:Rp.R h cb w) (sh:w.short) (q:∀h',Ext h h'->Q (.val (.bool true) h')):W E1 (.call (.fn 21 [] []) [.agg ca,.agg cb]) tm h Q:=by
 obtain⟨a1,a2,a3,a4,a5,a6,a7,a8,a9,a10,a11,rfl,p1,p2,p3,p4,p5,p6,p7,p8,p9,p10,p11⟩:=ra;obtain⟨b1,b2,b3,b4,b5,b6,b7,b8,b9,b10,b11,rfl,q1,q2,q3,q4,q5,q6,q7,q8,q9,q10,q11⟩:=rb;obtain⟨m1,m2,m3,m4,m5,m6,m7,m8,m9,m10,m11,mr⟩:=sh;refine W.fn (s:=fnOf Tryz.f21) rfl rfl rfl rfl ?_;repeat (refine W.seq ?_)
 refine W.region ?_;refine W.box rfl rfl rfl λH1 X1 n1 g1 L1=> ?_;refine W.box rfl rfl rfl λH2 X2 n2 g2 L2=> ?_;have L1:=L1.ext X2;have Y2:=X1.trans X2;repeat refine W.g ?_
 refine W.call rfl rfl rfl (kinds_w (Y2.fr fr) λH3 z X3 z1 z2 Lz=> ?_);have Y3:=Y2.trans X3;refine W.k4 2 3 4 10 λT=> ?_;repeat refine W.g ?_
 refine W.call rfl rfl rfl (kinds_w (Y3.fr fr) λH4 y X4 y1 y2 Ly=> ?_);have Y4:=Y3.trans X4;have nX3:=X3.next;have nX4:=X4.next;refine W.k5 2 3 4 10 12 λT=> ?_;repeat refine W.m λh_ X_ n_ g_ L_=> ?_
 rename_i K5 j5 n5 g5 l5;clear l5 L_;obtain⟨ps,hps⟩:∃ps:List CV,ps=[.ptr (some (z,0)),.ptr (some (h.next,0+1+0)),.ptr (some (h.next,0+1+1)),.ptr (some (h.next,0+1+2)),.ptr (some (h.next,0+1+3)),.ptr (some (h.next,0+1+4)),.ptr (some (h.next,0+1+5))]:=⟨_,rfl⟩;obtain⟨qs,hqs⟩:∃qs:List CV,qs=[.ptr (some (y,0)),.ptr (some (H1.next,0+1+0)),.ptr (some (H1.next,0+1+1)),.ptr (some (H1.next,0+1+2)),.ptr (some (H1.next,0+1+3)),.ptr (some (H1.next,0+1+4)),.ptr (some (H1.next,0+1+5))]:=⟨_,rfl⟩;have g5:=(X_.old H4.next (by omega)).trans g5;refine W.stn (vs:=ps) (cs':=ps) rfl rfl rfl (by rw[hps];rfl) rfl (by rw[hps];rfl) g5 (by rw[hps];rfl) λM4 m4' h4 k4=> ?_;refine W.stn (vs:=qs) (cs':=qs) rfl rfl rfl (by rw[hqs];rfl) rfl (by rw[hqs];rfl) ((k4 K5.next (by omega)).trans g_) (by rw[hqs];rfl) λM m5' h5 k5=> ?_;have JM:Ext H4 M:=Ext.store (Ext.store (j5.trans X_) m4' k4 (by omega) (by omega)) m5' k5 (by omega) (by omega);have A5:LocE M H4.next 0 ps:=⟨_,_,(k5 _ (by omega)).trans h4,by omega,by rw[hps];rfl⟩;have A6:LocE M K5.next 0 qs:=⟨_,_,h5,by omega,by rw[hqs];rfl⟩;have YM:Ext h M:=Y4.trans JM;have L1:=((L1.ext X3).ext X4).ext JM;have L2:=((L2.ext X3).ext X4).ext JM;have Lz:=(Lz.ext X4).ext JM;have Ly:=Ly.ext JM;obtain⟨lists,hlists⟩:∃lists,lists=w.names.lists:=⟨_,rfl⟩
 have lsh:∀k,(lists.getD k []).length<=1099511627776:=λk=>by
  rw[hlists];rcases k with _|_|_|_|_|_|_|k<;>first|assumption|(show 0<=_;omega)
 have fam:∀k,k<7->∃p o v,ps[k]? =some (.ptr (some (p,o)))/\LocE M p o [v]/\Sl M v (lists.getD k []):=by
  intro k hk;rw[hps,hlists];rcases k with _|_|_|_|_|_|_|k
  ·exact⟨z,0,_,rfl,Lz,Sl.nil⟩
  ·exact⟨h.next,0+1+0,a1,rfl,LocE.sub (k:=1) (m:=1) L1 rfl,p1.ext YM⟩
  ·exact⟨h.next,0+1+1,a2,rfl,LocE.sub (k:=2) (m:=1) L1 rfl,p2.ext YM⟩
  ·exact⟨h.next,0+1+2,a3,rfl,LocE.sub (k:=3) (m:=1) L1 rfl,p3.ext YM⟩
  ·exact⟨h.next,0+1+3,a4,rfl,LocE.sub (k:=4) (m:=1) L1 rfl,p4.ext YM⟩
  ·exact⟨h.next,0+1+4,a5,rfl,LocE.sub (k:=5) (m:=1) L1 rfl,p5.ext YM⟩
  ·exact⟨h.next,0+1+5,a6,rfl,LocE.sub (k:=6) (m:=1) L1 rfl,p6.ext YM⟩
  ·omega
 have fam2:∀k,k<7->∃p o v,qs[k]? =some (.ptr (some (p,o)))/\LocE M p o [v]/\Sl M v (lists.getD k []):=by
  intro k hk;rw[hqs,hlists];rcases k with _|_|_|_|_|_|_|k
  ·exact⟨y,0,_,rfl,Ly,Sl.nil⟩
  ·exact⟨H1.next,0+1+0,b1,rfl,LocE.sub (k:=1) (m:=1) L2 rfl,q1.ext YM⟩
  ·exact⟨H1.next,0+1+1,b2,rfl,LocE.sub (k:=2) (m:=1) L2 rfl,q2.ext YM⟩
  ·exact⟨H1.next,0+1+2,b3,rfl,LocE.sub (k:=3) (m:=1) L2 rfl,q3.ext YM⟩
  ·exact⟨H1.next,0+1+3,b4,rfl,LocE.sub (k:=4) (m:=1) L2 rfl,q4.ext YM⟩
  ·exact⟨H1.next,0+1+4,b5,rfl,LocE.sub (k:=5) (m:=1) L2 rfl,q5.ext YM⟩
  ·exact⟨H1.next,0+1+5,b6,rfl,LocE.sub (k:=6) (m:=1) L2 rfl,q6.ext YM⟩
  ·omega
 have frM:=YM.fr fr;obtain⟨d5,hd5⟩:∃d5,d5=H4.next:=⟨_,rfl⟩;obtain⟨d6,hd6⟩:∃d6,d6=K5.next:=⟨_,rfl⟩;rw[<-hd5]at A5 ⊢;rw[<-hd6]at A6 ⊢;clear Lz Ly g5 g_ X_ j5 h4 h5 k4 k5;refine W.k5 2 3 4 5 6 λT=> ?_;repeat refine W.g ?_
 refine W.loop (σ:=Nat) (λk tm h'=>Ext M h'/\tm.look 2= .ptr (some (h.next,0))/\tm.look 3= .ptr (some (H1.next,0))/\tm.look 5= .ptr (some (d5,0))/\tm.look 6= .ptr (some (d6,0))/\tm.look 13= .int .i64 (k:Int)/\k<=7) (λk=>7-k) ?_ (s:=0) ⟨Ext.refl _,rfl,rfl,rfl,rfl,rfl,Nat.zero_le _⟩;rintro k tm h' ⟨X,w2,w3,w5,w6,w13,hk⟩;obtain⟨T,rfl⟩:=Tm.t5 w2 w3 w5 w6 w13;clear w2 w3 w5 w6 w13;by_cases c1:k<7
 ·obtain⟨pi,po,v,hp1,Lp,sv⟩:=fam k c1
  obtain⟨qi,qo,v2,hp2,Lq,sv2⟩:=fam2 k c1;repeat refine W.g ?_
  have ds:=DX.start (X.fr frM);repeat refine W.gd ?_
  refine W.dixp rfl rfl rfl rfl rfl rfl rfl (place_of (j:=k) rfl c1) ?_;refine W.dlk A5 ds X rfl rfl rfl rfl rfl rfl hp1 λr1 J1 ds1 s1=> ?_;repeat (first|refine W.gd ?_|refine W.e λr_ h_ ds_ s_=> ?_)
  refine W.dixp rfl rfl rfl rfl rfl rfl rfl (place_of (j:=k) rfl c1) ?_;refine W.dlk A6 ds_ X rfl rfl rfl rfl rfl rfl hp2 λr2 J2 ds2 s2=> ?_;clear ds_ ds1 ds;repeat (first|refine W.gd ?_|refine W.e λr_ h_ ds_ s_=> ?_)
  have XX:=X.trans ds_.x;refine W.dcallZ ds_ rfl rfl rfl rfl (eql_str (XX.fr frM) (sv.ext XX) (sv2.ext XX) (lsh k) λh1 Y1=>DZ.val Y1 λr1 h1' ds1 s1'=> ?_);repeat refine W.gd ?_
  repeat refine W.g ?_
  exact⟨k+1,by show 7-(k+1)<7-k;omega,X.trans ds1.x,rfl,rfl,rfl,rfl,rfl,c1⟩
 ·repeat refine W.g ?_
  obtain⟨K,hK⟩:∃K,K=h':=⟨_,rfl⟩;have YK:=YM.trans X;have L1:=L1.ext X;have L2:=L2.ext X;rw[<-hK]at YK L1 L2 ⊢;clear A5 A6;refine W.call rfl rfl rfl (eql_path (YK.fr fr) (p7.ext YK) (q7.ext YK) m7 λG0 V0=> ?_);have U0:=YK.trans V0;have L1:=L1.ext V0;have L2:=L2.ext V0;refine W.k5 2 3 8 34 39 λT=> ?_;repeat refine W.g ?_
  refine W.call rfl rfl rfl (eql_door (U0.fr fr) (p8.ext U0) (q8.ext U0) m8 λG1 V1=> ?_);have U1:=U0.trans V1;have L1:=L1.ext V1;have L2:=L2.ext V1;refine W.k5 2 3 8 41 46 λT=> ?_;repeat refine W.g ?_
  refine W.call rfl rfl rfl (eqlF_route (U1.fr fr) (p9.ext U1) (q9.ext U1) m9 mr λG2 V2=> ?_);have U2:=U1.trans V2;have L1:=L1.ext V2;have L2:=L2.ext V2;refine W.k4 2 3 48 54 λT=> ?_;repeat refine W.g ?_
  refine W.call rfl rfl rfl (eql_trip (U2.fr fr) (p10.ext U2) (q10.ext U2) m10 λG3 V3=> ?_);have U3:=U2.trans V3;have L1:=L1.ext V3;have L2:=L2.ext V3;refine W.k4 2 3 56 61 λT=> ?_;repeat refine W.g ?_
  refine W.call rfl rfl rfl (eql_haz (U3.fr fr) (p11.ext U3) (q11.ext U3) m11 λG4 V4=> ?_);have U4:=U3.trans V4;have L1:=L1.ext V4;have L2:=L2.ext V4;refine W.k2 63 68 λT=> ?_;repeat refine W.g ?_
  exact q _ U4
end
end Go.Proofs.YtmgpjfnlciapkaaGreatDoor

noncomputable section
namespace Go.CM.Tt
def findL (s:Str):List (List Str)->Int->Int×Int
 |[],_=>(0,0)
 |l::r,k=>if 0<=place l s then(k,place l s)else findL s r (k+1)
def NamesD.find (n:NamesD) (s:Str):Int×Int:=findL s n.lists 0
theorem findL_some {s:Str}:∀{L:List (List Str)} {i:Int} {k:Nat} {l:List Str},(∀n m,n<k->L[n]? =some m->¬0<=place m s)->L[k]? =some l->0<=place l s->findL s L i=(i+k,place l s)
 |[],_,_,_,_,h,_=>by simp at h
 |a::L,i,0,l,_,h,hp=>by
  have:a=l:=by simpa using h
  subst this;unfold findL;rw[if_pos hp];simp
 |a::L,i,k+1,l,hn,h,hp=>by
  have h0:=hn 0 a (by omega) rfl;have ih:=findL_some (L:=L) (i:=i+1) (k:=k) (l:=l) (λn m hm hl=>hn (n+1) m (by omega) (by simpa using hl)) (by simpa using h) hp;unfold findL;rw[if_neg h0,ih]
  congr 1
  omega
theorem findL_none {s:Str}:∀{L:List (List Str)} {i:Int},(∀(n:Nat) m,L[n]? =some m->¬0<=place m s)->findL s L i=(0,0)
 |[],_,_=>rfl
 |a::L,i,hn=>by
  have ih:=findL_none (L:=L) (i:=i+1) λn m hl=>hn (n+1) m (by simpa using hl);unfold findL;rw[if_neg (hn 0 a rfl),ih]
end Go.CM.Tt

namespace Go.Proofs.YtmgpjfnlciapkaaGreatDoor
open Go Go.CM Go.CM.Tt
noncomputable section
set_option maxHeartbeats 16000000
theorem find_w {h:Heap} {tm:Tm} {Q:R->Prop} {cs:List CV} {w:WorldD} (fr:Fresh h) (r:Rp.R h cs w) (s:Str) (sh:∀l∈w.names.lists,l.length<=1099511627776) (q:∀h',Ext h h'->Q (.val (.tup [.int .i64 (w.names.find s).1,.int .i64 (w.names.find s).2]) h')):W E1 (.call (.fn 9 [] []) [.agg cs,.str s]) tm h Q:=by
 obtain⟨v1,v2,v3,v4,v5,v6,v7,v8,v9,v10,v11,rfl,s1,s2,s3,s4,s5,s6,_⟩:=r;refine W.fn (s:=fnOf Tryz.f9) rfl rfl rfl rfl ?_;repeat (refine W.seq ?_)
 refine W.region ?_;refine W.box rfl rfl rfl λH1 X1 n1 g1 L1=> ?_;repeat refine W.g ?_
 refine W.call rfl rfl rfl (kinds_w (X1.fr fr) λh2 z X2 z1 z2 Lz=> ?_);obtain⟨lists,hlists⟩:∃lists,lists=w.names.lists:=⟨_,rfl⟩;obtain⟨ps,hps⟩:∃ps:List CV,ps=[.ptr (some (z,0)),.ptr (some (h.next,0+1+0)),.ptr (some (h.next,0+1+1)),.ptr (some (h.next,0+1+2)),.ptr (some (h.next,0+1+3)),.ptr (some (h.next,0+1+4)),.ptr (some (h.next,0+1+5))]:=⟨_,rfl⟩;have Y2:=X1.trans X2;have L2:=L1.ext X2
 have fam:∀k,k<7->∃p o v,nth ps k=some (.ptr (some (p,o)))/\∀J,Ext h2 J->LocE J p o [v]/\Sl J v (lists.getD k []):=by
  intro k hk;rw[hps,hlists];rcases k with _|_|_|_|_|_|_|k
  ·exact⟨z,0,_,rfl,λJ XJ=>⟨Lz.ext XJ,Sl.nil⟩⟩
  ·exact⟨h.next,0+1+0,v1,rfl,λJ XJ=>⟨LocE.sub (k:=1) (m:=1) (L2.ext XJ) rfl,s1.ext (Y2.trans XJ)⟩⟩
  ·exact⟨h.next,0+1+1,v2,rfl,λJ XJ=>⟨LocE.sub (k:=2) (m:=1) (L2.ext XJ) rfl,s2.ext (Y2.trans XJ)⟩⟩
  ·exact⟨h.next,0+1+2,v3,rfl,λJ XJ=>⟨LocE.sub (k:=3) (m:=1) (L2.ext XJ) rfl,s3.ext (Y2.trans XJ)⟩⟩
  ·exact⟨h.next,0+1+3,v4,rfl,λJ XJ=>⟨LocE.sub (k:=4) (m:=1) (L2.ext XJ) rfl,s4.ext (Y2.trans XJ)⟩⟩
  ·exact⟨h.next,0+1+4,v5,rfl,λJ XJ=>⟨LocE.sub (k:=5) (m:=1) (L2.ext XJ) rfl,s5.ext (Y2.trans XJ)⟩⟩
  ·exact⟨h.next,0+1+5,v6,rfl,λJ XJ=>⟨LocE.sub (k:=6) (m:=1) (L2.ext XJ) rfl,s6.ext (Y2.trans XJ)⟩⟩
  ·omega
 refine W.k5 1 2 4 5 10 λT=> ?_;repeat refine W.g ?_
 refine W.k5 1 4 5 10 11 λT=> ?_
 refine W.loop (σ:=Nat) (λk tm h'=>tm.look 1= .str s/\tm.look 10= .agg ps/\tm.look 11= .int .i64 (k:Int)/\k<=7/\Ext h2 h'/\∀n m,n<k->lists[n]? =some m->¬0<=place m s) (λk=>7-k) ?_ (s:=0)
  ⟨rfl,by rw[hps];rfl,rfl,Nat.zero_le _,Ext.refl _,λn m hn=>by omega⟩
 rintro k tm h' ⟨w1,w10,w11,hk,X,hn⟩;obtain⟨T,rfl⟩:=Tm.t3 w1 w10 w11;clear w1 w10 w11;have hl7:lists.length=7:=by rw[hlists];rfl
 by_cases c1:k<7
 ·obtain⟨p,o,v,hpk,hv⟩:=fam k c1
  obtain⟨Lv,sv⟩:=hv h' X;obtain⟨l,hl⟩:∃l,l=lists.getD k []:=⟨_,rfl⟩;rw[<-hl]at sv;have hlk:lists[k]? =some l:=by rw[hl,hlists];rcases k with _|_|_|_|_|_|_|k<;>first|rfl|omega
  repeat refine W.g ?_
  refine W.ixv rfl rfl rfl rfl rfl rfl rfl rfl rfl (place_of (j:=k) rfl c1) hpk ?_;repeat refine W.g ?_
  refine W.call rfl rfl rfl (place_w s sv (sh l (by rw[<-hlists];exact List.mem_of_getElem? hlk)) ?_);by_cases c2:0<=place l s
  ·have e:w.names.find s=((k:Int),place l s):=by
     have:=findL_some (i:=0) hn hlk c2;rw[Int.zero_add]at this;rw[<-this,hlists];rfl
   rw[e]at q;repeat refine W.g ?_
   exact q _ (Y2.trans X)
  ·repeat refine W.g ?_
   exact⟨k+1,by show 7-(k+1)<7-k;omega,rfl,rfl,rfl,c1,X,λn m hm hl'=>by
    by_cases e:n=k
    ·rw[e,hlk]at hl';cases hl';exact c2
    ·exact hn n m (by omega) hl'⟩
 ·have e:w.names.find s=(0,0):=by
    unfold NamesD.find;rw[<-hlists]
    exact findL_none λn m hm=>hn n m (by
     have:=(List.getElem?_eq_some_iff.1 hm).1;omega) hm
  rw[e]at q;repeat refine W.g ?_
  exact q _ (Y2.trans X)
end
end Go.Proofs.YtmgpjfnlciapkaaGreatDoor
