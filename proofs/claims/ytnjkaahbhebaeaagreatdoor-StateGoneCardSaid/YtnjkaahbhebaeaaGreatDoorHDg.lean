/- A world of one's own stands in every memory that keeps its blocks; a row of one's own cut. No condition, no program. -/
import Derived.Test.YtnjkaahbhebaeaaGreatDoorHB
import Derived.Test.YtnjkaahbhebaeaaGreatDoorZB
import Derived.Test.YtnjkaahbhebaeaaGreatDoorXNa
import Derived.Test.YtnjkaahbhebaeaaGreatDoorZC
import Derived.Test.YtnjkaahbhebaeaaGreatDoorXU
import Derived.Test.YtnjkaahbhebaeaaGreatDoorYE
import Derived.Test.YtnjkaahbhebaeaaGreatDoorXZ
import Derived.Test.YtnjkaahbhebaeaaGreatDoorGN
import Derived.Test.YtnjkaahbhebaeaaGreatDoorMQ
import Derived.Test.YtnjkaahbhebaeaaGreatDoorGI
import Derived.Test.YtnjkaahbhebaeaaGreatDoorEH
set_option linter.unusedVariables false
set_option linter.unusedSimpArgs false
set_option maxRecDepth 100000
noncomputable section
namespace Go.CM.Tt
open Go.CM
theorem OwnWd.keep {h h':Heap} {lo:Nat} {hz m1 m2 m3 m4 m5 m6 p d vr t z:CV} {w:WorldD} (o:OwnWd h lo hz m1 m2 m3 m4 m5 m6 p d vr t z w) (hn:h.next<=h'.next) (hk:∀k,lo<=k->k<h.next->h'.get k=h.get k):OwnWd h' lo hz m1 m2 m3 m4 m5 m6 p d vr t z w:=by
 obtain⟨css,r1,r2⟩:=o.r
 have hl:=λk hm=>hk k (r2.lt k hm).1 (r2.lt k hm).2
 have g:=r2.keep hn hl
 exact⟨o.hz,css,r1.stay2 g (by simp) hn λk hm=>hl k (List.mem_append_right _ hm),g⟩
theorem OwnWd.ext {h h':Heap} {lo:Nat} {hz m1 m2 m3 m4 m5 m6 p d vr t z:CV} {w:WorldD} (o:OwnWd h lo hz m1 m2 m3 m4 m5 m6 p d vr t z w) (x:Ext h h'):OwnWd h' lo hz m1 m2 m3 m4 m5 m6 p d vr t z w:=by
 obtain⟨css,r1,r2⟩:=o.r
 exact⟨o.hz,css,r1.ext x,r2.ext x⟩
theorem OwnWd.low {h:Heap} {lo lo':Nat} {hz m1 m2 m3 m4 m5 m6 p d vr t z:CV} {w:WorldD} (o:OwnWd h lo hz m1 m2 m3 m4 m5 m6 p d vr t z w) (hl:lo'<=lo):OwnWd h lo' hz m1 m2 m3 m4 m5 m6 p d vr t z w:=by
 obtain⟨css,r1,r2⟩:=o.r
 exact⟨o.hz,css,r1.low hl,r2.low hl⟩
theorem OwnR.keepB {h h':Heap} {lo z:Nat} {v:CV} {l:List (List CV)} (o:OwnR h lo z v l) (hn:h.next<=h'.next) (hk:∀k,lo<=k->k<h.next->h'.get k=h.get k):OwnR h' lo z v l:=
 o.other hn λk h1 h2 _=>hk k h1 h2
/-- A row up to an element: what the cut is. -/
theorem OwnR.upto {h:Heap} {lo z:Nat} {v:CV} {l:List (List CV)} (o:OwnR h lo z v l) {k:Nat} (hk:k<l.length) {E:Env} {kk:IntKind} {s:TyS} {e:TypeId} (hkd:s.kind= .slice e) (hz:sizeOf? E e=some z):
  ∃i x,lo<=i/\i<h.next/\oSlice E (some s) v none (some (.int kk (k:Int))) none=some (.slice (some (i,0)) k l.length x)/\∀h':Heap,h.next<=h'.next->h'.get i=h.get i->SlG h' z (.slice (some (i,0)) k l.length x) (l.take k):=by
 rcases o with⟨rfl,_⟩|⟨i,x,ro,rfl,h1,h2,h3,h4,h5⟩
 ·simp at hk
 have hu:CM.upto (k:Int) l.length=some k:=upto_nat (by omega)
 have hx:(Nat.beq x 0||Nat.beq x z)=true:=by
  rcases h5 with h5|h5
  ·rw[h5.1];rfl
  ·rw[h5.1,Nat.beq_refl,Bool.or_true]
 obtain⟨n,hn⟩:∃n,l.length=n+1:=⟨l.length-1,by omega⟩
 refine⟨i,x,h1,h2,?_,λh' n' e'=> .inr (.inr ⟨i,0,l.length,x,l.flatten,ro,by rw[List.length_take,Nat.min_eq_left (by omega)],by omega,e'.trans h3,λj e he=> ?_,by rw[List.length_take];omega,h5.imp (λh=>h.1) λh=>h.1⟩)⟩
 ·rw[hn]at hu ⊢
  simp only[oSlice,hkd,hz,hiOf,loOf,hu,hx,sliceAtO]
  rw[Nat.zero_mul];rfl
 ·rw[List.getElem?_take]at he
  split at he
  ·exact⟨h4 e (List.mem_of_getElem? he),flat_cut h4 he⟩
  ·cases he
end Go.CM.Tt
namespace Go.CM
theorem W.slX {E:Env} {tm:Tm} {h:Heap} {Q:R->Prop} {all rest:List Oper} {o:Oper} {t:TypeId} {x y:Operand} {s:TyS} {v v':CV} (hgd:guardOn all tm o=some true) (hop:o.op= .slice t x none (some y) none) (hx:cvOf E.globs tm x=v) (hs:E.ty t=some s) (hv:oSlice E (some s) v none (some (cvOf E.globs tm y)) none=some v')
  (w:W E (.ops all rest) (putTmp tm o.dst v') h Q):W E (.ops all (o::rest)) tm h Q:=by
 refine W.op hgd (v:=v') (h1:=h) ?_ w
 unfold opAny
 rw[hop]
 show withH _ (oSlice E (E.ty t) (cvOf E.globs tm x) none (some (cvOf E.globs tm y)) none)=_
 rw[hs,hx,hv];rfl
end Go.CM

namespace Go.Proofs.YtnjkaahbhebaeaaGreatDoor
open Go Go.CM Go.CM.Tt
noncomputable section
set_option maxHeartbeats 8000000
theorem own_str {h:Heap} {tm:Tm} {Q:R->Prop} {v:CV} {l:List Str} (sl:Sl h v l) (hm:l.length<=1073741824)
  (q:∀h' v',Ext h h'->OwnR h' h.next 1 v' (l.map Flat.enc)->Q (.val v' h')):W E1 (.call (.fn 87 [] []) [v]) tm h Q:=by
 refine W.fn (s:=fnOf Tryz.f87) rfl rfl rfl rfl ?_
 have sg:=Sl.to_map Flat.iff sl
 have hlen:(l.map (Flat.enc:Str->List CV)).length=l.length:=List.length_map _
 repeat (first|refine W.g ?_|refine W.n λh_ X_ n_ g_ S_=> ?_)
 refine W.apR X_ (z:=1) (l:=[]) (l2:=l.map Flat.enc) (.inr ⟨h.next,0,false,rfl,Nat.le_refl _,by omega,g_,λe he=>(by cases he),.inl ⟨rfl,.inl rfl⟩⟩) (sg.ext X_) rfl rfl rfl rfl rfl rfl rfl rfl rfl rfl rfl rfl (by rw[hlen];show(0+l.length)*16<=_;omega) λv' h' X O=> ?_
 repeat refine W.g ?_
 exact q _ _ X O
theorem own_nt {h:Heap} {tm:Tm} {Q:R->Prop} {v:CV} {l:List Int} (sl:Sl h v l) (hm:l.length<=1073741824)
  (q:∀h' v',Ext h h'->OwnR h' h.next 1 v' (l.map Flat.enc)->Q (.val v' h')):W E1 (.call (.fn 88 [] []) [v]) tm h Q:=by
 refine W.fn (s:=fnOf Tryz.f88) rfl rfl rfl rfl ?_
 have sg:=Sl.to_map Flat.iff sl
 have hlen:(l.map (Flat.enc:Int->List CV)).length=l.length:=List.length_map _
 repeat (first|refine W.g ?_|refine W.n λh_ X_ n_ g_ S_=> ?_)
 refine W.apR X_ (z:=1) (l:=[]) (l2:=l.map Flat.enc) (.inr ⟨h.next,0,false,rfl,Nat.le_refl _,by omega,g_,λe he=>(by cases he),.inl ⟨rfl,.inl rfl⟩⟩) (sg.ext X_) rfl rfl rfl rfl rfl rfl rfl rfl rfl rfl rfl rfl (by rw[hlen];show(0+l.length)*8<=_;omega) λv' h' X O=> ?_
 repeat refine W.g ?_
 exact q _ _ X O
theorem own_pathW {h:Heap} {tm:Tm} {Q:R->Prop} {v:CV} {l:List PathW} (sl:Sl h v l) (hm:l.length<=1073741824)
  (q:∀h' v',Ext h h'->OwnR h' h.next 3 v' (l.map Flat.enc)->Q (.val v' h')):W E1 (.call (.fn 83 [] []) [v]) tm h Q:=by
 refine W.fn (s:=fnOf Tryz.f83) rfl rfl rfl rfl ?_
 have sg:=Sl.to_map Flat.iff sl
 have hlen:(l.map (Flat.enc:PathW->List CV)).length=l.length:=List.length_map _
 repeat (first|refine W.g ?_|refine W.n λh_ X_ n_ g_ S_=> ?_)
 refine W.apR X_ (z:=3) (l:=[]) (l2:=l.map Flat.enc) (.inr ⟨h.next,0,false,rfl,Nat.le_refl _,by omega,g_,λe he=>(by cases he),.inl ⟨rfl,.inl rfl⟩⟩) (sg.ext X_) rfl rfl rfl rfl rfl rfl rfl rfl rfl rfl rfl rfl (by rw[hlen];show(0+l.length)*24<=_;omega) λv' h' X O=> ?_
 repeat refine W.g ?_
 exact q _ _ X O
theorem own_doorW {h:Heap} {tm:Tm} {Q:R->Prop} {v:CV} {l:List DoorW} (sl:Sl h v l) (hm:l.length<=1073741824)
  (q:∀h' v',Ext h h'->OwnR h' h.next 6 v' (l.map Flat.enc)->Q (.val v' h')):W E1 (.call (.fn 84 [] []) [v]) tm h Q:=by
 refine W.fn (s:=fnOf Tryz.f84) rfl rfl rfl rfl ?_
 have sg:=Sl.to_map Flat.iff sl
 have hlen:(l.map (Flat.enc:DoorW->List CV)).length=l.length:=List.length_map _
 repeat (first|refine W.g ?_|refine W.n λh_ X_ n_ g_ S_=> ?_)
 refine W.apR X_ (z:=6) (l:=[]) (l2:=l.map Flat.enc) (.inr ⟨h.next,0,false,rfl,Nat.le_refl _,by omega,g_,λe he=>(by cases he),.inl ⟨rfl,.inl rfl⟩⟩) (sg.ext X_) rfl rfl rfl rfl rfl rfl rfl rfl rfl rfl rfl rfl (by rw[hlen];show(0+l.length)*48<=_;omega) λv' h' X O=> ?_
 repeat refine W.g ?_
 exact q _ _ X O
theorem own_tripW {h:Heap} {tm:Tm} {Q:R->Prop} {v:CV} {l:List TripW} (sl:Sl h v l) (hm:l.length<=1073741824)
  (q:∀h' v',Ext h h'->OwnR h' h.next 4 v' (l.map Flat.enc)->Q (.val v' h')):W E1 (.call (.fn 85 [] []) [v]) tm h Q:=by
 refine W.fn (s:=fnOf Tryz.f85) rfl rfl rfl rfl ?_
 have sg:=Sl.to_map Flat.iff sl
 have hlen:(l.map (Flat.enc:TripW->List CV)).length=l.length:=List.length_map _
 repeat (first|refine W.g ?_|refine W.n λh_ X_ n_ g_ S_=> ?_)
 refine W.apR X_ (z:=4) (l:=[]) (l2:=l.map Flat.enc) (.inr ⟨h.next,0,false,rfl,Nat.le_refl _,by omega,g_,λe he=>(by cases he),.inl ⟨rfl,.inl rfl⟩⟩) (sg.ext X_) rfl rfl rfl rfl rfl rfl rfl rfl rfl rfl rfl rfl (by rw[hlen];show(0+l.length)*32<=_;omega) λv' h' X O=> ?_
 repeat refine W.g ?_
 exact q _ _ X O
theorem own_hazW {h:Heap} {tm:Tm} {Q:R->Prop} {v:CV} {l:List HazW} (sl:Sl h v l) (hm:l.length<=1073741824)
  (q:∀h' v',Ext h h'->OwnR h' h.next 5 v' (l.map Flat.enc)->Q (.val v' h')):W E1 (.call (.fn 86 [] []) [v]) tm h Q:=by
 refine W.fn (s:=fnOf Tryz.f86) rfl rfl rfl rfl ?_
 have sg:=Sl.to_map Flat.iff sl
 have hlen:(l.map (Flat.enc:HazW->List CV)).length=l.length:=List.length_map _
 repeat (first|refine W.g ?_|refine W.n λh_ X_ n_ g_ S_=> ?_)
 refine W.apR X_ (z:=5) (l:=[]) (l2:=l.map Flat.enc) (.inr ⟨h.next,0,false,rfl,Nat.le_refl _,by omega,g_,λe he=>(by cases he),.inl ⟨rfl,.inl rfl⟩⟩) (sg.ext X_) rfl rfl rfl rfl rfl rfl rfl rfl rfl rfl rfl rfl (by rw[hlen];show(0+l.length)*40<=_;omega) λv' h' X O=> ?_
 repeat refine W.g ?_
 exact q _ _ X O
end
end Go.Proofs.YtnjkaahbhebaeaaGreatDoor

namespace Go.Proofs.YtnjkaahbhebaeaaGreatDoor
open Go Go.CM Go.CM.Tt
noncomputable section
set_option maxHeartbeats 16000000
set_option maxRecDepth 100000
theorem ownWorld_w {h:Heap} {tm:Tm} {Q:R->Prop} {cs:List CV} {w:WorldD} (r:Rp.R h cs w) (fr:Fresh h) (sh:w.small)
  (q:∀h' hz m1 m2 m3 m4 m5 m6 p d vr t z,Ext h h'->OwnWd h' h.next hz m1 m2 m3 m4 m5 m6 p d vr t z w->Q (.val (.agg [hz,m1,m2,m3,m4,m5,m6,p,d,vr,t,z]) h')):W E1 (.call (.fn 22 [] []) [.agg cs]) tm h Q:=by
 obtain⟨v1,v2,v3,v4,v5,v6,v7,v8,v9,v10,v11,rfl,s1,s2,s3,s4,s5,s6,s7,s8,s9,s10,s11⟩:=r
 obtain⟨f1,f2,f3,f4,f5,f6,f7,f8,f9,f10,f11,fr2⟩:=sh
 refine W.fn (s:=fnOf Tryz.f22) rfl rfl rfl rfl ?_
 repeat (refine W.seq ?_)
 refine W.region ?_
 refine W.box rfl rfl rfl λHa Xa na ga La=> ?_
 refine W.al rfl rfl rfl λH0 X0 n0 g0 L0=> ?_
 clear L0
 have L1:=La.ext X0
 have Xh0:Ext h H0:=Xa.trans X0
 have g0:H0.get Ha.next=some (.cells [.int .i64 0,.slice none 0 0 0,.slice none 0 0 0,.slice none 0 0 0,.slice none 0 0 0,.slice none 0 0 0,.slice none 0 0 0,.slice none 0 0 0,.slice none 0 0 0,.slice none 0 0 0,.slice none 0 0 0,.slice none 0 0 0] false):=g0
 repeat (first|refine W.g ?_|refine W.m λh_ X_ n_ g_ L_=> ?_)
 obtain⟨H,rfl⟩:∃H,H=h_:=⟨_,rfl⟩
 have Ln:LocE H H0.next 0 [v1,v2,v3,v4,v5,v6]:=L_
 have L1:=L1.ext X_
 have Xh:Ext h H:=Xh0.trans X_
 have g0:=(X_.old Ha.next (by omega)).trans g0
 have nH:H.next=H0.next+1:=n_
 clear L_ g_ n_
 refine W.k3 1 2 3 λT=> ?_
 have ds:=DX.start (Xh.fr fr)
 repeat (first|refine W.gd ?_|refine W.e λr_ h_ ds_ s_=> ?_)
 have X1:=ds_.x
 have nx1:=X1.next
 refine W.dcallZ ds_ rfl rfl rfl rfl (own_pathW (s7.ext (Xh.trans X1)) (by omega) λh1 z1 Y1 O1=>DZ.val Y1 λr1 h1' ds1 s1'=> ?_)
 have i1:=OwnR.ids O1
 have j1:=Y1.next
 have k1:=s1'.next
 have O1:=(O1.low (lo':=Ha.next+1) (by omega)).ext s1'.ext
 obtain⟨p1,m1,c1,y1,ee1⟩:=O1.form
 rw[ee1]
 clear ds_ ds
 repeat (first|refine W.gd ?_|refine W.e λr_ h_ ds_ s_=> ?_)
 have kk2:=s_.next
 have X2:=ds_.x
 have nx2:=X2.next
 refine W.dcallZ ds_ rfl rfl rfl rfl (own_doorW (s8.ext (Xh.trans X2)) (by omega) λh2 z2 Y2 O2=>DZ.val Y2 λr2 h2' ds2 s2'=> ?_)
 have i2:=OwnR.ids O2
 have j2:=Y2.next
 have k2:=s2'.next
 have O1:=((O1.ext s_.ext).ext Y2).ext s2'.ext
 have O2:=(O2.low (lo':=Ha.next+1) (by omega)).ext s2'.ext
 obtain⟨p2,m2,c2,y2,ee2⟩:=O2.form
 rw[ee2]
 clear ds_ ds1
 repeat (first|refine W.gd ?_|refine W.e λr_ h_ ds_ s_=> ?_)
 have kk3:=s_.next
 have X3:=ds_.x
 have nx3:=X3.next
 refine W.dcallZ ds_ rfl rfl rfl rfl (own_tripW (s10.ext (Xh.trans X3)) (by omega) λh3 z3 Y3 O3=>DZ.val Y3 λr3 h3' ds3 s3'=> ?_)
 have i3:=OwnR.ids O3
 have j3:=Y3.next
 have k3:=s3'.next
 have O1:=((O1.ext s_.ext).ext Y3).ext s3'.ext
 have O2:=((O2.ext s_.ext).ext Y3).ext s3'.ext
 have O3:=(O3.low (lo':=Ha.next+1) (by omega)).ext s3'.ext
 obtain⟨p3,m3,c3,y3,ee3⟩:=O3.form
 rw[ee3]
 clear ds_ ds2
 repeat (first|refine W.gd ?_|refine W.e λr_ h_ ds_ s_=> ?_)
 have kk4:=s_.next
 have X4:=ds_.x
 have nx4:=X4.next
 refine W.dcallZ ds_ rfl rfl rfl rfl (own_hazW (s11.ext (Xh.trans X4)) (by omega) λh4 z4 Y4 O4=>DZ.val Y4 λr4 h4' ds4 s4'=> ?_)
 have i4:=OwnR.ids O4
 have j4:=Y4.next
 have k4:=s4'.next
 have O1:=((O1.ext s_.ext).ext Y4).ext s4'.ext
 have O2:=((O2.ext s_.ext).ext Y4).ext s4'.ext
 have O3:=((O3.ext s_.ext).ext Y4).ext s4'.ext
 have O4:=(O4.low (lo':=Ha.next+1) (by omega)).ext s4'.ext
 obtain⟨p4,m4,c4,y4,ee4⟩:=O4.form
 rw[ee4]
 clear ds_ ds3
 repeat refine W.gd ?_
 rw[<-ee1,<-ee2,<-ee3,<-ee4]
 have X5:=ds4.x
 have nx5:=X5.next
 refine W.dalZ ds4 rfl rfl rfl λr6 G ds6 x6 n6 g6=> ?_
 have X7:=ds6.x
 have nx7:=X7.next
 refine W.dst (vs:=[.int .i64 w.hz,.slice none 0 0 0,.slice none 0 0 0,.slice none 0 0 0,.slice none 0 0 0,.slice none 0 0 0,.slice none 0 0 0,z1,z2,.slice none 0 0 0,z3,z4]) (cs':=[.int .i64 w.hz,.slice none 0 0 0,.slice none 0 0 0,.slice none 0 0 0,.slice none 0 0 0,.slice none 0 0 0,.slice none 0 0 0,z1,z2,.slice none 0 0 0,z3,z4]) ds6.hri rfl rfl rfl rfl rfl rfl rfl g6 rfl λr7 K hr7 s7'=> ?_
 have gK:K.get h4'.next=some (.cells [.int .i64 w.hz,.slice none 0 0 0,.slice none 0 0 0,.slice none 0 0 0,.slice none 0 0 0,.slice none 0 0 0,.slice none 0 0 0,z1,z2,.slice none 0 0 0,z3,z4] false):=by rw[s7'.get,put_same]
 have XK:Ext h4' K:=(x6.put (Nat.le_refl _) (by omega) _).trans s7'.ext
 have nK:K.next=h4'.next+1:=by rw[s7'.next];exact n6
 repeat refine W.gd ?_
 obtain⟨b4,hb4⟩:∃b4,b4=h4'.next:=⟨_,rfl⟩
 rw[<-hb4]at gK nK ⊢
 have XHK:Ext H K:=X5.trans XK
 have XhK:Ext h K:=Xh.trans XHK
 have nHK:=XHK.next
 have gr:=(XHK.old Ha.next (by omega)).trans g0
 have L1H:=L1
 have L1:=L1.ext XHK
 have Ln:=Ln.ext XHK
 have O1:=O1.ext XK
 have O2:=O2.ext XK
 have O3:=O3.ext XK
 have O4:=O4.ext XK
 clear ds6 ds4 g6 ga
 refine W.k4 1 2 3 4 λT=> ?_
 repeat refine W.g ?_
 have ds:=DX.start (XhK.fr fr)
 repeat (first|refine W.gd ?_|refine W.e λr_ h_ ds_ s_=> ?_)
 have X11:=ds_.x
 have nx11:=X11.next
 refine W.dcallZ ds_ rfl rfl rfl rfl (own_str (s1.ext (XhK.trans X11)) (by omega) λh11 z11 Y11 O11=>DZ.val Y11 λr11 h11' ds11 s11'=> ?_)
 have i11:=OwnR.ids O11
 have j11:=Y11.next
 have k11:=s11'.next
 have O11:=(O11.low (lo':=Ha.next+1) (by omega)).ext s11'.ext
 obtain⟨p11,m11,c11,y11,ee11⟩:=O11.form
 rw[ee11]
 clear ds_ ds
 repeat (first|refine W.gd ?_|refine W.e λr_ h_ ds_ s_=> ?_)
 have kk12:=s_.next
 have X12:=ds_.x
 have nx12:=X12.next
 refine W.dcallZ ds_ rfl rfl rfl rfl (own_str (s2.ext (XhK.trans X12)) (by omega) λh12 z12 Y12 O12=>DZ.val Y12 λr12 h12' ds12 s12'=> ?_)
 have i12:=OwnR.ids O12
 have j12:=Y12.next
 have k12:=s12'.next
 have O11:=((O11.ext s_.ext).ext Y12).ext s12'.ext
 have O12:=(O12.low (lo':=Ha.next+1) (by omega)).ext s12'.ext
 obtain⟨p12,m12,c12,y12,ee12⟩:=O12.form
 rw[ee12]
 clear ds_ ds11
 repeat (first|refine W.gd ?_|refine W.e λr_ h_ ds_ s_=> ?_)
 have kk13:=s_.next
 have X13:=ds_.x
 have nx13:=X13.next
 refine W.dcallZ ds_ rfl rfl rfl rfl (own_str (s3.ext (XhK.trans X13)) (by omega) λh13 z13 Y13 O13=>DZ.val Y13 λr13 h13' ds13 s13'=> ?_)
 have i13:=OwnR.ids O13
 have j13:=Y13.next
 have k13:=s13'.next
 have O11:=((O11.ext s_.ext).ext Y13).ext s13'.ext
 have O12:=((O12.ext s_.ext).ext Y13).ext s13'.ext
 have O13:=(O13.low (lo':=Ha.next+1) (by omega)).ext s13'.ext
 obtain⟨p13,m13,c13,y13,ee13⟩:=O13.form
 rw[ee13]
 clear ds_ ds12
 repeat (first|refine W.gd ?_|refine W.e λr_ h_ ds_ s_=> ?_)
 have kk14:=s_.next
 have X14:=ds_.x
 have nx14:=X14.next
 refine W.dcallZ ds_ rfl rfl rfl rfl (own_str (s4.ext (XhK.trans X14)) (by omega) λh14 z14 Y14 O14=>DZ.val Y14 λr14 h14' ds14 s14'=> ?_)
 have i14:=OwnR.ids O14
 have j14:=Y14.next
 have k14:=s14'.next
 have O11:=((O11.ext s_.ext).ext Y14).ext s14'.ext
 have O12:=((O12.ext s_.ext).ext Y14).ext s14'.ext
 have O13:=((O13.ext s_.ext).ext Y14).ext s14'.ext
 have O14:=(O14.low (lo':=Ha.next+1) (by omega)).ext s14'.ext
 obtain⟨p14,m14,c14,y14,ee14⟩:=O14.form
 rw[ee14]
 clear ds_ ds13
 repeat (first|refine W.gd ?_|refine W.e λr_ h_ ds_ s_=> ?_)
 have kk15:=s_.next
 have X15:=ds_.x
 have nx15:=X15.next
 refine W.dcallZ ds_ rfl rfl rfl rfl (own_str (s5.ext (XhK.trans X15)) (by omega) λh15 z15 Y15 O15=>DZ.val Y15 λr15 h15' ds15 s15'=> ?_)
 have i15:=OwnR.ids O15
 have j15:=Y15.next
 have k15:=s15'.next
 have O11:=((O11.ext s_.ext).ext Y15).ext s15'.ext
 have O12:=((O12.ext s_.ext).ext Y15).ext s15'.ext
 have O13:=((O13.ext s_.ext).ext Y15).ext s15'.ext
 have O14:=((O14.ext s_.ext).ext Y15).ext s15'.ext
 have O15:=(O15.low (lo':=Ha.next+1) (by omega)).ext s15'.ext
 obtain⟨p15,m15,c15,y15,ee15⟩:=O15.form
 rw[ee15]
 clear ds_ ds14
 repeat (first|refine W.gd ?_|refine W.e λr_ h_ ds_ s_=> ?_)
 have kk16:=s_.next
 have X16:=ds_.x
 have nx16:=X16.next
 refine W.dcallZ ds_ rfl rfl rfl rfl (own_str (s6.ext (XhK.trans X16)) (by omega) λh16 z16 Y16 O16=>DZ.val Y16 λr16 h16' ds16 s16'=> ?_)
 have i16:=OwnR.ids O16
 have j16:=Y16.next
 have k16:=s16'.next
 have O11:=((O11.ext s_.ext).ext Y16).ext s16'.ext
 have O12:=((O12.ext s_.ext).ext Y16).ext s16'.ext
 have O13:=((O13.ext s_.ext).ext Y16).ext s16'.ext
 have O14:=((O14.ext s_.ext).ext Y16).ext s16'.ext
 have O15:=((O15.ext s_.ext).ext Y16).ext s16'.ext
 have O16:=(O16.low (lo':=Ha.next+1) (by omega)).ext s16'.ext
 obtain⟨p16,m16,c16,y16,ee16⟩:=O16.form
 rw[ee16]
 clear ds_ ds15
 repeat refine W.gd ?_
 rw[<-ee11,<-ee12,<-ee13,<-ee14,<-ee15,<-ee16]
 have X17:=ds16.x
 have nx17:=X17.next
 refine W.dst (vs:=[z11,z12,z13,z14,z15,z16]) (cs':=[.int .i64 w.hz,z11,z12,z13,z14,z15,z16,z1,z2,.slice none 0 0 0,z3,z4]) ds16.hri rfl rfl rfl rfl rfl rfl rfl ((X17.old b4 (by omega)).trans gK) rfl λr8 P hr8 s8'=> ?_
 have gP:P.get b4=some (.cells [.int .i64 w.hz,z11,z12,z13,z14,z15,z16,z1,z2,.slice none 0 0 0,z3,z4] false):=by rw[s8'.get,put_same]
 have nP:P.next=h16'.next:=s8'.next
 have kP:∀k,k≠b4->P.get k=h16'.get k:=λk hk=>by rw[s8'.get,Heap.get_put,if_neg (Ne.symm hk)]
 repeat refine W.gd ?_
 have XHP:Ext H P:=Ext.store (XHK.trans X17) nP kP (by omega) (by omega)
 have o1:OwnR P (Ha.next+1) 3 z1 (w.paths.map Flat.enc):=(O1.ext X17).other (by omega) λk _ _ hk=>kP k (by have:=(i1 k (by rw[hk];simp)).2;omega)
 have o2:OwnR P (Ha.next+1) 6 z2 (w.doors.map Flat.enc):=(O2.ext X17).other (by omega) λk _ _ hk=>kP k (by have:=(i2 k (by rw[hk];simp)).2;omega)
 have o3:OwnR P (Ha.next+1) 4 z3 (w.trips.map Flat.enc):=(O3.ext X17).other (by omega) λk _ _ hk=>kP k (by have:=(i3 k (by rw[hk];simp)).2;omega)
 have o4:OwnR P (Ha.next+1) 5 z4 (w.hazards.map Flat.enc):=(O4.ext X17).other (by omega) λk _ _ hk=>kP k (by have:=(i4 k (by rw[hk];simp)).2;omega)
 have o11:OwnR P (Ha.next+1) 1 z11 (w.names.stops.map Flat.enc):=O11.other (by omega) λk _ _ hk=>kP k (by have:=(i11 k (by rw[hk];simp)).1;omega)
 have o12:OwnR P (Ha.next+1) 1 z12 (w.names.paths.map Flat.enc):=O12.other (by omega) λk _ _ hk=>kP k (by have:=(i12 k (by rw[hk];simp)).1;omega)
 have o13:OwnR P (Ha.next+1) 1 z13 (w.names.doors.map Flat.enc):=O13.other (by omega) λk _ _ hk=>kP k (by have:=(i13 k (by rw[hk];simp)).1;omega)
 have o14:OwnR P (Ha.next+1) 1 z14 (w.names.routes.map Flat.enc):=O14.other (by omega) λk _ _ hk=>kP k (by have:=(i14 k (by rw[hk];simp)).1;omega)
 have o15:OwnR P (Ha.next+1) 1 z15 (w.names.trips.map Flat.enc):=O15.other (by omega) λk _ _ hk=>kP k (by have:=(i15 k (by rw[hk];simp)).1;omega)
 have o16:OwnR P (Ha.next+1) 1 z16 (w.names.hazards.map Flat.enc):=O16.other (by omega) λk _ _ hk=>kP k (by have:=(i16 k (by rw[hk];simp)).1;omega)
 have GF0:OwnGB P (Ha.next+1) (Ha.next+1) []:=OwnGB.nil
 have GF1:=GF0.more o1 i1 (by omega) (by omega)
 have GF2:=GF1.more o2 i2 (by omega) (by omega)
 have GF3:=GF2.more o3 i3 (by omega) (by omega)
 have GF4:=GF3.more o4 i4 (by omega) (by omega)
 have GF5:=GF4.more o11 i11 (by omega) (by omega)
 have GF6:=GF5.more o12 i12 (by omega) (by omega)
 have GF7:=GF6.more o13 i13 (by omega) (by omega)
 have GF8:=GF7.more o14 i14 (by omega) (by omega)
 have GF9:=GF8.more o15 i15 (by omega) (by omega)
 have GF10:=GF9.more o16 i16 (by omega) (by omega)
 have GF:OwnG P (Ha.next+1) (flatW w z1 z2 z3 z4 z11 z12 z13 z14 z15 z16) []:=GF10.1
 have GFb:∀k∈idsR (flatW w z1 z2 z3 z4 z11 z12 z13 z14 z15 z16),k<P.next:=λk hk=>(GF.lt k (List.mem_append_left _ hk)).2
 have GFn:∀k∈idsR (flatW w z1 z2 z3 z4 z11 z12 z13 z14 z15 z16),k≠b4:=λk hk=>by
  have hk:k∈idOf z1++(idOf z2++(idOf z3++(idOf z4++(idOf z11++(idOf z12++(idOf z13++(idOf z14++(idOf z15++(idOf z16++[]))))))))):=hk
  simp only[List.mem_append,List.not_mem_nil,or_false]at hk
  rcases hk with hk|hk|hk|hk|hk|hk|hk|hk|hk|hk
  ·have:=(i1 k hk).2;omega
  ·have:=(i2 k hk).2;omega
  ·have:=(i3 k hk).2;omega
  ·have:=(i4 k hk).2;omega
  ·have:=(i11 k hk).1;omega
  ·have:=(i12 k hk).1;omega
  ·have:=(i13 k hk).1;omega
  ·have:=(i14 k hk).1;omega
  ·have:=(i15 k hk).1;omega
  ·have:=(i16 k hk).1;omega
 have b4P:b4<P.next:=by omega
 have b4H:H.next<=b4:=by omega
 have haH:Ha.next<H.next:=by omega
 clear GF0 GF1 GF2 GF3 GF4 GF5 GF6 GF7 GF8 GF9 GF10 o1 o2 o3 o4 o11 o12 o13 o14 o15 o16 O1 O2 O3 O4 O11 O12 O13 O14 O15 O16 i1 i2 i3 i4 i11 i12 i13 i14 i15 i16 X17 gK kP ds16 hr8 s8' XHK
 refine W.k3 1 2 4 λT=> ?_
 repeat refine W.g ?_
 refine W.k4 1 2 4 5 λT=> ?_
 have s9:=s9.ext Xh
 clear L1 Ln La
 refine W.loop (σ:=Nat) (λk tm h'=>tm.look 1= .ptr (some (h.next,0))/\tm.look 2= .ptr (some (Ha.next,0))/\tm.look 4= .ptr (some (b4,0))/\tm.look 5= .int .i64 (k:Int)/\k<=w.routes.length/\Ext H h'/\P.next<=h'.next/\(∀a,a<P.next->a≠b4->h'.get a=P.get a)/\∃vr css,h'.get b4=some (.cells [.int .i64 w.hz,z11,z12,z13,z14,z15,z16,z1,z2,vr,z3,z4] false)/\OwnRws h' H.next vr css (w.routes.take k)/\(idsIn css++idOf vr).Nodup/\∀a∈idsIn css++idOf vr,P.next<=a) (λk=>w.routes.length-k) ?_ (s:=0)
  ⟨rfl,rfl,rfl,rfl,Nat.zero_le _,XHP,Nat.le_refl _,λ_ _ _=>rfl,_,[],gP,⟨OwnR.nil,rfl,λj e d he=>by simp at he⟩,by simp[idsIn,idOf],λa ha=>by simp[idsIn,idOf]at ha⟩
 rintro k tm h' ⟨w1,w2,w4,w5,hk,X,nX,kX,vr,css,gb,O,nd,hi⟩
 obtain⟨T,rfl⟩:=Tm.t4 w1 w2 w4 w5
 clear w1 w2 w4 w5
 have vne:idOf vr≠[b4]:=λe=>by have:=hi b4 (by rw[e];simp);omega
 have vlt:=OwnR.ids O.1
 by_cases c1:k<w.routes.length
 ·repeat refine W.g ?_
  refine W.ixR s9 c1 rfl rfl rfl rfl rfl rfl rfl λi_ o_ e L_ re_=> ?_
  have hlen:=Rp.len re_
  obtain⟨e1',e2',e3',rfl,pe1,pe2,pe3⟩:=re_
  repeat (first|refine W.g ?_|refine W.m λh_ X_ n_ g_ L_=> ?_)
  obtain⟨M,rfl⟩:∃M,M=h_:=⟨_,rfl⟩
  have L3:LocE M b4 0 [.int .i64 w.hz,z11,z12,z13,z14,z15,z16,z1,z2,vr,z3,z4]:=⟨_,_,(X_.old b4 (by omega)).trans gb,by omega,rfl⟩
  have XM:Ext H M:=X.trans X_
  have nM:M.next=h'.next+1:=n_
  have sm:=fr2 _ (List.getElem_mem c1)
  have OM:=O.ext X_
  have kM:∀a,a<P.next->a≠b4->M.get a=P.get a:=λa h1 h2=>(X_.old a (by omega)).trans (kX a h1 h2)
  clear g_ n_
  have ds:=DX.start (XM.fr (Xh.fr fr))
  repeat (first|refine W.gd ?_|refine W.e λr_ h_ ds_ s_=> ?_)
  have X1:=ds_.x
  have nx1:=X1.next
  refine W.dcallZ ds_ rfl rfl rfl rfl (own_nt (pe1.ext (XM.trans X1)) (by omega) λg1 y1 Y1 R1=>DZ.val Y1 λq1 g1' ds1 t1=> ?_)
  have i1:=OwnR.ids R1
  have j1:=Y1.next
  have k1:=t1.next
  have R1:=(R1.low (lo':=H.next) (by have:=XM.next;omega)).ext t1.ext
  obtain⟨p1,m1,c1',x1,ee1⟩:=R1.form
  rw[ee1]
  clear ds_ ds
  repeat (first|refine W.gd ?_|refine W.e λr_ h_ ds_ s_=> ?_)
  have kk2:=s_.next
  have R1:=R1.ext s_.ext
  have X2:=ds_.x
  have nx2:=X2.next
  refine W.dcallZ ds_ rfl rfl rfl rfl (own_int (pe2.ext (XM.trans X2)) (by omega) λg2 y2 Y2 R2=>DZ.val Y2 λq2 g2' ds2 t2=> ?_)
  have i2:=OwnR.ids R2
  have j2:=Y2.next
  have k2:=t2.next
  have R1:=(R1.ext Y2).ext t2.ext
  have R2:=(R2.low (lo':=H.next) (by have:=XM.next;omega)).ext t2.ext
  obtain⟨p2,m2,c2',x2,ee2⟩:=R2.form
  rw[ee2]
  clear ds_ ds1
  repeat (first|refine W.gd ?_|refine W.e λr_ h_ ds_ s_=> ?_)
  have kk3:=s_.next
  have R1:=R1.ext s_.ext
  have R2:=R2.ext s_.ext
  have X3:=ds_.x
  have nx3:=X3.next
  refine W.dcallZ ds_ rfl rfl rfl rfl (own_int (pe3.ext (XM.trans X3)) (by omega) λg3 y3 Y3 R3=>DZ.val Y3 λq3 g3' ds3 t3=> ?_)
  have i3:=OwnR.ids R3
  have j3:=Y3.next
  have k3:=t3.next
  have R1:=(R1.ext Y3).ext t3.ext
  have R2:=(R2.ext Y3).ext t3.ext
  have R3:=(R3.low (lo':=H.next) (by have:=XM.next;omega)).ext t3.ext
  obtain⟨p3,m3,c3',x3,ee3⟩:=R3.form
  rw[ee3]
  clear ds_ ds2
  repeat refine W.gd ?_
  rw[<-ee1,<-ee2,<-ee3]
  have OE:OwnRW g3' H.next [y1,y2,y3] w.routes[k]:=⟨_,_,_,rfl,R1,R2,R3⟩
  have nd2:(idsOf [y1,y2,y3]).Nodup:=by
   show(idOf y1++(idOf y2++(idOf y3++[]))).Nodup
   rw[List.append_nil]
   refine nodup_behind (n:=g1.next) (OwnR.idNodup _) (λa ha=>(i1 a ha).2) (nodup_behind (n:=g2.next) (OwnR.idNodup _) (λa ha=>(i2 a ha).2) (OwnR.idNodup _) (λb hb=>by have:=(i3 b hb).1;omega)) (λb hb=> ?_)
   rcases List.mem_append.1 hb with hb|hb
   ·have:=(i2 b hb).1;omega
   ·have:=(i3 b hb).1;omega
  have OEi:∀a∈idsOf [y1,y2,y3],M.next<=a/\a<g3'.next:=λa ha=>by
   have ha:a∈idOf y1++(idOf y2++(idOf y3++[])):=ha
   simp only[List.mem_append,List.not_mem_nil,or_false]at ha
   rcases ha with ha|ha|ha
   ·have:=i1 a ha;omega
   ·have:=i2 a ha;omega
   ·have:=i3 a ha;omega
  refine W.dnewZ ds3 rfl rfl rfl rfl λq4 g4 ds4 x4 n4 gg4=> ?_
  have gg4:g4.get g3'.next=some (.cells [y1,y2,y3] false):=gg4
  have XF:=ds4.x
  have nXF:=XF.next
  have S_:SlG g4 3 (.slice (some (g3'.next,0)) 1 1 0) [[y1,y2,y3]]:=SlG.one (by omega) gg4
  have hcl:css.length=k:=by rw[O.2.1,List.length_take];omega
  refine W.apD (H:=H) (z:=3) ds4.hri (XM.trans XF) (OM.1.ext XF) S_ rfl rfl rfl rfl rfl rfl rfl rfl rfl rfl rfl rfl rfl (by
   simp only[List.length_cons,List.length_nil]
   show _*72<=_
   omega) λq5 v' g5 hr5 X5 n5 k5 O5 _ i5=> ?_
  have i5:=i5 (by simp)
  have gb5:g5.get b4=some (.cells [.int .i64 w.hz,z11,z12,z13,z14,z15,z16,z1,z2,vr,z3,z4] false):=(k5 b4 (by omega) (.inr vne)).trans ((XF.old b4 (by omega)).trans ((X_.old b4 (by omega)).trans gb))
  obtain⟨pv,nv,cv,xv,ev⟩:=O5.form
  have hcells:v'.cells=some [v']:=by rw[ev];rfl
  rw[ev]
  repeat refine W.gd ?_
  rw[<-ev]
  refine W.dst (vs:=[v']) (cs':=[.int .i64 w.hz,z11,z12,z13,z14,z15,z16,z1,z2,v',z3,z4]) hr5 rfl rfl rfl rfl hcells rfl rfl gb5 rfl λq6 g6 hr6 s6'=> ?_
  have gb6:g6.get b4=some (.cells [.int .i64 w.hz,z11,z12,z13,z14,z15,z16,z1,z2,v',z3,z4] false):=by rw[s6'.get,put_same]
  have n6:g6.next=g5.next:=s6'.next
  have kk6:∀k,k≠b4->g6.get k=g5.get k:=λk hk=>by rw[s6'.get,Heap.get_put,if_neg (Ne.symm hk)]
  have X6:Ext H g6:=Ext.store X5 n6 kk6 (by omega) (by omega)
  repeat refine W.gd ?_
  repeat refine W.g ?_
  have nnd:=List.nodup_append.1 nd
  have hout:∀a,a<g4.next->a≠b4->a∉idOf vr->g6.get a=g4.get a:=λa h1 h2 h3=>(kk6 a h2).trans (k5 a h1 (.inr λe=>h3 (by rw[e];simp)))
  refine⟨k+1,lessN c1,rfl,rfl,rfl,rfl,c1,X6,by omega,λa h1 h2=>(hout a (by omega) h2 λhv=>by have:=hi a (List.mem_append_right _ hv);omega).trans ((XF.old a (by omega)).trans (kM a h1 h2)),v',css++[[y1,y2,y3]],gb6,⟨O5.other (Nat.le_of_eq n6.symm) λa _ _ ha=>kk6 a (λe=> ?_),by rw[List.length_append,hcl,List.length_take];simp;omega,λj e d he hd=> ?_⟩,?_,?_⟩
  ·rw[i5]at ha
   have:g4.next=a:=by simpa using ha
   omega
  ·by_cases hj:j<k
   ·rw[List.getElem?_append_left (by omega)]at he
    have hd2:(w.routes.take k)[j]? =some d:=by
     rw[List.getElem?_take,if_pos hj]
     rw[List.getElem?_take,if_pos (by omega)]at hd
     exact hd
    have o:=(OM.2.2 j e d he hd2).ext XF
    refine o.other (by omega) λa ha=>hout a ?_ ?_ ?_
    ·have:=(o.ids a ha).2;omega
    ·have:=hi a (List.mem_append_left _ (List.mem_flatMap.2 ⟨e,List.mem_of_getElem? he,ha⟩));omega
    ·exact λhv=>nnd.2.2 a (List.mem_flatMap.2 ⟨e,List.mem_of_getElem? he,ha⟩) a hv rfl
   ·have hj2:j=k:=by
      have:=(List.getElem?_eq_some_iff.1 he).1
      simp only[List.length_append,List.length_cons,List.length_nil]at this
      omega
    subst hj2
    rw[List.getElem?_append_right (by omega),hcl,Nat.sub_self]at he
    have he:[y1,y2,y3]=e:=by simpa using he
    subst he
    rw[List.getElem?_take,if_pos (by omega),List.getElem?_eq_getElem c1]at hd
    have hd:=Option.some.inj hd
    subst hd
    have o:=OE.ext x4
    refine o.other (by omega) λa ha=>hout a ?_ ?_ ?_
    ·have:=(OEi a ha).2;omega
    ·have:=(OEi a ha).1;omega
    ·intro hv
     have:=(vlt a hv).2
     have:=(OEi a ha).1
     omega
  ·rw[i5]
   show(List.flatMap idsOf (css++[_])++_).Nodup
   rw[List.flatMap_append,List.append_assoc]
   refine nodup_behind (n:=h'.next) nnd.1 (λa ha=>(O.idsI a ha).2) (nodup_behind (n:=g4.next) (by simpa using nd2) (λa ha=> ?_) (by simp) (λb hb=>by rw[List.mem_singleton.1 hb];exact Nat.le_refl _)) (λb hb=> ?_)
   ·have:=(OEi a (by simpa using ha)).2;omega
   ·rcases List.mem_append.1 hb with hb|hb
    ·have:=(OEi b (by simpa using hb)).1;omega
    ·rw[List.mem_singleton.1 hb];omega
  ·intro a ha
   rw[i5]at ha
   have ha:a∈List.flatMap idsOf (css++[_])++_:=ha
   rw[List.flatMap_append]at ha
   simp only[List.mem_append]at ha
   rcases ha with(ha|ha)|ha
   ·exact hi a (List.mem_append_left _ ha)
   ·have:=(OEi a (by simpa using ha)).1;omega
   ·rw[List.mem_singleton.1 ha];omega
 ·have ek:k=w.routes.length:=by omega
  have L3:LocE h' b4 0 [.int .i64 w.hz,z11,z12,z13,z14,z15,z16,z1,z2,vr,z3,z4]:=⟨_,_,gb,by omega,rfl⟩
  repeat refine W.g ?_
  refine W.stn (vs:=[.int .i64 w.hz,z11,z12,z13,z14,z15,z16,z1,z2,vr,z3,z4]) (cs':=[.int .i64 w.hz,z11,z12,z13,z14,z15,z16,z1,z2,vr,z3,z4]) rfl rfl rfl rfl rfl rfl ((X.old Ha.next haH).trans g0) rfl λK2 nx gk kx=> ?_
  repeat refine W.g ?_
  refine BodyQ.cell1 rfl rfl gk rfl rfl ?_
  have nX':=X.next
  have nHa:h.next<=Ha.next:=by omega
  rw[ek,List.take_length]at O
  have vlt:=OwnR.ids O.1
  have oi:=O.idsI
  have OK2:OwnRws K2 H.next vr css w.routes:=O.other (by omega) λa ha=>kx a (by
   rcases List.mem_append.1 ha with ha|ha
   ·have:=(vlt a ha).1;omega
   ·have:=(oi a ha).1;omega)
  have GK:OwnG K2 (Ha.next+1) (flatW w z1 z2 z3 z4 z11 z12 z13 z14 z15 z16) []:=GF.keep (by omega) λa ha=>by
   have h1:=GF.lt a ha
   rw[List.append_nil]at ha
   rw[kx a (by omega)]
   exact kX a (GFb a ha) (GFn a ha)
  refine q K2 _ _ _ _ _ _ _ _ _ _ _ _ (Ext.store (Xh.trans X) nx kx nHa (by omega)) ⟨rfl,css,OK2.low (by omega),⟨λr hr=> ?_,?_,λa ha=> ?_⟩⟩
  ·rcases List.mem_append.1 hr with hr|hr
   ·exact(GK.o r hr).low (by omega)
   ·rw[List.mem_singleton.1 hr];exact OK2.1.low (by omega)
  ·have hnd:=List.nodup_append.1 nd
   have e:idsR (flatW w z1 z2 z3 z4 z11 z12 z13 z14 z15 z16++[(3,vr,css)])++idsIn css=idsR (flatW w z1 z2 z3 z4 z11 z12 z13 z14 z15 z16)++(idOf vr++idsIn css):=by
    unfold idsR
    rw[List.flatMap_append,List.append_assoc]
    simp
   rw[e]
   have g1:=GK.nd
   rw[List.append_nil]at g1
   refine nodup_behind (n:=P.next) g1 GFb (List.nodup_append.2 ⟨hnd.2.1,hnd.1,λa ha b hb e=>hnd.2.2 b hb a ha e.symm⟩) (λb hb=>hi b ?_)
   rcases List.mem_append.1 hb with hb|hb
   ·exact List.mem_append_right _ hb
   ·exact List.mem_append_left _ hb
  ·have:=oi a ha
   exact⟨by omega,by omega⟩
end
end Go.Proofs.YtnjkaahbhebaeaaGreatDoor

namespace Go.Proofs.YtnjkaahbhebaeaaGreatDoor
open Go Go.CM Go.CM.Tt
noncomputable section
set_option maxHeartbeats 16000000
set_option maxRecDepth 100000
theorem own_late {h:Heap} {tm:Tm} {Q:R->Prop} {v:CV} {l:List LateD} (sl:Sl h v l) (hm:l.length<=1048576)
  (q:∀h' v',Ext h h'->OwnR h' h.next 4 v' (l.map Flat.enc)->Q (.val v' h')):W E1 (.call (.fn 105 [] []) [v]) tm h Q:=by
 refine W.fn (s:=fnOf Tryz.f105) rfl rfl rfl rfl ?_
 have sg:=Sl.to_map Flat.iff sl
 have hlen:(l.map (Flat.enc:LateD->List CV)).length=l.length:=List.length_map _
 repeat (first|refine W.g ?_|refine W.n λh_ X_ n_ g_ S_=> ?_)
 refine W.apR X_ (z:=4) (l:=[]) (l2:=l.map Flat.enc) (.inr ⟨h.next,0,false,rfl,Nat.le_refl _,by omega,g_,λe he=>(by cases he),.inl ⟨rfl,.inl rfl⟩⟩) (sg.ext X_) rfl rfl rfl rfl rfl rfl rfl rfl rfl rfl rfl rfl (by rw[hlen];show(0+l.length)*32<=_;omega) λv' h' X O=> ?_
 repeat refine W.g ?_
 exact q _ _ X O
theorem own_id {h:Heap} {tm:Tm} {Q:R->Prop} {v:CV} {l:List (Int×Int)} (sl:Sl h v l) (hm:l.length<=1048576)
  (q:∀h' v',Ext h h'->OwnR h' h.next 2 v' (l.map Flat.enc)->Q (.val v' h')):W E1 (.call (.fn 106 [] []) [v]) tm h Q:=by
 refine W.fn (s:=fnOf Tryz.f106) rfl rfl rfl rfl ?_
 have sg:=Sl.to_map Flat.iff sl
 have hlen:(l.map (Flat.enc:(Int×Int)->List CV)).length=l.length:=List.length_map _
 repeat (first|refine W.g ?_|refine W.n λh_ X_ n_ g_ S_=> ?_)
 refine W.apR X_ (z:=2) (l:=[]) (l2:=l.map Flat.enc) (.inr ⟨h.next,0,false,rfl,Nat.le_refl _,by omega,g_,λe he=>(by cases he),.inl ⟨rfl,.inl rfl⟩⟩) (sg.ext X_) rfl rfl rfl rfl rfl rfl rfl rfl rfl rfl rfl rfl (by rw[hlen];show(0+l.length)*16<=_;omega) λv' h' X O=> ?_
 repeat refine W.g ?_
 exact q _ _ X O
theorem ownState_w {h:Heap} {tm:Tm} {Q:R->Prop} {cs:List CV} {s:StateD} (ss:Rp.R h cs s) (fr:Fresh h) (sm:s.w.small) (hl:s.late.length<=1048576) (hg:s.gone.length<=1048576)
  (q:∀h' hz m1 m2 m3 m4 m5 m6 p d vr t z vl vg,Ext h h'->(∀M:Heap,h'.next<=M.next->(∀k,h.next<=k->k<h'.next->M.get k=h'.get k)->OwnWd M h.next hz m1 m2 m3 m4 m5 m6 p d vr t z s.w/\OwnR M h.next 4 vl (s.late.map Flat.enc)/\OwnR M h.next 2 vg (s.gone.map Flat.enc))->Q (.val (.agg [hz,m1,m2,m3,m4,m5,m6,p,d,vr,t,z,vl,vg]) h')):W E1 (.call (.fn 37 [] []) [.agg cs]) tm h Q:=by
 obtain⟨a1,a2,a3,a4,a5,a6,a7,a8,a9,a10,a11,vl,vg,rfl,rw0,t1,t2⟩:=ss
 refine W.fn (s:=fnOf Tryz.f37) rfl rfl rfl rfl ?_
 repeat (refine W.seq ?_)
 refine W.region ?_
 refine W.box rfl rfl rfl λH1 X1 n1 g1 L1=> ?_
 refine W.al rfl rfl rfl λH2 X2 n2 g2 L2=> ?_
 have g2:H2.get H1.next=some (.cells [.int .i64 0,.slice none 0 0 0,.slice none 0 0 0,.slice none 0 0 0,.slice none 0 0 0,.slice none 0 0 0,.slice none 0 0 0,.slice none 0 0 0,.slice none 0 0 0,.slice none 0 0 0,.slice none 0 0 0,.slice none 0 0 0,.slice none 0 0 0,.slice none 0 0 0] false):=g2
 have L1:=L1.ext X2
 have X:=X1.trans X2
 clear L2
 repeat refine W.g ?_
 have ds:=DX.start (X.fr fr)
 repeat (first|refine W.gd ?_|refine W.e λr_ h_ ds_ s_=> ?_)
 have X3:=X.trans ds_.x
 have hA:=ds_.x.next
 refine W.dcallZ ds_ rfl rfl rfl rfl (ownWorld_w (Rp.ext X3 rw0) (X3.fr fr) sm λh4 hz m1 m2 m3 m4 m5 m6 p d vr t z X4 o4=>DZ.val X4 λr4 n4 ds4 t4=> ?_)
 repeat (first|refine W.gd ?_|refine W.e λr_ h_ ds_ s_=> ?_)
 have sA:=s_
 have X5:=X.trans ds_.x
 have hB:=ds_.x.next
 refine W.dcallZ ds_ rfl rfl rfl rfl (own_late (t1.ext X5) hl λh6 ul X6 o6=>DZ.val X6 λr6 n6 ds6 t6=> ?_)
 repeat (first|refine W.gd ?_|refine W.e λr_ h_ ds_ s_=> ?_)
 have sB:=s_
 have X7:=X.trans ds_.x
 have hC:=ds_.x.next
 refine W.dcallZ ds_ rfl rfl rfl rfl (own_id (t2.ext X7) hg λh8 ug X8 o8=>DZ.val X8 λr8 n8 ds8 t8=> ?_)
 have e8:=t8.ext
 have e6:=(t6.ext.trans sB.ext).trans (X8.trans e8)
 have e4:=(t4.ext.trans sA.ext).trans (X6.trans e6)
 have x8:=ds8.x
 have nx:=x8.next
 have N4:=(X3.trans X4).next
 have lo4:=X3.next
 have lo6:=X5.next
 have lo8:=X7.next
 have o8:=o8.ext e8
 have o6:=o6.ext e6
 have g28:=(x8.old H1.next (by omega)).trans g2
 have O4:OwnWd n8 H2.next hz m1 m2 m3 m4 m5 m6 p d vr t z s.w:=(o4.low (lo':=H2.next) hA).ext e4
 have o6:=o6.low (lo':=H2.next) hB
 have o8:=o8.low (lo':=H2.next) hC
 obtain⟨p6,l6,c6,y6,rfl⟩:=o6.form
 obtain⟨p8,l8,c8,y8,rfl⟩:=o8.form
 obtain rfl:=o4.hz
 repeat refine W.gd ?_
 refine W.dst (vs:=[.int .i64 s.w.hz,m1,m2,m3,m4,m5,m6,p,d,vr,t,z,.slice p6 l6 c6 y6,.slice p8 l8 c8 y8]) (cs':=[.int .i64 s.w.hz,m1,m2,m3,m4,m5,m6,p,d,vr,t,z,.slice p6 l6 c6 y6,.slice p8 l8 c8 y8]) ds8.hri rfl rfl rfl rfl rfl rfl rfl g28 rfl λq9 N hr9 s9=> ?_
 try refine W.dv ?_
 repeat refine W.g ?_
 have gN:N.get H1.next=some (.cells [.int .i64 s.w.hz,m1,m2,m3,m4,m5,m6,p,d,vr,t,z,.slice p6 l6 c6 y6,.slice p8 l8 c8 y8] false):=by rw[s9.get,put_same]
 have kN:∀k,k≠H1.next->N.get k=n8.get k:=λk hk=>by rw[s9.get,Heap.get_put,if_neg (Ne.symm hk)]
 have nN:N.next=n8.next:=s9.next
 refine BodyQ.cell1 rfl rfl gN rfl rfl ?_
 refine q N _ m1 m2 m3 m4 m5 m6 p d vr t z _ _ (Ext.store (X.trans x8) nN kN (by omega) (by omega)) λM hn hk=> ?_
 have kM:∀k,H2.next<=k->k<n8.next->M.get k=n8.get k:=λk h1 h2=>(hk k (by omega) (by omega)).trans (kN k (by omega))
 exact⟨(O4.keep (by omega) kM).low (by omega),(Tt.OwnR.keepB o6 (by omega) kM).low (by omega),(Tt.OwnR.keepB o8 (by omega) kM).low (by omega)⟩
end
end Go.Proofs.YtnjkaahbhebaeaaGreatDoor

namespace Go.Proofs.YtnjkaahbhebaeaaGreatDoor
open Go Go.CM Go.CM.Tt
noncomputable section
set_option maxHeartbeats 16000000
theorem eq_id {d e:Int×Int}:∃b:Bool,(∀h,withH h ((eqT E1 20 94 (.agg (winE d)) (.agg (winE e))).map .bool)=some (.bool b,h))/\(b=true↔d=e):=by
 refine⟨(decide (d.1=e.1)&&(decide (d.2=e.2)&&true)),λh=> ?_,?_⟩
 ·rw[show eqT E1 20 94 (.agg (winE d)) (.agg (winE e))=some (decide (d.1=e.1)&&(decide (d.2=e.2)&&true))from by
   refine eqSt rfl ?_
   exact eqFs rfl rfl rfl (eqI rfl) (eqFs rfl rfl rfl (eqI rfl) rfl)];rfl
 ·rcases d with⟨a,b⟩
  rcases e with⟨a',b'⟩
  simp
theorem idIndex_w {h:Heap} {tm:Tm} {Q:R->Prop} {v:CV} {l:List (Int×Int)} (s:Sl h v l) (hm:l.length<=1099511627776) (id:Int×Int) (fr:Fresh h)
  (q:∀h' r,Ext h h'->(0<=r↔id∈l)->Q (.val (.int .i64 r) h')):W E1 (.call (.fn 182 [] []) [v,.agg [.int .i64 id.1,.int .i64 id.2]]) tm h Q:=by
 refine W.fn (s:=fnOf Tryz.f182) rfl rfl rfl rfl ?_
 repeat (refine W.seq ?_)
 refine W.region ?_
 refine W.box rfl rfl rfl λH1 X1 n1 g1 L1=> ?_
 repeat refine W.g ?_
 refine W.k4 0 3 7 8 λT=> ?_
 refine W.loop (σ:=Nat) (λk tm h'=>Ext H1 h'/\tm.look 0=v/\tm.look 3= .ptr (some (h.next,0))/\tm.look 7= .int .i64 (l.length:Int)/\tm.look 8= .int .i64 (k:Int)/\k<=l.length/\id∉l.take k) (λk=>l.length-k) ?_ (s:=0)
  ⟨Ext.refl _,rfl,rfl,rfl,rfl,Nat.zero_le _,by simp⟩
 rintro k tm h' ⟨X,w0,w3,w7,w8,hk,hn⟩
 obtain⟨T,rfl⟩:=Tm.t4 w0 w3 w7 w8
 clear w0 w3 w7 w8
 have XX:=X1.trans X
 by_cases c1:k<l.length
 ·repeat refine W.g ?_
  have ds:=DX.start (XX.fr fr)
  repeat (first|refine W.gd ?_|refine W.e λr_ h_ ds_ s_=> ?_)
  refine W.dixF s c1 rfl rfl rfl rfl rfl rfl rfl λi1 o1 M1=> ?_
  repeat refine W.e λr_ h_ ds_ s_=> ?_
  obtain⟨b,hb,he⟩:=eq_id (d:=id) (e:=l[k])
  refine W.dopn rfl rfl (hb _) rfl ?_
  by_cases d1:id=l[k]
  ·obtain rfl:b=true:=he.2 d1
   repeat refine W.gd ?_
   repeat refine W.g ?_
   exact q _ _ (XX.trans ds_.x) (Iff.intro (λ_=>by rw[d1];exact List.getElem_mem c1) (λ_=>by omega))
  ·obtain rfl:b=false:=by
     cases b
     ·rfl
     ·exact absurd (he.1 rfl) d1
   repeat refine W.gd ?_
   repeat refine W.g ?_
   refine⟨k+1,lessN c1,X.trans ds_.x,rfl,rfl,rfl,rfl,c1,λhmem=> ?_⟩
   rw[List.take_add_one,List.getElem?_eq_getElem c1,List.mem_append]at hmem
   rcases hmem with hmem|hmem
   ·exact hn hmem
   ·exact d1 (by simpa using hmem)
 ·repeat refine W.g ?_
  rw[show k=l.length by omega,List.take_length]at hn
  exact q _ (-1) XX (Iff.intro (λh=>by omega) (λh=>absurd h hn))
theorem idHas_w {h:Heap} {tm:Tm} {Q:R->Prop} {v:CV} {l:List (Int×Int)} (s:Sl h v l) (hm:l.length<=1099511627776) (id:Int×Int) (fr:Fresh h)
  (q:∀h' (b:Bool),Ext h h'->(b=true↔id∈l)->Q (.val (.bool b) h')):W E1 (.call (.fn 113 [] []) [v,.agg [.int .i64 id.1,.int .i64 id.2]]) tm h Q:=by
 refine W.fn (s:=fnOf Tryz.f113) rfl rfl rfl rfl ?_
 repeat (refine W.seq ?_)
 refine W.region ?_
 refine W.box rfl rfl rfl λH1 X1 n1 g1 L1=> ?_
 repeat refine W.g ?_
 refine W.call rfl rfl rfl (idIndex_w (s.ext X1) hm id (X1.fr fr) λh2 r X2 hr=> ?_)
 by_cases c:0<=r
 ·repeat refine W.g ?_
  exact q _ true (X1.trans X2) (Iff.intro (λ_=>hr.1 c) (λ_=>rfl))
 ·repeat refine W.g ?_
  exact q _ false (X1.trans X2) (Iff.intro (λh=>by cases h) (λh=>absurd (hr.2 h) c))
theorem gone_w {h:Heap} {tm:Tm} {Q:R->Prop} {cs:List CV} {s:StateD} (ss:Rp.R h cs s) (hm:s.gone.length<=1099511627776) (id:Int×Int) (fr:Fresh h)
  (q:∀h' (b:Bool),Ext h h'->(b=true↔id∈s.gone)->Q (.val (.bool b) h')):W E1 (.call (.fn 43 [] []) [.agg cs,.agg [.int .i64 id.1,.int .i64 id.2]]) tm h Q:=by
 obtain⟨a1,a2,a3,a4,a5,a6,a7,a8,a9,a10,a11,vl,vg,rfl,_,s1,s2⟩:=ss
 refine W.fn (s:=fnOf Tryz.f43) rfl rfl rfl rfl ?_
 repeat (refine W.seq ?_)
 refine W.region ?_
 refine W.box rfl rfl rfl λH1 X1 n1 g1 L1=> ?_
 refine W.box rfl rfl rfl λH2 X2 n2 g2 L2=> ?_
 have L1:=L1.ext X2
 have X:=X1.trans X2
 repeat refine W.g ?_
 refine W.call rfl rfl rfl (idHas_w (s2.ext X) hm id (X.fr fr) λh3 b X3 hb=> ?_)
 repeat refine W.g ?_
 exact q _ b (X.trans X3) hb
end
end Go.Proofs.YtnjkaahbhebaeaaGreatDoor

noncomputable section
namespace Go.CM.Tt
open Go.CM
instance:DecidableRel ltG:=λa b=>inferInstanceAs (Decidable (_\/_))
/-- An ID put where it belongs. -/
def insG (x:Int×Int):List (Int×Int)->List (Int×Int)
 |[]=>[x]
 |a::r=>if ltG x a then x::a::r else a::insG x r
theorem insG_mem {x y:Int×Int}:∀{l:List (Int×Int)},y∈insG x l↔y=x\/y∈l
 |[]=>by simp[insG]
 |a::r=>by
  unfold insG
  split
  ·simp
  ·rw[List.mem_cons,insG_mem,List.mem_cons]
   exact Iff.intro (λh=>h.elim (λh=> .inr (.inl h)) (λh=>h.elim .inl (λh=> .inr (.inr h)))) (λh=>h.elim (λh=> .inr (.inl h)) (λh=>h.elim .inl (λh=> .inr (.inr h))))
theorem insG_app {x:Int×Int} {m:List (Int×Int)}:∀{l:List (Int×Int)},(∀a∈l,¬ltG x a)->insG x (l++m)=l++insG x m
 |[],_=>rfl
 |a::r,h=>by
  show insG x (a::(r++m))=a::(r++insG x m)
  rw[show insG x (a::(r++m))=a::insG x (r++m)from if_neg (h a (by simp)),insG_app λb hb=>h b (List.mem_cons_of_mem _ hb)]
theorem insG_len {x:Int×Int}:∀{l:List (Int×Int)},(insG x l).length=l.length+1
 |[]=>rfl
 |a::r=>by
  unfold insG
  split
  ·rfl
  ·rw[List.length_cons,insG_len,List.length_cons]
theorem insG_in {x:Int×Int} {m:List (Int×Int)}:∀{l:List (Int×Int)},(∃a∈l,ltG x a)->insG x (l++m)=insG x l++m
 |[],h=>by obtain⟨a,ha,_⟩:=h;simp at ha
 |a::r,h=>by
  show insG x (a::(r++m))=insG x (a::r)++m
  by_cases c:ltG x a
  ·rw[show insG x (a::(r++m))=x::a::(r++m)from if_pos c,show insG x (a::r)=x::a::r from if_pos c];rfl
  ·rw[show insG x (a::(r++m))=a::insG x (r++m)from if_neg c,show insG x (a::r)=a::insG x r from if_neg c,insG_in]
   ·rfl
   ·obtain⟨b,hb,hc⟩:=h
    rcases List.mem_cons.1 hb with rfl|hb
    ·exact absurd hc c
    ·exact⟨b,hb,hc⟩
theorem ltG_tot {a b:Int×Int} (h:¬ltG a b) (ne:a≠b):ltG b a:=by
 unfold ltG at*
 have:¬(a.1=b.1/\a.2=b.2):=λh=>ne (Prod.ext h.1 h.2)
 omega
theorem ltG_irr {a:Int×Int}:¬ltG a a:=by unfold ltG;omega
theorem sortG_cons {a:Int×Int} {l:List (Int×Int)}:SortG (a::l)↔(∀b∈l,ltG a b)/\SortG l:=by
 constructor
 ·intro h
  refine⟨λb hb=> ?_,λm n v w hmn h1 h2=>h (m+1) (n+1) v w (by omega) h1 h2⟩
  obtain⟨i,hi⟩:=List.getElem?_of_mem hb
  exact h 0 (i+1) a b (by omega) rfl hi
 ·rintro⟨h1,h2⟩ m n v w hmn e1 e2
  cases n with
  |zero=>omega
  |succ n=>
   cases m with
   |zero=>
    have e1:a=v:=Option.some.inj e1
    rw[<-e1]
    exact h1 w (List.mem_of_getElem? e2)
   |succ m=>exact h2 m n v w (by omega) e1 e2
theorem insG_sort {x:Int×Int}:∀{l:List (Int×Int)},SortG l->x∉l->SortG (insG x l)
 |[],_,_=>sortG_cons.2 ⟨λb hb=>by simp at hb,λm n v w _ h1 _=>by simp at h1⟩
 |a::r,h,hx=>by
  have⟨h1,h2⟩:=sortG_cons.1 h
  unfold insG
  by_cases c:ltG x a
  ·rw[if_pos c]
   refine sortG_cons.2 ⟨λb hb=> ?_,h⟩
   rcases List.mem_cons.1 hb with rfl|hb
   ·exact c
   ·exact c.trans (h1 b hb)
  ·rw[if_neg c]
   refine sortG_cons.2 ⟨λb hb=> ?_,insG_sort h2 (λhm=>hx (List.mem_cons_of_mem _ hm))⟩
   rcases insG_mem.1 hb with rfl|hb
   ·exact ltG_tot c (λe=>hx (by rw[e];simp))
   ·exact h1 b hb
/-- IDs of a world's runs are different. -/
theorem runsT_id {w:WorldD} {j n:Nat} {x:RunD} (h:x∈w.runsT j n):x.trip=(j:Int):=by
 obtain⟨no,hn,rfl⟩:=List.mem_map.1 h
 rfl
theorem runs_nodup {w:WorldD}:∀k:Nat,((w.runs k).map RunD.id).Nodup
 |0=>List.nodup_nil
 |k+1=>by
  show((w.runs k++w.runsT k (w.cntAt k).toNat).map RunD.id).Nodup
  rw[List.map_append,List.nodup_append]
  refine⟨runs_nodup k,?_,λa ha b hb e=> ?_⟩
  ·unfold WorldD.runsT
   rw[List.map_map]
   refine List.Pairwise.map _ (λa b hab=> ?_) (List.nodup_range)
   intro e
   have e:(a:Int)=(b:Int):=congrArg Prod.snd e
   exact hab (by omega)
  ·obtain⟨x,hx,rfl⟩:=List.mem_map.1 ha
   obtain⟨y,hy,rfl⟩:=List.mem_map.1 hb
   obtain⟨j,no,hj,_,rfl⟩:=runs_mem _ hx
   have h1:(j:Int)=y.trip:=congrArg Prod.fst e
   have h2:=runsT_id hy
   omega
theorem filter_erase {α β:Type} [DecidableEq β] {f:α->β}:∀{l:List α} {i:Nat} (h:i<l.length),(l.map f).Nodup->l.filter (λx=>decide (f x≠f l[i]))=l.take i++l.drop (i+1)
 |[],_,h,_=>by simp at h
 |a::r,0,_,nd=>by
  rw[List.map_cons,List.nodup_cons]at nd
  show(a::r).filter (λx=>decide (f x≠f a))=r
  rw[List.filter_cons_of_neg (by simp)]
  exact List.filter_eq_self.2 λx hx=>decide_eq_true λe=>nd.1 (List.mem_map.2 ⟨x,hx,e⟩)
 |a::r,i+1,h,nd=>by
  have hi:i<r.length:=by simpa using h
  rw[List.map_cons,List.nodup_cons]at nd
  show(a::r).filter (λx=>decide (f x≠f r[i]))=a::(r.take i++r.drop (i+1))
  have h1:f a≠f r[i]:=λe=>nd.1 (List.mem_map.2 ⟨r[i],List.getElem_mem hi,e.symm⟩)
  rw[List.filter_cons_of_pos (p:=λx=>decide (f x≠f r[i])) (decide_eq_true h1),filter_erase hi nd.2]
/-- A run more is gone. -/
def StateD.without (s:StateD) (x:Int×Int):StateD:=⟨s.w,s.late,insG x s.gone⟩
theorem StateD.without_ok {s:StateD} {x:Int×Int} (l:s.LateOk) (g:s.GoneOk) (hx:(s.w.oneX x.1 x.2).2=0) (hn:x∉s.gone):(s.without x).LateOk/\(s.without x).GoneOk:=
 ⟨l,insG_sort g.1 hn,λy hy=>(insG_mem.1 hy).elim (λe=>by rw[e];exact hx) (g.2 y)⟩
theorem StateD.without_goes {s:StateD} {i:Nat} (h:i<s.goes0.length):(s.without s.goes0[i].id).goes=s.goes.take i++s.goes.drop (i+1):=by
 have e0:(s.without s.goes0[i].id).goes0=s.goes0.take i++s.goes0.drop (i+1):=by
  rw[<-filter_erase (f:=RunD.id) h ((List.filter_sublist.map _).nodup (runs_nodup _))]
  show List.filter _ (s.w.runs s.w.trips.length)=List.filter _ (List.filter _ _)
  rw[List.filter_filter]
  refine List.filter_congr λx _=> ?_
  show decide (x.id∉insG s.goes0[i].id s.gone)=(decide (x.id≠s.goes0[i].id)&&decide (x.id∉s.gone))
  rw[<-Bool.decide_and,decide_eq_decide,insG_mem]
  exact Iff.intro (λh=>⟨λe=>h (.inl e),λe=>h (.inr e)⟩) (λh e=>e.elim h.1 h.2)
 have e1:∀t:StateD,t.goes=t.goes0.map t.asIs:=λt=>rfl
 rw[e1,e0,e1,List.map_append,List.map_take,List.map_drop]
 rfl
theorem StateD.goes0_not {s:StateD} {i:Nat} (h:i<s.goes0.length):s.goes0[i].id∉s.gone:=of_decide_eq_true (List.mem_filter.1 (List.getElem_mem h)).2
end Go.CM.Tt

noncomputable section
namespace Go.CM
section
variable {E:Env} {tm:Tm} {H h:Heap} {Q:R->Prop} {all rest:List Oper} {o:Oper} {bs:List Bits} {recs:List Rec} {i:Nat} {idx nr:List Nat}
/-- A row up to an element. -/
theorem slice_upto {z:Nat} {v:CV} {l:List (List CV)} {k:Nat} {kk:IntKind} {s:TyS} {e:TypeId} (sl:SlG h z v l) (hk:k<=l.length) (hkd:s.kind= .slice e) (hz:sizeOf? E e=some z):
  ∃v',oSlice E (some s) v none (some (.int kk (k:Int))) none=some v'/\SlG h z v' (l.take k):=by
 rcases sl with⟨rfl,rfl⟩|⟨rfl,rfl⟩|⟨i,o,c,x,cs,ro,rfl,h2,h3,h4,h5,h6⟩
 ·have:k=0:=by simpa using hk
  subst this
  exact⟨.slice none 0 0 0,by simp only[oSlice,hkd,hz,hiOf,loOf];rfl,.inl ⟨rfl,rfl⟩⟩
 ·have:k=0:=by simpa using hk
  subst this
  exact⟨.empty,by simp only[oSlice,hkd,hz,hiOf,loOf];rfl,.inr (.inl ⟨rfl,rfl⟩)⟩
 ·have hu:upto (k:Int) c=some k:=upto_nat (by omega)
  have hx:(Nat.beq x 0||Nat.beq x z)=true:=by
   rcases h6 with rfl|rfl
   ·rfl
   ·rw[Nat.beq_refl,Bool.or_true]
  have hlt:(l.take k).length=k:=by rw[List.length_take];omega
  have h4':∀(j:Nat) (e:List CV),(l.take k)[j]? =some e->l[j]? =some e:=λj e he=>by
   rw[List.getElem?_take]at he
   split at he
   ·exact he
   ·cases he
  cases c with
  |zero=>
   have k0:k=0:=by omega
   have l0:l=[]:=List.length_eq_zero_iff.1 (by omega)
   subst k0 l0
   cases x with
   |zero=>exact⟨.slice (some (i,o)) 0 0 0,by simp only[oSlice,hkd,hz,hiOf,loOf];rfl,.inr (.inr ⟨i,o,0,0,cs,ro,rfl,h2,h3,λj e he=>by simp at he,Nat.zero_le _,.inl rfl⟩)⟩
   |succ y=>exact⟨.slice (some (i,o)) 0 0 (y+1),by simp only[oSlice,hkd,hz,hiOf,loOf];rfl,.inr (.inr ⟨i,o,0,y+1,cs,ro,rfl,h2,h3,λj e he=>by simp at he,Nat.zero_le _,h6⟩)⟩
  |succ c=>
   refine⟨.slice (some (i,o)) k (c+1) x,?_,.inr (.inr ⟨i,o,c+1,x,cs,ro,by rw[hlt],h2,h3,λj e he=>h4 j e (h4' j e he),by omega,h6⟩)⟩
   simp only[oSlice,hkd,hz,hiOf,loOf,hu,hx,sliceAtO]
   rw[Nat.zero_mul];rfl
theorem W.dsl {t:TypeId} {x:Operand} {lo hi:Option Operand} {s:TyS} {v v':CV} (hgd:guardOn all tm o=some true) (hop:o.op= .slice t x lo hi none) (hx:cvOf E.globs tm x=v) (hs:E.ty t=some s) (hv:oSlice E (some s) v (lo.map (cvOf E.globs tm)) (hi.map (cvOf E.globs tm)) none=some v') (hfp:fpAny E o tm=[])
  (w:W E (.draw bs all rest (i+1) recs) (putTmp tm o.dst v') h Q):W E (.draw bs all (o::rest) i recs) tm h Q:=by
 refine W.dop hgd hfp (v:=v') ?_ w
 unfold opAny
 rw[hop]
 show withH _ (oSlice E (E.ty t) (cvOf E.globs tm x) _ _ none)=_
 rw[hs,hx]
 rw[hv];rfl
theorem W.dslu {z:Nat} {h0:Heap} {v:CV} {l:List (List CV)} {k:Nat} {kk:IntKind} {t e:TypeId} {x y:Operand} {s:TyS} (sl:SlG h0 z v l) (hk:k<=l.length) (hgd:guardOn all tm o=some true) (hop:o.op= .slice t x none (some y) none) (hx:cvOf E.globs tm x=v) (hy:cvOf E.globs tm y= .int kk (k:Int)) (hs:E.ty t=some s) (hkd:s.kind= .slice e) (hz:sizeOf? E e=some z)
  (w:∀v',SlG h0 z v' (l.take k)->W E (.draw bs all rest (i+1) recs) (putTmp tm o.dst v') h Q):W E (.draw bs all (o::rest) i recs) tm h Q:=by
 obtain⟨v',h1,h2⟩:=slice_upto (E:=E) (kk:=kk) sl hk hkd hz
 exact W.dsl hgd hop hx hs (by show oSlice E (some s) v none (some (cvOf E.globs tm y)) none=_;rw[hy];exact h1) (by unfold fpAny;rw[hop];rfl) (w v' h2)
theorem W.dslf {z:Nat} {h0:Heap} {v:CV} {l:List (List CV)} {k:Nat} {kk:IntKind} {t e:TypeId} {x y:Operand} {s:TyS} (sl:SlG h0 z v l) (hk:k<=l.length) (hgd:guardOn all tm o=some true) (hop:o.op= .slice t x (some y) none none) (hx:cvOf E.globs tm x=v) (hy:cvOf E.globs tm y= .int kk (k:Int)) (hs:E.ty t=some s) (hkd:s.kind= .slice e) (hz:sizeOf? E e=some z)
  (w:∀v',SlG h0 z v' (l.drop k)->W E (.draw bs all rest (i+1) recs) (putTmp tm o.dst v') h Q):W E (.draw bs all (o::rest) i recs) tm h Q:=by
 obtain⟨v',h1,h2⟩:=slice_from (E:=E) (kk:=kk) sl hk hkd hz
 exact W.dsl hgd hop hx hs (by show oSlice E (some s) v (some (cvOf E.globs tm y)) none none=_;rw[hy];exact h1) (by unfold fpAny;rw[hop];rfl) (w v' h2)
end
end Go.CM

namespace Go.Proofs.YtnjkaahbhebaeaaGreatDoor
open Go Go.CM Go.CM.Tt
noncomputable section
set_option maxHeartbeats 16000000
set_option maxRecDepth 100000
theorem pick_w {h:Heap} {tm:Tm} {Q:R->Prop} (n:Int) (m:Nat) (hm:1<=m) (hm2:m<=1099511627776) (q:∀k:Nat,k<m->Q (.val (.int .i64 (k:Int)) h)):W E1 (.call (.fn 41 [] []) [.int .i64 n,.int .i64 (Int.ofNat m)]) tm h Q:=by
 obtain⟨j,rfl⟩:∃j,m=j+1:=⟨m-1,by omega⟩
 have hj:Int.ofNat (j+1)=(j:Int)+1:=rfl
 have h1:n.tmod (Int.ofNat (j+1))<Int.ofNat (j+1):=Int.tmod_lt_of_pos n (by omega)
 have h2: -Int.ofNat (j+1)<n.tmod (Int.ofNat (j+1)):=Int.lt_tmod_of_pos n (by omega)
 refine W.fn (s:=fnOf Tryz.f41) rfl rfl rfl rfl ?_
 try refine W.vv ?_
 rw[decide_eq_false (by omega:¬Int.ofNat (j+1)<1)]
 refine W.cond (x:=false) rfl (λhc=>by cases hc) (λ_=> ?_)
 try refine W.vv ?_
 by_cases c:n.tmod (Int.ofNat (j+1))<0
 ·rw[decide_eq_true c]
  refine W.cond (x:=true) rfl (λ_=> ?_) (λhc=>by cases hc)
  try refine W.vv ?_
  obtain⟨k,hk⟩:∃k:Nat,n.tmod (Int.ofNat (j+1))+Int.ofNat (j+1)=(k:Int):=⟨(n.tmod (Int.ofNat (j+1))+Int.ofNat (j+1)).toNat,by omega⟩
  have q:=q k (by omega)
  rw[<-hk]at q
  exact q
 ·rw[decide_eq_false c]
  refine W.cond (x:=false) rfl (λhc=>by cases hc) (λ_=> ?_)
  try refine W.vv ?_
  obtain⟨k,hk⟩:∃k:Nat,n.tmod (Int.ofNat (j+1))=(k:Int):=⟨(n.tmod (Int.ofNat (j+1))).toNat,by omega⟩
  have q:=q k (by omega)
  rw[<-hk]at q
  exact q
theorem runE_w {h:Heap} {tm:Tm} {Q:R->Prop} {cs:List CV} {s:StateD} {id:Int×Int} (ss:Rp.R h cs s) (rh:RH h) (fr:Fresh h) (sm:s.w.small) (sl:s.w.whole->s.w.told.slim) (hg:s.gone.length<=1048576) (ok:s.Ok) (h1:(s.w.oneX id.1 id.2).2=0)
  (q:∀h' rs,Ext h h'->Rp.R h' rs (s.runX id).1->Q (.val (.tup [.agg rs,.int .i64 0]) h')):W E1 (.call (.fn 42 [] []) [.agg cs,.agg [.int .i64 id.1,.int .i64 id.2]]) tm h Q:=by
 have ss0:=ss
 obtain⟨a1,a2,a3,a4,a5,a6,a7,a8,a9,a10,a11,vl,vg,rfl,rw0,t1,t2⟩:=ss
 have ok0:=ok
 obtain⟨c,tk,hmany,⟨ls,la,lr⟩,_⟩:=ok
 have htr:s.w.trips.length<=1048576:=sm.2.2.2.2.2.2.2.2.2.1
 refine W.fn (s:=fnOf Tryz.f42) rfl rfl rfl rfl ?_
 repeat (refine W.seq ?_)
 refine W.region ?_
 refine W.box rfl rfl rfl λH1 X1 n1 g1 L1=> ?_
 refine W.box rfl rfl rfl λH2 X2 n2 g2 L2=> ?_
 refine W.al rfl rfl rfl λH3 X3 n3 g3 L3=> ?_
 have g3:H3.get H2.next=some (.cells [.int .i64 0,.int .i64 0,.slice none 0 0 0,.slice none 0 0 0] false):=g3
 have X:=(X1.trans X2).trans X3
 have L1:=(L1.ext X2).ext X3
 have L2:=L2.ext X3
 clear L3
 repeat refine W.g ?_
 refine W.call rfl rfl rfl (check_state_w (Rp.ext X ss0) (rh.ext X) (X.fr fr) sm sl hg λh4 e X4 he=> ?_)
 obtain rfl:=he.2 ok0
 have L1:=L1.ext X4
 have L2:=L2.ext X4
 have XX:=X.trans X4
 refine W.k5 2 3 4 5 10 λT=> ?_
 repeat refine W.g ?_
 have ds:=DX.start (XX.fr fr)
 repeat (first|refine W.gd ?_|refine W.e λr_ h_ ds_ s_=> ?_)
 have X5:=XX.trans ds_.x
 refine W.dcallZ ds_ rfl rfl rfl rfl (counts_w (Rp.ext X5 rw0) (rh.ext X5) (X5.fr fr) sm sl λh6 vn X6 sn=>DZ.val X6 λq6 n6 ds6 t6=> ?_)
 have sn:=sn.ext t6.ext
 repeat refine W.e λr_ h_ ds_ s_=> ?_
 have X7:=XX.trans ds_.x
 refine W.dcallZ ds_ rfl rfl rfl rfl (there_w (sn.ext s_.ext) (by rw[cntsX_len];omega) id (X7.fr fr) λh8 b X8 hb=>DZ.val X8 λq8 n8 ds8 t8=> ?_)
 obtain rfl:b=true:=hb.2 ((there_iff c).2 h1)
 have X9:=XX.trans ds8.x
 have L1:=L1.ext ds8.x
 have L2:=L2.ext ds8.x
 have g3:=(ds8.x.old H2.next (by have:=X4.next;omega)).trans ((X4.old _ (by omega)).trans g3)
 repeat refine W.gd ?_
 repeat refine W.g ?_
 refine W.k6 2 3 4 5 23 24 λT=> ?_
 refine W.call rfl rfl rfl (run_w' (Rp.ext X9 ss0) (rh.ext X9) (X9.fr fr) sm sl ls (λd hd=>(la d hd).2.2.2.1) (by omega) h1 λhA rs XA rA idA=> ?_)
 obtain⟨x1,x2,rfl,s1,s2⟩:=rA
 obtain⟨ru,hru⟩:∃ru,ru=(s.runX id).1:=⟨_,rfl⟩
 rw[<-hru]at q s1 s2 ⊢
 have g3:=(XA.old H2.next (by have:=X4.next;have:=ds8.x.next;omega)).trans g3
 have nA:=XA.next
 have e8:=ds8.x.next
 have e4:=X4.next
 refine W.k4 2 4 5 25 λT=> ?_
 repeat (first|refine W.g ?_|refine W.m λh_ X_ n_ g_ L_=> ?_)
 refine W.stn (vs:=[.int .i64 ru.trip,.int .i64 ru.no,x1,x2]) (cs':=[.int .i64 ru.trip,.int .i64 ru.no,x1,x2]) rfl rfl rfl rfl rfl rfl ((X_.old H2.next (by omega)).trans g3) rfl λM nM gM kM=> ?_
 repeat refine W.g ?_
 refine BodyQ.cellE rfl rfl rfl gM rfl rfl ?_
 refine q M _ (Ext.store ((X9.trans XA).trans X_) nM kM (by omega) (by omega)) ⟨x1,x2,rfl,sl_oth (s1.ext X_) (by omega) λk hk=>kM k ?_,sl_oth (s2.ext X_) (by omega) λk hk=>kM k ?_⟩
 ·have:=idA k (by show k∈idOf x1++(idOf x2++[]);rw[hk];simp)
  omega
 ·have:=idA k (by show k∈idOf x1++(idOf x2++[]);rw[hk];simp)
  omega
theorem own_run {h:Heap} {tm:Tm} {Q:R->Prop} {v:CV} {l:List RunD} (s:Sl h v l) (hm:l.length<=1048576)
  (q:∀h' v' css,Ext h h'->OwnR h' h.next 4 v' css->css.length=l.length->(∀(j:Nat) e d,css[j]? =some e->l[j]? =some d->Rp.R h e d)->Q (.val v' h')):W E1 (.call (.fn 45 [] []) [v]) tm h Q:=by
 obtain⟨css,sg,hl,hr⟩:=s
 refine W.fn (s:=fnOf Tryz.f45) rfl rfl rfl rfl ?_
 repeat (first|refine W.g ?_|refine W.n λh_ X_ n_ g_ S_=> ?_)
 refine W.apR X_ (z:=4) (l:=[]) (l2:=css) (.inr ⟨h.next,0,false,rfl,Nat.le_refl _,by omega,g_,λe he=>(by cases he),.inl ⟨rfl,.inl rfl⟩⟩) (sg.ext X_) rfl rfl rfl rfl rfl rfl rfl rfl rfl rfl rfl rfl (by show(0+css.length)*64<=_;omega) λv' h' X O=> ?_
 repeat refine W.g ?_
 exact q _ _ css X O hl hr
theorem runsSame_w {h:Heap} {tm:Tm} {Q:R->Prop} {va vb:CV} {l:List RunD} (sa:Sl h va l) (sb:Sl h vb l) (fr:Fresh h) (hl:l.length<=1099511627776) (hx:∀x∈l,x.arr.length<=1099511627776/\x.dep.length<=1099511627776)
  (q:∀h',Ext h h'->Q (.val (.bool true) h')):W E1 (.call (.fn 44 [] []) [va,vb]) tm h Q:=by
 refine W.fn (s:=fnOf Tryz.f44) rfl rfl rfl rfl ?_
 repeat refine W.g ?_
 refine W.k3 0 1 5 λT=> ?_
 refine W.loop (σ:=Nat) (λi tm h'=>Ext h h'/\tm.look 0=va/\tm.look 1=vb/\tm.look 5= .int .i64 (i:Int)/\i<=l.length) (λi=>l.length-i) ?_ (s:=0)
  ⟨Ext.refl _,rfl,rfl,rfl,Nat.zero_le _⟩
 rintro i tm h' ⟨X,w0,w1,w5,hi⟩
 obtain⟨T,rfl⟩:=Tm.t3 w0 w1 w5
 clear w0 w1 w5
 by_cases d1:i<l.length
 ·have tA:=hx _ (List.getElem_mem d1)
  repeat refine W.g ?_
  have ds:=DX.start (X.fr fr)
  repeat refine W.gd ?_
  refine W.dixR sa d1 rfl rfl rfl rfl rfl rfl rfl λi2 o2 e2 M2 re2=> ?_
  obtain⟨p3,p4,rfl,_⟩:=id re2
  repeat (first|refine W.gd ?_|refine W.e λr_ h_ ds_ s_=> ?_)
  refine W.dixR sb d1 rfl rfl rfl rfl rfl rfl rfl λi1 o1 e1 M1 re1=> ?_
  obtain⟨p1,p2,rfl,_⟩:=id re1
  repeat refine W.e λr_ h_ ds_ s_=> ?_
  have X2:=ds_.x
  refine W.dcallZ ds_ rfl rfl rfl rfl (runSame_w (Rp.ext (X.trans X2) re2) (Rp.ext (X.trans X2) re1) ((X.trans X2).fr fr) tA.1 tA.2 λh3 Y3=>DZ.val Y3 λq3 N3 ds3 t3=> ?_)
  repeat refine W.gd ?_
  repeat refine W.g ?_
  exact⟨i+1,lessN d1,X.trans ds3.x,rfl,rfl,rfl,d1⟩
 ·repeat refine W.g ?_
  exact q _ X
end
end Go.Proofs.YtnjkaahbhebaeaaGreatDoor
