/- A world of one's own stands in every memory that keeps its blocks; a row of one's own cut. No condition, no program. -/
import Derived.Test.YtnjkaahbhebaeaaGreatDoorHB
import Derived.Test.YtnjkaahbhebaeaaGreatDoorZB
import Derived.Test.YtnjkaahbhebaeaaGreatDoorXNa
import Derived.Test.YtnjkaahbhebaeaaGreatDoorXU
import Derived.Test.YtnjkaahbhebaeaaGreatDoorYE
import Derived.Test.YtnjkaahbhebaeaaGreatDoorXZ
import Derived.Test.YtnjkaahbhebaeaaGreatDoorYT
set_option linter.unusedVariables false
set_option linter.unusedSimpArgs false
set_option maxRecDepth 100000
noncomputable section
namespace Go.CM.Tt
open Go.CM
theorem OwnWd.keep {h h':Heap} {lo:Nat} {hz m1 m2 m3 m4 m5 m6 p d vr t z:CV} {w:WorldD} (o:OwnWd h lo hz m1 m2 m3 m4 m5 m6 p d vr t z w) (hn:h.next<=h'.next) (hk:∀k,lo<=k->k<h.next->h'.get k=h.get k):OwnWd h' lo hz m1 m2 m3 m4 m5 m6 p d vr t z w:=by
 obtain⟨css,r1,r2⟩:=o.r
 have hl:=λk hm=>hk k (r2.lt k hm).1 (r2.lt k hm).2
 have g:=r2.keep hn hl
 exact⟨o.hz,css,r1.stay2 g (by simp) hn λk hm=>hl k (List.mem_append_right _ hm),g⟩
theorem OwnWd.ext {h h':Heap} {lo:Nat} {hz m1 m2 m3 m4 m5 m6 p d vr t z:CV} {w:WorldD} (o:OwnWd h lo hz m1 m2 m3 m4 m5 m6 p d vr t z w) (x:Ext h h'):OwnWd h' lo hz m1 m2 m3 m4 m5 m6 p d vr t z w:=by
 obtain⟨css,r1,r2⟩:=o.r
 exact⟨o.hz,css,r1.ext x,r2.ext x⟩
theorem OwnWd.low {h:Heap} {lo lo':Nat} {hz m1 m2 m3 m4 m5 m6 p d vr t z:CV} {w:WorldD} (o:OwnWd h lo hz m1 m2 m3 m4 m5 m6 p d vr t z w) (hl:lo'<=lo):OwnWd h lo' hz m1 m2 m3 m4 m5 m6 p d vr t z w:=by
 obtain⟨css,r1,r2⟩:=o.r
 exact⟨o.hz,css,r1.low hl,r2.low hl⟩
theorem OwnR.keepB {h h':Heap} {lo z:Nat} {v:CV} {l:List (List CV)} (o:OwnR h lo z v l) (hn:h.next<=h'.next) (hk:∀k,lo<=k->k<h.next->h'.get k=h.get k):OwnR h' lo z v l:=
 o.other hn λk h1 h2 _=>hk k h1 h2
/-- A row up to an element: what the cut is. -/
theorem OwnR.upto {h:Heap} {lo z:Nat} {v:CV} {l:List (List CV)} (o:OwnR h lo z v l) {k:Nat} (hk:k<l.length) {E:Env} {kk:IntKind} {s:TyS} {e:TypeId} (hkd:s.kind= .slice e) (hz:sizeOf? E e=some z):
  ∃i x,lo<=i/\i<h.next/\oSlice E (some s) v none (some (.int kk (k:Int))) none=some (.slice (some (i,0)) k l.length x)/\∀h':Heap,h.next<=h'.next->h'.get i=h.get i->SlG h' z (.slice (some (i,0)) k l.length x) (l.take k):=by
 rcases o with⟨rfl,_⟩|⟨i,x,ro,rfl,h1,h2,h3,h4,h5⟩
 ·simp at hk
 have hu:CM.upto (k:Int) l.length=some k:=upto_nat (by omega)
 have hx:(Nat.beq x 0||Nat.beq x z)=true:=by
  rcases h5 with h5|h5
  ·rw[h5.1];rfl
  ·rw[h5.1,Nat.beq_refl,Bool.or_true]
 obtain⟨n,hn⟩:∃n,l.length=n+1:=⟨l.length-1,by omega⟩
 refine⟨i,x,h1,h2,?_,λh' n' e'=> .inr (.inr ⟨i,0,l.length,x,l.flatten,ro,by rw[List.length_take,Nat.min_eq_left (by omega)],by omega,e'.trans h3,λj e he=> ?_,by rw[List.length_take];omega,h5.imp (λh=>h.1) λh=>h.1⟩)⟩
 ·rw[hn]at hu ⊢
  simp only[oSlice,hkd,hz,hiOf,loOf,hu,hx,sliceAtO]
  rw[Nat.zero_mul];rfl
 ·rw[List.getElem?_take]at he
  split at he
  ·exact⟨h4 e (List.mem_of_getElem? he),flat_cut h4 he⟩
  ·cases he
end Go.CM.Tt
namespace Go.CM
theorem W.slX {E:Env} {tm:Tm} {h:Heap} {Q:R->Prop} {all rest:List Oper} {o:Oper} {t:TypeId} {x y:Operand} {s:TyS} {v v':CV} (hgd:guardOn all tm o=some true) (hop:o.op= .slice t x none (some y) none) (hx:cvOf E.globs tm x=v) (hs:E.ty t=some s) (hv:oSlice E (some s) v none (some (cvOf E.globs tm y)) none=some v')
  (w:W E (.ops all rest) (putTmp tm o.dst v') h Q):W E (.ops all (o::rest)) tm h Q:=by
 refine W.op hgd (v:=v') (h1:=h) ?_ w
 unfold opAny
 rw[hop]
 show withH _ (oSlice E (E.ty t) (cvOf E.globs tm x) none (some (cvOf E.globs tm y)) none)=_
 rw[hs,hx,hv];rfl
end Go.CM

namespace Go.Proofs.YtnjkaahbhebaeaaGreatDoor
open Go Go.CM Go.CM.Tt
noncomputable section
set_option maxHeartbeats 8000000
theorem own_str {h:Heap} {tm:Tm} {Q:R->Prop} {v:CV} {l:List Str} (sl:Sl h v l) (hm:l.length<=1073741824)
  (q:∀h' v',Ext h h'->OwnR h' h.next 1 v' (l.map Flat.enc)->Q (.val v' h')):W E1 (.call (.fn 87 [] []) [v]) tm h Q:=by
 refine W.fn (s:=fnOf Tryz.f87) rfl rfl rfl rfl ?_
 have sg:=Sl.to_map Flat.iff sl
 have hlen:(l.map (Flat.enc:Str->List CV)).length=l.length:=List.length_map _
 repeat (first|refine W.g ?_|refine W.n λh_ X_ n_ g_ S_=> ?_)
 refine W.apR X_ (z:=1) (l:=[]) (l2:=l.map Flat.enc) (.inr ⟨h.next,0,false,rfl,Nat.le_refl _,by omega,g_,λe he=>(by cases he),.inl ⟨rfl,.inl rfl⟩⟩) (sg.ext X_) rfl rfl rfl rfl rfl rfl rfl rfl rfl rfl rfl rfl (by rw[hlen];show(0+l.length)*16<=_;omega) λv' h' X O=> ?_
 repeat refine W.g ?_
 exact q _ _ X O
theorem own_int {h:Heap} {tm:Tm} {Q:R->Prop} {v:CV} {l:List Int} (sl:Sl h v l) (hm:l.length<=1073741824)
  (q:∀h' v',Ext h h'->OwnR h' h.next 1 v' (l.map Flat.enc)->Q (.val v' h')):W E1 (.call (.fn 89 [] []) [v]) tm h Q:=by
 refine W.fn (s:=fnOf Tryz.f89) rfl rfl rfl rfl ?_
 have sg:=Sl.to_map Flat.iff sl
 have hlen:(l.map (Flat.enc:Int->List CV)).length=l.length:=List.length_map _
 repeat (first|refine W.g ?_|refine W.n λh_ X_ n_ g_ S_=> ?_)
 refine W.apR X_ (z:=1) (l:=[]) (l2:=l.map Flat.enc) (.inr ⟨h.next,0,false,rfl,Nat.le_refl _,by omega,g_,λe he=>(by cases he),.inl ⟨rfl,.inl rfl⟩⟩) (sg.ext X_) rfl rfl rfl rfl rfl rfl rfl rfl rfl rfl rfl rfl (by rw[hlen];show(0+l.length)*8<=_;omega) λv' h' X O=> ?_
 repeat refine W.g ?_
 exact q _ _ X O
theorem own_nt {h:Heap} {tm:Tm} {Q:R->Prop} {v:CV} {l:List Int} (sl:Sl h v l) (hm:l.length<=1073741824)
  (q:∀h' v',Ext h h'->OwnR h' h.next 1 v' (l.map Flat.enc)->Q (.val v' h')):W E1 (.call (.fn 88 [] []) [v]) tm h Q:=by
 refine W.fn (s:=fnOf Tryz.f88) rfl rfl rfl rfl ?_
 have sg:=Sl.to_map Flat.iff sl
 have hlen:(l.map (Flat.enc:Int->List CV)).length=l.length:=List.length_map _
 repeat (first|refine W.g ?_|refine W.n λh_ X_ n_ g_ S_=> ?_)
 refine W.apR X_ (z:=1) (l:=[]) (l2:=l.map Flat.enc) (.inr ⟨h.next,0,false,rfl,Nat.le_refl _,by omega,g_,λe he=>(by cases he),.inl ⟨rfl,.inl rfl⟩⟩) (sg.ext X_) rfl rfl rfl rfl rfl rfl rfl rfl rfl rfl rfl rfl (by rw[hlen];show(0+l.length)*8<=_;omega) λv' h' X O=> ?_
 repeat refine W.g ?_
 exact q _ _ X O
theorem own_pathW {h:Heap} {tm:Tm} {Q:R->Prop} {v:CV} {l:List PathW} (sl:Sl h v l) (hm:l.length<=1073741824)
  (q:∀h' v',Ext h h'->OwnR h' h.next 3 v' (l.map Flat.enc)->Q (.val v' h')):W E1 (.call (.fn 83 [] []) [v]) tm h Q:=by
 refine W.fn (s:=fnOf Tryz.f83) rfl rfl rfl rfl ?_
 have sg:=Sl.to_map Flat.iff sl
 have hlen:(l.map (Flat.enc:PathW->List CV)).length=l.length:=List.length_map _
 repeat (first|refine W.g ?_|refine W.n λh_ X_ n_ g_ S_=> ?_)
 refine W.apR X_ (z:=3) (l:=[]) (l2:=l.map Flat.enc) (.inr ⟨h.next,0,false,rfl,Nat.le_refl _,by omega,g_,λe he=>(by cases he),.inl ⟨rfl,.inl rfl⟩⟩) (sg.ext X_) rfl rfl rfl rfl rfl rfl rfl rfl rfl rfl rfl rfl (by rw[hlen];show(0+l.length)*24<=_;omega) λv' h' X O=> ?_
 repeat refine W.g ?_
 exact q _ _ X O
theorem own_doorW {h:Heap} {tm:Tm} {Q:R->Prop} {v:CV} {l:List DoorW} (sl:Sl h v l) (hm:l.length<=1073741824)
  (q:∀h' v',Ext h h'->OwnR h' h.next 6 v' (l.map Flat.enc)->Q (.val v' h')):W E1 (.call (.fn 84 [] []) [v]) tm h Q:=by
 refine W.fn (s:=fnOf Tryz.f84) rfl rfl rfl rfl ?_
 have sg:=Sl.to_map Flat.iff sl
 have hlen:(l.map (Flat.enc:DoorW->List CV)).length=l.length:=List.length_map _
 repeat (first|refine W.g ?_|refine W.n λh_ X_ n_ g_ S_=> ?_)
 refine W.apR X_ (z:=6) (l:=[]) (l2:=l.map Flat.enc) (.inr ⟨h.next,0,false,rfl,Nat.le_refl _,by omega,g_,λe he=>(by cases he),.inl ⟨rfl,.inl rfl⟩⟩) (sg.ext X_) rfl rfl rfl rfl rfl rfl rfl rfl rfl rfl rfl rfl (by rw[hlen];show(0+l.length)*48<=_;omega) λv' h' X O=> ?_
 repeat refine W.g ?_
 exact q _ _ X O
theorem own_tripW {h:Heap} {tm:Tm} {Q:R->Prop} {v:CV} {l:List TripW} (sl:Sl h v l) (hm:l.length<=1073741824)
  (q:∀h' v',Ext h h'->OwnR h' h.next 4 v' (l.map Flat.enc)->Q (.val v' h')):W E1 (.call (.fn 85 [] []) [v]) tm h Q:=by
 refine W.fn (s:=fnOf Tryz.f85) rfl rfl rfl rfl ?_
 have sg:=Sl.to_map Flat.iff sl
 have hlen:(l.map (Flat.enc:TripW->List CV)).length=l.length:=List.length_map _
 repeat (first|refine W.g ?_|refine W.n λh_ X_ n_ g_ S_=> ?_)
 refine W.apR X_ (z:=4) (l:=[]) (l2:=l.map Flat.enc) (.inr ⟨h.next,0,false,rfl,Nat.le_refl _,by omega,g_,λe he=>(by cases he),.inl ⟨rfl,.inl rfl⟩⟩) (sg.ext X_) rfl rfl rfl rfl rfl rfl rfl rfl rfl rfl rfl rfl (by rw[hlen];show(0+l.length)*32<=_;omega) λv' h' X O=> ?_
 repeat refine W.g ?_
 exact q _ _ X O
theorem own_hazW {h:Heap} {tm:Tm} {Q:R->Prop} {v:CV} {l:List HazW} (sl:Sl h v l) (hm:l.length<=1073741824)
  (q:∀h' v',Ext h h'->OwnR h' h.next 5 v' (l.map Flat.enc)->Q (.val v' h')):W E1 (.call (.fn 86 [] []) [v]) tm h Q:=by
 refine W.fn (s:=fnOf Tryz.f86) rfl rfl rfl rfl ?_
 have sg:=Sl.to_map Flat.iff sl
 have hlen:(l.map (Flat.enc:HazW->List CV)).length=l.length:=List.length_map _
 repeat (first|refine W.g ?_|refine W.n λh_ X_ n_ g_ S_=> ?_)
 refine W.apR X_ (z:=5) (l:=[]) (l2:=l.map Flat.enc) (.inr ⟨h.next,0,false,rfl,Nat.le_refl _,by omega,g_,λe he=>(by cases he),.inl ⟨rfl,.inl rfl⟩⟩) (sg.ext X_) rfl rfl rfl rfl rfl rfl rfl rfl rfl rfl rfl rfl (by rw[hlen];show(0+l.length)*40<=_;omega) λv' h' X O=> ?_
 repeat refine W.g ?_
 exact q _ _ X O
end
end Go.Proofs.YtnjkaahbhebaeaaGreatDoor

namespace Go.Proofs.YtnjkaahbhebaeaaGreatDoor
open Go Go.CM Go.CM.Tt
noncomputable section
set_option maxHeartbeats 16000000
set_option maxRecDepth 100000
theorem ownWorld_w {h:Heap} {tm:Tm} {Q:R->Prop} {cs:List CV} {w:WorldD} (r:Rp.R h cs w) (fr:Fresh h) (sh:w.small)
  (q:∀h' hz m1 m2 m3 m4 m5 m6 p d vr t z,Ext h h'->OwnWd h' h.next hz m1 m2 m3 m4 m5 m6 p d vr t z w->Q (.val (.agg [hz,m1,m2,m3,m4,m5,m6,p,d,vr,t,z]) h')):W E1 (.call (.fn 22 [] []) [.agg cs]) tm h Q:=by
 obtain⟨v1,v2,v3,v4,v5,v6,v7,v8,v9,v10,v11,rfl,s1,s2,s3,s4,s5,s6,s7,s8,s9,s10,s11⟩:=r
 obtain⟨f1,f2,f3,f4,f5,f6,f7,f8,f9,f10,f11,fr2⟩:=sh
 refine W.fn (s:=fnOf Tryz.f22) rfl rfl rfl rfl ?_
 repeat (refine W.seq ?_)
 refine W.region ?_
 refine W.box rfl rfl rfl λHa Xa na ga La=> ?_
 refine W.al rfl rfl rfl λH0 X0 n0 g0 L0=> ?_
 clear L0
 have L1:=La.ext X0
 have Xh0:Ext h H0:=Xa.trans X0
 have g0:H0.get Ha.next=some (.cells [.int .i64 0,.slice none 0 0 0,.slice none 0 0 0,.slice none 0 0 0,.slice none 0 0 0,.slice none 0 0 0,.slice none 0 0 0,.slice none 0 0 0,.slice none 0 0 0,.slice none 0 0 0,.slice none 0 0 0,.slice none 0 0 0] false):=g0
 repeat (first|refine W.g ?_|refine W.m λh_ X_ n_ g_ L_=> ?_)
 obtain⟨H,rfl⟩:∃H,H=h_:=⟨_,rfl⟩
 have Ln:LocE H H0.next 0 [v1,v2,v3,v4,v5,v6]:=L_
 have L1:=L1.ext X_
 have Xh:Ext h H:=Xh0.trans X_
 have g0:=(X_.old Ha.next (by omega)).trans g0
 have nH:H.next=H0.next+1:=n_
 clear L_ g_ n_
 refine W.k3 1 2 3 λT=> ?_
 have ds:=DX.start (Xh.fr fr)
 repeat (first|refine W.gd ?_|refine W.e λr_ h_ ds_ s_=> ?_)
 have X1:=ds_.x
 have nx1:=X1.next
 refine W.dcallZ ds_ rfl rfl rfl rfl (own_pathW (s7.ext (Xh.trans X1)) (by omega) λh1 z1 Y1 O1=>DZ.val Y1 λr1 h1' ds1 s1'=> ?_)
 have i1:=OwnR.ids O1
 have j1:=Y1.next
 have k1:=s1'.next
 have O1:=(O1.low (lo':=Ha.next+1) (by omega)).ext s1'.ext
 obtain⟨p1,m1,c1,y1,ee1⟩:=O1.form
 rw[ee1]
 clear ds_ ds
 repeat (first|refine W.gd ?_|refine W.e λr_ h_ ds_ s_=> ?_)
 have kk2:=s_.next
 have X2:=ds_.x
 have nx2:=X2.next
 refine W.dcallZ ds_ rfl rfl rfl rfl (own_doorW (s8.ext (Xh.trans X2)) (by omega) λh2 z2 Y2 O2=>DZ.val Y2 λr2 h2' ds2 s2'=> ?_)
 have i2:=OwnR.ids O2
 have j2:=Y2.next
 have k2:=s2'.next
 have O1:=((O1.ext s_.ext).ext Y2).ext s2'.ext
 have O2:=(O2.low (lo':=Ha.next+1) (by omega)).ext s2'.ext
 obtain⟨p2,m2,c2,y2,ee2⟩:=O2.form
 rw[ee2]
 clear ds_ ds1
 repeat (first|refine W.gd ?_|refine W.e λr_ h_ ds_ s_=> ?_)
 have kk3:=s_.next
 have X3:=ds_.x
 have nx3:=X3.next
 refine W.dcallZ ds_ rfl rfl rfl rfl (own_tripW (s10.ext (Xh.trans X3)) (by omega) λh3 z3 Y3 O3=>DZ.val Y3 λr3 h3' ds3 s3'=> ?_)
 have i3:=OwnR.ids O3
 have j3:=Y3.next
 have k3:=s3'.next
 have O1:=((O1.ext s_.ext).ext Y3).ext s3'.ext
 have O2:=((O2.ext s_.ext).ext Y3).ext s3'.ext
 have O3:=(O3.low (lo':=Ha.next+1) (by omega)).ext s3'.ext
 obtain⟨p3,m3,c3,y3,ee3⟩:=O3.form
 rw[ee3]
 clear ds_ ds2
 repeat (first|refine W.gd ?_|refine W.e λr_ h_ ds_ s_=> ?_)
 have kk4:=s_.next
 have X4:=ds_.x
 have nx4:=X4.next
 refine W.dcallZ ds_ rfl rfl rfl rfl (own_hazW (s11.ext (Xh.trans X4)) (by omega) λh4 z4 Y4 O4=>DZ.val Y4 λr4 h4' ds4 s4'=> ?_)
 have i4:=OwnR.ids O4
 have j4:=Y4.next
 have k4:=s4'.next
 have O1:=((O1.ext s_.ext).ext Y4).ext s4'.ext
 have O2:=((O2.ext s_.ext).ext Y4).ext s4'.ext
 have O3:=((O3.ext s_.ext).ext Y4).ext s4'.ext
 have O4:=(O4.low (lo':=Ha.next+1) (by omega)).ext s4'.ext
 obtain⟨p4,m4,c4,y4,ee4⟩:=O4.form
 rw[ee4]
 clear ds_ ds3
 repeat refine W.gd ?_
 rw[<-ee1,<-ee2,<-ee3,<-ee4]
 have X5:=ds4.x
 have nx5:=X5.next
 refine W.dalZ ds4 rfl rfl rfl λr6 G ds6 x6 n6 g6=> ?_
 have X7:=ds6.x
 have nx7:=X7.next
 refine W.dst (vs:=[.int .i64 w.hz,.slice none 0 0 0,.slice none 0 0 0,.slice none 0 0 0,.slice none 0 0 0,.slice none 0 0 0,.slice none 0 0 0,z1,z2,.slice none 0 0 0,z3,z4]) (cs':=[.int .i64 w.hz,.slice none 0 0 0,.slice none 0 0 0,.slice none 0 0 0,.slice none 0 0 0,.slice none 0 0 0,.slice none 0 0 0,z1,z2,.slice none 0 0 0,z3,z4]) ds6.hri rfl rfl rfl rfl rfl rfl rfl g6 rfl λr7 K hr7 s7'=> ?_
 have gK:K.get h4'.next=some (.cells [.int .i64 w.hz,.slice none 0 0 0,.slice none 0 0 0,.slice none 0 0 0,.slice none 0 0 0,.slice none 0 0 0,.slice none 0 0 0,z1,z2,.slice none 0 0 0,z3,z4] false):=by rw[s7'.get,put_same]
 have XK:Ext h4' K:=(x6.put (Nat.le_refl _) (by omega) _).trans s7'.ext
 have nK:K.next=h4'.next+1:=by rw[s7'.next];exact n6
 repeat refine W.gd ?_
 obtain⟨b4,hb4⟩:∃b4,b4=h4'.next:=⟨_,rfl⟩
 rw[<-hb4]at gK nK ⊢
 have XHK:Ext H K:=X5.trans XK
 have XhK:Ext h K:=Xh.trans XHK
 have nHK:=XHK.next
 have gr:=(XHK.old Ha.next (by omega)).trans g0
 have L1H:=L1
 have L1:=L1.ext XHK
 have Ln:=Ln.ext XHK
 have O1:=O1.ext XK
 have O2:=O2.ext XK
 have O3:=O3.ext XK
 have O4:=O4.ext XK
 clear ds6 ds4 g6 ga
 refine W.k4 1 2 3 4 λT=> ?_
 repeat refine W.g ?_
 have ds:=DX.start (XhK.fr fr)
 repeat (first|refine W.gd ?_|refine W.e λr_ h_ ds_ s_=> ?_)
 have X11:=ds_.x
 have nx11:=X11.next
 refine W.dcallZ ds_ rfl rfl rfl rfl (own_str (s1.ext (XhK.trans X11)) (by omega) λh11 z11 Y11 O11=>DZ.val Y11 λr11 h11' ds11 s11'=> ?_)
 have i11:=OwnR.ids O11
 have j11:=Y11.next
 have k11:=s11'.next
 have O11:=(O11.low (lo':=Ha.next+1) (by omega)).ext s11'.ext
 obtain⟨p11,m11,c11,y11,ee11⟩:=O11.form
 rw[ee11]
 clear ds_ ds
 repeat (first|refine W.gd ?_|refine W.e λr_ h_ ds_ s_=> ?_)
 have kk12:=s_.next
 have X12:=ds_.x
 have nx12:=X12.next
 refine W.dcallZ ds_ rfl rfl rfl rfl (own_str (s2.ext (XhK.trans X12)) (by omega) λh12 z12 Y12 O12=>DZ.val Y12 λr12 h12' ds12 s12'=> ?_)
 have i12:=OwnR.ids O12
 have j12:=Y12.next
 have k12:=s12'.next
 have O11:=((O11.ext s_.ext).ext Y12).ext s12'.ext
 have O12:=(O12.low (lo':=Ha.next+1) (by omega)).ext s12'.ext
 obtain⟨p12,m12,c12,y12,ee12⟩:=O12.form
 rw[ee12]
 clear ds_ ds11
 repeat (first|refine W.gd ?_|refine W.e λr_ h_ ds_ s_=> ?_)
 have kk13:=s_.next
 have X13:=ds_.x
 have nx13:=X13.next
 refine W.dcallZ ds_ rfl rfl rfl rfl (own_str (s3.ext (XhK.trans X13)) (by omega) λh13 z13 Y13 O13=>DZ.val Y13 λr13 h13' ds13 s13'=> ?_)
 have i13:=OwnR.ids O13
 have j13:=Y13.next
 have k13:=s13'.next
 have O11:=((O11.ext s_.ext).ext Y13).ext s13'.ext
 have O12:=((O12.ext s_.ext).ext Y13).ext s13'.ext
 have O13:=(O13.low (lo':=Ha.next+1) (by omega)).ext s13'.ext
 obtain⟨p13,m13,c13,y13,ee13⟩:=O13.form
 rw[ee13]
 clear ds_ ds12
 repeat (first|refine W.gd ?_|refine W.e λr_ h_ ds_ s_=> ?_)
 have kk14:=s_.next
 have X14:=ds_.x
 have nx14:=X14.next
 refine W.dcallZ ds_ rfl rfl rfl rfl (own_str (s4.ext (XhK.trans X14)) (by omega) λh14 z14 Y14 O14=>DZ.val Y14 λr14 h14' ds14 s14'=> ?_)
 have i14:=OwnR.ids O14
 have j14:=Y14.next
 have k14:=s14'.next
 have O11:=((O11.ext s_.ext).ext Y14).ext s14'.ext
 have O12:=((O12.ext s_.ext).ext Y14).ext s14'.ext
 have O13:=((O13.ext s_.ext).ext Y14).ext s14'.ext
 have O14:=(O14.low (lo':=Ha.next+1) (by omega)).ext s14'.ext
 obtain⟨p14,m14,c14,y14,ee14⟩:=O14.form
 rw[ee14]
 clear ds_ ds13
 repeat (first|refine W.gd ?_|refine W.e λr_ h_ ds_ s_=> ?_)
 have kk15:=s_.next
 have X15:=ds_.x
 have nx15:=X15.next
 refine W.dcallZ ds_ rfl rfl rfl rfl (own_str (s5.ext (XhK.trans X15)) (by omega) λh15 z15 Y15 O15=>DZ.val Y15 λr15 h15' ds15 s15'=> ?_)
 have i15:=OwnR.ids O15
 have j15:=Y15.next
 have k15:=s15'.next
 have O11:=((O11.ext s_.ext).ext Y15).ext s15'.ext
 have O12:=((O12.ext s_.ext).ext Y15).ext s15'.ext
 have O13:=((O13.ext s_.ext).ext Y15).ext s15'.ext
 have O14:=((O14.ext s_.ext).ext Y15).ext s15'.ext
 have O15:=(O15.low (lo':=Ha.next+1) (by omega)).ext s15'.ext
 obtain⟨p15,m15,c15,y15,ee15⟩:=O15.form
 rw[ee15]
 clear ds_ ds14
 repeat (first|refine W.gd ?_|refine W.e λr_ h_ ds_ s_=> ?_)
 have kk16:=s_.next
 have X16:=ds_.x
 have nx16:=X16.next
 refine W.dcallZ ds_ rfl rfl rfl rfl (own_str (s6.ext (XhK.trans X16)) (by omega) λh16 z16 Y16 O16=>DZ.val Y16 λr16 h16' ds16 s16'=> ?_)
 have i16:=OwnR.ids O16
 have j16:=Y16.next
 have k16:=s16'.next
 have O11:=((O11.ext s_.ext).ext Y16).ext s16'.ext
 have O12:=((O12.ext s_.ext).ext Y16).ext s16'.ext
 have O13:=((O13.ext s_.ext).ext Y16).ext s16'.ext
 have O14:=((O14.ext s_.ext).ext Y16).ext s16'.ext
 have O15:=((O15.ext s_.ext).ext Y16).ext s16'.ext
 have O16:=(O16.low (lo':=Ha.next+1) (by omega)).ext s16'.ext
 obtain⟨p16,m16,c16,y16,ee16⟩:=O16.form
 rw[ee16]
 clear ds_ ds15
 repeat refine W.gd ?_
 rw[<-ee11,<-ee12,<-ee13,<-ee14,<-ee15,<-ee16]
 have X17:=ds16.x
 have nx17:=X17.next
 refine W.dst (vs:=[z11,z12,z13,z14,z15,z16]) (cs':=[.int .i64 w.hz,z11,z12,z13,z14,z15,z16,z1,z2,.slice none 0 0 0,z3,z4]) ds16.hri rfl rfl rfl rfl rfl rfl rfl ((X17.old b4 (by omega)).trans gK) rfl λr8 P hr8 s8'=> ?_
 have gP:P.get b4=some (.cells [.int .i64 w.hz,z11,z12,z13,z14,z15,z16,z1,z2,.slice none 0 0 0,z3,z4] false):=by rw[s8'.get,put_same]
 have nP:P.next=h16'.next:=s8'.next
 have kP:∀k,k≠b4->P.get k=h16'.get k:=λk hk=>by rw[s8'.get,Heap.get_put,if_neg (Ne.symm hk)]
 repeat refine W.gd ?_
 have XHP:Ext H P:=Ext.store (XHK.trans X17) nP kP (by omega) (by omega)
 have o1:OwnR P (Ha.next+1) 3 z1 (w.paths.map Flat.enc):=(O1.ext X17).other (by omega) λk _ _ hk=>kP k (by have:=(i1 k (by rw[hk];simp)).2;omega)
 have o2:OwnR P (Ha.next+1) 6 z2 (w.doors.map Flat.enc):=(O2.ext X17).other (by omega) λk _ _ hk=>kP k (by have:=(i2 k (by rw[hk];simp)).2;omega)
 have o3:OwnR P (Ha.next+1) 4 z3 (w.trips.map Flat.enc):=(O3.ext X17).other (by omega) λk _ _ hk=>kP k (by have:=(i3 k (by rw[hk];simp)).2;omega)
 have o4:OwnR P (Ha.next+1) 5 z4 (w.hazards.map Flat.enc):=(O4.ext X17).other (by omega) λk _ _ hk=>kP k (by have:=(i4 k (by rw[hk];simp)).2;omega)
 have o11:OwnR P (Ha.next+1) 1 z11 (w.names.stops.map Flat.enc):=O11.other (by omega) λk _ _ hk=>kP k (by have:=(i11 k (by rw[hk];simp)).1;omega)
 have o12:OwnR P (Ha.next+1) 1 z12 (w.names.paths.map Flat.enc):=O12.other (by omega) λk _ _ hk=>kP k (by have:=(i12 k (by rw[hk];simp)).1;omega)
 have o13:OwnR P (Ha.next+1) 1 z13 (w.names.doors.map Flat.enc):=O13.other (by omega) λk _ _ hk=>kP k (by have:=(i13 k (by rw[hk];simp)).1;omega)
 have o14:OwnR P (Ha.next+1) 1 z14 (w.names.routes.map Flat.enc):=O14.other (by omega) λk _ _ hk=>kP k (by have:=(i14 k (by rw[hk];simp)).1;omega)
 have o15:OwnR P (Ha.next+1) 1 z15 (w.names.trips.map Flat.enc):=O15.other (by omega) λk _ _ hk=>kP k (by have:=(i15 k (by rw[hk];simp)).1;omega)
 have o16:OwnR P (Ha.next+1) 1 z16 (w.names.hazards.map Flat.enc):=O16.other (by omega) λk _ _ hk=>kP k (by have:=(i16 k (by rw[hk];simp)).1;omega)
 have GF0:OwnGB P (Ha.next+1) (Ha.next+1) []:=OwnGB.nil
 have GF1:=GF0.more o1 i1 (by omega) (by omega)
 have GF2:=GF1.more o2 i2 (by omega) (by omega)
 have GF3:=GF2.more o3 i3 (by omega) (by omega)
 have GF4:=GF3.more o4 i4 (by omega) (by omega)
 have GF5:=GF4.more o11 i11 (by omega) (by omega)
 have GF6:=GF5.more o12 i12 (by omega) (by omega)
 have GF7:=GF6.more o13 i13 (by omega) (by omega)
 have GF8:=GF7.more o14 i14 (by omega) (by omega)
 have GF9:=GF8.more o15 i15 (by omega) (by omega)
 have GF10:=GF9.more o16 i16 (by omega) (by omega)
 have GF:OwnG P (Ha.next+1) (flatW w z1 z2 z3 z4 z11 z12 z13 z14 z15 z16) []:=GF10.1
 have GFb:∀k∈idsR (flatW w z1 z2 z3 z4 z11 z12 z13 z14 z15 z16),k<P.next:=λk hk=>(GF.lt k (List.mem_append_left _ hk)).2
 have GFn:∀k∈idsR (flatW w z1 z2 z3 z4 z11 z12 z13 z14 z15 z16),k≠b4:=λk hk=>by
  have hk:k∈idOf z1++(idOf z2++(idOf z3++(idOf z4++(idOf z11++(idOf z12++(idOf z13++(idOf z14++(idOf z15++(idOf z16++[]))))))))):=hk
  simp only[List.mem_append,List.not_mem_nil,or_false]at hk
  rcases hk with hk|hk|hk|hk|hk|hk|hk|hk|hk|hk
  ·have:=(i1 k hk).2;omega
  ·have:=(i2 k hk).2;omega
  ·have:=(i3 k hk).2;omega
  ·have:=(i4 k hk).2;omega
  ·have:=(i11 k hk).1;omega
  ·have:=(i12 k hk).1;omega
  ·have:=(i13 k hk).1;omega
  ·have:=(i14 k hk).1;omega
  ·have:=(i15 k hk).1;omega
  ·have:=(i16 k hk).1;omega
 have b4P:b4<P.next:=by omega
 have b4H:H.next<=b4:=by omega
 have haH:Ha.next<H.next:=by omega
 clear GF0 GF1 GF2 GF3 GF4 GF5 GF6 GF7 GF8 GF9 GF10 o1 o2 o3 o4 o11 o12 o13 o14 o15 o16 O1 O2 O3 O4 O11 O12 O13 O14 O15 O16 i1 i2 i3 i4 i11 i12 i13 i14 i15 i16 X17 gK kP ds16 hr8 s8' XHK
 refine W.k3 1 2 4 λT=> ?_
 repeat refine W.g ?_
 refine W.k4 1 2 4 5 λT=> ?_
 have s9:=s9.ext Xh
 clear L1 Ln La
 refine W.loop (σ:=Nat) (λk tm h'=>tm.look 1= .ptr (some (h.next,0))/\tm.look 2= .ptr (some (Ha.next,0))/\tm.look 4= .ptr (some (b4,0))/\tm.look 5= .int .i64 (k:Int)/\k<=w.routes.length/\Ext H h'/\P.next<=h'.next/\(∀a,a<P.next->a≠b4->h'.get a=P.get a)/\∃vr css,h'.get b4=some (.cells [.int .i64 w.hz,z11,z12,z13,z14,z15,z16,z1,z2,vr,z3,z4] false)/\OwnRws h' H.next vr css (w.routes.take k)/\(idsIn css++idOf vr).Nodup/\∀a∈idsIn css++idOf vr,P.next<=a) (λk=>w.routes.length-k) ?_ (s:=0)
  ⟨rfl,rfl,rfl,rfl,Nat.zero_le _,XHP,Nat.le_refl _,λ_ _ _=>rfl,_,[],gP,⟨OwnR.nil,rfl,λj e d he=>by simp at he⟩,by simp[idsIn,idOf],λa ha=>by simp[idsIn,idOf]at ha⟩
 rintro k tm h' ⟨w1,w2,w4,w5,hk,X,nX,kX,vr,css,gb,O,nd,hi⟩
 obtain⟨T,rfl⟩:=Tm.t4 w1 w2 w4 w5
 clear w1 w2 w4 w5
 have vne:idOf vr≠[b4]:=λe=>by have:=hi b4 (by rw[e];simp);omega
 have vlt:=OwnR.ids O.1
 by_cases c1:k<w.routes.length
 ·repeat refine W.g ?_
  refine W.ixR s9 c1 rfl rfl rfl rfl rfl rfl rfl λi_ o_ e L_ re_=> ?_
  have hlen:=Rp.len re_
  obtain⟨e1',e2',e3',rfl,pe1,pe2,pe3⟩:=re_
  repeat (first|refine W.g ?_|refine W.m λh_ X_ n_ g_ L_=> ?_)
  obtain⟨M,rfl⟩:∃M,M=h_:=⟨_,rfl⟩
  have L3:LocE M b4 0 [.int .i64 w.hz,z11,z12,z13,z14,z15,z16,z1,z2,vr,z3,z4]:=⟨_,_,(X_.old b4 (by omega)).trans gb,by omega,rfl⟩
  have XM:Ext H M:=X.trans X_
  have nM:M.next=h'.next+1:=n_
  have sm:=fr2 _ (List.getElem_mem c1)
  have OM:=O.ext X_
  have kM:∀a,a<P.next->a≠b4->M.get a=P.get a:=λa h1 h2=>(X_.old a (by omega)).trans (kX a h1 h2)
  clear g_ n_
  have ds:=DX.start (XM.fr (Xh.fr fr))
  repeat (first|refine W.gd ?_|refine W.e λr_ h_ ds_ s_=> ?_)
  have X1:=ds_.x
  have nx1:=X1.next
  refine W.dcallZ ds_ rfl rfl rfl rfl (own_nt (pe1.ext (XM.trans X1)) (by omega) λg1 y1 Y1 R1=>DZ.val Y1 λq1 g1' ds1 t1=> ?_)
  have i1:=OwnR.ids R1
  have j1:=Y1.next
  have k1:=t1.next
  have R1:=(R1.low (lo':=H.next) (by have:=XM.next;omega)).ext t1.ext
  obtain⟨p1,m1,c1',x1,ee1⟩:=R1.form
  rw[ee1]
  clear ds_ ds
  repeat (first|refine W.gd ?_|refine W.e λr_ h_ ds_ s_=> ?_)
  have kk2:=s_.next
  have R1:=R1.ext s_.ext
  have X2:=ds_.x
  have nx2:=X2.next
  refine W.dcallZ ds_ rfl rfl rfl rfl (own_int (pe2.ext (XM.trans X2)) (by omega) λg2 y2 Y2 R2=>DZ.val Y2 λq2 g2' ds2 t2=> ?_)
  have i2:=OwnR.ids R2
  have j2:=Y2.next
  have k2:=t2.next
  have R1:=(R1.ext Y2).ext t2.ext
  have R2:=(R2.low (lo':=H.next) (by have:=XM.next;omega)).ext t2.ext
  obtain⟨p2,m2,c2',x2,ee2⟩:=R2.form
  rw[ee2]
  clear ds_ ds1
  repeat (first|refine W.gd ?_|refine W.e λr_ h_ ds_ s_=> ?_)
  have kk3:=s_.next
  have R1:=R1.ext s_.ext
  have R2:=R2.ext s_.ext
  have X3:=ds_.x
  have nx3:=X3.next
  refine W.dcallZ ds_ rfl rfl rfl rfl (own_int (pe3.ext (XM.trans X3)) (by omega) λg3 y3 Y3 R3=>DZ.val Y3 λq3 g3' ds3 t3=> ?_)
  have i3:=OwnR.ids R3
  have j3:=Y3.next
  have k3:=t3.next
  have R1:=(R1.ext Y3).ext t3.ext
  have R2:=(R2.ext Y3).ext t3.ext
  have R3:=(R3.low (lo':=H.next) (by have:=XM.next;omega)).ext t3.ext
  obtain⟨p3,m3,c3',x3,ee3⟩:=R3.form
  rw[ee3]
  clear ds_ ds2
  repeat refine W.gd ?_
  rw[<-ee1,<-ee2,<-ee3]
  have OE:OwnRW g3' H.next [y1,y2,y3] w.routes[k]:=⟨_,_,_,rfl,R1,R2,R3⟩
  have nd2:(idsOf [y1,y2,y3]).Nodup:=by
   show(idOf y1++(idOf y2++(idOf y3++[]))).Nodup
   rw[List.append_nil]
   refine nodup_behind (n:=g1.next) (OwnR.idNodup _) (λa ha=>(i1 a ha).2) (nodup_behind (n:=g2.next) (OwnR.idNodup _) (λa ha=>(i2 a ha).2) (OwnR.idNodup _) (λb hb=>by have:=(i3 b hb).1;omega)) (λb hb=> ?_)
   rcases List.mem_append.1 hb with hb|hb
   ·have:=(i2 b hb).1;omega
   ·have:=(i3 b hb).1;omega
  have OEi:∀a∈idsOf [y1,y2,y3],M.next<=a/\a<g3'.next:=λa ha=>by
   have ha:a∈idOf y1++(idOf y2++(idOf y3++[])):=ha
   simp only[List.mem_append,List.not_mem_nil,or_false]at ha
   rcases ha with ha|ha|ha
   ·have:=i1 a ha;omega
   ·have:=i2 a ha;omega
   ·have:=i3 a ha;omega
  refine W.dnewZ ds3 rfl rfl rfl rfl λq4 g4 ds4 x4 n4 gg4=> ?_
  have gg4:g4.get g3'.next=some (.cells [y1,y2,y3] false):=gg4
  have XF:=ds4.x
  have nXF:=XF.next
  have S_:SlG g4 3 (.slice (some (g3'.next,0)) 1 1 0) [[y1,y2,y3]]:=SlG.one (by omega) gg4
  have hcl:css.length=k:=by rw[O.2.1,List.length_take];omega
  refine W.apD (H:=H) (z:=3) ds4.hri (XM.trans XF) (OM.1.ext XF) S_ rfl rfl rfl rfl rfl rfl rfl rfl rfl rfl rfl rfl rfl (by
   simp only[List.length_cons,List.length_nil]
   show _*72<=_
   omega) λq5 v' g5 hr5 X5 n5 k5 O5 _ i5=> ?_
  have i5:=i5 (by simp)
  have gb5:g5.get b4=some (.cells [.int .i64 w.hz,z11,z12,z13,z14,z15,z16,z1,z2,vr,z3,z4] false):=(k5 b4 (by omega) (.inr vne)).trans ((XF.old b4 (by omega)).trans ((X_.old b4 (by omega)).trans gb))
  obtain⟨pv,nv,cv,xv,ev⟩:=O5.form
  have hcells:v'.cells=some [v']:=by rw[ev];rfl
  rw[ev]
  repeat refine W.gd ?_
  rw[<-ev]
  refine W.dst (vs:=[v']) (cs':=[.int .i64 w.hz,z11,z12,z13,z14,z15,z16,z1,z2,v',z3,z4]) hr5 rfl rfl rfl rfl hcells rfl rfl gb5 rfl λq6 g6 hr6 s6'=> ?_
  have gb6:g6.get b4=some (.cells [.int .i64 w.hz,z11,z12,z13,z14,z15,z16,z1,z2,v',z3,z4] false):=by rw[s6'.get,put_same]
  have n6:g6.next=g5.next:=s6'.next
  have kk6:∀k,k≠b4->g6.get k=g5.get k:=λk hk=>by rw[s6'.get,Heap.get_put,if_neg (Ne.symm hk)]
  have X6:Ext H g6:=Ext.store X5 n6 kk6 (by omega) (by omega)
  repeat refine W.gd ?_
  repeat refine W.g ?_
  have nnd:=List.nodup_append.1 nd
  have hout:∀a,a<g4.next->a≠b4->a∉idOf vr->g6.get a=g4.get a:=λa h1 h2 h3=>(kk6 a h2).trans (k5 a h1 (.inr λe=>h3 (by rw[e];simp)))
  refine⟨k+1,lessN c1,rfl,rfl,rfl,rfl,c1,X6,by omega,λa h1 h2=>(hout a (by omega) h2 λhv=>by have:=hi a (List.mem_append_right _ hv);omega).trans ((XF.old a (by omega)).trans (kM a h1 h2)),v',css++[[y1,y2,y3]],gb6,⟨O5.other (Nat.le_of_eq n6.symm) λa _ _ ha=>kk6 a (λe=> ?_),by rw[List.length_append,hcl,List.length_take];simp;omega,λj e d he hd=> ?_⟩,?_,?_⟩
  ·rw[i5]at ha
   have:g4.next=a:=by simpa using ha
   omega
  ·by_cases hj:j<k
   ·rw[List.getElem?_append_left (by omega)]at he
    have hd2:(w.routes.take k)[j]? =some d:=by
     rw[List.getElem?_take,if_pos hj]
     rw[List.getElem?_take,if_pos (by omega)]at hd
     exact hd
    have o:=(OM.2.2 j e d he hd2).ext XF
    refine o.other (by omega) λa ha=>hout a ?_ ?_ ?_
    ·have:=(o.ids a ha).2;omega
    ·have:=hi a (List.mem_append_left _ (List.mem_flatMap.2 ⟨e,List.mem_of_getElem? he,ha⟩));omega
    ·exact λhv=>nnd.2.2 a (List.mem_flatMap.2 ⟨e,List.mem_of_getElem? he,ha⟩) a hv rfl
   ·have hj2:j=k:=by
      have:=(List.getElem?_eq_some_iff.1 he).1
      simp only[List.length_append,List.length_cons,List.length_nil]at this
      omega
    subst hj2
    rw[List.getElem?_append_right (by omega),hcl,Nat.sub_self]at he
    have he:[y1,y2,y3]=e:=by simpa using he
    subst he
    rw[List.getElem?_take,if_pos (by omega),List.getElem?_eq_getElem c1]at hd
    have hd:=Option.some.inj hd
    subst hd
    have o:=OE.ext x4
    refine o.other (by omega) λa ha=>hout a ?_ ?_ ?_
    ·have:=(OEi a ha).2;omega
    ·have:=(OEi a ha).1;omega
    ·intro hv
     have:=(vlt a hv).2
     have:=(OEi a ha).1
     omega
  ·rw[i5]
   show(List.flatMap idsOf (css++[_])++_).Nodup
   rw[List.flatMap_append,List.append_assoc]
   refine nodup_behind (n:=h'.next) nnd.1 (λa ha=>(O.idsI a ha).2) (nodup_behind (n:=g4.next) (by simpa using nd2) (λa ha=> ?_) (by simp) (λb hb=>by rw[List.mem_singleton.1 hb];exact Nat.le_refl _)) (λb hb=> ?_)
   ·have:=(OEi a (by simpa using ha)).2;omega
   ·rcases List.mem_append.1 hb with hb|hb
    ·have:=(OEi b (by simpa using hb)).1;omega
    ·rw[List.mem_singleton.1 hb];omega
  ·intro a ha
   rw[i5]at ha
   have ha:a∈List.flatMap idsOf (css++[_])++_:=ha
   rw[List.flatMap_append]at ha
   simp only[List.mem_append]at ha
   rcases ha with(ha|ha)|ha
   ·exact hi a (List.mem_append_left _ ha)
   ·have:=(OEi a (by simpa using ha)).1;omega
   ·rw[List.mem_singleton.1 ha];omega
 ·have ek:k=w.routes.length:=by omega
  have L3:LocE h' b4 0 [.int .i64 w.hz,z11,z12,z13,z14,z15,z16,z1,z2,vr,z3,z4]:=⟨_,_,gb,by omega,rfl⟩
  repeat refine W.g ?_
  refine W.stn (vs:=[.int .i64 w.hz,z11,z12,z13,z14,z15,z16,z1,z2,vr,z3,z4]) (cs':=[.int .i64 w.hz,z11,z12,z13,z14,z15,z16,z1,z2,vr,z3,z4]) rfl rfl rfl rfl rfl rfl ((X.old Ha.next haH).trans g0) rfl λK2 nx gk kx=> ?_
  repeat refine W.g ?_
  refine BodyQ.cell1 rfl rfl gk rfl rfl ?_
  have nX':=X.next
  have nHa:h.next<=Ha.next:=by omega
  rw[ek,List.take_length]at O
  have vlt:=OwnR.ids O.1
  have oi:=O.idsI
  have OK2:OwnRws K2 H.next vr css w.routes:=O.other (by omega) λa ha=>kx a (by
   rcases List.mem_append.1 ha with ha|ha
   ·have:=(vlt a ha).1;omega
   ·have:=(oi a ha).1;omega)
  have GK:OwnG K2 (Ha.next+1) (flatW w z1 z2 z3 z4 z11 z12 z13 z14 z15 z16) []:=GF.keep (by omega) λa ha=>by
   have h1:=GF.lt a ha
   rw[List.append_nil]at ha
   rw[kx a (by omega)]
   exact kX a (GFb a ha) (GFn a ha)
  refine q K2 _ _ _ _ _ _ _ _ _ _ _ _ (Ext.store (Xh.trans X) nx kx nHa (by omega)) ⟨rfl,css,OK2.low (by omega),⟨λr hr=> ?_,?_,λa ha=> ?_⟩⟩
  ·rcases List.mem_append.1 hr with hr|hr
   ·exact(GK.o r hr).low (by omega)
   ·rw[List.mem_singleton.1 hr];exact OK2.1.low (by omega)
  ·have hnd:=List.nodup_append.1 nd
   have e:idsR (flatW w z1 z2 z3 z4 z11 z12 z13 z14 z15 z16++[(3,vr,css)])++idsIn css=idsR (flatW w z1 z2 z3 z4 z11 z12 z13 z14 z15 z16)++(idOf vr++idsIn css):=by
    unfold idsR
    rw[List.flatMap_append,List.append_assoc]
    simp
   rw[e]
   have g1:=GK.nd
   rw[List.append_nil]at g1
   refine nodup_behind (n:=P.next) g1 GFb (List.nodup_append.2 ⟨hnd.2.1,hnd.1,λa ha b hb e=>hnd.2.2 b hb a ha e.symm⟩) (λb hb=>hi b ?_)
   rcases List.mem_append.1 hb with hb|hb
   ·exact List.mem_append_right _ hb
   ·exact List.mem_append_left _ hb
  ·have:=oi a ha
   exact⟨by omega,by omega⟩
end
end Go.Proofs.YtnjkaahbhebaeaaGreatDoor

namespace Go.Proofs.YtnjkaahbhebaeaaGreatDoor
open Go Go.CM Go.CM.Tt
noncomputable section
set_option maxHeartbeats 16000000
set_option maxRecDepth 100000
def _root_.Go.CM.Tt.WorldD.short (w:WorldD):Prop:=w.names.stops.length<=1099511627776/\w.names.paths.length<=1099511627776/\w.names.doors.length<=1099511627776/\w.names.routes.length<=1099511627776/\w.names.trips.length<=1099511627776/\w.names.hazards.length<=1099511627776/\w.paths.length<=1099511627776/\w.doors.length<=1099511627776/\w.routes.length<=1099511627776/\w.trips.length<=1099511627776/\w.hazards.length<=1099511627776/\∀r∈w.routes,r.stops.length<=1099511627776/\r.rides.length<=1099511627776/\r.stays.length<=1099511627776
theorem small_short {w:WorldD} (l:w.small):w.short:=by
 obtain⟨l1,l2,l3,l4,l5,l6,l7,l8,l9,l10,l11,l12⟩:=l
 refine⟨by omega,by omega,by omega,by omega,by omega,by omega,by omega,by omega,by omega,by omega,by omega,λr hr=> ?_⟩
 have:=l12 r hr
 omega
theorem int_refl (a:Int):intEq a a=true:=by rw[intEq_eq];simp
theorem eqT_i {d:Nat} {t:Nat} {a:Int} (ht:E1.ty t=some ⟨.int .i64,1,8,[.int .i64 0],false,false,[]⟩):eqT E1 (d+1) t (.int .i64 a) (.int .i64 a)=some true:=by
 show(match E1.ty t with|some s=>eqK E1 (eqT E1 d) s (.int .i64 a) (.int .i64 a)|none=>none)=some true
 rw[ht]
 show some (intEq a a)=some true
 rw[int_refl]
theorem eqT_b {d:Nat} {t:Nat} {a:Bool} (ht:E1.ty t=some ⟨.bool,1,1,[.bool false],false,false,[]⟩):eqT E1 (d+1) t (.bool a) (.bool a)=some true:=by
 show(match E1.ty t with|some s=>eqK E1 (eqT E1 d) s (.bool a) (.bool a)|none=>none)=some true
 rw[ht]
 show some (a==a)=some true
 simp
theorem eqF {rec:TypeId->CV->CV->Option Bool} {t off:Nat} {r:List (TypeId×Nat)} {xs:List CV} {s:TyS} {v:CV} (ht:E1.ty t=some s) (hp:CM.part xs off s.size s.agg=some v) (hv:rec t v v=some true) (hr:eqFields E1 rec r xs xs=some true):eqFields E1 rec ((t,off)::r) xs xs=some true:=by
 show(match E1.ty t with
  |none=>none
  |some s=>match CM.part xs off s.size s.agg with
   |none=>none
   |some x=>match CM.part xs off s.size s.agg with
    |none=>none
    |some y=>match rec t x y with
     |some true=>eqFields E1 rec r xs xs
     |some false=>some false
     |none=>none)=some true
 rw[ht]
 simp only[hp,hv,hr]
theorem eqS {d:Nat} {t:Nat} {xs:List CV} {fs:List (TypeId×Nat)} {z b:Nat} {zz:List CV} {ms:List (String×Option (Nat×Bool))} (ht:E1.ty t=some ⟨.struct fs,z,b,zz,true,true,ms⟩) (hf:eqFields E1 (eqT E1 d) fs xs xs=some true):eqT E1 (d+1) t (.agg xs) (.agg xs)=some true:=by
 show(match E1.ty t with|some s=>eqK E1 (eqT E1 d) s (.agg xs) (.agg xs)|none=>none)=some true
 rw[ht]
 exact hf
theorem ne_path {d:PathW} {h:Heap}:withH h ((eqT E1 20 50 (.agg d.enc) (.agg d.enc)).map λb=> .bool (!b))=some (.bool false,h):=by
 rw[show eqT E1 20 50 (.agg d.enc) (.agg d.enc)=some true from eqS rfl (eqF rfl rfl (eqT_i rfl) (eqF rfl rfl (eqT_i rfl) (eqF rfl rfl (eqT_i rfl) rfl)))];rfl
theorem ne_door {d:DoorW} {h:Heap}:withH h ((eqT E1 20 64 (.agg d.enc) (.agg d.enc)).map λb=> .bool (!b))=some (.bool false,h):=by
 rw[show eqT E1 20 64 (.agg d.enc) (.agg d.enc)=some true from eqS rfl (eqF rfl rfl (eqT_i rfl) (eqF rfl rfl (eqT_i rfl) (eqF rfl rfl (eqT_i rfl) (eqF rfl rfl ((eqS rfl (eqF rfl rfl (eqT_i rfl) (eqF rfl rfl (eqT_i rfl) (eqF rfl rfl (eqT_i rfl) rfl))))) rfl))))];rfl
theorem ne_trip {d:TripW} {h:Heap}:withH h ((eqT E1 20 157 (.agg d.enc) (.agg d.enc)).map λb=> .bool (!b))=some (.bool false,h):=by
 rw[show eqT E1 20 157 (.agg d.enc) (.agg d.enc)=some true from eqS rfl (eqF rfl rfl (eqT_i rfl) (eqF rfl rfl (eqT_i rfl) (eqF rfl rfl (eqT_i rfl) (eqF rfl rfl (eqT_i rfl) rfl))))];rfl
theorem ne_haz {d:HazW} {h:Heap}:withH h ((eqT E1 20 60 (.agg d.enc) (.agg d.enc)).map λb=> .bool (!b))=some (.bool false,h):=by
 rw[show eqT E1 20 60 (.agg d.enc) (.agg d.enc)=some true from eqS rfl (eqF rfl rfl (eqT_b rfl) (eqF rfl rfl (eqT_i rfl) (eqF rfl rfl ((eqS rfl (eqF rfl rfl (eqT_i rfl) (eqF rfl rfl (eqT_i rfl) (eqF rfl rfl (eqT_i rfl) rfl))))) rfl)))];rfl
theorem _root_.Go.CM.W.dixp {E:Env} {tm:Tm} {h:Heap} {Q:R->Prop} {all rest:List Oper} {o:Oper} {bs:List Bits} {recs:List Rec} {i:Nat} {t e:TypeId} {x y:Operand} {s:TyS} {kk:IntKind} {id off j n:Nat} {m:Int} (hgd:guardOn all tm o=some true) (hop:o.op= .indexAddr t x y) (hx:cvOf E.globs tm x= .ptr (some (id,off))) (hy:cvOf E.globs tm y= .int kk m) (hs:E.ty t=some s) (hk:s.kind= .array n e) (hz:sizeOf? E e=some 1) (hn:place m n=some j)
  (w:W E (.draw bs all rest (i+1) recs) (putTmp tm o.dst (.ptr (some (id,off+j)))) h Q):W E (.draw bs all (o::rest) i recs) tm h Q:=by
 refine W.dop hgd (v:= .ptr (some (id,off+j))) ?_ ?_ w
 ·unfold fpAny;rw[hop];rfl
 ·unfold opAny
  rw[hop]
  show oIndexAddr E (E.ty t) (cvOf E.globs tm x) (cvOf E.globs tm y) _=_
  rw[hx,hy,hs]
  unfold oIndexAddr
  simp only[hk,hz,hn,addrAt,Nat.mul_one]
theorem eql_str {h:Heap} {tm:Tm} {Q:R->Prop} {v w:CV} {l:List Str} (fr:Fresh h) (s1:Sl h v l) (s2:Sl h w l) (hm:l.length<=1099511627776) (q:∀h',Ext h h'->Q (.val (.bool true) h')):W E1 (.call (.fn 172 [] []) [v,w]) tm h Q:=by
 refine W.fn (s:=fnOf Tryz.f172) rfl rfl rfl rfl ?_
 repeat refine W.g ?_
 refine W.loop (σ:=Nat) (λk tm h'=>Ext h h'/\tm.look 0=v/\tm.look 1=w/\tm.look 12= .int .i64 (l.length:Int)/\tm.look 13= .int .i64 (k:Int)/\k<=l.length) (λk=>l.length-k) ?_ (s:=0) ⟨Ext.refl _,rfl,rfl,rfl,rfl,Nat.zero_le _⟩
 rintro k tm h' ⟨X,w0,w1,w12,w13,hk⟩
 obtain⟨T,rfl⟩:=Tm.t4 w0 w1 w12 w13
 clear w0 w1 w12 w13
 by_cases c1:k<l.length
 ·repeat refine W.g ?_
  have ds:=DX.start (X.fr fr)
  try refine W.dv ?_
  refine W.dixF s1 c1 rfl rfl rfl rfl rfl rfl rfl λi1 o1 L1=> ?_
  repeat (first|refine W.gd ?_|refine W.e λr_ h_ ds_ s_=> ?_)
  clear ds
  have X1:=ds_.x
  refine W.dixF s2 c1 rfl rfl rfl rfl rfl rfl rfl λi2 o2 L2=> ?_
  repeat (first|refine W.gd ?_|refine W.e λr_ h_ ds_ s_=> ?_)
  have X2:=ds_.x
  rw[show bytesEq l[k] l[k]=true by rw[bytesEq_eq];simp]
  repeat refine W.g ?_
  exact⟨k+1,lessN c1,X.trans X2,rfl,rfl,rfl,rfl,c1⟩
 ·repeat refine W.g ?_
  exact q _ X
theorem eql_nt {h:Heap} {tm:Tm} {Q:R->Prop} {v w:CV} {l:List Int} (fr:Fresh h) (s1:Sl h v l) (s2:Sl h w l) (hm:l.length<=1099511627776) (q:∀h',Ext h h'->Q (.val (.bool true) h')):W E1 (.call (.fn 174 [] []) [v,w]) tm h Q:=by
 refine W.fn (s:=fnOf Tryz.f174) rfl rfl rfl rfl ?_
 repeat refine W.g ?_
 refine W.loop (σ:=Nat) (λk tm h'=>Ext h h'/\tm.look 0=v/\tm.look 1=w/\tm.look 12= .int .i64 (l.length:Int)/\tm.look 13= .int .i64 (k:Int)/\k<=l.length) (λk=>l.length-k) ?_ (s:=0) ⟨Ext.refl _,rfl,rfl,rfl,rfl,Nat.zero_le _⟩
 rintro k tm h' ⟨X,w0,w1,w12,w13,hk⟩
 obtain⟨T,rfl⟩:=Tm.t4 w0 w1 w12 w13
 clear w0 w1 w12 w13
 by_cases c1:k<l.length
 ·repeat refine W.g ?_
  have ds:=DX.start (X.fr fr)
  try refine W.dv ?_
  refine W.dixF s1 c1 rfl rfl rfl rfl rfl rfl rfl λi1 o1 L1=> ?_
  repeat (first|refine W.gd ?_|refine W.e λr_ h_ ds_ s_=> ?_)
  clear ds
  have X1:=ds_.x
  refine W.dixF s2 c1 rfl rfl rfl rfl rfl rfl rfl λi2 o2 L2=> ?_
  repeat (first|refine W.gd ?_|refine W.e λr_ h_ ds_ s_=> ?_)
  have X2:=ds_.x
  repeat refine W.g ?_
  exact⟨k+1,lessN c1,X.trans X2,rfl,rfl,rfl,rfl,c1⟩
 ·repeat refine W.g ?_
  exact q _ X
theorem eql_int {h:Heap} {tm:Tm} {Q:R->Prop} {v w:CV} {l:List Int} (fr:Fresh h) (s1:Sl h v l) (s2:Sl h w l) (hm:l.length<=1099511627776) (q:∀h',Ext h h'->Q (.val (.bool true) h')):W E1 (.call (.fn 175 [] []) [v,w]) tm h Q:=by
 refine W.fn (s:=fnOf Tryz.f175) rfl rfl rfl rfl ?_
 repeat refine W.g ?_
 refine W.loop (σ:=Nat) (λk tm h'=>Ext h h'/\tm.look 0=v/\tm.look 1=w/\tm.look 12= .int .i64 (l.length:Int)/\tm.look 13= .int .i64 (k:Int)/\k<=l.length) (λk=>l.length-k) ?_ (s:=0) ⟨Ext.refl _,rfl,rfl,rfl,rfl,Nat.zero_le _⟩
 rintro k tm h' ⟨X,w0,w1,w12,w13,hk⟩
 obtain⟨T,rfl⟩:=Tm.t4 w0 w1 w12 w13
 clear w0 w1 w12 w13
 by_cases c1:k<l.length
 ·repeat refine W.g ?_
  have ds:=DX.start (X.fr fr)
  try refine W.dv ?_
  refine W.dixF s1 c1 rfl rfl rfl rfl rfl rfl rfl λi1 o1 L1=> ?_
  repeat (first|refine W.gd ?_|refine W.e λr_ h_ ds_ s_=> ?_)
  clear ds
  have X1:=ds_.x
  refine W.dixF s2 c1 rfl rfl rfl rfl rfl rfl rfl λi2 o2 L2=> ?_
  repeat (first|refine W.gd ?_|refine W.e λr_ h_ ds_ s_=> ?_)
  have X2:=ds_.x
  repeat refine W.g ?_
  exact⟨k+1,lessN c1,X.trans X2,rfl,rfl,rfl,rfl,c1⟩
 ·repeat refine W.g ?_
  exact q _ X
theorem eql_path {h:Heap} {tm:Tm} {Q:R->Prop} {v w:CV} {l:List PathW} (fr:Fresh h) (s1:Sl h v l) (s2:Sl h w l) (hm:l.length<=1099511627776) (q:∀h',Ext h h'->Q (.val (.bool true) h')):W E1 (.call (.fn 176 [] []) [v,w]) tm h Q:=by
 refine W.fn (s:=fnOf Tryz.f176) rfl rfl rfl rfl ?_
 repeat refine W.g ?_
 refine W.loop (σ:=Nat) (λk tm h'=>Ext h h'/\tm.look 0=v/\tm.look 1=w/\tm.look 12= .int .i64 (l.length:Int)/\tm.look 13= .int .i64 (k:Int)/\k<=l.length) (λk=>l.length-k) ?_ (s:=0) ⟨Ext.refl _,rfl,rfl,rfl,rfl,Nat.zero_le _⟩
 rintro k tm h' ⟨X,w0,w1,w12,w13,hk⟩
 obtain⟨T,rfl⟩:=Tm.t4 w0 w1 w12 w13
 clear w0 w1 w12 w13
 by_cases c1:k<l.length
 ·repeat refine W.g ?_
  have ds:=DX.start (X.fr fr)
  try refine W.dv ?_
  refine W.dixF s1 c1 rfl rfl rfl rfl rfl rfl rfl λi1 o1 L1=> ?_
  repeat (first|refine W.gd ?_|refine W.e λr_ h_ ds_ s_=> ?_)
  clear ds
  have X1:=ds_.x
  refine W.dixF s2 c1 rfl rfl rfl rfl rfl rfl rfl λi2 o2 L2=> ?_
  repeat refine W.e λr_ h_ ds_ s_=> ?_
  have X2:=ds_.x
  refine W.dopn rfl rfl (ne_path (d:=l[k])) rfl ?_
  repeat refine W.gd ?_
  repeat refine W.g ?_
  exact⟨k+1,lessN c1,X.trans X2,rfl,rfl,rfl,rfl,c1⟩
 ·repeat refine W.g ?_
  exact q _ X
theorem eql_door {h:Heap} {tm:Tm} {Q:R->Prop} {v w:CV} {l:List DoorW} (fr:Fresh h) (s1:Sl h v l) (s2:Sl h w l) (hm:l.length<=1099511627776) (q:∀h',Ext h h'->Q (.val (.bool true) h')):W E1 (.call (.fn 177 [] []) [v,w]) tm h Q:=by
 refine W.fn (s:=fnOf Tryz.f177) rfl rfl rfl rfl ?_
 repeat refine W.g ?_
 refine W.loop (σ:=Nat) (λk tm h'=>Ext h h'/\tm.look 0=v/\tm.look 1=w/\tm.look 12= .int .i64 (l.length:Int)/\tm.look 13= .int .i64 (k:Int)/\k<=l.length) (λk=>l.length-k) ?_ (s:=0) ⟨Ext.refl _,rfl,rfl,rfl,rfl,Nat.zero_le _⟩
 rintro k tm h' ⟨X,w0,w1,w12,w13,hk⟩
 obtain⟨T,rfl⟩:=Tm.t4 w0 w1 w12 w13
 clear w0 w1 w12 w13
 by_cases c1:k<l.length
 ·repeat refine W.g ?_
  have ds:=DX.start (X.fr fr)
  try refine W.dv ?_
  refine W.dixF s1 c1 rfl rfl rfl rfl rfl rfl rfl λi1 o1 L1=> ?_
  repeat (first|refine W.gd ?_|refine W.e λr_ h_ ds_ s_=> ?_)
  clear ds
  have X1:=ds_.x
  refine W.dixF s2 c1 rfl rfl rfl rfl rfl rfl rfl λi2 o2 L2=> ?_
  repeat refine W.e λr_ h_ ds_ s_=> ?_
  have X2:=ds_.x
  refine W.dopn rfl rfl (ne_door (d:=l[k])) rfl ?_
  repeat refine W.gd ?_
  repeat refine W.g ?_
  exact⟨k+1,lessN c1,X.trans X2,rfl,rfl,rfl,rfl,c1⟩
 ·repeat refine W.g ?_
  exact q _ X
theorem eql_trip {h:Heap} {tm:Tm} {Q:R->Prop} {v w:CV} {l:List TripW} (fr:Fresh h) (s1:Sl h v l) (s2:Sl h w l) (hm:l.length<=1099511627776) (q:∀h',Ext h h'->Q (.val (.bool true) h')):W E1 (.call (.fn 179 [] []) [v,w]) tm h Q:=by
 refine W.fn (s:=fnOf Tryz.f179) rfl rfl rfl rfl ?_
 repeat refine W.g ?_
 refine W.loop (σ:=Nat) (λk tm h'=>Ext h h'/\tm.look 0=v/\tm.look 1=w/\tm.look 12= .int .i64 (l.length:Int)/\tm.look 13= .int .i64 (k:Int)/\k<=l.length) (λk=>l.length-k) ?_ (s:=0) ⟨Ext.refl _,rfl,rfl,rfl,rfl,Nat.zero_le _⟩
 rintro k tm h' ⟨X,w0,w1,w12,w13,hk⟩
 obtain⟨T,rfl⟩:=Tm.t4 w0 w1 w12 w13
 clear w0 w1 w12 w13
 by_cases c1:k<l.length
 ·repeat refine W.g ?_
  have ds:=DX.start (X.fr fr)
  try refine W.dv ?_
  refine W.dixF s1 c1 rfl rfl rfl rfl rfl rfl rfl λi1 o1 L1=> ?_
  repeat (first|refine W.gd ?_|refine W.e λr_ h_ ds_ s_=> ?_)
  clear ds
  have X1:=ds_.x
  refine W.dixF s2 c1 rfl rfl rfl rfl rfl rfl rfl λi2 o2 L2=> ?_
  repeat refine W.e λr_ h_ ds_ s_=> ?_
  have X2:=ds_.x
  refine W.dopn rfl rfl (ne_trip (d:=l[k])) rfl ?_
  repeat refine W.gd ?_
  repeat refine W.g ?_
  exact⟨k+1,lessN c1,X.trans X2,rfl,rfl,rfl,rfl,c1⟩
 ·repeat refine W.g ?_
  exact q _ X
theorem eql_haz {h:Heap} {tm:Tm} {Q:R->Prop} {v w:CV} {l:List HazW} (fr:Fresh h) (s1:Sl h v l) (s2:Sl h w l) (hm:l.length<=1099511627776) (q:∀h',Ext h h'->Q (.val (.bool true) h')):W E1 (.call (.fn 180 [] []) [v,w]) tm h Q:=by
 refine W.fn (s:=fnOf Tryz.f180) rfl rfl rfl rfl ?_
 repeat refine W.g ?_
 refine W.loop (σ:=Nat) (λk tm h'=>Ext h h'/\tm.look 0=v/\tm.look 1=w/\tm.look 12= .int .i64 (l.length:Int)/\tm.look 13= .int .i64 (k:Int)/\k<=l.length) (λk=>l.length-k) ?_ (s:=0) ⟨Ext.refl _,rfl,rfl,rfl,rfl,Nat.zero_le _⟩
 rintro k tm h' ⟨X,w0,w1,w12,w13,hk⟩
 obtain⟨T,rfl⟩:=Tm.t4 w0 w1 w12 w13
 clear w0 w1 w12 w13
 by_cases c1:k<l.length
 ·repeat refine W.g ?_
  have ds:=DX.start (X.fr fr)
  try refine W.dv ?_
  refine W.dixF s1 c1 rfl rfl rfl rfl rfl rfl rfl λi1 o1 L1=> ?_
  repeat (first|refine W.gd ?_|refine W.e λr_ h_ ds_ s_=> ?_)
  clear ds
  have X1:=ds_.x
  refine W.dixF s2 c1 rfl rfl rfl rfl rfl rfl rfl λi2 o2 L2=> ?_
  repeat refine W.e λr_ h_ ds_ s_=> ?_
  have X2:=ds_.x
  refine W.dopn rfl rfl (ne_haz (d:=l[k])) rfl ?_
  repeat refine W.gd ?_
  repeat refine W.g ?_
  exact⟨k+1,lessN c1,X.trans X2,rfl,rfl,rfl,rfl,c1⟩
 ·repeat refine W.g ?_
  exact q _ X
theorem routeWEq_w {h:Heap} {tm:Tm} {Q:R->Prop} {ca cb:List CV} {d:RouteW} (fr:Fresh h) (ra:Rp.R h ca d) (rb:Rp.R h cb d) (sh:d.stops.length<=1099511627776/\d.rides.length<=1099511627776/\d.stays.length<=1099511627776) (q:∀h',Ext h h'->Q (.val (.bool true) h')):W E1 (.call (.fn 173 [] []) [.agg ca,.agg cb]) tm h Q:=by
 obtain⟨a1,a2,a3,rfl,p1,p2,p3⟩:=ra
 obtain⟨b1,b2,b3,rfl,q1,q2,q3⟩:=rb
 obtain⟨m1,m2,m3⟩:=sh
 refine W.fn (s:=fnOf Tryz.f173) rfl rfl rfl rfl ?_
 repeat (refine W.seq ?_)
 refine W.region ?_
 refine W.box rfl rfl rfl λH1 X1 n1 g1 L1=> ?_
 refine W.box rfl rfl rfl λH2 X2 n2 g2 L2=> ?_
 have L1:=L1.ext X2
 have Y2:=X1.trans X2
 repeat refine W.g ?_
 refine W.call rfl rfl rfl (eql_nt (Y2.fr fr) (p1.ext Y2) (q1.ext Y2) m1 λG1 V1=> ?_)
 have U1:=Y2.trans V1
 have L1:=L1.ext V1
 have L2:=L2.ext V1
 refine W.k3 2 3 9 λT=> ?_
 repeat refine W.g ?_
 refine W.call rfl rfl rfl (eql_int (U1.fr fr) (p2.ext U1) (q2.ext U1) m2 λG2 V2=> ?_)
 have U2:=U1.trans V2
 have L1:=L1.ext V2
 have L2:=L2.ext V2
 refine W.k4 2 3 10 15 λT=> ?_
 repeat refine W.g ?_
 refine W.call rfl rfl rfl (eql_int (U2.fr fr) (p3.ext U2) (q3.ext U2) m3 λG3 V3=> ?_)
 have U3:=U2.trans V3
 refine W.k2 17 22 λT=> ?_
 repeat refine W.g ?_
 exact q _ U3
theorem eqlF_route {h:Heap} {tm:Tm} {Q:R->Prop} {v w:CV} {l:List RouteW} (fr:Fresh h) (s1:Sl h v l) (s2:Sl h w l) (hm:l.length<=1099511627776) (mr:∀r∈l,r.stops.length<=1099511627776/\r.rides.length<=1099511627776/\r.stays.length<=1099511627776) (q:∀h',Ext h h'->Q (.val (.bool true) h')):W E1 (.call (.fn 178 [] []) [v,w,.fn 173 [] []]) tm h Q:=by
 refine W.fn (s:=fnOf Tryz.f178) rfl rfl rfl rfl ?_
 repeat refine W.g ?_
 refine W.loop (σ:=Nat) (λk tm h'=>Ext h h'/\tm.look 1=w/\tm.look 2= .fn 173 [] []/\tm.look 15=v/\tm.look 16= .int .i64 (l.length:Int)/\tm.look 17= .int .i64 (k:Int)/\k<=l.length) (λk=>l.length-k) ?_ (s:=0) ⟨Ext.refl _,rfl,rfl,rfl,rfl,rfl,Nat.zero_le _⟩
 rintro k tm h' ⟨X,w1,w2,w15,w16,w17,hk⟩
 obtain⟨T,rfl⟩:=Tm.t5 w1 w2 w15 w16 w17
 clear w1 w2 w15 w16 w17
 by_cases c1:k<l.length
 ·repeat refine W.g ?_
  refine W.ixR s1 c1 rfl rfl rfl rfl rfl rfl rfl λi_ o_ e1 L_ re1=> ?_
  have hl1:=Rp.len re1
  have re10:=re1
  obtain⟨c1',c2',c3',rfl,_,_,_⟩:=re1
  repeat (first|refine W.g ?_|refine W.m λh_ X_ n_ g_ L_=> ?_)
  refine W.stn (vs:=[c1',c2',c3']) (cs':=[c1',c2',c3']) rfl rfl rfl rfl rfl rfl g_ rfl λP nP gP kP=> ?_
  have XP:Ext h' P:=Ext.store X_ nP kP (Nat.le_refl _) (by omega)
  have g6:P.get h'.next=some (.cells [c1',c2',c3'] false):=gP
  have L6:LocE P h'.next 0 [c1',c2',c3']:=⟨_,_,g6,by omega,rfl⟩
  have XhP:Ext h P:=X.trans XP
  clear L_ g_ X_ kP gP g6
  refine W.k7 1 2 8 15 16 17 7 λT=> ?_
  repeat refine W.g ?_
  refine W.ixR s2 c1 rfl rfl rfl rfl rfl rfl rfl λi_ o_ e2 L_ re2=> ?_
  have hl2:=Rp.len re2
  have re20:=re2
  obtain⟨d1',d2',d3',rfl,_,_,_⟩:=re2
  repeat (first|refine W.g ?_|refine W.m λh_ X_ n_ g_ L_=> ?_)
  have Z:=XhP.trans X_
  refine W.call rfl rfl rfl (routeWEq_w (Z.fr fr) (Rp.ext Z re10) (Rp.ext Z re20) (mr _ (List.getElem_mem c1)) λG V=> ?_)
  refine W.k6 1 2 15 16 17 29 λT=> ?_
  repeat refine W.g ?_
  exact⟨k+1,lessN c1,Z.trans V,rfl,rfl,rfl,rfl,rfl,c1⟩
 ·repeat refine W.g ?_
  exact q _ X
theorem wsame_w {h:Heap} {tm:Tm} {Q:R->Prop} {ca cb:List CV} {w:WorldD} (fr:Fresh h) (ra:Rp.R h ca w) (rb:Rp.R h cb w) (sh:w.short) (q:∀h',Ext h h'->Q (.val (.bool true) h')):W E1 (.call (.fn 109 [] []) [.agg ca,.agg cb]) tm h Q:=by
 obtain⟨a1,a2,a3,a4,a5,a6,a7,a8,a9,a10,a11,rfl,p1,p2,p3,p4,p5,p6,p7,p8,p9,p10,p11⟩:=ra
 obtain⟨b1,b2,b3,b4,b5,b6,b7,b8,b9,b10,b11,rfl,q1,q2,q3,q4,q5,q6,q7,q8,q9,q10,q11⟩:=rb
 obtain⟨m1,m2,m3,m4,m5,m6,m7,m8,m9,m10,m11,mr⟩:=sh
 refine W.fn (s:=fnOf Tryz.f109) rfl rfl rfl rfl ?_
 repeat (refine W.seq ?_)
 refine W.region ?_
 refine W.box rfl rfl rfl λH1 X1 n1 g1 L1=> ?_
 refine W.box rfl rfl rfl λH2 X2 n2 g2 L2=> ?_
 have L1:=L1.ext X2
 have Y2:=X1.trans X2
 repeat refine W.g ?_
 refine W.call rfl rfl rfl (kinds_w (Y2.fr fr) λH3 z X3 z1 z2 Lz=> ?_)
 have Y3:=Y2.trans X3
 refine W.k4 2 3 4 10 λT=> ?_
 repeat refine W.g ?_
 refine W.call rfl rfl rfl (kinds_w (Y3.fr fr) λH4 y X4 y1 y2 Ly=> ?_)
 have Y4:=Y3.trans X4
 have nX3:=X3.next
 have nX4:=X4.next
 refine W.k5 2 3 4 10 12 λT=> ?_
 repeat refine W.m λh_ X_ n_ g_ L_=> ?_
 rename_i K5 j5 n5 g5 l5
 clear l5 L_
 obtain⟨ps,hps⟩:∃ps:List CV,ps=[.ptr (some (z,0)),.ptr (some (h.next,0+1+0)),.ptr (some (h.next,0+1+1)),.ptr (some (h.next,0+1+2)),.ptr (some (h.next,0+1+3)),.ptr (some (h.next,0+1+4)),.ptr (some (h.next,0+1+5))]:=⟨_,rfl⟩
 obtain⟨qs,hqs⟩:∃qs:List CV,qs=[.ptr (some (y,0)),.ptr (some (H1.next,0+1+0)),.ptr (some (H1.next,0+1+1)),.ptr (some (H1.next,0+1+2)),.ptr (some (H1.next,0+1+3)),.ptr (some (H1.next,0+1+4)),.ptr (some (H1.next,0+1+5))]:=⟨_,rfl⟩
 have g5:=(X_.old H4.next (by omega)).trans g5
 refine W.stn (vs:=ps) (cs':=ps) rfl rfl rfl (by rw[hps];rfl) rfl (by rw[hps];rfl) g5 (by rw[hps];rfl) λM4 m4' h4 k4=> ?_
 refine W.stn (vs:=qs) (cs':=qs) rfl rfl rfl (by rw[hqs];rfl) rfl (by rw[hqs];rfl) ((k4 K5.next (by omega)).trans g_) (by rw[hqs];rfl) λM m5' h5 k5=> ?_
 have JM:Ext H4 M:=Ext.store (Ext.store (j5.trans X_) m4' k4 (by omega) (by omega)) m5' k5 (by omega) (by omega)
 have A5:LocE M H4.next 0 ps:=⟨_,_,(k5 _ (by omega)).trans h4,by omega,by rw[hps];rfl⟩
 have A6:LocE M K5.next 0 qs:=⟨_,_,h5,by omega,by rw[hqs];rfl⟩
 have YM:Ext h M:=Y4.trans JM
 have L1:=((L1.ext X3).ext X4).ext JM
 have L2:=((L2.ext X3).ext X4).ext JM
 have Lz:=(Lz.ext X4).ext JM
 have Ly:=Ly.ext JM
 obtain⟨lists,hlists⟩:∃lists,lists=w.names.lists:=⟨_,rfl⟩
 have lsh:∀k,(lists.getD k []).length<=1099511627776:=λk=>by
  rw[hlists]
  rcases k with _|_|_|_|_|_|_|k<;>first|assumption|(show 0<=_;omega)
 have fam:∀k,k<7->∃p o v,ps[k]? =some (.ptr (some (p,o)))/\LocE M p o [v]/\Sl M v (lists.getD k []):=by
  intro k hk
  rw[hps,hlists]
  rcases k with _|_|_|_|_|_|_|k
  ·exact⟨z,0,_,rfl,Lz,Sl.nil⟩
  ·exact⟨h.next,0+1+0,a1,rfl,LocE.sub (k:=1) (m:=1) L1 rfl,p1.ext YM⟩
  ·exact⟨h.next,0+1+1,a2,rfl,LocE.sub (k:=2) (m:=1) L1 rfl,p2.ext YM⟩
  ·exact⟨h.next,0+1+2,a3,rfl,LocE.sub (k:=3) (m:=1) L1 rfl,p3.ext YM⟩
  ·exact⟨h.next,0+1+3,a4,rfl,LocE.sub (k:=4) (m:=1) L1 rfl,p4.ext YM⟩
  ·exact⟨h.next,0+1+4,a5,rfl,LocE.sub (k:=5) (m:=1) L1 rfl,p5.ext YM⟩
  ·exact⟨h.next,0+1+5,a6,rfl,LocE.sub (k:=6) (m:=1) L1 rfl,p6.ext YM⟩
  ·omega
 have fam2:∀k,k<7->∃p o v,qs[k]? =some (.ptr (some (p,o)))/\LocE M p o [v]/\Sl M v (lists.getD k []):=by
  intro k hk
  rw[hqs,hlists]
  rcases k with _|_|_|_|_|_|_|k
  ·exact⟨y,0,_,rfl,Ly,Sl.nil⟩
  ·exact⟨H1.next,0+1+0,b1,rfl,LocE.sub (k:=1) (m:=1) L2 rfl,q1.ext YM⟩
  ·exact⟨H1.next,0+1+1,b2,rfl,LocE.sub (k:=2) (m:=1) L2 rfl,q2.ext YM⟩
  ·exact⟨H1.next,0+1+2,b3,rfl,LocE.sub (k:=3) (m:=1) L2 rfl,q3.ext YM⟩
  ·exact⟨H1.next,0+1+3,b4,rfl,LocE.sub (k:=4) (m:=1) L2 rfl,q4.ext YM⟩
  ·exact⟨H1.next,0+1+4,b5,rfl,LocE.sub (k:=5) (m:=1) L2 rfl,q5.ext YM⟩
  ·exact⟨H1.next,0+1+5,b6,rfl,LocE.sub (k:=6) (m:=1) L2 rfl,q6.ext YM⟩
  ·omega
 have frM:=YM.fr fr
 obtain⟨d5,hd5⟩:∃d5,d5=H4.next:=⟨_,rfl⟩
 obtain⟨d6,hd6⟩:∃d6,d6=K5.next:=⟨_,rfl⟩
 rw[<-hd5]at A5 ⊢
 rw[<-hd6]at A6 ⊢
 clear Lz Ly g5 g_ X_ j5 h4 h5 k4 k5
 refine W.k5 2 3 4 5 6 λT=> ?_
 repeat refine W.g ?_
 refine W.loop (σ:=Nat) (λk tm h'=>Ext M h'/\tm.look 2= .ptr (some (h.next,0))/\tm.look 3= .ptr (some (H1.next,0))/\tm.look 5= .ptr (some (d5,0))/\tm.look 6= .ptr (some (d6,0))/\tm.look 13= .int .i64 (k:Int)/\k<=7) (λk=>7-k) ?_ (s:=0) ⟨Ext.refl _,rfl,rfl,rfl,rfl,rfl,Nat.zero_le _⟩
 rintro k tm h' ⟨X,w2,w3,w5,w6,w13,hk⟩
 obtain⟨T,rfl⟩:=Tm.t5 w2 w3 w5 w6 w13
 clear w2 w3 w5 w6 w13
 by_cases c1:k<7
 ·obtain⟨pi,po,v,hp1,Lp,sv⟩:=fam k c1
  obtain⟨qi,qo,v2,hp2,Lq,sv2⟩:=fam2 k c1
  repeat refine W.g ?_
  have ds:=DX.start (X.fr frM)
  repeat refine W.gd ?_
  refine W.dixp rfl rfl rfl rfl rfl rfl rfl (place_of (j:=k) rfl c1) ?_
  refine W.dlk A5 ds X rfl rfl rfl rfl rfl rfl hp1 λr1 J1 ds1 s1=> ?_
  repeat (first|refine W.gd ?_|refine W.e λr_ h_ ds_ s_=> ?_)
  refine W.dixp rfl rfl rfl rfl rfl rfl rfl (place_of (j:=k) rfl c1) ?_
  refine W.dlk A6 ds_ X rfl rfl rfl rfl rfl rfl hp2 λr2 J2 ds2 s2=> ?_
  clear ds_ ds1 ds
  repeat (first|refine W.gd ?_|refine W.e λr_ h_ ds_ s_=> ?_)
  have XX:=X.trans ds_.x
  refine W.dcallZ ds_ rfl rfl rfl rfl (eql_str (XX.fr frM) (sv.ext XX) (sv2.ext XX) (lsh k) λh1 Y1=>DZ.val Y1 λr1 h1' ds1 s1'=> ?_)
  repeat refine W.gd ?_
  repeat refine W.g ?_
  exact⟨k+1,by show 7-(k+1)<7-k;omega,X.trans ds1.x,rfl,rfl,rfl,rfl,rfl,c1⟩
 ·repeat refine W.g ?_
  obtain⟨K,hK⟩:∃K,K=h':=⟨_,rfl⟩
  have YK:=YM.trans X
  have L1:=L1.ext X
  have L2:=L2.ext X
  rw[<-hK]at YK L1 L2 ⊢
  clear A5 A6
  refine W.call rfl rfl rfl (eql_path (YK.fr fr) (p7.ext YK) (q7.ext YK) m7 λG0 V0=> ?_)
  have U0:=YK.trans V0
  have L1:=L1.ext V0
  have L2:=L2.ext V0
  refine W.k5 2 3 8 34 39 λT=> ?_
  repeat refine W.g ?_
  refine W.call rfl rfl rfl (eql_door (U0.fr fr) (p8.ext U0) (q8.ext U0) m8 λG1 V1=> ?_)
  have U1:=U0.trans V1
  have L1:=L1.ext V1
  have L2:=L2.ext V1
  refine W.k5 2 3 8 41 46 λT=> ?_
  repeat refine W.g ?_
  refine W.call rfl rfl rfl (eqlF_route (U1.fr fr) (p9.ext U1) (q9.ext U1) m9 mr λG2 V2=> ?_)
  have U2:=U1.trans V2
  have L1:=L1.ext V2
  have L2:=L2.ext V2
  refine W.k4 2 3 48 54 λT=> ?_
  repeat refine W.g ?_
  refine W.call rfl rfl rfl (eql_trip (U2.fr fr) (p10.ext U2) (q10.ext U2) m10 λG3 V3=> ?_)
  have U3:=U2.trans V3
  have L1:=L1.ext V3
  have L2:=L2.ext V3
  refine W.k4 2 3 56 61 λT=> ?_
  repeat refine W.g ?_
  refine W.call rfl rfl rfl (eql_haz (U3.fr fr) (p11.ext U3) (q11.ext U3) m11 λG4 V4=> ?_)
  have U4:=U3.trans V4
  have L1:=L1.ext V4
  have L2:=L2.ext V4
  refine W.k2 63 68 λT=> ?_
  repeat refine W.g ?_
  exact q _ U4
end
end Go.Proofs.YtnjkaahbhebaeaaGreatDoor
