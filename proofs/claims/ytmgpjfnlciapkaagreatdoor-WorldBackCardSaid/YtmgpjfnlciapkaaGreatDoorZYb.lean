/- Whether a world holds together. No condition but that memory beyond the next number is empty. -/
import Derived.Test.YtmgpjfnlciapkaaGreatDoorXG
import Derived.Test.YtmgpjfnlciapkaaGreatDoorZYa
import Derived.Test.YtmgpjfnlciapkaaGreatDoorYV
import Derived.Test.YtmgpjfnlciapkaaGreatDoorXQ4
set_option linter.unusedVariables false
set_option linter.unusedSimpArgs false
namespace Go.Proofs.YtmgpjfnlciapkaaGreatDoor
open Go Go.CM Go.CM.Tt
noncomputable section
set_option maxHeartbeats 16000000
set_option maxRecDepth 100000
theorem in_w {h:Heap} {tm:Tm} {Q:R->Prop} {v:CV} {l:List Str} (sl:Sl h v l) (n:Int) (q:∀b:Bool,(b=true↔inL n l)->Q (.val (.bool b) h)):W E1 (.call (.fn 126 [] []) [v,.int .i64 n]) tm h Q:=by
 refine W.fn (s:=fnOf Tryz.f126) rfl rfl rfl rfl ?_
 by_cases c:0<=n
 ·by_cases d:n<l.length
  ·refine W.g ?_
   exact q true (Iff.intro (λ_=>⟨c,d⟩) (λ_=>rfl))
  ·refine W.g ?_
   exact q false (Iff.intro (λh=>by cases h) (λh=>absurd h.2 d))
 ·refine W.g ?_
  exact q false (Iff.intro (λh=>by cases h) (λh=>absurd h.1 c))
structure WCtx (H:Heap) (b3 b4 b5:Nat) (v1 v2 v3 v4 v5 v6:CV) (n:NamesD):Prop where
 l3:LocE H b3 0 [v1,v2,v3,v4,v5,v6]
 l4:LocE H b4 0 [.fn 126 [] []]
 l5:LocE H b5 0 [.fn 127 [] [.ptr (some (b4,0)),.ptr (some (b3,0))]]
 s1:Sl H v1 n.stops
 s2:Sl H v2 n.paths
 s4:Sl H v4 n.routes
section
variable {H h:Heap} {tm:Tm} {Q:R->Prop} {b3 b4 b5:Nat} {v1 v2 v3 v4 v5 v6:CV} {n:NamesD}
theorem oddS_w (c:WCtx H b3 b4 b5 v1 v2 v3 v4 v5 v6 n) (X:Ext H h) (i:Int) (q:∀b:Bool,(b=true↔¬inL i n.stops)->Q (.val (.bool b) h)):W E1 (.call (.fn 127 [] [.ptr (some (b4,0)),.ptr (some (b3,0))]) [.int .i64 i]) tm h Q:=by
 obtain⟨l3,l4,l5,s1,s2,s4⟩:=c
 refine W.fn (s:=fnOf Tryz.f127) rfl rfl rfl rfl ?_
 refine W.g ?_
 refine W.call rfl rfl rfl (in_w (s1.ext X) i λb hb=> ?_)
 cases b
 ·refine W.g ?_
  exact q true (Iff.intro (λ_ h=>by cases hb.2 h) (λ_=>rfl))
 ·refine W.g ?_
  exact q false (Iff.intro (λh=>by cases h) (λh=>absurd (hb.1 rfl) h))
theorem odd3_w (c:WCtx H b3 b4 b5 v1 v2 v3 v4 v5 v6 n) (X:Ext H h) (d:PathW) (q:∀h2 (b:Bool),Ext h h2->(b=true↔¬inL d.a n.stops\/¬inL d.b n.stops)->Q (.val (.bool b) h2)):W E1 (.call (.fn 129 [] [.ptr (some (b5,0))]) [.agg d.enc]) tm h Q:=by
 have l5:=c.l5
 refine W.fn (s:=fnOf Tryz.f129) rfl rfl rfl rfl ?_
 repeat (first|refine W.g ?_|refine W.m λh_ X_ n_ g_ L_=> ?_)
 have X1:Ext h h_:=X_
 refine W.call rfl rfl rfl (oddS_w c (X.trans X_) d.a λb hb=> ?_)
 cases b
 ·refine W.g ?_
  refine W.call rfl rfl rfl (oddS_w c (X.trans X_) d.b λb hb2=> ?_)
  cases b
  ·refine W.g ?_
   exact q _ false X1 (Iff.intro (λh=>by cases h) (λh=>by rcases h with h|h;exact hb.2 h;exact hb2.2 h))
  ·refine W.g ?_
   exact q _ true X1 (Iff.intro (λ_=> .inr (hb2.1 rfl)) (λ_=>rfl))
 ·refine W.g ?_
  exact q _ true X1 (Iff.intro (λ_=> .inl (hb.1 rfl)) (λ_=>rfl))
theorem odd4_w (c:WCtx H b3 b4 b5 v1 v2 v3 v4 v5 v6 n) (X:Ext H h) (d:DoorW) (q:∀h2 (b:Bool),Ext h h2->(b=true↔¬inL d.a n.stops\/¬inL d.b n.stops)->Q (.val (.bool b) h2)):W E1 (.call (.fn 131 [] [.ptr (some (b5,0))]) [.agg d.enc]) tm h Q:=by
 have l5:=c.l5
 refine W.fn (s:=fnOf Tryz.f131) rfl rfl rfl rfl ?_
 repeat (first|refine W.g ?_|refine W.m λh_ X_ n_ g_ L_=> ?_)
 have X1:Ext h h_:=X_
 refine W.call rfl rfl rfl (oddS_w c (X.trans X_) d.a λb hb=> ?_)
 cases b
 ·refine W.g ?_
  refine W.call rfl rfl rfl (oddS_w c (X.trans X_) d.b λb hb2=> ?_)
  cases b
  ·refine W.g ?_
   exact q _ false X1 (Iff.intro (λh=>by cases h) (λh=>by rcases h with h|h;exact hb.2 h;exact hb2.2 h))
  ·refine W.g ?_
   exact q _ true X1 (Iff.intro (λ_=> .inr (hb2.1 rfl)) (λ_=>rfl))
 ·refine W.g ?_
  exact q _ true X1 (Iff.intro (λ_=> .inl (hb.1 rfl)) (λ_=>rfl))
theorem odd5_w (c:WCtx H b3 b4 b5 v1 v2 v3 v4 v5 v6 n) (X:Ext H h) {e:List CV} {d:RouteW} (r:Rp.R h e d) (hm:d.stops.length<=1099511627776) (q:∀h2 (b:Bool),Ext h h2->(b=true↔∃s,s∈d.stops/\¬inL s n.stops)->Q (.val (.bool b) h2)):W E1 (.call (.fn 133 [] [.ptr (some (b5,0))]) [.agg e]) tm h Q:=by
 have l5:=c.l5
 obtain⟨u1,u2,u3,rfl,t1,t2,t3⟩:=r
 refine W.fn (s:=fnOf Tryz.f133) rfl rfl rfl rfl ?_
 repeat (first|refine W.g ?_|refine W.m λh_ X_ n_ g_ L_=> ?_)
 have X1:Ext h h_:=X_
 refine W.call rfl rfl rfl (conF_nt _ [] _ (λs=>¬inL s n.stops) (t1.ext X_) hm (λd _ tm h' Q X' q=>oddS_w c ((X.trans X1).trans X') d λb hb=>q _ b (Ext.refl _) hb) λh2 b X2 hb=> ?_)
 refine W.g ?_
 exact q _ b (X1.trans X2) hb
theorem odd6_w (c:WCtx H b3 b4 b5 v1 v2 v3 v4 v5 v6 n) (X:Ext H h) (d:TripW) (q:∀h2 (b:Bool),Ext h h2->(b=true↔¬inL d.route n.routes)->Q (.val (.bool b) h2)):W E1 (.call (.fn 136 [] [.ptr (some (b4,0)),.ptr (some (b3,0))]) [.agg d.enc]) tm h Q:=by
 obtain⟨l3,l4,l5,s1,s2,s4⟩:=c
 refine W.fn (s:=fnOf Tryz.f136) rfl rfl rfl rfl ?_
 repeat (first|refine W.g ?_|refine W.m λh_ X_ n_ g_ L_=> ?_)
 have X1:Ext h h_:=X_
 refine W.call rfl rfl rfl (in_w (s4.ext (X.trans X1)) d.route λb hb=> ?_)
 cases b
 ·refine W.g ?_
  exact q _ true X1 (Iff.intro (λ_ h=>by cases hb.2 h) (λ_=>rfl))
 ·refine W.g ?_
  exact q _ false X1 (Iff.intro (λh=>by cases h) (λh=>absurd (hb.1 rfl) h))
theorem odd7_w (c:WCtx H b3 b4 b5 v1 v2 v3 v4 v5 v6 n) (X:Ext H h) (d:HazW) (q:∀h2 (b:Bool),Ext h h2->(b=true↔¬inL d.on (if d.stop then n.stops else n.paths))->Q (.val (.bool b) h2)):W E1 (.call (.fn 138 [] [.ptr (some (b5,0)),.ptr (some (b4,0)),.ptr (some (b3,0))]) [.agg d.enc]) tm h Q:=by
 obtain⟨st,on,tt⟩:=d
 have c0:=c
 obtain⟨l3,l4,l5,s1,s2,s4⟩:=c
 refine W.fn (s:=fnOf Tryz.f138) rfl rfl rfl rfl ?_
 cases st
 ·repeat (first|refine W.g ?_|refine W.m λh_ X_ n_ g_ L_=> ?_)
  have X1:Ext h h_:=X_
  refine W.call rfl rfl rfl (in_w (s2.ext (X.trans X1)) on λb hb=> ?_)
  cases b
  ·refine W.g ?_
   exact q _ true X1 (Iff.intro (λ_ h=>by cases hb.2 h) (λ_=>rfl))
  ·refine W.g ?_
   exact q _ false X1 (Iff.intro (λh=>by cases h) (λh=>absurd (hb.1 rfl) h))
 ·repeat (first|refine W.g ?_|refine W.m λh_ X_ n_ g_ L_=> ?_)
  have X1:Ext h h_:=X_
  refine W.call rfl rfl rfl (oddS_w c0 (X.trans X1) on λb hb=> ?_)
  refine W.g ?_
  exact q _ b X1 hb
end
theorem whole_w {h:Heap} {tm:Tm} {Q:R->Prop} {cs:List CV} {w:WorldD} (r:Rp.R h cs w) (sm:w.small) (q:∀h' (b:Bool),Ext h h'->(b=true↔w.whole)->Q (.val (.bool b) h')):W E1 (.call (.fn 62 [] []) [.agg cs]) tm h Q:=by
 obtain⟨v1,v2,v3,v4,v5,v6,v7,v8,v9,v10,v11,rfl,s1,s2,s3,s4,s5,s6,s7,s8,s9,s10,s11⟩:=r
 obtain⟨f1,f2,f3,f4,f5,f6,f7,f8,f9,f10,f11,fr2⟩:=sm
 refine W.fn (s:=fnOf Tryz.f62) rfl rfl rfl rfl ?_
 repeat (refine W.seq ?_)
 refine W.region ?_
 refine W.box rfl rfl rfl λHa Xa na ga La=> ?_
 repeat (first|refine W.g ?_|refine W.m λh_ X_ n_ g_ L_=> ?_)
 have L3:LocE h_ Ha.next 0 [v1,v2,v3,v4,v5,v6]:=L_
 have Xh:=Xa.trans X_
 have La:=La.ext X_
 obtain⟨H,hH⟩:∃H,H=h_:=⟨_,rfl⟩
 rw[<-hH]at L3 Xh La ⊢
 clear L_ g_
 refine W.k4 1 2 3 15 λT=> ?_
 rcases Decidable.em (w.names.paths.length=w.paths.length)with e1|e1
 case inr=>
  refine W.g ?_
  exact q _ false Xh (Iff.intro (λh=>by cases h) (λh=>absurd h.1.1 e1))
 refine W.g ?_
 refine W.k4 1 2 3 24 λT=> ?_
 rcases Decidable.em (w.names.doors.length=w.doors.length)with e2|e2
 case inr=>
  refine W.g ?_
  exact q _ false Xh (Iff.intro (λh=>by cases h) (λh=>absurd h.1.2.1 e2))
 refine W.g ?_
 refine W.k4 1 2 3 33 λT=> ?_
 rcases Decidable.em (w.names.routes.length=w.routes.length)with e3|e3
 case inr=>
  refine W.g ?_
  exact q _ false Xh (Iff.intro (λh=>by cases h) (λh=>absurd h.1.2.2.1 e3))
 refine W.g ?_
 refine W.k4 1 2 3 42 λT=> ?_
 rcases Decidable.em (w.names.trips.length=w.trips.length)with e4|e4
 case inr=>
  refine W.g ?_
  exact q _ false Xh (Iff.intro (λh=>by cases h) (λh=>absurd h.1.2.2.2.1 e4))
 refine W.g ?_
 rcases Decidable.em (w.names.hazards.length=w.hazards.length)with e5|e5
 case inr=>
  refine W.g ?_
  exact q _ false Xh (Iff.intro (λh=>by cases h) (λh=>absurd h.1.2.2.2.2 e5))
 repeat (first|refine W.g ?_|refine W.m λh_ X_ n_ g_ L_=> ?_)
 rename_i K4 X4 n4 g4 L4
 obtain⟨b4,hb4⟩:∃b4,b4=H.next:=⟨_,rfl⟩
 obtain⟨b5,hb5⟩:∃b5,b5=K4.next:=⟨_,rfl⟩
 have X45:Ext H h_:=X4.trans X_
 have C:WCtx h_ Ha.next b4 b5 v1 v2 v3 v4 v5 v6 w.names:=⟨L3.ext X45,by rw[hb4];exact L4.ext X_,by rw[hb4,hb5];exact L_,(s1.ext Xh).ext X45,(s2.ext Xh).ext X45,(s4.ext Xh).ext X45⟩
 have XK:Ext h h_:=Xh.trans X45
 have La:=La.ext X45
 rw[<-hb4,<-hb5]
 obtain⟨K,hK⟩:∃K,K=h_:=⟨_,rfl⟩
 rw[<-hK]at C XK La ⊢
 clear X4 X_ g4 L4 g_ L_ L3
 refine W.k7 1 2 4 5 3 53 54 λT=> ?_
 refine W.call rfl rfl rfl (conF_pathW _ [] _ (λd=>¬inL d.a w.names.stops\/¬inL d.b w.names.stops) (s7.ext XK) (by omega) (λd _ tm h' Q X' q=>odd3_w C X' d q) λh2 p2 X2 hp2=> ?_)
 cases p2
 case true=>
  refine W.g ?_
  refine q _ false (XK.trans X2) (Iff.intro (λh=>by cases h) (λhw=> ?_))
  obtain⟨d,hd,hn⟩:=hp2.1 rfl
  have:=hw.2.1 d hd
  rcases hn with hn|hn
  ·exact absurd this.1 hn
  ·exact absurd this.2 hn
 refine W.k6 1 2 4 5 3 55 λT=> ?_
 refine W.g ?_
 refine W.call rfl rfl rfl (conF_doorW _ [] _ (λd=>¬inL d.a w.names.stops\/¬inL d.b w.names.stops) (s8.ext (XK.trans X2)) (by omega) (λd _ tm h' Q X' q=>odd4_w C (X2.trans X') d q) λh3 p3 X3 hp3=> ?_)
 have Y3:=X2.trans X3
 cases p3
 case true=>
  refine W.g ?_
  refine q _ false (XK.trans Y3) (Iff.intro (λh=>by cases h) (λhw=> ?_))
  obtain⟨d,hd,hn⟩:=hp3.1 rfl
  have:=hw.2.2.1 d hd
  rcases hn with hn|hn
  ·exact absurd this.1 hn
  ·exact absurd this.2 hn
 refine W.k7 1 2 4 5 3 57 61 λT=> ?_
 refine W.g ?_
 refine W.call rfl rfl rfl (conF_routeW _ [] _ (λd=>∃s,s∈d.stops/\¬inL s w.names.stops) (s9.ext (XK.trans Y3)) (by omega) (λd hd e re tm h' Q X' q=>odd5_w C (Y3.trans X') (Rp.ext X' re) (by have:=(fr2 d hd).1;omega) q) λh4 p4 X4 hp4=> ?_)
 have Y4:=Y3.trans X4
 cases p4
 case true=>
  refine W.g ?_
  refine q _ false (XK.trans Y4) (Iff.intro (λh=>by cases h) (λhw=> ?_))
  obtain⟨d,hd,s,hs,hn⟩:=hp4.1 rfl
  exact absurd (hw.2.2.2.1 d hd s hs) hn
 refine W.k7 1 2 4 5 3 64 68 λT=> ?_
 refine W.g ?_
 refine W.call rfl rfl rfl (conF_tripW _ [] _ (λd=>¬inL d.route w.names.routes) (s10.ext (XK.trans Y4)) (by omega) (λd _ tm h' Q X' q=>odd6_w C (Y4.trans X') d q) λh5 p5 X5 hp5=> ?_)
 have Y5:=Y4.trans X5
 cases p5
 case true=>
  refine W.g ?_
  refine q _ false (XK.trans Y5) (Iff.intro (λh=>by cases h) (λhw=> ?_))
  obtain⟨d,hd,hn⟩:=hp5.1 rfl
  exact absurd (hw.2.2.2.2.1 d hd) hn
 refine W.k7 1 2 4 5 3 71 75 λT=> ?_
 refine W.g ?_
 refine W.call rfl rfl rfl (conF_hazW _ [] _ (λd=>¬inL d.on (if d.stop then w.names.stops else w.names.paths)) (s11.ext (XK.trans Y5)) (by omega) (λd _ tm h' Q X' q=>odd7_w C (Y5.trans X') d q) λh6 p6 X6 hp6=> ?_)
 have Y6:=Y5.trans X6
 cases p6
 case true=>
  refine W.g ?_
  refine q _ false (XK.trans Y6) (Iff.intro (λh=>by cases h) (λhw=> ?_))
  obtain⟨d,hd,hn⟩:=hp6.1 rfl
  exact absurd (hw.2.2.2.2.2 d hd) hn
 refine W.g ?_
 have no:∀{α:Type} {l:List α} {P:α->Prop},(false=true↔∃d,d∈l/\P d)->∀d∈l,¬P d:=λh d hd hp=>by cases h.2 ⟨d,hd,hp⟩
 refine q _ true (XK.trans Y6) (Iff.intro (λ_=>⟨⟨e1,e2,e3,e4,e5⟩,λd hd=> ?_,λd hd=> ?_,λd hd s hs=> ?_,λd hd=> ?_,λd hd=> ?_⟩) (λ_=>rfl))
 ·have:=no hp2 d hd
  exact⟨Classical.not_not.1 λh=>this (.inl h),Classical.not_not.1 λh=>this (.inr h)⟩
 ·have:=no hp3 d hd
  exact⟨Classical.not_not.1 λh=>this (.inl h),Classical.not_not.1 λh=>this (.inr h)⟩
 ·exact Classical.not_not.1 λh=>no hp4 d hd ⟨s,hs,h⟩
 ·exact Classical.not_not.1 (no hp5 d hd)
 ·exact Classical.not_not.1 (no hp6 d hd)
end
end Go.Proofs.YtmgpjfnlciapkaaGreatDoor

noncomputable section
namespace Go.CM.Tt
section
variable {h h':Heap} {lo b:Nat} {w:WorldD} {x:SheetD}
theorem OwnG.put {rs:List RowE} {xs:List Nat} (g:OwnG h lo rs (b::xs)) (hn:h'.next=h.next) (hk:∀k,k≠b->h'.get k=h.get k):OwnG h' lo rs (b::xs)/\∀k∈xs,h'.get k=h.get k:=by
 have nd:=List.nodup_append.1 g.nd
 have n1:∀k∈idsR rs,k≠b:=λk hk=>nd.2.2 k hk b (by simp)
 have n2:∀k∈xs,k≠b:=λk hk e=>(List.nodup_cons.1 nd.2.1).1 (e▸hk)
 exact⟨⟨λr hr=>(g.o r hr).other (by omega) λk _ _ hi=>hk k (n1 k (List.mem_flatMap.2 ⟨r,hr,by rw[hi];simp⟩)),g.nd,λk hk=>by rw[hn];exact g.x k hk⟩,λk hk'=>hk k (n2 k hk')⟩
def flatS (x:SheetD) (n1 n2 n3 n5 n6:CV):List RowE:=[(1,n1,x.stops.map Flat.enc),(4,n2,x.paths.map Flat.enc),(7,n3,x.doors.map Flat.enc),(5,n5,x.trips.map Flat.enc),(5,n6,x.hazards.map Flat.enc)]
structure OwnSB (h:Heap) (lo b:Nat) (hz n1 n2 n3 vr n5 n6:CV) (x:SheetD):Prop where
 hz:hz= .int .i64 x.hz
 r:∃css,OwnRs h lo vr css x.routes/\OwnG h lo (flatS x n1 n2 n3 n5 n6++[(4,vr,css)]) (b::idsIn css)
variable {hz n1 n2 n3 vr n5 n6:CV}
theorem OwnSB.ext (o:OwnSB h lo b hz n1 n2 n3 vr n5 n6 x) (X:Ext h h'):OwnSB h' lo b hz n1 n2 n3 vr n5 n6 x:=by
 obtain⟨css,r1,r2⟩:=o.r
 exact⟨o.hz,css,r1.ext X,r2.ext X⟩
theorem OwnSB.rp (o:OwnSB h lo b hz n1 n2 n3 vr n5 n6 x):Rp.R h [hz,n1,n2,n3,vr,n5,n6] x:=by
 obtain⟨css,r1,r2⟩:=o.r
 have g:∀(j:Nat) {a:Nat} {v:CV} {l:List (List CV)},(flatS x n1 n2 n3 n5 n6)[j]? =some (a,v,l)->OwnR h lo a v l:=λj {_ _ _} hm=>r2.o _ (List.mem_append_left _ (List.mem_of_getElem? hm))
 refine⟨n1,n2,n3,vr,n5,n6,by rw[o.hz],?_,?_,?_,r1.toSl,?_,?_⟩
 ·exact OwnR.toSl (α:=Str) (lo:=lo) (g 0 rfl)
 ·exact OwnR.toSl (α:=PathS) (lo:=lo) (g 1 rfl)
 ·exact OwnR.toSl (α:=DoorS) (lo:=lo) (g 2 rfl)
 ·exact OwnR.toSl (α:=TripS) (lo:=lo) (g 3 rfl)
 ·exact OwnR.toSl (α:=HazS) (lo:=lo) (g 4 rfl)
theorem OwnRs.stay {rs:List RowE} {css:List (List CV)} {l:List RouteS} {xs:List Nat} (r:OwnRs h lo vr css l) (g:OwnG h' lo rs xs) (hm:(4,vr,css)∈rs) (hn:h.next<=h'.next) (hx:∀k∈idsIn css,h'.get k=h.get k):OwnRs h' lo vr css l:=
 ⟨g.o _ hm,r.2.1,λj e d he hd=>(r.2.2 j e d he hd).other hn λk hk=>hx k (List.mem_flatMap.2 ⟨e,List.mem_of_getElem? he,hk⟩)⟩
theorem OwnSB.put (o:OwnSB h lo b hz n1 n2 n3 vr n5 n6 x) (hn:h'.next=h.next) (hk:∀k,k≠b->h'.get k=h.get k):OwnSB h' lo b hz n1 n2 n3 vr n5 n6 x:=by
 obtain⟨css,r1,r2⟩:=o.r
 obtain⟨g,hx⟩:=r2.put hn hk
 exact⟨o.hz,css,r1.stay g (by simp) (by omega) hx,g⟩
theorem OwnSB.paths (o:OwnSB h lo b hz n1 n2 n3 vr n5 n6 x) {l:List PathS} {u:CV} (hn:h.next<=h'.next) (hk:∀k,k<h.next->k<lo\/idOf n2≠[k]->h'.get k=h.get k) (om:OwnR h' lo 4 u (l.map Flat.enc)) (hi:idOf u=idOf n2\/∃j,idOf u=[j]/\h.next<=j):OwnSB h' lo b hz n1 u n3 vr n5 n6 {x with paths:=l}:=by
 obtain⟨css,r1,r2⟩:=o.r
 obtain⟨g,hx⟩:=OwnG.turn (A:=[(1,n1,x.stops.map Flat.enc)]) (B:=[(7,n3,x.doors.map Flat.enc),(5,n5,x.trips.map Flat.enc),(5,n6,x.hazards.map Flat.enc),(4,vr,css)]) r2 hn hk om hi
 exact⟨o.hz,css,r1.stay g (by simp) hn λk hm=>hx k (List.mem_cons_of_mem _ hm),g⟩
theorem OwnSB.own_paths (o:OwnSB h lo b hz n1 n2 n3 vr n5 n6 x):OwnR h lo 4 n2 (x.paths.map Flat.enc)/\idOf n2≠[b]:=by
 obtain⟨css,r1,r2⟩:=o.r
 have hm:((4,n2,x.paths.map Flat.enc):RowE)∈flatS x n1 n2 n3 n5 n6++[(4,vr,css)]:=by simp[flatS]
 exact⟨r2.o _ hm,λe=>(List.nodup_append.1 r2.nd).2.2 b (List.mem_flatMap.2 ⟨_,hm,by rw[e];simp⟩) b (by simp) rfl⟩
theorem OwnSB.doors (o:OwnSB h lo b hz n1 n2 n3 vr n5 n6 x) {l:List DoorS} {u:CV} (hn:h.next<=h'.next) (hk:∀k,k<h.next->k<lo\/idOf n3≠[k]->h'.get k=h.get k) (om:OwnR h' lo 7 u (l.map Flat.enc)) (hi:idOf u=idOf n3\/∃j,idOf u=[j]/\h.next<=j):OwnSB h' lo b hz n1 n2 u vr n5 n6 {x with doors:=l}:=by
 obtain⟨css,r1,r2⟩:=o.r
 obtain⟨g,hx⟩:=OwnG.turn (A:=[(1,n1,x.stops.map Flat.enc),(4,n2,x.paths.map Flat.enc)]) (B:=[(5,n5,x.trips.map Flat.enc),(5,n6,x.hazards.map Flat.enc),(4,vr,css)]) r2 hn hk om hi
 exact⟨o.hz,css,r1.stay g (by simp) hn λk hm=>hx k (List.mem_cons_of_mem _ hm),g⟩
theorem OwnSB.own_doors (o:OwnSB h lo b hz n1 n2 n3 vr n5 n6 x):OwnR h lo 7 n3 (x.doors.map Flat.enc)/\idOf n3≠[b]:=by
 obtain⟨css,r1,r2⟩:=o.r
 have hm:((7,n3,x.doors.map Flat.enc):RowE)∈flatS x n1 n2 n3 n5 n6++[(4,vr,css)]:=by simp[flatS]
 exact⟨r2.o _ hm,λe=>(List.nodup_append.1 r2.nd).2.2 b (List.mem_flatMap.2 ⟨_,hm,by rw[e];simp⟩) b (by simp) rfl⟩
theorem OwnSB.trips (o:OwnSB h lo b hz n1 n2 n3 vr n5 n6 x) {l:List TripS} {u:CV} (hn:h.next<=h'.next) (hk:∀k,k<h.next->k<lo\/idOf n5≠[k]->h'.get k=h.get k) (om:OwnR h' lo 5 u (l.map Flat.enc)) (hi:idOf u=idOf n5\/∃j,idOf u=[j]/\h.next<=j):OwnSB h' lo b hz n1 n2 n3 vr u n6 {x with trips:=l}:=by
 obtain⟨css,r1,r2⟩:=o.r
 obtain⟨g,hx⟩:=OwnG.turn (A:=[(1,n1,x.stops.map Flat.enc),(4,n2,x.paths.map Flat.enc),(7,n3,x.doors.map Flat.enc)]) (B:=[(5,n6,x.hazards.map Flat.enc),(4,vr,css)]) r2 hn hk om hi
 exact⟨o.hz,css,r1.stay g (by simp) hn λk hm=>hx k (List.mem_cons_of_mem _ hm),g⟩
theorem OwnSB.own_trips (o:OwnSB h lo b hz n1 n2 n3 vr n5 n6 x):OwnR h lo 5 n5 (x.trips.map Flat.enc)/\idOf n5≠[b]:=by
 obtain⟨css,r1,r2⟩:=o.r
 have hm:((5,n5,x.trips.map Flat.enc):RowE)∈flatS x n1 n2 n3 n5 n6++[(4,vr,css)]:=by simp[flatS]
 exact⟨r2.o _ hm,λe=>(List.nodup_append.1 r2.nd).2.2 b (List.mem_flatMap.2 ⟨_,hm,by rw[e];simp⟩) b (by simp) rfl⟩
theorem OwnSB.hazards (o:OwnSB h lo b hz n1 n2 n3 vr n5 n6 x) {l:List HazS} {u:CV} (hn:h.next<=h'.next) (hk:∀k,k<h.next->k<lo\/idOf n6≠[k]->h'.get k=h.get k) (om:OwnR h' lo 5 u (l.map Flat.enc)) (hi:idOf u=idOf n6\/∃j,idOf u=[j]/\h.next<=j):OwnSB h' lo b hz n1 n2 n3 vr n5 u {x with hazards:=l}:=by
 obtain⟨css,r1,r2⟩:=o.r
 obtain⟨g,hx⟩:=OwnG.turn (A:=[(1,n1,x.stops.map Flat.enc),(4,n2,x.paths.map Flat.enc),(7,n3,x.doors.map Flat.enc),(5,n5,x.trips.map Flat.enc)]) (B:=[(4,vr,css)]) r2 hn hk om hi
 exact⟨o.hz,css,r1.stay g (by simp) hn λk hm=>hx k (List.mem_cons_of_mem _ hm),g⟩
theorem OwnSB.own_hazards (o:OwnSB h lo b hz n1 n2 n3 vr n5 n6 x):OwnR h lo 5 n6 (x.hazards.map Flat.enc)/\idOf n6≠[b]:=by
 obtain⟨css,r1,r2⟩:=o.r
 have hm:((5,n6,x.hazards.map Flat.enc):RowE)∈flatS x n1 n2 n3 n5 n6++[(4,vr,css)]:=by simp[flatS]
 exact⟨r2.o _ hm,λe=>(List.nodup_append.1 r2.nd).2.2 b (List.mem_flatMap.2 ⟨_,hm,by rw[e];simp⟩) b (by simp) rfl⟩
theorem OwnSB.lt (o:OwnSB h lo b hz n1 n2 n3 vr n5 n6 x):b<h.next:=by
 obtain⟨css,r1,r2⟩:=o.r
 exact(r2.x b (by simp)).2
variable {m1 m2 m3 m4 m5 m6 p d t z:CV}
end
end Go.CM.Tt

noncomputable section
namespace Go.CM.Tt
section
variable {h h' g:Heap} {lo b:Nat} {x:SheetD} {hz n1 n2 n3 vr n5 n6 u:CV}
theorem OwnSB.start {l:List Str} {a:Int} (o:OwnR h lo 1 n1 (l.map Flat.enc)) (hb:lo<=b) (hl:b<h.next) (ne:idOf n1≠[b]):OwnSB h lo b (.int .i64 a) n1 (.slice none 0 0 0) (.slice none 0 0 0) (.slice none 0 0 0) (.slice none 0 0 0) (.slice none 0 0 0) ⟨a,l,[],[],[],[],[]⟩:=by
 refine⟨rfl,[],⟨OwnR.nil,rfl,λj e d he _=>by simp at he⟩,⟨λr hr=> ?_,?_,λk hk=> ?_⟩⟩
 ·simp only[flatS,List.cons_append,List.nil_append,List.mem_cons,List.not_mem_nil,or_false]at hr
  rcases hr with rfl|rfl|rfl|rfl|rfl|rfl
  ·exact o
  all_goals exact OwnR.nil
 ·have e:idsR (flatS ⟨a,l,[],[],[],[],[]⟩ n1 (.slice none 0 0 0) (.slice none 0 0 0) (.slice none 0 0 0) (.slice none 0 0 0)++[(4,.slice none 0 0 0,[])])++b::idsIn []=idOf n1++[b]:=by
    simp[idsR,flatS,idOf,idsIn]
  rw[e]
  refine List.nodup_append.2 ⟨OwnR.idNodup _,by simp,λc hc d hd e2=> ?_⟩
  rw[List.mem_singleton]at hd
  rcases idOf_one n1 with h1|⟨j,h1⟩
  ·rw[h1]at hc;cases hc
  ·rw[h1]at hc
   exact ne (by rw[h1,<-List.mem_singleton.1 hc,e2,hd])
 ·have:k=b:=by simpa[idsIn]using hk
  rw[this];exact⟨hb,hl⟩
theorem OwnSB.keep (o:OwnSB h lo b hz n1 n2 n3 vr n5 n6 x) (hn:h.next<=h'.next) (hk:∀k,lo<=k->k<h.next->h'.get k=h.get k):OwnSB h' lo b hz n1 n2 n3 vr n5 n6 x:=by
 obtain⟨css,r1,r2⟩:=o.r
 have hl:=λk hm=>hk k (r2.lt k hm).1 (r2.lt k hm).2
 have g:=r2.keep hn hl
 exact⟨o.hz,css,r1.stay g (by simp) hn λk hm=>hl k (List.mem_append_right _ (List.mem_cons_of_mem _ hm)),g⟩
theorem OwnSB.route {css:List (List CV)} {e:List CV} {d:RouteS} {lo2:Nat} (e0:hz= .int .i64 x.hz) (r1:OwnRs g lo vr css x.routes) (r2:OwnG g lo (flatS x n1 n2 n3 n5 n6++[(4,vr,css)]) (b::idsIn css))
  (oe:OwnRS g lo2 e d) (hlo:lo<=lo2) (hlt:∀k∈idsR (flatS x n1 n2 n3 n5 n6++[(4,vr,css)])++b::idsIn css,k<lo2) (nd:(idsOf e).Nodup)
  (hn:g.next<=h'.next) (hk:∀k,k<g.next->k<lo\/idOf vr≠[k]->h'.get k=g.get k) (om:OwnR h' lo 4 u (css++[e])) {j:Nat} (hi:idOf u=[j]) (hj:g.next<=j):OwnSB h' lo b hz n1 n2 n3 u n5 n6 {x with routes:=x.routes++[d]}:=by
 have eid:∀(v:CV) (c:List (List CV)),idsR (flatS x n1 n2 n3 n5 n6++[(4,v,c)])=idsR (flatS x n1 n2 n3 n5 n6)++idOf v:=λv c=>by simp[idsR]
 have nd0:=r2.nd
 rw[eid,List.append_assoc]at nd0
 rw[eid,List.append_assoc]at hlt
 have nA:=List.nodup_append.1 nd0
 have nV:=List.nodup_append.1 nA.2.1
 have oid:=oe.ids
 have nev:∀k,k∈idsR (flatS x n1 n2 n3 n5 n6)\/k∈b::idsIn css->idOf vr≠[k]:=λk hk e1=>by
  rcases hk with hk|hk
  ·exact nA.2.2 k hk k (by rw[e1];simp) rfl
  ·exact nV.2.2 k (by rw[e1];simp) k hk rfl
 have glt:∀k,k∈idsR (flatS x n1 n2 n3 n5 n6)\/k∈b::idsIn css->k<g.next:=λk hk=>by
  have:=r2.lt k (by
   rw[eid,List.append_assoc]
   rcases hk with hk|hk
   ·exact List.mem_append_left _ hk
   ·exact List.mem_append_right _ (List.mem_append_right _ hk))
  exact this.2
 have kp:∀k,k∈idsR (flatS x n1 n2 n3 n5 n6)\/k∈b::idsIn css->h'.get k=g.get k:=λk hk2=>hk k (glt k hk2) (.inr (nev k hk2))
 have ke:∀k∈idsOf e,h'.get k=g.get k:=λk hk2=>hk k (oid k hk2).2 (.inr λe1=>by
  have h1:=(oid k hk2).1
  have h2:=hlt k (List.mem_append_right _ (List.mem_append_left _ (by rw[e1];simp)))
  omega)
 refine⟨e0,css++[e],⟨om,by rw[List.length_append,List.length_append,r1.2.1];rfl,λi e' d' he hd=> ?_⟩,⟨λr hr=> ?_,?_,λk hk2=> ?_⟩⟩
 ·by_cases c:i<css.length
  ·rw[List.getElem?_append_left c]at he
   rw[List.getElem?_append_left (by rw[<-r1.2.1];exact c)]at hd
   exact(r1.2.2 i e' d' he hd).other hn λk hk2=>kp k (.inr (List.mem_cons_of_mem _ (List.mem_flatMap.2 ⟨e',List.mem_of_getElem? he,hk2⟩)))
  ·have hi2:i=css.length:=by
     have:=(List.getElem?_eq_some_iff.1 he).1
     rw[List.length_append,List.length_singleton]at this
     omega
   subst hi2
   rw[List.getElem?_append_right (Nat.le_refl _),Nat.sub_self]at he
   have he:e=e':=by simpa using he
   have hd:d=d':=by
    rw[r1.2.1,List.getElem?_append_right (Nat.le_refl _),Nat.sub_self]at hd
    simpa using hd
   subst he hd
   exact(oe.low hlo).other hn ke
 ·have hr:r∈flatS x n1 n2 n3 n5 n6++[(4,u,css++[e])]:=hr
  rcases List.mem_append.1 hr with hr|hr
  ·exact(r2.o r (List.mem_append_left _ hr)).other hn λk _ _ hid=>kp k (.inl (List.mem_flatMap.2 ⟨r,hr,by rw[hid];simp⟩))
  ·rw[List.mem_singleton.1 hr];exact om
 ·have e9:idsR (flatS {x with routes:=x.routes++[d]} n1 n2 n3 n5 n6++[(4,u,css++[e])])++b::idsIn (css++[e])=idsR (flatS x n1 n2 n3 n5 n6)++(idOf u++(b::idsIn css++idsOf e)):=by
    rw[show flatS {x with routes:=x.routes++[d]} n1 n2 n3 n5 n6=flatS x n1 n2 n3 n5 n6 from rfl,eid]
    simp[idsIn,idsOf]
  rw[e9,hi]
  have inner:(b::idsIn css++idsOf e).Nodup:=nodup_behind (n:=lo2) nV.2.1 (λa ha=>hlt a (List.mem_append_right _ (List.mem_append_right _ ha))) nd (λa ha=>(oid a ha).1)
  have ilt:∀a∈b::idsIn css++idsOf e,a<g.next:=λa ha=>by
   rcases List.mem_append.1 ha with ha|ha
   ·exact glt a (.inr ha)
   ·exact(oid a ha).2
  refine List.nodup_append.2 ⟨nA.1,List.nodup_append.2 ⟨by simp,inner,λa ha c hc e1=> ?_⟩,λa ha c hc e1=> ?_⟩
  ·rw[List.mem_singleton.1 ha]at e1
   have:=ilt c hc
   omega
  ·have h1:=glt a (.inl ha)
   rcases List.mem_append.1 hc with hc|hc
   ·rw[List.mem_singleton.1 hc]at e1;omega
   ·rcases List.mem_append.1 hc with hc|hc
    ·exact nA.2.2 a ha c (List.mem_append_right _ hc) e1
    ·have h2:=(oid c hc).1
     have h3:=hlt a (List.mem_append_left _ ha)
     omega
 ·rcases List.mem_cons.1 hk2 with rfl|hk2
  ·have:=r2.x k (by simp)
   exact⟨this.1,by omega⟩
  ·unfold idsIn at hk2
   rw[List.flatMap_append,List.mem_append]at hk2
   rcases hk2 with hk2|hk2
   ·have:=r2.x k (List.mem_cons_of_mem _ hk2)
    exact⟨this.1,by omega⟩
   ·have:=oid k (by simpa using hk2)
    exact⟨by omega,by omega⟩
end
theorem told_take {α β:Type} {l:List α} {f:Nat->α->β} {k:Nat} (h:k<l.length):(l.mapIdx f).take (k+1)=(l.mapIdx f).take k++[f k l[k]]:=by
 rw[List.take_add_one,List.getElem?_eq_getElem (by rw[List.length_mapIdx];exact h),List.getElem_mapIdx];rfl
theorem told_all {α β:Type} {l:List α} {f:Nat->α->β} {k:Nat} (h:¬k<l.length) (h2:k<=l.length):(l.mapIdx f).take k=l.mapIdx f:=by
 have:k=l.length:=by omega
 rw[this]
 exact List.take_of_length_le (by rw[List.length_mapIdx];exact Nat.le_refl _)
theorem inL.ex {n:Int} {l:List Str} (h:inL n l):∃j:Nat,n=j/\j<l.length:=⟨n.toNat,by have:=h.1;omega,by have:=h.1;have:=h.2;omega⟩
end Go.CM.Tt
