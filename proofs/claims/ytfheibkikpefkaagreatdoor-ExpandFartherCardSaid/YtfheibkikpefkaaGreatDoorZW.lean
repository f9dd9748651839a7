/- A sheet, a world of one's own that a variable holds: rows turned, the variable written. No condition, no program. -/
import Derived.Test.YtfheibkikpefkaaGreatDoorXQ4
import Derived.Test.YtfheibkikpefkaaGreatDoorYM
set_option linter.unusedVariables false
set_option linter.unusedSimpArgs false
noncomputable section
namespace Go.CM.Tt
section
variable {h h':Heap} {lo b:Nat} {w:WorldD} {x:SheetD}
theorem OwnG.put {rs:List RowE} {xs:List Nat} (g:OwnG h lo rs (b::xs)) (hn:h'.next=h.next) (hk:∀k,k≠b->h'.get k=h.get k):OwnG h' lo rs (b::xs)/\∀k∈xs,h'.get k=h.get k:=by
 have nd:=List.nodup_append.1 g.nd;have n1:∀k∈idsR rs,k≠b:=λk hk=>nd.2.2 k hk b (by simp);have n2:∀k∈xs,k≠b:=λk hk e=>(List.nodup_cons.1 nd.2.1).1 (e▸hk);exact⟨⟨λr hr=>(g.o r hr).other (by omega) λk _ _ hi=>hk k (n1 k (List.mem_flatMap.2 ⟨r,hr,by rw[hi];simp⟩)),g.nd,λk hk=>by rw[hn];exact g.x k hk⟩,λk hk'=>hk k (n2 k hk')⟩
theorem OwnG.box {rs:List RowE} {xs:List Nat} (g:OwnG h lo rs xs) (X:Ext h h') (hlo:lo<=h.next) (hb:h.next<=b) (hl:b<h'.next):OwnG h' lo rs (b::xs):=by
 have nd:=List.nodup_append.1 g.nd;have hx:=X.next;have ne:∀k∈idsR rs++xs,k≠b:=λk hk=>by have:=(g.lt k hk).2;omega
 refine⟨λr hr=>(g.o r hr).ext X,List.nodup_append.2 ⟨nd.1,List.nodup_cons.2 ⟨λhm=>ne b (List.mem_append_right _ hm) rfl,nd.2.1⟩,λa ha c hc e=> ?_⟩,λk hk=> ?_⟩
 ·rcases List.mem_cons.1 hc with rfl|hc
  ·exact ne a (List.mem_append_left _ ha) e
  ·exact nd.2.2 a ha c hc e
 ·rcases List.mem_cons.1 hk with rfl|hk
  ·exact⟨by omega,hl⟩
  ·have:=g.x k hk;exact⟨this.1,by omega⟩
def flatS (x:SheetD) (n1 n2 n3 n5 n6:CV):List RowE:=[(1,n1,x.stops.map Flat.enc),(4,n2,x.paths.map Flat.enc),(7,n3,x.doors.map Flat.enc),(5,n5,x.trips.map Flat.enc),(5,n6,x.hazards.map Flat.enc)]
structure OwnSB (h:Heap) (lo b:Nat) (hz n1 n2 n3 vr n5 n6:CV) (x:SheetD):Prop where
 hz:hz= .int .i64 x.hz
 r:∃css,OwnRs h lo vr css x.routes/\OwnG h lo (flatS x n1 n2 n3 n5 n6++[(4,vr,css)]) (b::idsIn css)
variable {hz n1 n2 n3 vr n5 n6:CV}
theorem OwnSB.ext (o:OwnSB h lo b hz n1 n2 n3 vr n5 n6 x) (X:Ext h h'):OwnSB h' lo b hz n1 n2 n3 vr n5 n6 x:=by
 obtain⟨css,r1,r2⟩:=o.r;exact⟨o.hz,css,r1.ext X,r2.ext X⟩
theorem OwnSB.rp (o:OwnSB h lo b hz n1 n2 n3 vr n5 n6 x):Rp.R h [hz,n1,n2,n3,vr,n5,n6] x:=by
 obtain⟨css,r1,r2⟩:=o.r;have g:∀(j:Nat) {a:Nat} {v:CV} {l:List (List CV)},(flatS x n1 n2 n3 n5 n6)[j]? =some (a,v,l)->OwnR h lo a v l:=λj {_ _ _} hm=>r2.o _ (List.mem_append_left _ (List.mem_of_getElem? hm));refine⟨n1,n2,n3,vr,n5,n6,by rw[o.hz],?_,?_,?_,r1.toSl,?_,?_⟩
 ·exact OwnR.toSl (α:=Str) (lo:=lo) (g 0 rfl)
 ·exact OwnR.toSl (α:=PathS) (lo:=lo) (g 1 rfl)
 ·exact OwnR.toSl (α:=DoorS) (lo:=lo) (g 2 rfl)
 ·exact OwnR.toSl (α:=TripS) (lo:=lo) (g 3 rfl)
 ·exact OwnR.toSl (α:=HazS) (lo:=lo) (g 4 rfl)
theorem OwnRs.stay {rs:List RowE} {css:List (List CV)} {l:List RouteS} {xs:List Nat} (r:OwnRs h lo vr css l) (g:OwnG h' lo rs xs) (hm:(4,vr,css)∈rs) (hn:h.next<=h'.next) (hx:∀k∈idsIn css,h'.get k=h.get k):OwnRs h' lo vr css l:=
 ⟨g.o _ hm,r.2.1,λj e d he hd=>(r.2.2 j e d he hd).other hn λk hk=>hx k (List.mem_flatMap.2 ⟨e,List.mem_of_getElem? he,hk⟩)⟩
theorem OwnRws.stay2 {rs:List RowE} {css:List (List CV)} {l:List RouteW} {xs:List Nat} (r:OwnRws h lo vr css l) (g:OwnG h' lo rs xs) (hm:(3,vr,css)∈rs) (hn:h.next<=h'.next) (hx:∀k∈idsIn css,h'.get k=h.get k):OwnRws h' lo vr css l:=
 ⟨g.o _ hm,r.2.1,λj e d he hd=>(r.2.2 j e d he hd).other hn λk hk=>hx k (List.mem_flatMap.2 ⟨e,List.mem_of_getElem? he,hk⟩)⟩
theorem OwnSB.put (o:OwnSB h lo b hz n1 n2 n3 vr n5 n6 x) (hn:h'.next=h.next) (hk:∀k,k≠b->h'.get k=h.get k):OwnSB h' lo b hz n1 n2 n3 vr n5 n6 x:=by
 obtain⟨css,r1,r2⟩:=o.r;obtain⟨g,hx⟩:=r2.put hn hk;exact⟨o.hz,css,r1.stay g (by simp) (by omega) hx,g⟩
theorem OwnSB.paths (o:OwnSB h lo b hz n1 n2 n3 vr n5 n6 x) {l:List PathS} {u:CV} (hn:h.next<=h'.next) (hk:∀k,k<h.next->k<lo\/idOf n2≠[k]->h'.get k=h.get k) (om:OwnR h' lo 4 u (l.map Flat.enc)) (hi:idOf u=idOf n2\/∃j,idOf u=[j]/\h.next<=j):OwnSB h' lo b hz n1 u n3 vr n5 n6 {x with paths:=l}:=by
 obtain⟨css,r1,r2⟩:=o.r;obtain⟨g,hx⟩:=OwnG.turn (A:=[(1,n1,x.stops.map Flat.enc)]) (B:=[(7,n3,x.doors.map Flat.enc),(5,n5,x.trips.map Flat.enc),(5,n6,x.hazards.map Flat.enc),(4,vr,css)]) r2 hn hk om hi;exact⟨o.hz,css,r1.stay g (by simp) hn λk hm=>hx k (List.mem_cons_of_mem _ hm),g⟩
theorem OwnSB.own_paths (o:OwnSB h lo b hz n1 n2 n3 vr n5 n6 x):OwnR h lo 4 n2 (x.paths.map Flat.enc)/\idOf n2≠[b]:=by
 obtain⟨css,r1,r2⟩:=o.r;have hm:((4,n2,x.paths.map Flat.enc):RowE)∈flatS x n1 n2 n3 n5 n6++[(4,vr,css)]:=by simp[flatS]
 exact⟨r2.o _ hm,λe=>(List.nodup_append.1 r2.nd).2.2 b (List.mem_flatMap.2 ⟨_,hm,by rw[e];simp⟩) b (by simp) rfl⟩
theorem OwnSB.doors (o:OwnSB h lo b hz n1 n2 n3 vr n5 n6 x) {l:List DoorS} {u:CV} (hn:h.next<=h'.next) (hk:∀k,k<h.next->k<lo\/idOf n3≠[k]->h'.get k=h.get k) (om:OwnR h' lo 7 u (l.map Flat.enc)) (hi:idOf u=idOf n3\/∃j,idOf u=[j]/\h.next<=j):OwnSB h' lo b hz n1 n2 u vr n5 n6 {x with doors:=l}:=by
 obtain⟨css,r1,r2⟩:=o.r;obtain⟨g,hx⟩:=OwnG.turn (A:=[(1,n1,x.stops.map Flat.enc),(4,n2,x.paths.map Flat.enc)]) (B:=[(5,n5,x.trips.map Flat.enc),(5,n6,x.hazards.map Flat.enc),(4,vr,css)]) r2 hn hk om hi;exact⟨o.hz,css,r1.stay g (by simp) hn λk hm=>hx k (List.mem_cons_of_mem _ hm),g⟩
theorem OwnSB.own_doors (o:OwnSB h lo b hz n1 n2 n3 vr n5 n6 x):OwnR h lo 7 n3 (x.doors.map Flat.enc)/\idOf n3≠[b]:=by
 obtain⟨css,r1,r2⟩:=o.r;have hm:((7,n3,x.doors.map Flat.enc):RowE)∈flatS x n1 n2 n3 n5 n6++[(4,vr,css)]:=by simp[flatS]
 exact⟨r2.o _ hm,λe=>(List.nodup_append.1 r2.nd).2.2 b (List.mem_flatMap.2 ⟨_,hm,by rw[e];simp⟩) b (by simp) rfl⟩
theorem OwnSB.trips (o:OwnSB h lo b hz n1 n2 n3 vr n5 n6 x) {l:List TripS} {u:CV} (hn:h.next<=h'.next) (hk:∀k,k<h.next->k<lo\/idOf n5≠[k]->h'.get k=h.get k) (om:OwnR h' lo 5 u (l.map Flat.enc)) (hi:idOf u=idOf n5\/∃j,idOf u=[j]/\h.next<=j):OwnSB h' lo b hz n1 n2 n3 vr u n6 {x with trips:=l}:=by
 obtain⟨css,r1,r2⟩:=o.r;obtain⟨g,hx⟩:=OwnG.turn (A:=[(1,n1,x.stops.map Flat.enc),(4,n2,x.paths.map Flat.enc),(7,n3,x.doors.map Flat.enc)]) (B:=[(5,n6,x.hazards.map Flat.enc),(4,vr,css)]) r2 hn hk om hi;exact⟨o.hz,css,r1.stay g (by simp) hn λk hm=>hx k (List.mem_cons_of_mem _ hm),g⟩
theorem OwnSB.own_trips (o:OwnSB h lo b hz n1 n2 n3 vr n5 n6 x):OwnR h lo 5 n5 (x.trips.map Flat.enc)/\idOf n5≠[b]:=by
 obtain⟨css,r1,r2⟩:=o.r;have hm:((5,n5,x.trips.map Flat.enc):RowE)∈flatS x n1 n2 n3 n5 n6++[(4,vr,css)]:=by simp[flatS]
 exact⟨r2.o _ hm,λe=>(List.nodup_append.1 r2.nd).2.2 b (List.mem_flatMap.2 ⟨_,hm,by rw[e];simp⟩) b (by simp) rfl⟩
theorem OwnSB.hazards (o:OwnSB h lo b hz n1 n2 n3 vr n5 n6 x) {l:List HazS} {u:CV} (hn:h.next<=h'.next) (hk:∀k,k<h.next->k<lo\/idOf n6≠[k]->h'.get k=h.get k) (om:OwnR h' lo 5 u (l.map Flat.enc)) (hi:idOf u=idOf n6\/∃j,idOf u=[j]/\h.next<=j):OwnSB h' lo b hz n1 n2 n3 vr n5 u {x with hazards:=l}:=by
 obtain⟨css,r1,r2⟩:=o.r;obtain⟨g,hx⟩:=OwnG.turn (A:=[(1,n1,x.stops.map Flat.enc),(4,n2,x.paths.map Flat.enc),(7,n3,x.doors.map Flat.enc),(5,n5,x.trips.map Flat.enc)]) (B:=[(4,vr,css)]) r2 hn hk om hi;exact⟨o.hz,css,r1.stay g (by simp) hn λk hm=>hx k (List.mem_cons_of_mem _ hm),g⟩
theorem OwnSB.own_hazards (o:OwnSB h lo b hz n1 n2 n3 vr n5 n6 x):OwnR h lo 5 n6 (x.hazards.map Flat.enc)/\idOf n6≠[b]:=by
 obtain⟨css,r1,r2⟩:=o.r;have hm:((5,n6,x.hazards.map Flat.enc):RowE)∈flatS x n1 n2 n3 n5 n6++[(4,vr,css)]:=by simp[flatS]
 exact⟨r2.o _ hm,λe=>(List.nodup_append.1 r2.nd).2.2 b (List.mem_flatMap.2 ⟨_,hm,by rw[e];simp⟩) b (by simp) rfl⟩
theorem OwnSB.lt (o:OwnSB h lo b hz n1 n2 n3 vr n5 n6 x):b<h.next:=by
 obtain⟨css,r1,r2⟩:=o.r;exact(r2.x b (by simp)).2
variable {m1 m2 m3 m4 m5 m6 p d t z:CV}
structure OwnWB (h:Heap) (lo b:Nat) (hz m1 m2 m3 m4 m5 m6 p d vr t z:CV) (w:WorldD):Prop where
 hz:hz= .int .i64 w.hz
 r:∃css,OwnRws h lo vr css w.routes/\OwnG h lo (flatW w p d t z m1 m2 m3 m4 m5 m6++[(3,vr,css)]) (b::idsIn css)
theorem OwnWd.box (o:OwnWd h lo hz m1 m2 m3 m4 m5 m6 p d vr t z w) (X:Ext h h') (hlo:lo<=h.next) (hb:h.next<=b) (hl:b<h'.next):OwnWB h' lo b hz m1 m2 m3 m4 m5 m6 p d vr t z w:=by
 obtain⟨css,r1,r2⟩:=o.r;exact⟨o.hz,css,r1.ext X,r2.box X hlo hb hl⟩
theorem OwnWB.ext (o:OwnWB h lo b hz m1 m2 m3 m4 m5 m6 p d vr t z w) (X:Ext h h'):OwnWB h' lo b hz m1 m2 m3 m4 m5 m6 p d vr t z w:=by
 obtain⟨css,r1,r2⟩:=o.r;exact⟨o.hz,css,r1.ext X,r2.ext X⟩
theorem OwnWB.keep (o:OwnWB h lo b hz m1 m2 m3 m4 m5 m6 p d vr t z w) (hn:h.next<=h'.next) (hk:∀k,lo<=k->k<h.next->h'.get k=h.get k):OwnWB h' lo b hz m1 m2 m3 m4 m5 m6 p d vr t z w:=by
 obtain⟨css,r1,r2⟩:=o.r;have hl:=λk hm=>hk k (r2.lt k hm).1 (r2.lt k hm).2;have g:=r2.keep hn hl;exact⟨o.hz,css,r1.stay2 g (by simp) hn λk hm=>hl k (List.mem_append_right _ (List.mem_cons_of_mem _ hm)),g⟩
theorem OwnWB.put (o:OwnWB h lo b hz m1 m2 m3 m4 m5 m6 p d vr t z w) (hn:h'.next=h.next) (hk:∀k,k≠b->h'.get k=h.get k):OwnWB h' lo b hz m1 m2 m3 m4 m5 m6 p d vr t z w:=by
 obtain⟨css,r1,r2⟩:=o.r;obtain⟨g,hx⟩:=r2.put hn hk;exact⟨o.hz,css,r1.stay2 g (by simp) (by omega) hx,g⟩
theorem OwnWB.lt (o:OwnWB h lo b hz m1 m2 m3 m4 m5 m6 p d vr t z w):lo<=b/\b<h.next:=by
 obtain⟨css,r1,r2⟩:=o.r;exact r2.x b (by simp)
theorem OwnWB.rp (o:OwnWB h lo b hz m1 m2 m3 m4 m5 m6 p d vr t z w):Rp.R h [hz,m1,m2,m3,m4,m5,m6,p,d,vr,t,z] w:=by
 obtain⟨css,r1,r2⟩:=o.r;exact OwnWd.rp (lo:=lo) ⟨o.hz,css,r1,r2.o,(List.nodup_append.1 r2.nd).1 |> λh1=>List.nodup_append.2 ⟨h1,(List.nodup_cons.1 (List.nodup_append.1 r2.nd).2.1).2,λa ha c hc=>(List.nodup_append.1 r2.nd).2.2 a ha c (List.mem_cons_of_mem _ hc)⟩,λk hk=>r2.x k (List.mem_cons_of_mem _ hk)⟩
theorem OwnWB.paths (o:OwnWB h lo b hz m1 m2 m3 m4 m5 m6 p d vr t z w) {l:List PathW} {u:CV} (hn:h.next<=h'.next) (hk:∀k,k<h.next->k<lo\/idOf p≠[k]->h'.get k=h.get k) (om:OwnR h' lo 3 u (l.map Flat.enc)) (hi:idOf u=idOf p\/∃j,idOf u=[j]/\h.next<=j):OwnWB h' lo b hz m1 m2 m3 m4 m5 m6 u d vr t z {w with paths:=l}:=by
 obtain⟨css,r1,r2⟩:=o.r;obtain⟨g,hx⟩:=OwnG.turn (A:=[]) (B:=[(6,d,w.doors.map Flat.enc),(4,t,w.trips.map Flat.enc),(5,z,w.hazards.map Flat.enc),(1,m1,w.names.stops.map Flat.enc),(1,m2,w.names.paths.map Flat.enc),(1,m3,w.names.doors.map Flat.enc),(1,m4,w.names.routes.map Flat.enc),(1,m5,w.names.trips.map Flat.enc),(1,m6,w.names.hazards.map Flat.enc),(3,vr,css)]) r2 hn hk om hi;exact⟨o.hz,css,r1.stay2 g (by simp) hn λk hm=>hx k (List.mem_cons_of_mem _ hm),g⟩
theorem OwnWB.own_paths (o:OwnWB h lo b hz m1 m2 m3 m4 m5 m6 p d vr t z w):OwnR h lo 3 p (w.paths.map Flat.enc)/\idOf p≠[b]:=by
 obtain⟨css,r1,r2⟩:=o.r;have hm:((3,p,w.paths.map Flat.enc):RowE)∈flatW w p d t z m1 m2 m3 m4 m5 m6++[(3,vr,css)]:=by simp[flatW]
 exact⟨r2.o _ hm,λe=>(List.nodup_append.1 r2.nd).2.2 b (List.mem_flatMap.2 ⟨_,hm,by rw[e];simp⟩) b (by simp) rfl⟩
theorem OwnWB.doors (o:OwnWB h lo b hz m1 m2 m3 m4 m5 m6 p d vr t z w) {l:List DoorW} {u:CV} (hn:h.next<=h'.next) (hk:∀k,k<h.next->k<lo\/idOf d≠[k]->h'.get k=h.get k) (om:OwnR h' lo 6 u (l.map Flat.enc)) (hi:idOf u=idOf d\/∃j,idOf u=[j]/\h.next<=j):OwnWB h' lo b hz m1 m2 m3 m4 m5 m6 p u vr t z {w with doors:=l}:=by
 obtain⟨css,r1,r2⟩:=o.r;obtain⟨g,hx⟩:=OwnG.turn (A:=[(3,p,w.paths.map Flat.enc)]) (B:=[(4,t,w.trips.map Flat.enc),(5,z,w.hazards.map Flat.enc),(1,m1,w.names.stops.map Flat.enc),(1,m2,w.names.paths.map Flat.enc),(1,m3,w.names.doors.map Flat.enc),(1,m4,w.names.routes.map Flat.enc),(1,m5,w.names.trips.map Flat.enc),(1,m6,w.names.hazards.map Flat.enc),(3,vr,css)]) r2 hn hk om hi;exact⟨o.hz,css,r1.stay2 g (by simp) hn λk hm=>hx k (List.mem_cons_of_mem _ hm),g⟩
theorem OwnWB.own_doors (o:OwnWB h lo b hz m1 m2 m3 m4 m5 m6 p d vr t z w):OwnR h lo 6 d (w.doors.map Flat.enc)/\idOf d≠[b]:=by
 obtain⟨css,r1,r2⟩:=o.r;have hm:((6,d,w.doors.map Flat.enc):RowE)∈flatW w p d t z m1 m2 m3 m4 m5 m6++[(3,vr,css)]:=by simp[flatW]
 exact⟨r2.o _ hm,λe=>(List.nodup_append.1 r2.nd).2.2 b (List.mem_flatMap.2 ⟨_,hm,by rw[e];simp⟩) b (by simp) rfl⟩
theorem OwnWB.trips (o:OwnWB h lo b hz m1 m2 m3 m4 m5 m6 p d vr t z w) {l:List TripW} {u:CV} (hn:h.next<=h'.next) (hk:∀k,k<h.next->k<lo\/idOf t≠[k]->h'.get k=h.get k) (om:OwnR h' lo 4 u (l.map Flat.enc)) (hi:idOf u=idOf t\/∃j,idOf u=[j]/\h.next<=j):OwnWB h' lo b hz m1 m2 m3 m4 m5 m6 p d vr u z {w with trips:=l}:=by
 obtain⟨css,r1,r2⟩:=o.r;obtain⟨g,hx⟩:=OwnG.turn (A:=[(3,p,w.paths.map Flat.enc),(6,d,w.doors.map Flat.enc)]) (B:=[(5,z,w.hazards.map Flat.enc),(1,m1,w.names.stops.map Flat.enc),(1,m2,w.names.paths.map Flat.enc),(1,m3,w.names.doors.map Flat.enc),(1,m4,w.names.routes.map Flat.enc),(1,m5,w.names.trips.map Flat.enc),(1,m6,w.names.hazards.map Flat.enc),(3,vr,css)]) r2 hn hk om hi;exact⟨o.hz,css,r1.stay2 g (by simp) hn λk hm=>hx k (List.mem_cons_of_mem _ hm),g⟩
theorem OwnWB.own_trips (o:OwnWB h lo b hz m1 m2 m3 m4 m5 m6 p d vr t z w):OwnR h lo 4 t (w.trips.map Flat.enc)/\idOf t≠[b]:=by
 obtain⟨css,r1,r2⟩:=o.r;have hm:((4,t,w.trips.map Flat.enc):RowE)∈flatW w p d t z m1 m2 m3 m4 m5 m6++[(3,vr,css)]:=by simp[flatW]
 exact⟨r2.o _ hm,λe=>(List.nodup_append.1 r2.nd).2.2 b (List.mem_flatMap.2 ⟨_,hm,by rw[e];simp⟩) b (by simp) rfl⟩
theorem OwnWB.hazards (o:OwnWB h lo b hz m1 m2 m3 m4 m5 m6 p d vr t z w) {l:List HazW} {u:CV} (hn:h.next<=h'.next) (hk:∀k,k<h.next->k<lo\/idOf z≠[k]->h'.get k=h.get k) (om:OwnR h' lo 5 u (l.map Flat.enc)) (hi:idOf u=idOf z\/∃j,idOf u=[j]/\h.next<=j):OwnWB h' lo b hz m1 m2 m3 m4 m5 m6 p d vr t u {w with hazards:=l}:=by
 obtain⟨css,r1,r2⟩:=o.r;obtain⟨g,hx⟩:=OwnG.turn (A:=[(3,p,w.paths.map Flat.enc),(6,d,w.doors.map Flat.enc),(4,t,w.trips.map Flat.enc)]) (B:=[(1,m1,w.names.stops.map Flat.enc),(1,m2,w.names.paths.map Flat.enc),(1,m3,w.names.doors.map Flat.enc),(1,m4,w.names.routes.map Flat.enc),(1,m5,w.names.trips.map Flat.enc),(1,m6,w.names.hazards.map Flat.enc),(3,vr,css)]) r2 hn hk om hi;exact⟨o.hz,css,r1.stay2 g (by simp) hn λk hm=>hx k (List.mem_cons_of_mem _ hm),g⟩
theorem OwnWB.own_hazards (o:OwnWB h lo b hz m1 m2 m3 m4 m5 m6 p d vr t z w):OwnR h lo 5 z (w.hazards.map Flat.enc)/\idOf z≠[b]:=by
 obtain⟨css,r1,r2⟩:=o.r;have hm:((5,z,w.hazards.map Flat.enc):RowE)∈flatW w p d t z m1 m2 m3 m4 m5 m6++[(3,vr,css)]:=by simp[flatW]
 exact⟨r2.o _ hm,λe=>(List.nodup_append.1 r2.nd).2.2 b (List.mem_flatMap.2 ⟨_,hm,by rw[e];simp⟩) b (by simp) rfl⟩
theorem OwnWB.own_npaths (o:OwnWB h lo b hz m1 m2 m3 m4 m5 m6 p d vr t z w):OwnR h lo 1 m2 (w.names.paths.map Flat.enc)/\idOf m2≠[b]:=by
 obtain⟨css,r1,r2⟩:=o.r;have hm:((1,m2,w.names.paths.map Flat.enc):RowE)∈flatW w p d t z m1 m2 m3 m4 m5 m6++[(3,vr,css)]:=by simp[flatW]
 exact⟨r2.o _ hm,λe=>(List.nodup_append.1 r2.nd).2.2 b (List.mem_flatMap.2 ⟨_,hm,by rw[e];simp⟩) b (by simp) rfl⟩
theorem OwnWB.own_nroutes (o:OwnWB h lo b hz m1 m2 m3 m4 m5 m6 p d vr t z w):OwnR h lo 1 m4 (w.names.routes.map Flat.enc)/\idOf m4≠[b]:=by
 obtain⟨css,r1,r2⟩:=o.r;have hm:((1,m4,w.names.routes.map Flat.enc):RowE)∈flatW w p d t z m1 m2 m3 m4 m5 m6++[(3,vr,css)]:=by simp[flatW]
 exact⟨r2.o _ hm,λe=>(List.nodup_append.1 r2.nd).2.2 b (List.mem_flatMap.2 ⟨_,hm,by rw[e];simp⟩) b (by simp) rfl⟩
theorem OwnWB.ntrips (o:OwnWB h lo b hz m1 m2 m3 m4 m5 m6 p d vr t z w) {l:List Str} {u:CV} (hn:h.next<=h'.next) (hk:∀k,k<h.next->k<lo\/idOf m5≠[k]->h'.get k=h.get k) (om:OwnR h' lo 1 u (l.map Flat.enc)) (hi:idOf u=idOf m5\/∃j,idOf u=[j]/\h.next<=j):OwnWB h' lo b hz m1 m2 m3 m4 u m6 p d vr t z {w with names:={w.names with trips:=l}}:=by
 obtain⟨css,r1,r2⟩:=o.r;obtain⟨g,hx⟩:=OwnG.turn (A:=[(3,p,w.paths.map Flat.enc),(6,d,w.doors.map Flat.enc),(4,t,w.trips.map Flat.enc),(5,z,w.hazards.map Flat.enc),(1,m1,w.names.stops.map Flat.enc),(1,m2,w.names.paths.map Flat.enc),(1,m3,w.names.doors.map Flat.enc),(1,m4,w.names.routes.map Flat.enc)]) (B:=[(1,m6,w.names.hazards.map Flat.enc),(3,vr,css)]) r2 hn hk om hi;exact⟨o.hz,css,r1.stay2 g (by simp) hn λk hm=>hx k (List.mem_cons_of_mem _ hm),g⟩
theorem OwnWB.own_ntrips (o:OwnWB h lo b hz m1 m2 m3 m4 m5 m6 p d vr t z w):OwnR h lo 1 m5 (w.names.trips.map Flat.enc)/\idOf m5≠[b]:=by
 obtain⟨css,r1,r2⟩:=o.r;have hm:((1,m5,w.names.trips.map Flat.enc):RowE)∈flatW w p d t z m1 m2 m3 m4 m5 m6++[(3,vr,css)]:=by simp[flatW]
 exact⟨r2.o _ hm,λe=>(List.nodup_append.1 r2.nd).2.2 b (List.mem_flatMap.2 ⟨_,hm,by rw[e];simp⟩) b (by simp) rfl⟩
end
end Go.CM.Tt

noncomputable section
namespace Go.CM.Tt
section
variable {h h' g:Heap} {lo b:Nat} {x:SheetD} {hz n1 n2 n3 vr n5 n6 u:CV}
theorem OwnSB.start {l:List Str} {a:Int} (o:OwnR h lo 1 n1 (l.map Flat.enc)) (hb:lo<=b) (hl:b<h.next) (ne:idOf n1≠[b]):OwnSB h lo b (.int .i64 a) n1 (.slice none 0 0 0) (.slice none 0 0 0) (.slice none 0 0 0) (.slice none 0 0 0) (.slice none 0 0 0) ⟨a,l,[],[],[],[],[]⟩:=by
 refine⟨rfl,[],⟨OwnR.nil,rfl,λj e d he _=>by simp at he⟩,⟨λr hr=> ?_,?_,λk hk=> ?_⟩⟩
 ·simp only[flatS,List.cons_append,List.nil_append,List.mem_cons,List.not_mem_nil,or_false]at hr
  rcases hr with rfl|rfl|rfl|rfl|rfl|rfl
  ·exact o
  all_goals exact OwnR.nil
 ·have e:idsR (flatS ⟨a,l,[],[],[],[],[]⟩ n1 (.slice none 0 0 0) (.slice none 0 0 0) (.slice none 0 0 0) (.slice none 0 0 0)++[(4,.slice none 0 0 0,[])])++b::idsIn []=idOf n1++[b]:=by
    simp[idsR,flatS,idOf,idsIn]
  rw[e];refine List.nodup_append.2 ⟨OwnR.idNodup _,by simp,λc hc d hd e2=> ?_⟩;rw[List.mem_singleton]at hd;rcases idOf_one n1 with h1|⟨j,h1⟩
  ·rw[h1]at hc;cases hc
  ·rw[h1]at hc
   exact ne (by rw[h1,<-List.mem_singleton.1 hc,e2,hd])
 ·have:k=b:=by simpa[idsIn]using hk
  rw[this];exact⟨hb,hl⟩
theorem OwnSB.keep (o:OwnSB h lo b hz n1 n2 n3 vr n5 n6 x) (hn:h.next<=h'.next) (hk:∀k,lo<=k->k<h.next->h'.get k=h.get k):OwnSB h' lo b hz n1 n2 n3 vr n5 n6 x:=by
 obtain⟨css,r1,r2⟩:=o.r;have hl:=λk hm=>hk k (r2.lt k hm).1 (r2.lt k hm).2;have g:=r2.keep hn hl;exact⟨o.hz,css,r1.stay g (by simp) hn λk hm=>hl k (List.mem_append_right _ (List.mem_cons_of_mem _ hm)),g⟩
theorem OwnSB.route {css:List (List CV)} {e:List CV} {d:RouteS} {lo2:Nat} (e0:hz= .int .i64 x.hz) (r1:OwnRs g lo vr css x.routes) (r2:OwnG g lo (flatS x n1 n2 n3 n5 n6++[(4,vr,css)]) (b::idsIn css))
  (oe:OwnRS g lo2 e d) (hlo:lo<=lo2) (hlt:∀k∈idsR (flatS x n1 n2 n3 n5 n6++[(4,vr,css)])++b::idsIn css,k<lo2) (nd:(idsOf e).Nodup)
  (hn:g.next<=h'.next) (hk:∀k,k<g.next->k<lo\/idOf vr≠[k]->h'.get k=g.get k) (om:OwnR h' lo 4 u (css++[e])) {j:Nat} (hi:idOf u=[j]) (hj:g.next<=j):OwnSB h' lo b hz n1 n2 n3 u n5 n6 {x with routes:=x.routes++[d]}:=by
 have eid:∀(v:CV) (c:List (List CV)),idsR (flatS x n1 n2 n3 n5 n6++[(4,v,c)])=idsR (flatS x n1 n2 n3 n5 n6)++idOf v:=λv c=>by simp[idsR]
 have nd0:=r2.nd;rw[eid,List.append_assoc]at nd0;rw[eid,List.append_assoc]at hlt;have nA:=List.nodup_append.1 nd0;have nV:=List.nodup_append.1 nA.2.1;have oid:=oe.ids
 have nev:∀k,k∈idsR (flatS x n1 n2 n3 n5 n6)\/k∈b::idsIn css->idOf vr≠[k]:=λk hk e1=>by
  rcases hk with hk|hk
  ·exact nA.2.2 k hk k (by rw[e1];simp) rfl
  ·exact nV.2.2 k (by rw[e1];simp) k hk rfl
 have glt:∀k,k∈idsR (flatS x n1 n2 n3 n5 n6)\/k∈b::idsIn css->k<g.next:=λk hk=>by
  have:=r2.lt k (by
   rw[eid,List.append_assoc];rcases hk with hk|hk
   ·exact List.mem_append_left _ hk
   ·exact List.mem_append_right _ (List.mem_append_right _ hk))
  exact this.2
 have kp:∀k,k∈idsR (flatS x n1 n2 n3 n5 n6)\/k∈b::idsIn css->h'.get k=g.get k:=λk hk2=>hk k (glt k hk2) (.inr (nev k hk2))
 have ke:∀k∈idsOf e,h'.get k=g.get k:=λk hk2=>hk k (oid k hk2).2 (.inr λe1=>by
  have h1:=(oid k hk2).1;have h2:=hlt k (List.mem_append_right _ (List.mem_append_left _ (by rw[e1];simp)));omega)
 refine⟨e0,css++[e],⟨om,by rw[List.length_append,List.length_append,r1.2.1];rfl,λi e' d' he hd=> ?_⟩,⟨λr hr=> ?_,?_,λk hk2=> ?_⟩⟩
 ·by_cases c:i<css.length
  ·rw[List.getElem?_append_left c]at he
   rw[List.getElem?_append_left (by rw[<-r1.2.1];exact c)]at hd;exact(r1.2.2 i e' d' he hd).other hn λk hk2=>kp k (.inr (List.mem_cons_of_mem _ (List.mem_flatMap.2 ⟨e',List.mem_of_getElem? he,hk2⟩)))
  ·have hi2:i=css.length:=by
     have:=(List.getElem?_eq_some_iff.1 he).1;rw[List.length_append,List.length_singleton]at this;omega
   subst hi2;rw[List.getElem?_append_right (Nat.le_refl _),Nat.sub_self]at he;have he:e=e':=by simpa using he
   have hd:d=d':=by
    rw[r1.2.1,List.getElem?_append_right (Nat.le_refl _),Nat.sub_self]at hd;simpa using hd
   subst he hd;exact(oe.low hlo).other hn ke
 ·have hr:r∈flatS x n1 n2 n3 n5 n6++[(4,u,css++[e])]:=hr
  rcases List.mem_append.1 hr with hr|hr
  ·exact(r2.o r (List.mem_append_left _ hr)).other hn λk _ _ hid=>kp k (.inl (List.mem_flatMap.2 ⟨r,hr,by rw[hid];simp⟩))
  ·rw[List.mem_singleton.1 hr];exact om
 ·have e9:idsR (flatS {x with routes:=x.routes++[d]} n1 n2 n3 n5 n6++[(4,u,css++[e])])++b::idsIn (css++[e])=idsR (flatS x n1 n2 n3 n5 n6)++(idOf u++(b::idsIn css++idsOf e)):=by
    rw[show flatS {x with routes:=x.routes++[d]} n1 n2 n3 n5 n6=flatS x n1 n2 n3 n5 n6 from rfl,eid]
    simp[idsIn,idsOf]
  rw[e9,hi];have inner:(b::idsIn css++idsOf e).Nodup:=nodup_behind (n:=lo2) nV.2.1 (λa ha=>hlt a (List.mem_append_right _ (List.mem_append_right _ ha))) nd (λa ha=>(oid a ha).1)
  have ilt:∀a∈b::idsIn css++idsOf e,a<g.next:=λa ha=>by
   rcases List.mem_append.1 ha with ha|ha
   ·exact glt a (.inr ha)
   ·exact(oid a ha).2
  refine List.nodup_append.2 ⟨nA.1,List.nodup_append.2 ⟨by simp,inner,λa ha c hc e1=> ?_⟩,λa ha c hc e1=> ?_⟩
  ·rw[List.mem_singleton.1 ha]at e1
   have:=ilt c hc;omega
  ·have h1:=glt a (.inl ha)
   rcases List.mem_append.1 hc with hc|hc
   ·rw[List.mem_singleton.1 hc]at e1;omega
   ·rcases List.mem_append.1 hc with hc|hc
    ·exact nA.2.2 a ha c (List.mem_append_right _ hc) e1
    ·have h2:=(oid c hc).1
     have h3:=hlt a (List.mem_append_left _ ha);omega
 ·rcases List.mem_cons.1 hk2 with rfl|hk2
  ·have:=r2.x k (by simp)
   exact⟨this.1,by omega⟩
  ·unfold idsIn at hk2
   rw[List.flatMap_append,List.mem_append]at hk2;rcases hk2 with hk2|hk2
   ·have:=r2.x k (List.mem_cons_of_mem _ hk2)
    exact⟨this.1,by omega⟩
   ·have:=oid k (by simpa using hk2)
    exact⟨by omega,by omega⟩
end
theorem told_take {α β:Type} {l:List α} {f:Nat->α->β} {k:Nat} (h:k<l.length):(l.mapIdx f).take (k+1)=(l.mapIdx f).take k++[f k l[k]]:=by
 rw[List.take_add_one,List.getElem?_eq_getElem (by rw[List.length_mapIdx];exact h),List.getElem_mapIdx];rfl
theorem told_all {α β:Type} {l:List α} {f:Nat->α->β} {k:Nat} (h:¬k<l.length) (h2:k<=l.length):(l.mapIdx f).take k=l.mapIdx f:=by
 have:k=l.length:=by omega
 rw[this];exact List.take_of_length_le (by rw[List.length_mapIdx];exact Nat.le_refl _)
theorem inL.ex {n:Int} {l:List Str} (h:inL n l):∃j:Nat,n=j/\j<l.length:=⟨n.toNat,by have:=h.1;omega,by have:=h.1;have:=h.2;omega⟩
end Go.CM.Tt

noncomputable section
namespace Go.CM.Tt
open Go.CM
structure RunD where
 trip:Int
 no:Int
 arr:List Int
 dep:List Int
def RunD.Cells (h:Heap) (cs:List CV) (d:RunD):Prop:=∃v1 v2,cs=[.int .i64 d.trip,.int .i64 d.no,v1,v2]/\Sl h v1 d.arr/\Sl h v2 d.dep
instance:Rp RunD:=⟨4,RunD.Cells,λx ⟨v1,v2,e,s1,s2⟩=>⟨v1,v2,e,s1.ext x,s2.ext x⟩,λ⟨v1,v2,e,_,_⟩=>by rw[e];rfl⟩
def RunD.none:RunD:=⟨0,0,[],[]⟩
def RouteW.pre (r:RouteW):Nat->Int
 |0=>0
 |k+1=>r.pre k+r.rides.getD k 0+r.stays.getD k 0
def RouteW.long (r:RouteW):Int:=r.pre r.rides.length
def RouteW.arrs (r:RouteW) (a:Int) (k:Nat):List Int:=a::(List.range k).map λj=>a+r.pre j+r.rides.getD j 0
def RouteW.deps (r:RouteW) (a:Int) (k:Nat):List Int:=a::(List.range k).map λj=>a+r.pre (j+1)
theorem RouteW.arrs_more (r:RouteW) (a:Int) (k:Nat):r.arrs a (k+1)=r.arrs a k++[a+r.pre k+r.rides.getD k 0]:=by
 unfold RouteW.arrs;rw[List.range_succ,List.map_append];rfl
theorem RouteW.deps_more (r:RouteW) (a:Int) (k:Nat):r.deps a (k+1)=r.deps a k++[a+r.pre (k+1)]:=by
 unfold RouteW.deps;rw[List.range_succ,List.map_append];rfl
theorem RouteW.arrs_len (r:RouteW) (a:Int) (k:Nat):(r.arrs a k).length=k+1:=by simp[RouteW.arrs]
theorem RouteW.deps_len (r:RouteW) (a:Int) (k:Nat):(r.deps a k).length=k+1:=by simp[RouteW.deps]
theorem RouteW.arrs_at (r:RouteW) (a:Int) {k j:Nat} (h:j<k):(r.arrs a k)[j+1]? =some (a+r.pre j+r.rides.getD j 0):=by
 simp[RouteW.arrs,h]
theorem RouteW.deps_at (r:RouteW) (a:Int) {k j:Nat} (h:j<=k):(r.deps a k)[j]? =some (a+r.pre j):=by
 cases j with
 |zero=>simp[RouteW.deps,RouteW.pre]
 |succ j=>simp[RouteW.deps,show j<k by omega]
def WorldD.has (w:WorldD) (t:TripW) (r:RouteW) (no:Int):Prop:=0<=no/\no<countT t.frm t.evr t.untl/\t.frm+no*t.evr+r.long<=w.hz
def WorldD.cnt (w:WorldD) (t:TripW) (r:RouteW):Int:=countT t.frm t.evr (if t.untl<=w.hz-r.long then t.untl else w.hz-r.long)
theorem countT_lt {f e u n:Int} (he:0<=e) (hn:0<=n):n<countT f e u↔f+n*e<=u/\(e=0->n=0):=by
 unfold countT;by_cases c1:u<f
 ·rw[if_pos c1]
  have:0<=n*e:=Int.mul_nonneg hn he;exact Iff.intro (λh=>by omega) (λh=>by omega)
 rw[if_neg c1];by_cases c2:e=0
 ·rw[if_pos c2,c2,Int.mul_zero]
  exact Iff.intro (λh=>⟨by omega,λ_=>by omega⟩) (λh=>by have:=h.2 rfl;omega)
 rw[if_neg c2];have k:=Int.le_ediv_iff_mul_le (a:=n) (b:=u-f) (c:=e) (by omega);exact Iff.intro (λh=>⟨by have:=k.1 (by omega);omega,λh=>absurd h c2⟩) (λh=>by have:=k.2 (by omega);omega)
theorem countT_ge {f e u:Int} (he:0<=e):0<=countT f e u:=by
 unfold countT;split
 ·exact Int.le_refl _
 ·split
  ·decide
  ·have:=Int.ediv_nonneg (a:=u-f) (b:=e) (by omega) he
   omega
theorem WorldD.has_iff {w:WorldD} {t:TripW} {r:RouteW} (he:0<=t.evr) {n:Int} (hn:0<=n):w.has t r n↔n<w.cnt t r:=by
 unfold WorldD.has WorldD.cnt;rw[countT_lt he hn,countT_lt he hn];split<;>(constructor<;>intro h<;>(try obtain⟨h1,⟨h2,h3⟩,h4⟩:=h)<;>(try obtain⟨h1,h2⟩:=h)<;>first|(refine⟨hn,⟨?_,by assumption⟩,?_⟩<;>omega)|exact⟨by omega,by assumption⟩)
theorem WorldD.cnt_ge {w:WorldD} {t:TripW} {r:RouteW} (he:0<=t.evr):0<=w.cnt t r:=countT_ge he
theorem WorldD.cnt_of {w:WorldD} {t:TripW} {r:RouteW} (he:0<=t.evr) {k:Nat} (h1:∀j:Nat,j<k->w.has t r j) (h2:¬w.has t r k):(k:Int)=w.cnt t r:=by
 have g:=WorldD.cnt_ge (w:=w) (t:=t) (r:=r) he;rw[WorldD.has_iff he (by omega)]at h2;rcases Nat.eq_zero_or_pos k with rfl|hk
 ·omega
 ·have:=(WorldD.has_iff he (by omega)).1 (h1 (k-1) (by omega))
  omega
structure WorldD.Fine (w:WorldD):Prop where
 hz:TickOk w.hz
 trip:∀t∈w.trips,TickOk t.frm/\TickOk t.evr/\TickOk t.untl/\t.frm<=t.untl/\∃j:Nat,j<w.routes.length/\t.route=(j:Int)
 route:∀r∈w.routes,2<=r.stops.length/\r.stops.length<=32/\r.rides.length+1=r.stops.length/\r.stays.length+2=r.stops.length/\(∀n∈r.rides,1<=n/\n<=1099511627776)/\∀n∈r.stays,TickOk n
theorem WorldD.check_whole {w:WorldD} (c:w.check.err=0):w.whole/\w.told.Fit:=by
 by_cases hw:w.whole
 ·refine⟨hw,fit_of_make ?_⟩
  unfold WorldD.check at c;rwa[if_pos hw]at c
 ·exfalso
  unfold WorldD.check at c;rw[if_neg hw]at c;cases c
theorem ifs_zero {p q:Prop} [Decidable p] [Decidable q] (h:(if p then(5:Int)else if q then 2 else 0)=0):¬p/\¬q:=by
 by_cases a:p
 ·rw[if_pos a]at h;cases h
 ·rw[if_neg a]at h
  by_cases b:q
  ·rw[if_pos b]at h;cases h
  ·exact⟨a,b⟩
theorem WorldD.fine {w:WorldD} (c:w.check.err=0):w.Fine:=by
 obtain⟨hw,f⟩:=WorldD.check_whole c;have nm:=f.ok.2.2.1;refine⟨nm _ (by simp[SheetD.nums,WorldD.told]),λt ht=> ?_,λr hr=> ?_⟩
 ·obtain⟨i,hi,rfl⟩:=List.getElem_of_mem ht
  have hm:w.trips[i].told w.names i∈w.told.trips:=by
   show _∈w.trips.mapIdx _;exact List.mem_mapIdx.2 ⟨i,hi,rfl⟩
  have hn:∀n∈[w.trips[i].frm,w.trips[i].evr,w.trips[i].untl],TickOk n:=λn hn=>nm n (by
   have:n∈w.told.trips.flatMap λt=>[t.frm,t.evr,t.untl]:=List.mem_flatMap.2 ⟨_,hm,hn⟩;simp only[SheetD.nums,List.mem_append];exact .inl (.inr this))
  have he:=f.trips _ hm;have hr:=hw.2.2.2.2.1 _ ht;obtain⟨j,e,hj⟩:=hr.ex;refine⟨hn _ (by simp),hn _ (by simp),hn _ (by simp),?_,j,by have:=hw.1.2.2.1;omega,e⟩;have:=(ifs_zero (show(if place w.told.names.routes (atL w.names.routes w.trips[i].route)<0 then(5:Int)else if w.trips[i].untl<w.trips[i].frm then 2 else 0)=0 from he)).2
  omega
 ·obtain⟨i,hi,rfl⟩:=List.getElem_of_mem hr
  have hm:w.routes[i].told w.names i∈w.told.routes:=by
   show _∈w.routes.mapIdx _;exact List.mem_mapIdx.2 ⟨i,hi,rfl⟩
  obtain⟨o1,o2,o3,o4⟩:=f.ok.2.2.2 _ hm;simp only[RouteW.told,List.length_map]at o1 o2 o3 o4
  have hn:∀n∈w.routes[i].rides++w.routes[i].stays,TickOk n:=λn hn=>nm n (by
   have:n∈w.told.routes.flatMap λr=>r.rides++r.stays:=List.mem_flatMap.2 ⟨_,hm,hn⟩;simp only[SheetD.nums,List.mem_append];exact .inl (.inl (.inr this)))
  have he:=f.routes _ hm;refine⟨o1,o2,o3,o4,λn h=>⟨?_,(hn n (List.mem_append.2 (.inl h))).2⟩,λn h=>hn n (List.mem_append.2 (.inr h))⟩;obtain⟨k,hk,rfl⟩:=List.getElem_of_mem h;unfold RouteW.err at he;split at he
  ·cases he
  ·split at he
   ·cases he
   ·rename_i _ hb
    by_cases g:1<=w.routes[i].rides[k]
    ·exact g
    ·exfalso
     refine hb ⟨k,hk,.inl ?_⟩;show w.routes[i].rides.getD k 0<1;rw[List.getD_eq_getElem?_getD,List.getElem?_eq_getElem hk];show w.routes[i].rides[k]<1;omega
theorem WorldD.Fine.ride {w:WorldD} (f:w.Fine) {r:RouteW} (hr:r∈w.routes) (k:Nat):0<=r.rides.getD k 0/\r.rides.getD k 0<=1099511627776/\0<=r.stays.getD k 0/\r.stays.getD k 0<=1099511627776:=by
 obtain⟨_,_,_,_,h5,h6⟩:=f.route r hr
 have a:0<=r.rides.getD k 0/\r.rides.getD k 0<=1099511627776:=by
  rw[List.getD_eq_getElem?_getD];cases e:r.rides[k]? with
  |none=>exact⟨by decide,by decide⟩
  |some n=>have:=h5 n (List.mem_of_getElem? e);exact⟨by show(0:Int)<=n;omega,this.2⟩
 have b:0<=r.stays.getD k 0/\r.stays.getD k 0<=1099511627776:=by
  rw[List.getD_eq_getElem?_getD];cases e:r.stays[k]? with
  |none=>exact⟨by decide,by decide⟩
  |some n=>exact h6 n (List.mem_of_getElem? e)
 exact⟨a.1,a.2,b.1,b.2⟩
theorem WorldD.Fine.pre {w:WorldD} (f:w.Fine) {r:RouteW} (hr:r∈w.routes):∀k:Nat,0<=r.pre k/\r.pre k<=k*2199023255552
 |0=>⟨Int.le_refl _,Int.le_refl _⟩
 |k+1=>by
  have ih:=f.pre hr k;have:=f.ride hr k;unfold RouteW.pre;omega
theorem WorldD.Fine.last {w:WorldD} (f:w.Fine) {r:RouteW} (hr:r∈w.routes) {n:Nat} (hn:r.rides.length=n+1):r.long=r.pre n+r.rides.getD n 0:=by
 obtain⟨_,_,h3,h4,_,_⟩:=f.route r hr;unfold RouteW.long;rw[hn];show r.pre n+r.rides.getD n 0+r.stays.getD n 0=_;rw[show r.stays.getD n 0=0 by rw[List.getD_eq_getElem?_getD,List.getElem?_eq_none (by omega)];rfl];omega
end Go.CM.Tt

noncomputable section
namespace Go.CM.Tt
open Go.CM
theorem ediv_twice {d e:Int} (he:0<e):d/(2*e)=d/e/2:=by
 rw[Int.mul_comm,Int.ediv_ediv_of_nonneg (by omega)]
theorem countT_half {f e u:Int} (he:0<e):countT f (2*e) u=(countT f e u+1)/2:=by
 unfold countT;by_cases c:u<f
 ·rw[if_pos c,if_pos c];rfl
 ·rw[if_neg c,if_neg c,if_neg (by omega),if_neg (by omega),ediv_twice he]
  omega
theorem countT_half2 {f e u:Int} (he:0<e):countT (f+e) (2*e) u=countT f e u/2:=by
 unfold countT;by_cases c:u<f
 ·rw[if_pos (by omega),if_pos c];rfl
 ·rw[if_neg c,if_neg (show ¬e=0 by omega)]
  have k:(u-f)/e<1↔u-f<1*e:=Int.ediv_lt_iff_lt_mul he;have g:0<=(u-f)/e:=Int.ediv_nonneg (by omega) (by omega);by_cases c2:u<f+e
  ·rw[if_pos c2]
   have:=k.2 (by omega);omega
  ·rw[if_neg c2,if_neg (by omega),ediv_twice he]
   have e1:(u-(f+e))/e=(u-f)/e-1:=by
    rw[show u-(f+e)=u-f+(-1)*e by omega,Int.add_mul_ediv_right _ _ (by omega)];omega
   rw[e1];omega
def WorldD.tripAt (w:WorldD) (j:Nat):TripW:=w.trips.getD j ⟨0,0,0,0⟩
def WorldD.routeOf (w:WorldD) (t:TripW):RouteW:=w.routes.getD t.route.toNat ⟨[],[],[]⟩
def WorldD.hasAt (w:WorldD) (j:Nat) (no:Int):Prop:=w.has (w.tripAt j) (w.routeOf (w.tripAt j)) no
def WorldD.cntAt (w:WorldD) (j:Nat):Int:=w.cnt (w.tripAt j) (w.routeOf (w.tripAt j))
def WorldD.runAt (w:WorldD) (j:Nat) (no:Int):RunD:=
 let t:=w.tripAt j
 let r:=w.routeOf t
 ⟨(j:Int),no,r.arrs (t.frm+no*t.evr) r.rides.length,r.deps (t.frm+no*t.evr) r.rides.length⟩
theorem WorldD.tripAt_eq {w:WorldD} {j:Nat} (hj:j<w.trips.length):w.tripAt j=w.trips[j]:=by
 unfold WorldD.tripAt;rw[List.getD_eq_getElem?_getD,List.getElem?_eq_getElem hj];rfl
theorem WorldD.routeOf_eq {w:WorldD} {t:TripW} {j:Nat} (hj:j<w.routes.length) (e:t.route=(j:Int)):w.routeOf t=w.routes[j]:=by
 unfold WorldD.routeOf;rw[e,Int.toNat_natCast,List.getD_eq_getElem?_getD,List.getElem?_eq_getElem hj];rfl
def RouteW.tame (r:RouteW):Prop:=r.rides.length<=32/\(∀k:Nat,0<=r.rides.getD k 0/\r.rides.getD k 0<=1099511627776/\0<=r.stays.getD k 0/\r.stays.getD k 0<=1099511627776)/\∀k:Nat,0<=r.pre k/\r.pre k<=k*2199023255552
theorem WorldD.Fine.tame {w:WorldD} (f:w.Fine) {r:RouteW} (hr:r∈w.routes):r.tame:=⟨by have:=(f.route r hr).2.2.1;have:=(f.route r hr).2.1;omega,f.ride hr,f.pre hr⟩
structure WorldD.Trip (w:WorldD) (j:Nat) (t:TripW) (r:RouteW) (jr:Nat):Prop where
 ht:∃h:j<w.trips.length,w.trips[j]=t
 hr:∃h:jr<w.routes.length,w.routes[jr]=r
 e:t.route=(jr:Int)
 f:TickOk t.frm
 v:TickOk t.evr
 u:TickOk t.untl
 fu:t.frm<=t.untl
 tame:r.tame
 last:∃n,r.rides.length=n+1/\r.long=r.pre n+r.rides.getD n 0
 stops:r.rides.length+1=r.stops.length
 at_:w.tripAt j=t
 of_:w.routeOf t=r
theorem WorldD.Fine.at {w:WorldD} (f:w.Fine) {j:Nat} (hj:j<w.trips.length):∃t r jr,w.Trip j t r jr:=by
 obtain⟨h1,h2,h3,h4,jr,hjr,e⟩:=f.trip _ (List.getElem_mem hj);have hm:=List.getElem_mem hjr;obtain⟨g1,g2,g3,g4,_⟩:=f.route _ hm;obtain⟨n,hn⟩:∃n,w.routes[jr].rides.length=n+1:=⟨w.routes[jr].rides.length-1,by omega⟩;exact⟨w.trips[j],w.routes[jr],jr,⟨hj,rfl⟩,⟨hjr,rfl⟩,e,h1,h2,h3,h4,f.tame hm,⟨n,hn,f.last hm hn⟩,g3,WorldD.tripAt_eq hj,WorldD.routeOf_eq hjr e⟩
theorem WorldD.Trip.has {w:WorldD} {j jr:Nat} {t:TripW} {r:RouteW} (T:w.Trip j t r jr) {no:Int}:w.hasAt j no↔w.has t r no:=by
 unfold WorldD.hasAt;rw[T.at_,T.of_]
theorem WorldD.Trip.run {w:WorldD} {j jr:Nat} {t:TripW} {r:RouteW} (T:w.Trip j t r jr) {no:Int}:w.runAt j no=⟨(j:Int),no,r.arrs (t.frm+no*t.evr) r.rides.length,r.deps (t.frm+no*t.evr) r.rides.length⟩:=by
 show(⟨(j:Int),no,(w.routeOf (w.tripAt j)).arrs ((w.tripAt j).frm+no*(w.tripAt j).evr) (w.routeOf (w.tripAt j)).rides.length,(w.routeOf (w.tripAt j)).deps ((w.tripAt j).frm+no*(w.tripAt j).evr) (w.routeOf (w.tripAt j)).rides.length⟩:RunD)=_;rw[T.at_,T.of_]
theorem WorldD.Trip.end_ {w:WorldD} {j jr:Nat} {t:TripW} {r:RouteW} (T:w.Trip j t r jr) (a:Int):(r.arrs a r.rides.length).length=r.rides.length+1/\(r.arrs a r.rides.length)[r.rides.length]? =some (a+r.long):=by
 obtain⟨n,hn,hl⟩:=T.last;refine⟨RouteW.arrs_len _ _ _,?_⟩;rw[hn,RouteW.arrs_at r a (by omega),hl,Int.add_assoc]
end Go.CM.Tt
