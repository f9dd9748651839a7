/- A sheet, a world of one's own that a variable holds: rows turned, the variable written. No condition, no program. -/
import Derived.Test.YtmgpjfnlciapkaaGreatDoorZB
import Derived.Test.YtmgpjfnlciapkaaGreatDoorZYa
set_option linter.unusedVariables false
set_option linter.unusedSimpArgs false
noncomputable section
namespace Go.CM.Tt
section
variable {h h':Heap} {lo b:Nat} {w:WorldD} {x:SheetD}
theorem OwnG.put {rs:List RowE} {xs:List Nat} (g:OwnG h lo rs (b::xs)) (hn:h'.next=h.next) (hk:∀k,k≠b->h'.get k=h.get k):OwnG h' lo rs (b::xs)/\∀k∈xs,h'.get k=h.get k:=by
 have nd:=List.nodup_append.1 g.nd;have n1:∀k∈idsR rs,k≠b:=λk hk=>nd.2.2 k hk b (by simp);have n2:∀k∈xs,k≠b:=λk hk e=>(List.nodup_cons.1 nd.2.1).1 (e▸hk);exact⟨⟨λr hr=>(g.o r hr).other (by omega) λk _ _ hi=>hk k (n1 k (List.mem_flatMap.2 ⟨r,hr,by rw[hi];simp⟩)),g.nd,λk hk=>by rw[hn];exact g.x k hk⟩,λk hk'=>hk k (n2 k hk')⟩
theorem OwnG.box {rs:List RowE} {xs:List Nat} (g:OwnG h lo rs xs) (X:Ext h h') (hlo:lo<=h.next) (hb:h.next<=b) (hl:b<h'.next):OwnG h' lo rs (b::xs):=by
 have nd:=List.nodup_append.1 g.nd;have hx:=X.next;have ne:∀k∈idsR rs++xs,k≠b:=λk hk=>by have:=(g.lt k hk).2;omega
 refine⟨λr hr=>(g.o r hr).ext X,List.nodup_append.2 ⟨nd.1,List.nodup_cons.2 ⟨λhm=>ne b (List.mem_append_right _ hm) rfl,nd.2.1⟩,λa ha c hc e=> ?_⟩,λk hk=> ?_⟩
 ·rcases List.mem_cons.1 hc with rfl|hc
  ·exact ne a (List.mem_append_left _ ha) e
  ·exact nd.2.2 a ha c hc e
 ·rcases List.mem_cons.1 hk with rfl|hk
  ·exact⟨by omega,hl⟩
  ·have:=g.x k hk;exact⟨this.1,by omega⟩
def flatS (x:SheetD) (n1 n2 n3 n5 n6:CV):List RowE:=[(1,n1,x.stops.map Flat.enc),(4,n2,x.paths.map Flat.enc),(7,n3,x.doors.map Flat.enc),(5,n5,x.trips.map Flat.enc),(5,n6,x.hazards.map Flat.enc)]
structure OwnSB (h:Heap) (lo b:Nat) (hz n1 n2 n3 vr n5 n6:CV) (x:SheetD):Prop where
 hz:hz= .int .i64 x.hz
 r:∃css,OwnRs h lo vr css x.routes/\OwnG h lo (flatS x n1 n2 n3 n5 n6++[(4,vr,css)]) (b::idsIn css)
variable {hz n1 n2 n3 vr n5 n6:CV}
theorem OwnSB.ext (o:OwnSB h lo b hz n1 n2 n3 vr n5 n6 x) (X:Ext h h'):OwnSB h' lo b hz n1 n2 n3 vr n5 n6 x:=by
 obtain⟨css,r1,r2⟩:=o.r;exact⟨o.hz,css,r1.ext X,r2.ext X⟩
theorem OwnSB.rp (o:OwnSB h lo b hz n1 n2 n3 vr n5 n6 x):Rp.R h [hz,n1,n2,n3,vr,n5,n6] x:=by
 obtain⟨css,r1,r2⟩:=o.r;have g:∀(j:Nat) {a:Nat} {v:CV} {l:List (List CV)},(flatS x n1 n2 n3 n5 n6)[j]? =some (a,v,l)->OwnR h lo a v l:=λj {_ _ _} hm=>r2.o _ (List.mem_append_left _ (List.mem_of_getElem? hm));refine⟨n1,n2,n3,vr,n5,n6,by rw[o.hz],?_,?_,?_,r1.toSl,?_,?_⟩
 ·exact OwnR.toSl (α:=Str) (lo:=lo) (g 0 rfl)
 ·exact OwnR.toSl (α:=PathS) (lo:=lo) (g 1 rfl)
 ·exact OwnR.toSl (α:=DoorS) (lo:=lo) (g 2 rfl)
 ·exact OwnR.toSl (α:=TripS) (lo:=lo) (g 3 rfl)
 ·exact OwnR.toSl (α:=HazS) (lo:=lo) (g 4 rfl)
theorem OwnRs.stay {rs:List RowE} {css:List (List CV)} {l:List RouteS} {xs:List Nat} (r:OwnRs h lo vr css l) (g:OwnG h' lo rs xs) (hm:(4,vr,css)∈rs) (hn:h.next<=h'.next) (hx:∀k∈idsIn css,h'.get k=h.get k):OwnRs h' lo vr css l:=
 ⟨g.o _ hm,r.2.1,λj e d he hd=>(r.2.2 j e d he hd).other hn λk hk=>hx k (List.mem_flatMap.2 ⟨e,List.mem_of_getElem? he,hk⟩)⟩
theorem OwnRws.stay2 {rs:List RowE} {css:List (List CV)} {l:List RouteW} {xs:List Nat} (r:OwnRws h lo vr css l) (g:OwnG h' lo rs xs) (hm:(3,vr,css)∈rs) (hn:h.next<=h'.next) (hx:∀k∈idsIn css,h'.get k=h.get k):OwnRws h' lo vr css l:=
 ⟨g.o _ hm,r.2.1,λj e d he hd=>(r.2.2 j e d he hd).other hn λk hk=>hx k (List.mem_flatMap.2 ⟨e,List.mem_of_getElem? he,hk⟩)⟩
theorem OwnSB.put (o:OwnSB h lo b hz n1 n2 n3 vr n5 n6 x) (hn:h'.next=h.next) (hk:∀k,k≠b->h'.get k=h.get k):OwnSB h' lo b hz n1 n2 n3 vr n5 n6 x:=by
 obtain⟨css,r1,r2⟩:=o.r;obtain⟨g,hx⟩:=r2.put hn hk;exact⟨o.hz,css,r1.stay g (by simp) (by omega) hx,g⟩
theorem OwnSB.paths (o:OwnSB h lo b hz n1 n2 n3 vr n5 n6 x) {l:List PathS} {u:CV} (hn:h.next<=h'.next) (hk:∀k,k<h.next->k<lo\/idOf n2≠[k]->h'.get k=h.get k) (om:OwnR h' lo 4 u (l.map Flat.enc)) (hi:idOf u=idOf n2\/∃j,idOf u=[j]/\h.next<=j):OwnSB h' lo b hz n1 u n3 vr n5 n6 {x with paths:=l}:=by
 obtain⟨css,r1,r2⟩:=o.r;obtain⟨g,hx⟩:=OwnG.turn (A:=[(1,n1,x.stops.map Flat.enc)]) (B:=[(7,n3,x.doors.map Flat.enc),(5,n5,x.trips.map Flat.enc),(5,n6,x.hazards.map Flat.enc),(4,vr,css)]) r2 hn hk om hi;exact⟨o.hz,css,r1.stay g (by simp) hn λk hm=>hx k (List.mem_cons_of_mem _ hm),g⟩
theorem OwnSB.own_paths (o:OwnSB h lo b hz n1 n2 n3 vr n5 n6 x):OwnR h lo 4 n2 (x.paths.map Flat.enc)/\idOf n2≠[b]:=by
 obtain⟨css,r1,r2⟩:=o.r;have hm:((4,n2,x.paths.map Flat.enc):RowE)∈flatS x n1 n2 n3 n5 n6++[(4,vr,css)]:=by simp[flatS]
 exact⟨r2.o _ hm,λe=>(List.nodup_append.1 r2.nd).2.2 b (List.mem_flatMap.2 ⟨_,hm,by rw[e];simp⟩) b (by simp) rfl⟩
theorem OwnSB.doors (o:OwnSB h lo b hz n1 n2 n3 vr n5 n6 x) {l:List DoorS} {u:CV} (hn:h.next<=h'.next) (hk:∀k,k<h.next->k<lo\/idOf n3≠[k]->h'.get k=h.get k) (om:OwnR h' lo 7 u (l.map Flat.enc)) (hi:idOf u=idOf n3\/∃j,idOf u=[j]/\h.next<=j):OwnSB h' lo b hz n1 n2 u vr n5 n6 {x with doors:=l}:=by
 obtain⟨css,r1,r2⟩:=o.r;obtain⟨g,hx⟩:=OwnG.turn (A:=[(1,n1,x.stops.map Flat.enc),(4,n2,x.paths.map Flat.enc)]) (B:=[(5,n5,x.trips.map Flat.enc),(5,n6,x.hazards.map Flat.enc),(4,vr,css)]) r2 hn hk om hi;exact⟨o.hz,css,r1.stay g (by simp) hn λk hm=>hx k (List.mem_cons_of_mem _ hm),g⟩
theorem OwnSB.own_doors (o:OwnSB h lo b hz n1 n2 n3 vr n5 n6 x):OwnR h lo 7 n3 (x.doors.map Flat.enc)/\idOf n3≠[b]:=by
 obtain⟨css,r1,r2⟩:=o.r;have hm:((7,n3,x.doors.map Flat.enc):RowE)∈flatS x n1 n2 n3 n5 n6++[(4,vr,css)]:=by simp[flatS]
 exact⟨r2.o _ hm,λe=>(List.nodup_append.1 r2.nd).2.2 b (List.mem_flatMap.2 ⟨_,hm,by rw[e];simp⟩) b (by simp) rfl⟩
theorem OwnSB.trips (o:OwnSB h lo b hz n1 n2 n3 vr n5 n6 x) {l:List TripS} {u:CV} (hn:h.next<=h'.next) (hk:∀k,k<h.next->k<lo\/idOf n5≠[k]->h'.get k=h.get k) (om:OwnR h' lo 5 u (l.map Flat.enc)) (hi:idOf u=idOf n5\/∃j,idOf u=[j]/\h.next<=j):OwnSB h' lo b hz n1 n2 n3 vr u n6 {x with trips:=l}:=by
 obtain⟨css,r1,r2⟩:=o.r;obtain⟨g,hx⟩:=OwnG.turn (A:=[(1,n1,x.stops.map Flat.enc),(4,n2,x.paths.map Flat.enc),(7,n3,x.doors.map Flat.enc)]) (B:=[(5,n6,x.hazards.map Flat.enc),(4,vr,css)]) r2 hn hk om hi;exact⟨o.hz,css,r1.stay g (by simp) hn λk hm=>hx k (List.mem_cons_of_mem _ hm),g⟩
theorem OwnSB.own_trips (o:OwnSB h lo b hz n1 n2 n3 vr n5 n6 x):OwnR h lo 5 n5 (x.trips.map Flat.enc)/\idOf n5≠[b]:=by
 obtain⟨css,r1,r2⟩:=o.r;have hm:((5,n5,x.trips.map Flat.enc):RowE)∈flatS x n1 n2 n3 n5 n6++[(4,vr,css)]:=by simp[flatS]
 exact⟨r2.o _ hm,λe=>(List.nodup_append.1 r2.nd).2.2 b (List.mem_flatMap.2 ⟨_,hm,by rw[e];simp⟩) b (by simp) rfl⟩
theorem OwnSB.hazards (o:OwnSB h lo b hz n1 n2 n3 vr n5 n6 x) {l:List HazS} {u:CV} (hn:h.next<=h'.next) (hk:∀k,k<h.next->k<lo\/idOf n6≠[k]->h'.get k=h.get k) (om:OwnR h' lo 5 u (l.map Flat.enc)) (hi:idOf u=idOf n6\/∃j,idOf u=[j]/\h.next<=j):OwnSB h' lo b hz n1 n2 n3 vr n5 u {x with hazards:=l}:=by
 obtain⟨css,r1,r2⟩:=o.r;obtain⟨g,hx⟩:=OwnG.turn (A:=[(1,n1,x.stops.map Flat.enc),(4,n2,x.paths.map Flat.enc),(7,n3,x.doors.map Flat.enc),(5,n5,x.trips.map Flat.enc)]) (B:=[(4,vr,css)]) r2 hn hk om hi;exact⟨o.hz,css,r1.stay g (by simp) hn λk hm=>hx k (List.mem_cons_of_mem _ hm),g⟩
theorem OwnSB.own_hazards (o:OwnSB h lo b hz n1 n2 n3 vr n5 n6 x):OwnR h lo 5 n6 (x.hazards.map Flat.enc)/\idOf n6≠[b]:=by
 obtain⟨css,r1,r2⟩:=o.r;have hm:((5,n6,x.hazards.map Flat.enc):RowE)∈flatS x n1 n2 n3 n5 n6++[(4,vr,css)]:=by simp[flatS]
 exact⟨r2.o _ hm,λe=>(List.nodup_append.1 r2.nd).2.2 b (List.mem_flatMap.2 ⟨_,hm,by rw[e];simp⟩) b (by simp) rfl⟩
theorem OwnSB.lt (o:OwnSB h lo b hz n1 n2 n3 vr n5 n6 x):b<h.next:=by
 obtain⟨css,r1,r2⟩:=o.r;exact(r2.x b (by simp)).2
variable {m1 m2 m3 m4 m5 m6 p d t z:CV}
structure OwnWB (h:Heap) (lo b:Nat) (hz m1 m2 m3 m4 m5 m6 p d vr t z:CV) (w:WorldD):Prop where
 hz:hz= .int .i64 w.hz
 r:∃css,OwnRws h lo vr css w.routes/\OwnG h lo (flatW w p d t z m1 m2 m3 m4 m5 m6++[(3,vr,css)]) (b::idsIn css)
theorem OwnWB.ext (o:OwnWB h lo b hz m1 m2 m3 m4 m5 m6 p d vr t z w) (X:Ext h h'):OwnWB h' lo b hz m1 m2 m3 m4 m5 m6 p d vr t z w:=by
 obtain⟨css,r1,r2⟩:=o.r;exact⟨o.hz,css,r1.ext X,r2.ext X⟩
theorem OwnWB.keep (o:OwnWB h lo b hz m1 m2 m3 m4 m5 m6 p d vr t z w) (hn:h.next<=h'.next) (hk:∀k,lo<=k->k<h.next->h'.get k=h.get k):OwnWB h' lo b hz m1 m2 m3 m4 m5 m6 p d vr t z w:=by
 obtain⟨css,r1,r2⟩:=o.r;have hl:=λk hm=>hk k (r2.lt k hm).1 (r2.lt k hm).2;have g:=r2.keep hn hl;exact⟨o.hz,css,r1.stay2 g (by simp) hn λk hm=>hl k (List.mem_append_right _ (List.mem_cons_of_mem _ hm)),g⟩
theorem OwnWB.put (o:OwnWB h lo b hz m1 m2 m3 m4 m5 m6 p d vr t z w) (hn:h'.next=h.next) (hk:∀k,k≠b->h'.get k=h.get k):OwnWB h' lo b hz m1 m2 m3 m4 m5 m6 p d vr t z w:=by
 obtain⟨css,r1,r2⟩:=o.r;obtain⟨g,hx⟩:=r2.put hn hk;exact⟨o.hz,css,r1.stay2 g (by simp) (by omega) hx,g⟩
theorem OwnWB.lt (o:OwnWB h lo b hz m1 m2 m3 m4 m5 m6 p d vr t z w):lo<=b/\b<h.next:=by
 obtain⟨css,r1,r2⟩:=o.r;exact r2.x b (by simp)
theorem OwnWB.rp (o:OwnWB h lo b hz m1 m2 m3 m4 m5 m6 p d vr t z w):Rp.R h [hz,m1,m2,m3,m4,m5,m6,p,d,vr,t,z] w:=by
 obtain⟨css,r1,r2⟩:=o.r;exact OwnWd.rp (lo:=lo) ⟨o.hz,css,r1,r2.o,(List.nodup_append.1 r2.nd).1 |> λh1=>List.nodup_append.2 ⟨h1,(List.nodup_cons.1 (List.nodup_append.1 r2.nd).2.1).2,λa ha c hc=>(List.nodup_append.1 r2.nd).2.2 a ha c (List.mem_cons_of_mem _ hc)⟩,λk hk=>r2.x k (List.mem_cons_of_mem _ hk)⟩
theorem OwnWB.paths (o:OwnWB h lo b hz m1 m2 m3 m4 m5 m6 p d vr t z w) {l:List PathW} {u:CV} (hn:h.next<=h'.next) (hk:∀k,k<h.next->k<lo\/idOf p≠[k]->h'.get k=h.get k) (om:OwnR h' lo 3 u (l.map Flat.enc)) (hi:idOf u=idOf p\/∃j,idOf u=[j]/\h.next<=j):OwnWB h' lo b hz m1 m2 m3 m4 m5 m6 u d vr t z {w with paths:=l}:=by
 obtain⟨css,r1,r2⟩:=o.r;obtain⟨g,hx⟩:=OwnG.turn (A:=[]) (B:=[(6,d,w.doors.map Flat.enc),(4,t,w.trips.map Flat.enc),(5,z,w.hazards.map Flat.enc),(1,m1,w.names.stops.map Flat.enc),(1,m2,w.names.paths.map Flat.enc),(1,m3,w.names.doors.map Flat.enc),(1,m4,w.names.routes.map Flat.enc),(1,m5,w.names.trips.map Flat.enc),(1,m6,w.names.hazards.map Flat.enc),(3,vr,css)]) r2 hn hk om hi;exact⟨o.hz,css,r1.stay2 g (by simp) hn λk hm=>hx k (List.mem_cons_of_mem _ hm),g⟩
theorem OwnWB.own_paths (o:OwnWB h lo b hz m1 m2 m3 m4 m5 m6 p d vr t z w):OwnR h lo 3 p (w.paths.map Flat.enc)/\idOf p≠[b]:=by
 obtain⟨css,r1,r2⟩:=o.r;have hm:((3,p,w.paths.map Flat.enc):RowE)∈flatW w p d t z m1 m2 m3 m4 m5 m6++[(3,vr,css)]:=by simp[flatW]
 exact⟨r2.o _ hm,λe=>(List.nodup_append.1 r2.nd).2.2 b (List.mem_flatMap.2 ⟨_,hm,by rw[e];simp⟩) b (by simp) rfl⟩
theorem OwnWB.doors (o:OwnWB h lo b hz m1 m2 m3 m4 m5 m6 p d vr t z w) {l:List DoorW} {u:CV} (hn:h.next<=h'.next) (hk:∀k,k<h.next->k<lo\/idOf d≠[k]->h'.get k=h.get k) (om:OwnR h' lo 6 u (l.map Flat.enc)) (hi:idOf u=idOf d\/∃j,idOf u=[j]/\h.next<=j):OwnWB h' lo b hz m1 m2 m3 m4 m5 m6 p u vr t z {w with doors:=l}:=by
 obtain⟨css,r1,r2⟩:=o.r;obtain⟨g,hx⟩:=OwnG.turn (A:=[(3,p,w.paths.map Flat.enc)]) (B:=[(4,t,w.trips.map Flat.enc),(5,z,w.hazards.map Flat.enc),(1,m1,w.names.stops.map Flat.enc),(1,m2,w.names.paths.map Flat.enc),(1,m3,w.names.doors.map Flat.enc),(1,m4,w.names.routes.map Flat.enc),(1,m5,w.names.trips.map Flat.enc),(1,m6,w.names.hazards.map Flat.enc),(3,vr,css)]) r2 hn hk om hi;exact⟨o.hz,css,r1.stay2 g (by simp) hn λk hm=>hx k (List.mem_cons_of_mem _ hm),g⟩
theorem OwnWB.own_doors (o:OwnWB h lo b hz m1 m2 m3 m4 m5 m6 p d vr t z w):OwnR h lo 6 d (w.doors.map Flat.enc)/\idOf d≠[b]:=by
 obtain⟨css,r1,r2⟩:=o.r;have hm:((6,d,w.doors.map Flat.enc):RowE)∈flatW w p d t z m1 m2 m3 m4 m5 m6++[(3,vr,css)]:=by simp[flatW]
 exact⟨r2.o _ hm,λe=>(List.nodup_append.1 r2.nd).2.2 b (List.mem_flatMap.2 ⟨_,hm,by rw[e];simp⟩) b (by simp) rfl⟩
theorem OwnWB.trips (o:OwnWB h lo b hz m1 m2 m3 m4 m5 m6 p d vr t z w) {l:List TripW} {u:CV} (hn:h.next<=h'.next) (hk:∀k,k<h.next->k<lo\/idOf t≠[k]->h'.get k=h.get k) (om:OwnR h' lo 4 u (l.map Flat.enc)) (hi:idOf u=idOf t\/∃j,idOf u=[j]/\h.next<=j):OwnWB h' lo b hz m1 m2 m3 m4 m5 m6 p d vr u z {w with trips:=l}:=by
 obtain⟨css,r1,r2⟩:=o.r;obtain⟨g,hx⟩:=OwnG.turn (A:=[(3,p,w.paths.map Flat.enc),(6,d,w.doors.map Flat.enc)]) (B:=[(5,z,w.hazards.map Flat.enc),(1,m1,w.names.stops.map Flat.enc),(1,m2,w.names.paths.map Flat.enc),(1,m3,w.names.doors.map Flat.enc),(1,m4,w.names.routes.map Flat.enc),(1,m5,w.names.trips.map Flat.enc),(1,m6,w.names.hazards.map Flat.enc),(3,vr,css)]) r2 hn hk om hi;exact⟨o.hz,css,r1.stay2 g (by simp) hn λk hm=>hx k (List.mem_cons_of_mem _ hm),g⟩
theorem OwnWB.own_trips (o:OwnWB h lo b hz m1 m2 m3 m4 m5 m6 p d vr t z w):OwnR h lo 4 t (w.trips.map Flat.enc)/\idOf t≠[b]:=by
 obtain⟨css,r1,r2⟩:=o.r;have hm:((4,t,w.trips.map Flat.enc):RowE)∈flatW w p d t z m1 m2 m3 m4 m5 m6++[(3,vr,css)]:=by simp[flatW]
 exact⟨r2.o _ hm,λe=>(List.nodup_append.1 r2.nd).2.2 b (List.mem_flatMap.2 ⟨_,hm,by rw[e];simp⟩) b (by simp) rfl⟩
theorem OwnWB.hazards (o:OwnWB h lo b hz m1 m2 m3 m4 m5 m6 p d vr t z w) {l:List HazW} {u:CV} (hn:h.next<=h'.next) (hk:∀k,k<h.next->k<lo\/idOf z≠[k]->h'.get k=h.get k) (om:OwnR h' lo 5 u (l.map Flat.enc)) (hi:idOf u=idOf z\/∃j,idOf u=[j]/\h.next<=j):OwnWB h' lo b hz m1 m2 m3 m4 m5 m6 p d vr t u {w with hazards:=l}:=by
 obtain⟨css,r1,r2⟩:=o.r;obtain⟨g,hx⟩:=OwnG.turn (A:=[(3,p,w.paths.map Flat.enc),(6,d,w.doors.map Flat.enc),(4,t,w.trips.map Flat.enc)]) (B:=[(1,m1,w.names.stops.map Flat.enc),(1,m2,w.names.paths.map Flat.enc),(1,m3,w.names.doors.map Flat.enc),(1,m4,w.names.routes.map Flat.enc),(1,m5,w.names.trips.map Flat.enc),(1,m6,w.names.hazards.map Flat.enc),(3,vr,css)]) r2 hn hk om hi;exact⟨o.hz,css,r1.stay2 g (by simp) hn λk hm=>hx k (List.mem_cons_of_mem _ hm),g⟩
theorem OwnWB.own_hazards (o:OwnWB h lo b hz m1 m2 m3 m4 m5 m6 p d vr t z w):OwnR h lo 5 z (w.hazards.map Flat.enc)/\idOf z≠[b]:=by
 obtain⟨css,r1,r2⟩:=o.r;have hm:((5,z,w.hazards.map Flat.enc):RowE)∈flatW w p d t z m1 m2 m3 m4 m5 m6++[(3,vr,css)]:=by simp[flatW]
 exact⟨r2.o _ hm,λe=>(List.nodup_append.1 r2.nd).2.2 b (List.mem_flatMap.2 ⟨_,hm,by rw[e];simp⟩) b (by simp) rfl⟩
theorem OwnWB.own_npaths (o:OwnWB h lo b hz m1 m2 m3 m4 m5 m6 p d vr t z w):OwnR h lo 1 m2 (w.names.paths.map Flat.enc)/\idOf m2≠[b]:=by
 obtain⟨css,r1,r2⟩:=o.r;have hm:((1,m2,w.names.paths.map Flat.enc):RowE)∈flatW w p d t z m1 m2 m3 m4 m5 m6++[(3,vr,css)]:=by simp[flatW]
 exact⟨r2.o _ hm,λe=>(List.nodup_append.1 r2.nd).2.2 b (List.mem_flatMap.2 ⟨_,hm,by rw[e];simp⟩) b (by simp) rfl⟩
theorem OwnWB.own_nroutes (o:OwnWB h lo b hz m1 m2 m3 m4 m5 m6 p d vr t z w):OwnR h lo 1 m4 (w.names.routes.map Flat.enc)/\idOf m4≠[b]:=by
 obtain⟨css,r1,r2⟩:=o.r;have hm:((1,m4,w.names.routes.map Flat.enc):RowE)∈flatW w p d t z m1 m2 m3 m4 m5 m6++[(3,vr,css)]:=by simp[flatW]
 exact⟨r2.o _ hm,λe=>(List.nodup_append.1 r2.nd).2.2 b (List.mem_flatMap.2 ⟨_,hm,by rw[e];simp⟩) b (by simp) rfl⟩
end
end Go.CM.Tt

noncomputable section
namespace Go.CM.Tt
section
variable {h h' g:Heap} {lo b:Nat} {x:SheetD} {hz n1 n2 n3 vr n5 n6 u:CV}
theorem OwnSB.start {l:List Str} {a:Int} (o:OwnR h lo 1 n1 (l.map Flat.enc)) (hb:lo<=b) (hl:b<h.next) (ne:idOf n1≠[b]):OwnSB h lo b (.int .i64 a) n1 (.slice none 0 0 0) (.slice none 0 0 0) (.slice none 0 0 0) (.slice none 0 0 0) (.slice none 0 0 0) ⟨a,l,[],[],[],[],[]⟩:=by
 refine⟨rfl,[],⟨OwnR.nil,rfl,λj e d he _=>by simp at he⟩,⟨λr hr=> ?_,?_,λk hk=> ?_⟩⟩
 ·simp only[flatS,List.cons_append,List.nil_append,List.mem_cons,List.not_mem_nil,or_false]at hr
  rcases hr with rfl|rfl|rfl|rfl|rfl|rfl
  ·exact o
  all_goals exact OwnR.nil
 ·have e:idsR (flatS ⟨a,l,[],[],[],[],[]⟩ n1 (.slice none 0 0 0) (.slice none 0 0 0) (.slice none 0 0 0) (.slice none 0 0 0)++[(4,.slice none 0 0 0,[])])++b::idsIn []=idOf n1++[b]:=by
    simp[idsR,flatS,idOf,idsIn]
  rw[e];refine List.nodup_append.2 ⟨OwnR.idNodup _,by simp,λc hc d hd e2=> ?_⟩;rw[List.mem_singleton]at hd;rcases idOf_one n1 with h1|⟨j,h1⟩
  ·rw[h1]at hc;cases hc
  ·rw[h1]at hc
   exact ne (by rw[h1,<-List.mem_singleton.1 hc,e2,hd])
 ·have:k=b:=by simpa[idsIn]using hk
  rw[this];exact⟨hb,hl⟩
theorem OwnSB.keep (o:OwnSB h lo b hz n1 n2 n3 vr n5 n6 x) (hn:h.next<=h'.next) (hk:∀k,lo<=k->k<h.next->h'.get k=h.get k):OwnSB h' lo b hz n1 n2 n3 vr n5 n6 x:=by
 obtain⟨css,r1,r2⟩:=o.r;have hl:=λk hm=>hk k (r2.lt k hm).1 (r2.lt k hm).2;have g:=r2.keep hn hl;exact⟨o.hz,css,r1.stay g (by simp) hn λk hm=>hl k (List.mem_append_right _ (List.mem_cons_of_mem _ hm)),g⟩
theorem OwnSB.route {css:List (List CV)} {e:List CV} {d:RouteS} {lo2:Nat} (e0:hz= .int .i64 x.hz) (r1:OwnRs g lo vr css x.routes) (r2:OwnG g lo (flatS x n1 n2 n3 n5 n6++[(4,vr,css)]) (b::idsIn css))
  (oe:OwnRS g lo2 e d) (hlo:lo<=lo2) (hlt:∀k∈idsR (flatS x n1 n2 n3 n5 n6++[(4,vr,css)])++b::idsIn css,k<lo2) (nd:(idsOf e).Nodup)
  (hn:g.next<=h'.next) (hk:∀k,k<g.next->k<lo\/idOf vr≠[k]->h'.get k=g.get k) (om:OwnR h' lo 4 u (css++[e])) {j:Nat} (hi:idOf u=[j]) (hj:g.next<=j):OwnSB h' lo b hz n1 n2 n3 u n5 n6 {x with routes:=x.routes++[d]}:=by
 have eid:∀(v:CV) (c:List (List CV)),idsR (flatS x n1 n2 n3 n5 n6++[(4,v,c)])=idsR (flatS x n1 n2 n3 n5 n6)++idOf v:=λv c=>by simp[idsR]
 have nd0:=r2.nd;rw[eid,List.append_assoc]at nd0;rw[eid,List.append_assoc]at hlt;have nA:=List.nodup_append.1 nd0;have nV:=List.nodup_append.1 nA.2.1;have oid:=oe.ids
 have nev:∀k,k∈idsR (flatS x n1 n2 n3 n5 n6)\/k∈b::idsIn css->idOf vr≠[k]:=λk hk e1=>by
  rcases hk with hk|hk
  ·exact nA.2.2 k hk k (by rw[e1];simp) rfl
  ·exact nV.2.2 k (by rw[e1];simp) k hk rfl
 have glt:∀k,k∈idsR (flatS x n1 n2 n3 n5 n6)\/k∈b::idsIn css->k<g.next:=λk hk=>by
  have:=r2.lt k (by
   rw[eid,List.append_assoc];rcases hk with hk|hk
   ·exact List.mem_append_left _ hk
   ·exact List.mem_append_right _ (List.mem_append_right _ hk))
  exact this.2
 have kp:∀k,k∈idsR (flatS x n1 n2 n3 n5 n6)\/k∈b::idsIn css->h'.get k=g.get k:=λk hk2=>hk k (glt k hk2) (.inr (nev k hk2))
 have ke:∀k∈idsOf e,h'.get k=g.get k:=λk hk2=>hk k (oid k hk2).2 (.inr λe1=>by
  have h1:=(oid k hk2).1;have h2:=hlt k (List.mem_append_right _ (List.mem_append_left _ (by rw[e1];simp)));omega)
 refine⟨e0,css++[e],⟨om,by rw[List.length_append,List.length_append,r1.2.1];rfl,λi e' d' he hd=> ?_⟩,⟨λr hr=> ?_,?_,λk hk2=> ?_⟩⟩
 ·by_cases c:i<css.length
  ·rw[List.getElem?_append_left c]at he
   rw[List.getElem?_append_left (by rw[<-r1.2.1];exact c)]at hd;exact(r1.2.2 i e' d' he hd).other hn λk hk2=>kp k (.inr (List.mem_cons_of_mem _ (List.mem_flatMap.2 ⟨e',List.mem_of_getElem? he,hk2⟩)))
  ·have hi2:i=css.length:=by
     have:=(List.getElem?_eq_some_iff.1 he).1;rw[List.length_append,List.length_singleton]at this;omega
   subst hi2;rw[List.getElem?_append_right (Nat.le_refl _),Nat.sub_self]at he;have he:e=e':=by simpa using he
   have hd:d=d':=by
    rw[r1.2.1,List.getElem?_append_right (Nat.le_refl _),Nat.sub_self]at hd;simpa using hd
   subst he hd;exact(oe.low hlo).other hn ke
 ·have hr:r∈flatS x n1 n2 n3 n5 n6++[(4,u,css++[e])]:=hr
  rcases List.mem_append.1 hr with hr|hr
  ·exact(r2.o r (List.mem_append_left _ hr)).other hn λk _ _ hid=>kp k (.inl (List.mem_flatMap.2 ⟨r,hr,by rw[hid];simp⟩))
  ·rw[List.mem_singleton.1 hr];exact om
 ·have e9:idsR (flatS {x with routes:=x.routes++[d]} n1 n2 n3 n5 n6++[(4,u,css++[e])])++b::idsIn (css++[e])=idsR (flatS x n1 n2 n3 n5 n6)++(idOf u++(b::idsIn css++idsOf e)):=by
    rw[show flatS {x with routes:=x.routes++[d]} n1 n2 n3 n5 n6=flatS x n1 n2 n3 n5 n6 from rfl,eid]
    simp[idsIn,idsOf]
  rw[e9,hi];have inner:(b::idsIn css++idsOf e).Nodup:=nodup_behind (n:=lo2) nV.2.1 (λa ha=>hlt a (List.mem_append_right _ (List.mem_append_right _ ha))) nd (λa ha=>(oid a ha).1)
  have ilt:∀a∈b::idsIn css++idsOf e,a<g.next:=λa ha=>by
   rcases List.mem_append.1 ha with ha|ha
   ·exact glt a (.inr ha)
   ·exact(oid a ha).2
  refine List.nodup_append.2 ⟨nA.1,List.nodup_append.2 ⟨by simp,inner,λa ha c hc e1=> ?_⟩,λa ha c hc e1=> ?_⟩
  ·rw[List.mem_singleton.1 ha]at e1
   have:=ilt c hc;omega
  ·have h1:=glt a (.inl ha)
   rcases List.mem_append.1 hc with hc|hc
   ·rw[List.mem_singleton.1 hc]at e1;omega
   ·rcases List.mem_append.1 hc with hc|hc
    ·exact nA.2.2 a ha c (List.mem_append_right _ hc) e1
    ·have h2:=(oid c hc).1
     have h3:=hlt a (List.mem_append_left _ ha);omega
 ·rcases List.mem_cons.1 hk2 with rfl|hk2
  ·have:=r2.x k (by simp)
   exact⟨this.1,by omega⟩
  ·unfold idsIn at hk2
   rw[List.flatMap_append,List.mem_append]at hk2;rcases hk2 with hk2|hk2
   ·have:=r2.x k (List.mem_cons_of_mem _ hk2)
    exact⟨this.1,by omega⟩
   ·have:=oid k (by simpa using hk2)
    exact⟨by omega,by omega⟩
end
theorem told_take {α β:Type} {l:List α} {f:Nat->α->β} {k:Nat} (h:k<l.length):(l.mapIdx f).take (k+1)=(l.mapIdx f).take k++[f k l[k]]:=by
 rw[List.take_add_one,List.getElem?_eq_getElem (by rw[List.length_mapIdx];exact h),List.getElem_mapIdx];rfl
theorem told_all {α β:Type} {l:List α} {f:Nat->α->β} {k:Nat} (h:¬k<l.length) (h2:k<=l.length):(l.mapIdx f).take k=l.mapIdx f:=by
 have:k=l.length:=by omega
 rw[this];exact List.take_of_length_le (by rw[List.length_mapIdx];exact Nat.le_refl _)
theorem inL.ex {n:Int} {l:List Str} (h:inL n l):∃j:Nat,n=j/\j<l.length:=⟨n.toNat,by have:=h.1;omega,by have:=h.1;have:=h.2;omega⟩
end Go.CM.Tt
