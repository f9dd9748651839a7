/- A sheet in memory of its own. No condition, no program. -/
import Derived.Test.YtnjkaahbhebaeaaGreatDoorYA
import Derived.Test.YtnjkaahbhebaeaaGreatDoorXZ
set_option linter.unusedVariables false
set_option linter.unusedSimpArgs false
noncomputable section
namespace Go.CM.Tt
def idsOf (cs:List CV):List Nat:=cs.flatMap idOf
theorem nodup_behind {l m:List Nat} {n:Nat} (h1:l.Nodup) (h2:∀a∈l,a<n) (h3:m.Nodup) (h4:∀b∈m,n<=b):(l++m).Nodup:=
 List.nodup_append.2 ⟨h1,h3,λa ha b hb e=>by have:=h2 a ha;have:=h4 b hb;omega⟩
theorem idOf_one (v:CV):idOf v=[]\/∃k,idOf v=[k]:=by
 cases v with
 |ptr p=>rcases p with _|⟨i,o⟩;exact .inl rfl;exact .inr ⟨i,rfl⟩
 |slice p n c x=>rcases p with _|⟨i,o⟩;exact .inl rfl;exact .inr ⟨i,rfl⟩
 |map p=>rcases p with _|i;exact .inl rfl;exact .inr ⟨i,rfl⟩
 |_=>first|exact .inl rfl|exact .inr ⟨_,rfl⟩
theorem OwnR.ids {h:Heap} {lo z:Nat} {v:CV} {l:List (List CV)} (o:OwnR h lo z v l):∀k∈idOf v,lo<=k/\k<h.next:=by
 intro k hk;rcases idOf_one v with e|⟨j,e⟩
 ·rw[e]at hk;cases hk
 ·rw[e]at hk
  rw[List.mem_singleton.1 hk];exact⟨(o.idlt e).2,(o.idlt e).1⟩
theorem OwnR.idNodup (v:CV):(idOf v).Nodup:=by
 rcases idOf_one v with e|⟨j,e⟩<;>rw[e]<;>simp
def OwnRS (h:Heap) (lo:Nat) (e:List CV) (d:RouteS):Prop:=∃u1 u2 u3,e=[.str d.name,u1,u2,u3]/\OwnR h lo 1 u1 (d.stops.map Flat.enc)/\OwnR h lo 1 u2 (d.rides.map Flat.enc)/\OwnR h lo 1 u3 (d.stays.map Flat.enc)
section
variable {h h':Heap} {lo lo':Nat} {e:List CV} {d:RouteS} {x:SheetD}
theorem OwnRS.ext (o:OwnRS h lo e d) (x:Ext h h'):OwnRS h' lo e d:=by
 obtain⟨u1,u2,u3,rfl,o1,o2,o3⟩:=o;exact⟨u1,u2,u3,rfl,o1.ext x,o2.ext x,o3.ext x⟩
theorem OwnRS.low (o:OwnRS h lo e d) (hl:lo'<=lo):OwnRS h lo' e d:=by
 obtain⟨u1,u2,u3,rfl,o1,o2,o3⟩:=o;exact⟨u1,u2,u3,rfl,o1.low hl,o2.low hl,o3.low hl⟩
theorem OwnRS.other (o:OwnRS h lo e d) (hn:h.next<=h'.next) (hk:∀k,k∈idsOf e->h'.get k=h.get k):OwnRS h' lo e d:=by
 obtain⟨u1,u2,u3,rfl,o1,o2,o3⟩:=o;exact⟨u1,u2,u3,rfl,o1.other hn λk _ _ hi=>hk k (by simp[idsOf,hi]),o2.other hn λk _ _ hi=>hk k (by simp[idsOf,hi]),o3.other hn λk _ _ hi=>hk k (by simp[idsOf,hi])⟩
theorem OwnRS.ids (o:OwnRS h lo e d):∀k∈idsOf e,lo<=k/\k<h.next:=by
 obtain⟨u1,u2,u3,rfl,o1,o2,o3⟩:=o;intro k hk;have hk:k∈idOf (.str d.name)++(idOf u1++(idOf u2++(idOf u3++[]))):=hk;simp only[List.mem_append,List.not_mem_nil,or_false]at hk;rcases hk with hk|hk|hk|hk
 ·cases hk
 ·exact OwnR.ids o1 k hk
 ·exact OwnR.ids o2 k hk
 ·exact OwnR.ids o3 k hk
theorem OwnRS.len (o:OwnRS h lo e d):e.length=4:=by
 obtain⟨u1,u2,u3,rfl,_⟩:=o;rfl
theorem OwnRS.rp (o:OwnRS h lo e d):Rp.R h e d:=by
 obtain⟨u1,u2,u3,rfl,o1,o2,o3⟩:=o;exact⟨u1,u2,u3,rfl,o1.toSl,o2.toSl,o3.toSl⟩
def OwnRs (h:Heap) (lo:Nat) (v:CV) (css:List (List CV)) (l:List RouteS):Prop:=OwnR h lo 4 v css/\css.length=l.length/\∀(j:Nat) (e:List CV) (d:RouteS),css[j]? =some e->l[j]? =some d->OwnRS h lo e d
def idsIn (css:List (List CV)):List Nat:=css.flatMap idsOf
theorem OwnRs.ext {v:CV} {css:List (List CV)} {l:List RouteS} (o:OwnRs h lo v css l) (x:Ext h h'):OwnRs h' lo v css l:=
 ⟨o.1.ext x,o.2.1,λj e d he hd=>(o.2.2 j e d he hd).ext x⟩
theorem OwnRs.toSl {v:CV} {css:List (List CV)} {l:List RouteS} (o:OwnRs h lo v css l):Sl h v l:=
 ⟨css,o.1.sl,o.2.1,λj e d he hd=>(o.2.2 j e d he hd).rp⟩
variable {hz n1 n2 n3 vr n5 n6:CV}
end
end Go.CM.Tt

noncomputable section
namespace Go.CM.Tt
section
variable {h h':Heap} {lo:Nat}
abbrev RowE:=Nat×CV×List (List CV)
def idsR (rs:List RowE):List Nat:=rs.flatMap λr=>idOf r.2.1
structure OwnG (h:Heap) (lo:Nat) (rs:List RowE) (xs:List Nat):Prop where
 o:∀r∈rs,OwnR h lo r.1 r.2.1 r.2.2
 nd:(idsR rs++xs).Nodup
 x:∀k∈xs,lo<=k/\k<h.next
theorem OwnG.ext {rs:List RowE} {xs:List Nat} (g:OwnG h lo rs xs) (X:Ext h h'):OwnG h' lo rs xs:=⟨λr hr=>(g.o r hr).ext X,g.nd,λk hk=>⟨(g.x k hk).1,Nat.lt_of_lt_of_le (g.x k hk).2 X.next⟩⟩
theorem OwnG.lt {rs:List RowE} {xs:List Nat} (g:OwnG h lo rs xs):∀k∈idsR rs++xs,lo<=k/\k<h.next:=by
 intro k hk;rcases List.mem_append.1 hk with hk|hk
 ·obtain⟨r,hr,hi⟩:=List.mem_flatMap.1 hk
  exact OwnR.ids (g.o r hr) k hi
 ·exact g.x k hk
theorem OwnG.turn {A B:List RowE} {z:Nat} {v m:CV} {l l':List (List CV)} {xs:List Nat} (g:OwnG h lo (A++(z,v,l)::B) xs) (hn:h.next<=h'.next) (hk:∀k,k<h.next->k<lo\/idOf v≠[k]->h'.get k=h.get k) (om:OwnR h' lo z m l') (hi:idOf m=idOf v\/∃j,idOf m=[j]/\h.next<=j):OwnG h' lo (A++(z,m,l')::B) xs/\∀k∈xs,h'.get k=h.get k:=by
 have e:∀(m:CV) (l:List (List CV)),idsR (A++(z,m,l)::B)++xs=idsR A++(idOf m++(idsR B++xs)):=λm l=>by
  unfold idsR;rw[List.flatMap_append,List.flatMap_cons,List.append_assoc,List.append_assoc]
 have nd:=g.nd;rw[e]at nd;have h1:=List.nodup_append.1 nd;have h2:=List.nodup_append.1 h1.2.1
 have lt:∀k,k∈idsR A\/k∈idsR B++xs->k<h.next:=λk hk=>(g.lt k (by
  rw[e];rcases hk with hk|hk
  ·exact List.mem_append_left _ hk
  ·exact List.mem_append_right _ (List.mem_append_right _ hk))).2
 have ne:∀k,k∈idsR A\/k∈idsR B++xs->idOf v≠[k]:=λk hk e5=>by
  rcases hk with hk|hk
  ·exact h1.2.2 k hk k (by rw[e5];simp) rfl
  ·exact h2.2.2 k (by rw[e5];simp) k hk rfl
 have kp:∀k,k∈idsR A\/k∈idsR B++xs->h'.get k=h.get k:=λk hk2=>hk k (lt k hk2) (.inr (ne k hk2));refine⟨⟨λr hr=> ?_,?_,λk hk=>⟨(g.x k hk).1,Nat.lt_of_lt_of_le (g.x k hk).2 hn⟩⟩,λk hk=>kp k (.inr (List.mem_append_right _ hk))⟩
 ·rcases List.mem_append.1 hr with hr|hr
  ·exact(g.o r (List.mem_append_left _ hr)).other hn λk _ _ hi=>kp k (.inl (List.mem_flatMap.2 ⟨r,hr,by rw[hi];simp⟩))
  ·rcases List.mem_cons.1 hr with rfl|hr
   ·exact om
   ·exact(g.o r (List.mem_append_right _ (List.mem_cons_of_mem _ hr))).other hn λk _ _ hi=>kp k (.inr (List.mem_append_left _ (List.mem_flatMap.2 ⟨r,hr,by rw[hi];simp⟩)))
 ·rw[e]
  rcases hi with hi|⟨jj,hi,hjj⟩
  ·rw[hi];exact nd
  ·rw[hi]
   refine List.nodup_append.2 ⟨h1.1,List.nodup_append.2 ⟨by simp,h2.2.1,λa ha b hb e=> ?_⟩,λa ha b hb e=> ?_⟩
   ·rw[List.mem_singleton]at ha
    have:=lt b (.inr hb);omega
   ·rcases List.mem_append.1 hb with hb|hb
    ·rw[List.mem_singleton]at hb
     have:=lt a (.inl ha);omega
    ·exact h1.2.2 a ha b (List.mem_append_right _ hb) e
theorem OwnG.more {rs:List RowE} {xs:List Nat} {z n:Nat} {v:CV} {l:List (List CV)} (g:OwnG h lo rs xs) (ov:OwnR h lo z v l) (hx:∀k∈idsR rs++xs,k<n) (hv:∀k∈idOf v,n<=k):OwnG h lo (rs++[(z,v,l)]) xs:=by
 refine⟨λr hr=> ?_,?_,g.x⟩
 ·rcases List.mem_append.1 hr with hr|hr
  ·exact g.o r hr
  ·rw[List.mem_singleton.1 hr];exact ov
 ·have h1:=List.nodup_append.1 g.nd
  unfold idsR;rw[List.flatMap_append,List.flatMap_cons,List.flatMap_nil,List.append_nil,List.append_assoc];refine List.nodup_append.2 ⟨h1.1,List.nodup_append.2 ⟨OwnR.idNodup _,h1.2.1,λa ha b hb e=> ?_⟩,λa ha b hb e=> ?_⟩
  ·have:=hv a ha
   have:=hx b (List.mem_append_right _ hb);omega
  ·rcases List.mem_append.1 hb with hb|hb
   ·have:=hv b hb
    have:=hx a (List.mem_append_left _ ha);omega
   ·exact h1.2.2 a ha b hb e
theorem OwnG.nil:OwnG h lo [] []:=⟨(λ_ h=>(by cases h)),(by simp[idsR]),(λ_ h=>(by cases h))⟩
theorem OwnG.low {lo':Nat} {rs:List RowE} {xs:List Nat} (g:OwnG h lo rs xs) (hl:lo'<=lo):OwnG h lo' rs xs:=⟨λr hr=>(g.o r hr).low hl,g.nd,λk hk=>⟨Nat.le_trans hl (g.x k hk).1,(g.x k hk).2⟩⟩
theorem OwnG.keep {rs:List RowE} {xs:List Nat} (g:OwnG h lo rs xs) (hn:h.next<=h'.next) (hk:∀k∈idsR rs++xs,h'.get k=h.get k):OwnG h' lo rs xs:=
 ⟨λr hr=>(g.o r hr).other hn λk _ _ hi=>hk k (List.mem_append_left _ (List.mem_flatMap.2 ⟨r,hr,by rw[hi];simp⟩)),g.nd,λk hk2=>⟨(g.x k hk2).1,Nat.lt_of_lt_of_le (g.x k hk2).2 hn⟩⟩
def OwnGB (h:Heap) (lo n:Nat) (rs:List RowE):Prop:=OwnG h lo rs []/\∀k∈idsR rs,k<n
theorem OwnGB.nil:OwnGB h lo lo []:=⟨OwnG.nil,λk hk=>by simp[idsR]at hk⟩
theorem OwnGB.more {rs:List RowE} {z n n1 n2:Nat} {v:CV} {l:List (List CV)} (g:OwnGB h lo n rs) (ov:OwnR h lo z v l) (hv:∀k∈idOf v,n1<=k/\k<n2) (h1:n<=n1) (h2:n1<=n2):OwnGB h lo n2 (rs++[(z,v,l)]):=by
 refine⟨g.1.more (n:=n1) ov (λk hk=> ?_) (λk hk=>(hv k hk).1),λk hk=> ?_⟩
 ·rw[List.append_nil]at hk
  exact Nat.lt_of_lt_of_le (g.2 k hk) h1
 ·unfold idsR at hk
  rw[List.flatMap_append,List.mem_append]at hk;rcases hk with hk|hk
  ·have:=g.2 k hk;omega
  ·rw[List.flatMap_cons,List.flatMap_nil,List.append_nil]at hk
   exact(hv k hk).2
end
end Go.CM.Tt

noncomputable section
namespace Go.CM.Tt
def OwnRW (h:Heap) (lo:Nat) (e:List CV) (d:RouteW):Prop:=∃u1 u2 u3,e=[u1,u2,u3]/\OwnR h lo 1 u1 (d.stops.map Flat.enc)/\OwnR h lo 1 u2 (d.rides.map Flat.enc)/\OwnR h lo 1 u3 (d.stays.map Flat.enc)
section
variable {h h':Heap} {lo lo':Nat} {e:List CV} {d:RouteW}
theorem OwnRW.ext (o:OwnRW h lo e d) (x:Ext h h'):OwnRW h' lo e d:=by
 obtain⟨u1,u2,u3,rfl,o1,o2,o3⟩:=o;exact⟨u1,u2,u3,rfl,o1.ext x,o2.ext x,o3.ext x⟩
theorem OwnRW.low (o:OwnRW h lo e d) (hl:lo'<=lo):OwnRW h lo' e d:=by
 obtain⟨u1,u2,u3,rfl,o1,o2,o3⟩:=o;exact⟨u1,u2,u3,rfl,o1.low hl,o2.low hl,o3.low hl⟩
theorem OwnRW.other (o:OwnRW h lo e d) (hn:h.next<=h'.next) (hk:∀k,k∈idsOf e->h'.get k=h.get k):OwnRW h' lo e d:=by
 obtain⟨u1,u2,u3,rfl,o1,o2,o3⟩:=o;exact⟨u1,u2,u3,rfl,o1.other hn λk _ _ hi=>hk k (by simp[idsOf,hi]),o2.other hn λk _ _ hi=>hk k (by simp[idsOf,hi]),o3.other hn λk _ _ hi=>hk k (by simp[idsOf,hi])⟩
theorem OwnRW.ids (o:OwnRW h lo e d):∀k∈idsOf e,lo<=k/\k<h.next:=by
 obtain⟨u1,u2,u3,rfl,o1,o2,o3⟩:=o;intro k hk;have hk:k∈idOf u1++(idOf u2++(idOf u3++[])):=hk;simp only[List.mem_append,List.not_mem_nil,or_false]at hk;rcases hk with hk|hk|hk
 ·exact OwnR.ids o1 k hk
 ·exact OwnR.ids o2 k hk
 ·exact OwnR.ids o3 k hk
theorem OwnRW.rp (o:OwnRW h lo e d):Rp.R h e d:=by
 obtain⟨u1,u2,u3,rfl,o1,o2,o3⟩:=o;exact⟨u1,u2,u3,rfl,o1.toSl,o2.toSl,o3.toSl⟩
def OwnRws (h:Heap) (lo:Nat) (v:CV) (css:List (List CV)) (l:List RouteW):Prop:=OwnR h lo 3 v css/\css.length=l.length/\∀(j:Nat) (e:List CV) (d:RouteW),css[j]? =some e->l[j]? =some d->OwnRW h lo e d
theorem OwnRws.ext {v:CV} {css:List (List CV)} {l:List RouteW} (o:OwnRws h lo v css l) (x:Ext h h'):OwnRws h' lo v css l:=
 ⟨o.1.ext x,o.2.1,λj e d he hd=>(o.2.2 j e d he hd).ext x⟩
theorem OwnRws.low {v:CV} {css:List (List CV)} {l:List RouteW} (o:OwnRws h lo v css l) (hl:lo'<=lo):OwnRws h lo' v css l:=
 ⟨o.1.low hl,o.2.1,λj e d he hd=>(o.2.2 j e d he hd).low hl⟩
theorem OwnRws.other {v:CV} {css:List (List CV)} {l:List RouteW} (o:OwnRws h lo v css l) (hn:h.next<=h'.next) (hk:∀k,k∈idOf v++idsIn css->h'.get k=h.get k):OwnRws h' lo v css l:=
 ⟨o.1.other hn λk _ _ hi=>hk k (by simp[hi]),o.2.1,λj e d he hd=>(o.2.2 j e d he hd).other hn λk hi=>hk k (List.mem_append_right _ (List.mem_flatMap.2 ⟨e,List.mem_of_getElem? he,hi⟩))⟩
theorem OwnRws.idsI {v:CV} {css:List (List CV)} {l:List RouteW} (o:OwnRws h lo v css l):∀k∈idsIn css,lo<=k/\k<h.next:=by
 intro k hk;obtain⟨e,he,hi⟩:=List.mem_flatMap.1 hk;obtain⟨j,hj,hej⟩:=List.getElem_of_mem he;have hd:l[j]? =some (l[j]'(by rw[<-o.2.1];exact hj)):=List.getElem?_eq_getElem _;exact(o.2.2 j e _ (by rw[List.getElem?_eq_getElem hj,hej]) hd).ids k hi
theorem OwnRws.toSl {v:CV} {css:List (List CV)} {l:List RouteW} (o:OwnRws h lo v css l):Sl h v l:=
 ⟨css,o.1.sl,o.2.1,λj e d he hd=>(o.2.2 j e d he hd).rp⟩
def WorldD.small (w:WorldD):Prop:=w.names.stops.length<=1048576/\w.names.paths.length<=1048576/\w.names.doors.length<=1048576/\w.names.routes.length<=1048576/\w.names.trips.length<=1048576/\w.names.hazards.length<=1048576/\w.paths.length<=1048576/\w.doors.length<=1048576/\w.routes.length<=1048576/\w.trips.length<=1048576/\w.hazards.length<=1048576/\∀r∈w.routes,r.stops.length<=1048576/\r.rides.length<=1048576/\r.stays.length<=1048576
def flatW (w:WorldD) (p d t z m1 m2 m3 m4 m5 m6:CV):List RowE:=[(3,p,w.paths.map Flat.enc),(6,d,w.doors.map Flat.enc),(4,t,w.trips.map Flat.enc),(5,z,w.hazards.map Flat.enc),(1,m1,w.names.stops.map Flat.enc),(1,m2,w.names.paths.map Flat.enc),(1,m3,w.names.doors.map Flat.enc),(1,m4,w.names.routes.map Flat.enc),(1,m5,w.names.trips.map Flat.enc),(1,m6,w.names.hazards.map Flat.enc)]
structure OwnWd (h:Heap) (lo:Nat) (hz m1 m2 m3 m4 m5 m6 p d vr t z:CV) (w:WorldD):Prop where
 hz:hz= .int .i64 w.hz
 r:∃css,OwnRws h lo vr css w.routes/\OwnG h lo (flatW w p d t z m1 m2 m3 m4 m5 m6++[(3,vr,css)]) (idsIn css)
theorem OwnWd.rp {hz m1 m2 m3 m4 m5 m6 p d vr t z:CV} {w:WorldD} (o:OwnWd h lo hz m1 m2 m3 m4 m5 m6 p d vr t z w):Rp.R h [hz,m1,m2,m3,m4,m5,m6,p,d,vr,t,z] w:=by
 obtain⟨css,r1,r2⟩:=o.r;have g:∀(j:Nat) {a:Nat} {v:CV} {l:List (List CV)},(flatW w p d t z m1 m2 m3 m4 m5 m6)[j]? =some (a,v,l)->OwnR h lo a v l:=λj {_ _ _} hm=>r2.o _ (List.mem_append_left _ (List.mem_of_getElem? hm));refine⟨m1,m2,m3,m4,m5,m6,p,d,vr,t,z,by rw[o.hz],?_,?_,?_,?_,?_,?_,?_,?_,r1.toSl,?_,?_⟩
 ·exact OwnR.toSl (α:=Str) (lo:=lo) (g 4 rfl)
 ·exact OwnR.toSl (α:=Str) (lo:=lo) (g 5 rfl)
 ·exact OwnR.toSl (α:=Str) (lo:=lo) (g 6 rfl)
 ·exact OwnR.toSl (α:=Str) (lo:=lo) (g 7 rfl)
 ·exact OwnR.toSl (α:=Str) (lo:=lo) (g 8 rfl)
 ·exact OwnR.toSl (α:=Str) (lo:=lo) (g 9 rfl)
 ·exact OwnR.toSl (α:=PathW) (lo:=lo) (g 0 rfl)
 ·exact OwnR.toSl (α:=DoorW) (lo:=lo) (g 1 rfl)
 ·exact OwnR.toSl (α:=TripW) (lo:=lo) (g 2 rfl)
 ·exact OwnR.toSl (α:=HazW) (lo:=lo) (g 3 rfl)
end
end Go.CM.Tt

noncomputable section
namespace Go.CM.Tt
section
variable {h h':Heap} {lo b:Nat} {w:WorldD} {x:SheetD}
theorem OwnG.put {rs:List RowE} {xs:List Nat} (g:OwnG h lo rs (b::xs)) (hn:h'.next=h.next) (hk:∀k,k≠b->h'.get k=h.get k):OwnG h' lo rs (b::xs)/\∀k∈xs,h'.get k=h.get k:=by
 have nd:=List.nodup_append.1 g.nd;have n1:∀k∈idsR rs,k≠b:=λk hk=>nd.2.2 k hk b (by simp);have n2:∀k∈xs,k≠b:=λk hk e=>(List.nodup_cons.1 nd.2.1).1 (e▸hk);exact⟨⟨λr hr=>(g.o r hr).other (by omega) λk _ _ hi=>hk k (n1 k (List.mem_flatMap.2 ⟨r,hr,by rw[hi];simp⟩)),g.nd,λk hk=>by rw[hn];exact g.x k hk⟩,λk hk'=>hk k (n2 k hk')⟩
theorem OwnG.box {rs:List RowE} {xs:List Nat} (g:OwnG h lo rs xs) (X:Ext h h') (hlo:lo<=h.next) (hb:h.next<=b) (hl:b<h'.next):OwnG h' lo rs (b::xs):=by
 have nd:=List.nodup_append.1 g.nd;have hx:=X.next;have ne:∀k∈idsR rs++xs,k≠b:=λk hk=>by have:=(g.lt k hk).2;omega
 refine⟨λr hr=>(g.o r hr).ext X,List.nodup_append.2 ⟨nd.1,List.nodup_cons.2 ⟨λhm=>ne b (List.mem_append_right _ hm) rfl,nd.2.1⟩,λa ha c hc e=> ?_⟩,λk hk=> ?_⟩
 ·rcases List.mem_cons.1 hc with rfl|hc
  ·exact ne a (List.mem_append_left _ ha) e
  ·exact nd.2.2 a ha c hc e
 ·rcases List.mem_cons.1 hk with rfl|hk
  ·exact⟨by omega,hl⟩
  ·have:=g.x k hk;exact⟨this.1,by omega⟩
def flatS (x:SheetD) (n1 n2 n3 n5 n6:CV):List RowE:=[(1,n1,x.stops.map Flat.enc),(4,n2,x.paths.map Flat.enc),(7,n3,x.doors.map Flat.enc),(5,n5,x.trips.map Flat.enc),(5,n6,x.hazards.map Flat.enc)]
structure OwnSB (h:Heap) (lo b:Nat) (hz n1 n2 n3 vr n5 n6:CV) (x:SheetD):Prop where
 hz:hz= .int .i64 x.hz
 r:∃css,OwnRs h lo vr css x.routes/\OwnG h lo (flatS x n1 n2 n3 n5 n6++[(4,vr,css)]) (b::idsIn css)
variable {hz n1 n2 n3 vr n5 n6:CV}
theorem OwnSB.ext (o:OwnSB h lo b hz n1 n2 n3 vr n5 n6 x) (X:Ext h h'):OwnSB h' lo b hz n1 n2 n3 vr n5 n6 x:=by
 obtain⟨css,r1,r2⟩:=o.r;exact⟨o.hz,css,r1.ext X,r2.ext X⟩
theorem OwnSB.rp (o:OwnSB h lo b hz n1 n2 n3 vr n5 n6 x):Rp.R h [hz,n1,n2,n3,vr,n5,n6] x:=by
 obtain⟨css,r1,r2⟩:=o.r;have g:∀(j:Nat) {a:Nat} {v:CV} {l:List (List CV)},(flatS x n1 n2 n3 n5 n6)[j]? =some (a,v,l)->OwnR h lo a v l:=λj {_ _ _} hm=>r2.o _ (List.mem_append_left _ (List.mem_of_getElem? hm));refine⟨n1,n2,n3,vr,n5,n6,by rw[o.hz],?_,?_,?_,r1.toSl,?_,?_⟩
 ·exact OwnR.toSl (α:=Str) (lo:=lo) (g 0 rfl)
 ·exact OwnR.toSl (α:=PathS) (lo:=lo) (g 1 rfl)
 ·exact OwnR.toSl (α:=DoorS) (lo:=lo) (g 2 rfl)
 ·exact OwnR.toSl (α:=TripS) (lo:=lo) (g 3 rfl)
 ·exact OwnR.toSl (α:=HazS) (lo:=lo) (g 4 rfl)
theorem OwnRs.stay {rs:List RowE} {css:List (List CV)} {l:List RouteS} {xs:List Nat} (r:OwnRs h lo vr css l) (g:OwnG h' lo rs xs) (hm:(4,vr,css)∈rs) (hn:h.next<=h'.next) (hx:∀k∈idsIn css,h'.get k=h.get k):OwnRs h' lo vr css l:=
 ⟨g.o _ hm,r.2.1,λj e d he hd=>(r.2.2 j e d he hd).other hn λk hk=>hx k (List.mem_flatMap.2 ⟨e,List.mem_of_getElem? he,hk⟩)⟩
theorem OwnRws.stay2 {rs:List RowE} {css:List (List CV)} {l:List RouteW} {xs:List Nat} (r:OwnRws h lo vr css l) (g:OwnG h' lo rs xs) (hm:(3,vr,css)∈rs) (hn:h.next<=h'.next) (hx:∀k∈idsIn css,h'.get k=h.get k):OwnRws h' lo vr css l:=
 ⟨g.o _ hm,r.2.1,λj e d he hd=>(r.2.2 j e d he hd).other hn λk hk=>hx k (List.mem_flatMap.2 ⟨e,List.mem_of_getElem? he,hk⟩)⟩
theorem OwnSB.put (o:OwnSB h lo b hz n1 n2 n3 vr n5 n6 x) (hn:h'.next=h.next) (hk:∀k,k≠b->h'.get k=h.get k):OwnSB h' lo b hz n1 n2 n3 vr n5 n6 x:=by
 obtain⟨css,r1,r2⟩:=o.r;obtain⟨g,hx⟩:=r2.put hn hk;exact⟨o.hz,css,r1.stay g (by simp) (by omega) hx,g⟩
theorem OwnSB.paths (o:OwnSB h lo b hz n1 n2 n3 vr n5 n6 x) {l:List PathS} {u:CV} (hn:h.next<=h'.next) (hk:∀k,k<h.next->k<lo\/idOf n2≠[k]->h'.get k=h.get k) (om:OwnR h' lo 4 u (l.map Flat.enc)) (hi:idOf u=idOf n2\/∃j,idOf u=[j]/\h.next<=j):OwnSB h' lo b hz n1 u n3 vr n5 n6 {x with paths:=l}:=by
 obtain⟨css,r1,r2⟩:=o.r;obtain⟨g,hx⟩:=OwnG.turn (A:=[(1,n1,x.stops.map Flat.enc)]) (B:=[(7,n3,x.doors.map Flat.enc),(5,n5,x.trips.map Flat.enc),(5,n6,x.hazards.map Flat.enc),(4,vr,css)]) r2 hn hk om hi;exact⟨o.hz,css,r1.stay g (by simp) hn λk hm=>hx k (List.mem_cons_of_mem _ hm),g⟩
theorem OwnSB.own_paths (o:OwnSB h lo b hz n1 n2 n3 vr n5 n6 x):OwnR h lo 4 n2 (x.paths.map Flat.enc)/\idOf n2≠[b]:=by
 obtain⟨css,r1,r2⟩:=o.r;have hm:((4,n2,x.paths.map Flat.enc):RowE)∈flatS x n1 n2 n3 n5 n6++[(4,vr,css)]:=by simp[flatS]
 exact⟨r2.o _ hm,λe=>(List.nodup_append.1 r2.nd).2.2 b (List.mem_flatMap.2 ⟨_,hm,by rw[e];simp⟩) b (by simp) rfl⟩
theorem OwnSB.doors (o:OwnSB h lo b hz n1 n2 n3 vr n5 n6 x) {l:List DoorS} {u:CV} (hn:h.next<=h'.next) (hk:∀k,k<h.next->k<lo\/idOf n3≠[k]->h'.get k=h.get k) (om:OwnR h' lo 7 u (l.map Flat.enc)) (hi:idOf u=idOf n3\/∃j,idOf u=[j]/\h.next<=j):OwnSB h' lo b hz n1 n2 u vr n5 n6 {x with doors:=l}:=by
 obtain⟨css,r1,r2⟩:=o.r;obtain⟨g,hx⟩:=OwnG.turn (A:=[(1,n1,x.stops.map Flat.enc),(4,n2,x.paths.map Flat.enc)]) (B:=[(5,n5,x.trips.map Flat.enc),(5,n6,x.hazards.map Flat.enc),(4,vr,css)]) r2 hn hk om hi;exact⟨o.hz,css,r1.stay g (by simp) hn λk hm=>hx k (List.mem_cons_of_mem _ hm),g⟩
theorem OwnSB.own_doors (o:OwnSB h lo b hz n1 n2 n3 vr n5 n6 x):OwnR h lo 7 n3 (x.doors.map Flat.enc)/\idOf n3≠[b]:=by
 obtain⟨css,r1,r2⟩:=o.r;have hm:((7,n3,x.doors.map Flat.enc):RowE)∈flatS x n1 n2 n3 n5 n6++[(4,vr,css)]:=by simp[flatS]
 exact⟨r2.o _ hm,λe=>(List.nodup_append.1 r2.nd).2.2 b (List.mem_flatMap.2 ⟨_,hm,by rw[e];simp⟩) b (by simp) rfl⟩
theorem OwnSB.trips (o:OwnSB h lo b hz n1 n2 n3 vr n5 n6 x) {l:List TripS} {u:CV} (hn:h.next<=h'.next) (hk:∀k,k<h.next->k<lo\/idOf n5≠[k]->h'.get k=h.get k) (om:OwnR h' lo 5 u (l.map Flat.enc)) (hi:idOf u=idOf n5\/∃j,idOf u=[j]/\h.next<=j):OwnSB h' lo b hz n1 n2 n3 vr u n6 {x with trips:=l}:=by
 obtain⟨css,r1,r2⟩:=o.r;obtain⟨g,hx⟩:=OwnG.turn (A:=[(1,n1,x.stops.map Flat.enc),(4,n2,x.paths.map Flat.enc),(7,n3,x.doors.map Flat.enc)]) (B:=[(5,n6,x.hazards.map Flat.enc),(4,vr,css)]) r2 hn hk om hi;exact⟨o.hz,css,r1.stay g (by simp) hn λk hm=>hx k (List.mem_cons_of_mem _ hm),g⟩
theorem OwnSB.own_trips (o:OwnSB h lo b hz n1 n2 n3 vr n5 n6 x):OwnR h lo 5 n5 (x.trips.map Flat.enc)/\idOf n5≠[b]:=by
 obtain⟨css,r1,r2⟩:=o.r;have hm:((5,n5,x.trips.map Flat.enc):RowE)∈flatS x n1 n2 n3 n5 n6++[(4,vr,css)]:=by simp[flatS]
 exact⟨r2.o _ hm,λe=>(List.nodup_append.1 r2.nd).2.2 b (List.mem_flatMap.2 ⟨_,hm,by rw[e];simp⟩) b (by simp) rfl⟩
theorem OwnSB.hazards (o:OwnSB h lo b hz n1 n2 n3 vr n5 n6 x) {l:List HazS} {u:CV} (hn:h.next<=h'.next) (hk:∀k,k<h.next->k<lo\/idOf n6≠[k]->h'.get k=h.get k) (om:OwnR h' lo 5 u (l.map Flat.enc)) (hi:idOf u=idOf n6\/∃j,idOf u=[j]/\h.next<=j):OwnSB h' lo b hz n1 n2 n3 vr n5 u {x with hazards:=l}:=by
 obtain⟨css,r1,r2⟩:=o.r;obtain⟨g,hx⟩:=OwnG.turn (A:=[(1,n1,x.stops.map Flat.enc),(4,n2,x.paths.map Flat.enc),(7,n3,x.doors.map Flat.enc),(5,n5,x.trips.map Flat.enc)]) (B:=[(4,vr,css)]) r2 hn hk om hi;exact⟨o.hz,css,r1.stay g (by simp) hn λk hm=>hx k (List.mem_cons_of_mem _ hm),g⟩
theorem OwnSB.own_hazards (o:OwnSB h lo b hz n1 n2 n3 vr n5 n6 x):OwnR h lo 5 n6 (x.hazards.map Flat.enc)/\idOf n6≠[b]:=by
 obtain⟨css,r1,r2⟩:=o.r;have hm:((5,n6,x.hazards.map Flat.enc):RowE)∈flatS x n1 n2 n3 n5 n6++[(4,vr,css)]:=by simp[flatS]
 exact⟨r2.o _ hm,λe=>(List.nodup_append.1 r2.nd).2.2 b (List.mem_flatMap.2 ⟨_,hm,by rw[e];simp⟩) b (by simp) rfl⟩
theorem OwnSB.lt (o:OwnSB h lo b hz n1 n2 n3 vr n5 n6 x):b<h.next:=by
 obtain⟨css,r1,r2⟩:=o.r;exact(r2.x b (by simp)).2
variable {m1 m2 m3 m4 m5 m6 p d t z:CV}
structure OwnWB (h:Heap) (lo b:Nat) (hz m1 m2 m3 m4 m5 m6 p d vr t z:CV) (w:WorldD):Prop where
 hz:hz= .int .i64 w.hz
 r:∃css,OwnRws h lo vr css w.routes/\OwnG h lo (flatW w p d t z m1 m2 m3 m4 m5 m6++[(3,vr,css)]) (b::idsIn css)
theorem OwnWd.box (o:OwnWd h lo hz m1 m2 m3 m4 m5 m6 p d vr t z w) (X:Ext h h') (hlo:lo<=h.next) (hb:h.next<=b) (hl:b<h'.next):OwnWB h' lo b hz m1 m2 m3 m4 m5 m6 p d vr t z w:=by
 obtain⟨css,r1,r2⟩:=o.r;exact⟨o.hz,css,r1.ext X,r2.box X hlo hb hl⟩
theorem OwnWB.ext (o:OwnWB h lo b hz m1 m2 m3 m4 m5 m6 p d vr t z w) (X:Ext h h'):OwnWB h' lo b hz m1 m2 m3 m4 m5 m6 p d vr t z w:=by
 obtain⟨css,r1,r2⟩:=o.r;exact⟨o.hz,css,r1.ext X,r2.ext X⟩
theorem OwnWB.keep (o:OwnWB h lo b hz m1 m2 m3 m4 m5 m6 p d vr t z w) (hn:h.next<=h'.next) (hk:∀k,lo<=k->k<h.next->h'.get k=h.get k):OwnWB h' lo b hz m1 m2 m3 m4 m5 m6 p d vr t z w:=by
 obtain⟨css,r1,r2⟩:=o.r;have hl:=λk hm=>hk k (r2.lt k hm).1 (r2.lt k hm).2;have g:=r2.keep hn hl;exact⟨o.hz,css,r1.stay2 g (by simp) hn λk hm=>hl k (List.mem_append_right _ (List.mem_cons_of_mem _ hm)),g⟩
theorem OwnWB.put (o:OwnWB h lo b hz m1 m2 m3 m4 m5 m6 p d vr t z w) (hn:h'.next=h.next) (hk:∀k,k≠b->h'.get k=h.get k):OwnWB h' lo b hz m1 m2 m3 m4 m5 m6 p d vr t z w:=by
 obtain⟨css,r1,r2⟩:=o.r;obtain⟨g,hx⟩:=r2.put hn hk;exact⟨o.hz,css,r1.stay2 g (by simp) (by omega) hx,g⟩
theorem OwnWB.lt (o:OwnWB h lo b hz m1 m2 m3 m4 m5 m6 p d vr t z w):lo<=b/\b<h.next:=by
 obtain⟨css,r1,r2⟩:=o.r;exact r2.x b (by simp)
theorem OwnWB.rp (o:OwnWB h lo b hz m1 m2 m3 m4 m5 m6 p d vr t z w):Rp.R h [hz,m1,m2,m3,m4,m5,m6,p,d,vr,t,z] w:=by
 obtain⟨css,r1,r2⟩:=o.r;exact OwnWd.rp (lo:=lo) ⟨o.hz,css,r1,r2.o,(List.nodup_append.1 r2.nd).1 |> λh1=>List.nodup_append.2 ⟨h1,(List.nodup_cons.1 (List.nodup_append.1 r2.nd).2.1).2,λa ha c hc=>(List.nodup_append.1 r2.nd).2.2 a ha c (List.mem_cons_of_mem _ hc)⟩,λk hk=>r2.x k (List.mem_cons_of_mem _ hk)⟩
theorem OwnWB.paths (o:OwnWB h lo b hz m1 m2 m3 m4 m5 m6 p d vr t z w) {l:List PathW} {u:CV} (hn:h.next<=h'.next) (hk:∀k,k<h.next->k<lo\/idOf p≠[k]->h'.get k=h.get k) (om:OwnR h' lo 3 u (l.map Flat.enc)) (hi:idOf u=idOf p\/∃j,idOf u=[j]/\h.next<=j):OwnWB h' lo b hz m1 m2 m3 m4 m5 m6 u d vr t z {w with paths:=l}:=by
 obtain⟨css,r1,r2⟩:=o.r;obtain⟨g,hx⟩:=OwnG.turn (A:=[]) (B:=[(6,d,w.doors.map Flat.enc),(4,t,w.trips.map Flat.enc),(5,z,w.hazards.map Flat.enc),(1,m1,w.names.stops.map Flat.enc),(1,m2,w.names.paths.map Flat.enc),(1,m3,w.names.doors.map Flat.enc),(1,m4,w.names.routes.map Flat.enc),(1,m5,w.names.trips.map Flat.enc),(1,m6,w.names.hazards.map Flat.enc),(3,vr,css)]) r2 hn hk om hi;exact⟨o.hz,css,r1.stay2 g (by simp) hn λk hm=>hx k (List.mem_cons_of_mem _ hm),g⟩
theorem OwnWB.own_paths (o:OwnWB h lo b hz m1 m2 m3 m4 m5 m6 p d vr t z w):OwnR h lo 3 p (w.paths.map Flat.enc)/\idOf p≠[b]:=by
 obtain⟨css,r1,r2⟩:=o.r;have hm:((3,p,w.paths.map Flat.enc):RowE)∈flatW w p d t z m1 m2 m3 m4 m5 m6++[(3,vr,css)]:=by simp[flatW]
 exact⟨r2.o _ hm,λe=>(List.nodup_append.1 r2.nd).2.2 b (List.mem_flatMap.2 ⟨_,hm,by rw[e];simp⟩) b (by simp) rfl⟩
theorem OwnWB.doors (o:OwnWB h lo b hz m1 m2 m3 m4 m5 m6 p d vr t z w) {l:List DoorW} {u:CV} (hn:h.next<=h'.next) (hk:∀k,k<h.next->k<lo\/idOf d≠[k]->h'.get k=h.get k) (om:OwnR h' lo 6 u (l.map Flat.enc)) (hi:idOf u=idOf d\/∃j,idOf u=[j]/\h.next<=j):OwnWB h' lo b hz m1 m2 m3 m4 m5 m6 p u vr t z {w with doors:=l}:=by
 obtain⟨css,r1,r2⟩:=o.r;obtain⟨g,hx⟩:=OwnG.turn (A:=[(3,p,w.paths.map Flat.enc)]) (B:=[(4,t,w.trips.map Flat.enc),(5,z,w.hazards.map Flat.enc),(1,m1,w.names.stops.map Flat.enc),(1,m2,w.names.paths.map Flat.enc),(1,m3,w.names.doors.map Flat.enc),(1,m4,w.names.routes.map Flat.enc),(1,m5,w.names.trips.map Flat.enc),(1,m6,w.names.hazards.map Flat.enc),(3,vr,css)]) r2 hn hk om hi;exact⟨o.hz,css,r1.stay2 g (by simp) hn λk hm=>hx k (List.mem_cons_of_mem _ hm),g⟩
theorem OwnWB.own_doors (o:OwnWB h lo b hz m1 m2 m3 m4 m5 m6 p d vr t z w):OwnR h lo 6 d (w.doors.map Flat.enc)/\idOf d≠[b]:=by
 obtain⟨css,r1,r2⟩:=o.r;have hm:((6,d,w.doors.map Flat.enc):RowE)∈flatW w p d t z m1 m2 m3 m4 m5 m6++[(3,vr,css)]:=by simp[flatW]
 exact⟨r2.o _ hm,λe=>(List.nodup_append.1 r2.nd).2.2 b (List.mem_flatMap.2 ⟨_,hm,by rw[e];simp⟩) b (by simp) rfl⟩
theorem OwnWB.trips (o:OwnWB h lo b hz m1 m2 m3 m4 m5 m6 p d vr t z w) {l:List TripW} {u:CV} (hn:h.next<=h'.next) (hk:∀k,k<h.next->k<lo\/idOf t≠[k]->h'.get k=h.get k) (om:OwnR h' lo 4 u (l.map Flat.enc)) (hi:idOf u=idOf t\/∃j,idOf u=[j]/\h.next<=j):OwnWB h' lo b hz m1 m2 m3 m4 m5 m6 p d vr u z {w with trips:=l}:=by
 obtain⟨css,r1,r2⟩:=o.r;obtain⟨g,hx⟩:=OwnG.turn (A:=[(3,p,w.paths.map Flat.enc),(6,d,w.doors.map Flat.enc)]) (B:=[(5,z,w.hazards.map Flat.enc),(1,m1,w.names.stops.map Flat.enc),(1,m2,w.names.paths.map Flat.enc),(1,m3,w.names.doors.map Flat.enc),(1,m4,w.names.routes.map Flat.enc),(1,m5,w.names.trips.map Flat.enc),(1,m6,w.names.hazards.map Flat.enc),(3,vr,css)]) r2 hn hk om hi;exact⟨o.hz,css,r1.stay2 g (by simp) hn λk hm=>hx k (List.mem_cons_of_mem _ hm),g⟩
theorem OwnWB.own_trips (o:OwnWB h lo b hz m1 m2 m3 m4 m5 m6 p d vr t z w):OwnR h lo 4 t (w.trips.map Flat.enc)/\idOf t≠[b]:=by
 obtain⟨css,r1,r2⟩:=o.r;have hm:((4,t,w.trips.map Flat.enc):RowE)∈flatW w p d t z m1 m2 m3 m4 m5 m6++[(3,vr,css)]:=by simp[flatW]
 exact⟨r2.o _ hm,λe=>(List.nodup_append.1 r2.nd).2.2 b (List.mem_flatMap.2 ⟨_,hm,by rw[e];simp⟩) b (by simp) rfl⟩
theorem OwnWB.hazards (o:OwnWB h lo b hz m1 m2 m3 m4 m5 m6 p d vr t z w) {l:List HazW} {u:CV} (hn:h.next<=h'.next) (hk:∀k,k<h.next->k<lo\/idOf z≠[k]->h'.get k=h.get k) (om:OwnR h' lo 5 u (l.map Flat.enc)) (hi:idOf u=idOf z\/∃j,idOf u=[j]/\h.next<=j):OwnWB h' lo b hz m1 m2 m3 m4 m5 m6 p d vr t u {w with hazards:=l}:=by
 obtain⟨css,r1,r2⟩:=o.r;obtain⟨g,hx⟩:=OwnG.turn (A:=[(3,p,w.paths.map Flat.enc),(6,d,w.doors.map Flat.enc),(4,t,w.trips.map Flat.enc)]) (B:=[(1,m1,w.names.stops.map Flat.enc),(1,m2,w.names.paths.map Flat.enc),(1,m3,w.names.doors.map Flat.enc),(1,m4,w.names.routes.map Flat.enc),(1,m5,w.names.trips.map Flat.enc),(1,m6,w.names.hazards.map Flat.enc),(3,vr,css)]) r2 hn hk om hi;exact⟨o.hz,css,r1.stay2 g (by simp) hn λk hm=>hx k (List.mem_cons_of_mem _ hm),g⟩
theorem OwnWB.own_hazards (o:OwnWB h lo b hz m1 m2 m3 m4 m5 m6 p d vr t z w):OwnR h lo 5 z (w.hazards.map Flat.enc)/\idOf z≠[b]:=by
 obtain⟨css,r1,r2⟩:=o.r;have hm:((5,z,w.hazards.map Flat.enc):RowE)∈flatW w p d t z m1 m2 m3 m4 m5 m6++[(3,vr,css)]:=by simp[flatW]
 exact⟨r2.o _ hm,λe=>(List.nodup_append.1 r2.nd).2.2 b (List.mem_flatMap.2 ⟨_,hm,by rw[e];simp⟩) b (by simp) rfl⟩
theorem OwnWB.own_npaths (o:OwnWB h lo b hz m1 m2 m3 m4 m5 m6 p d vr t z w):OwnR h lo 1 m2 (w.names.paths.map Flat.enc)/\idOf m2≠[b]:=by
 obtain⟨css,r1,r2⟩:=o.r;have hm:((1,m2,w.names.paths.map Flat.enc):RowE)∈flatW w p d t z m1 m2 m3 m4 m5 m6++[(3,vr,css)]:=by simp[flatW]
 exact⟨r2.o _ hm,λe=>(List.nodup_append.1 r2.nd).2.2 b (List.mem_flatMap.2 ⟨_,hm,by rw[e];simp⟩) b (by simp) rfl⟩
theorem OwnWB.own_nroutes (o:OwnWB h lo b hz m1 m2 m3 m4 m5 m6 p d vr t z w):OwnR h lo 1 m4 (w.names.routes.map Flat.enc)/\idOf m4≠[b]:=by
 obtain⟨css,r1,r2⟩:=o.r;have hm:((1,m4,w.names.routes.map Flat.enc):RowE)∈flatW w p d t z m1 m2 m3 m4 m5 m6++[(3,vr,css)]:=by simp[flatW]
 exact⟨r2.o _ hm,λe=>(List.nodup_append.1 r2.nd).2.2 b (List.mem_flatMap.2 ⟨_,hm,by rw[e];simp⟩) b (by simp) rfl⟩
theorem OwnWB.ntrips (o:OwnWB h lo b hz m1 m2 m3 m4 m5 m6 p d vr t z w) {l:List Str} {u:CV} (hn:h.next<=h'.next) (hk:∀k,k<h.next->k<lo\/idOf m5≠[k]->h'.get k=h.get k) (om:OwnR h' lo 1 u (l.map Flat.enc)) (hi:idOf u=idOf m5\/∃j,idOf u=[j]/\h.next<=j):OwnWB h' lo b hz m1 m2 m3 m4 u m6 p d vr t z {w with names:={w.names with trips:=l}}:=by
 obtain⟨css,r1,r2⟩:=o.r;obtain⟨g,hx⟩:=OwnG.turn (A:=[(3,p,w.paths.map Flat.enc),(6,d,w.doors.map Flat.enc),(4,t,w.trips.map Flat.enc),(5,z,w.hazards.map Flat.enc),(1,m1,w.names.stops.map Flat.enc),(1,m2,w.names.paths.map Flat.enc),(1,m3,w.names.doors.map Flat.enc),(1,m4,w.names.routes.map Flat.enc)]) (B:=[(1,m6,w.names.hazards.map Flat.enc),(3,vr,css)]) r2 hn hk om hi;exact⟨o.hz,css,r1.stay2 g (by simp) hn λk hm=>hx k (List.mem_cons_of_mem _ hm),g⟩
theorem OwnWB.own_ntrips (o:OwnWB h lo b hz m1 m2 m3 m4 m5 m6 p d vr t z w):OwnR h lo 1 m5 (w.names.trips.map Flat.enc)/\idOf m5≠[b]:=by
 obtain⟨css,r1,r2⟩:=o.r;have hm:((1,m5,w.names.trips.map Flat.enc):RowE)∈flatW w p d t z m1 m2 m3 m4 m5 m6++[(3,vr,css)]:=by simp[flatW]
 exact⟨r2.o _ hm,λe=>(List.nodup_append.1 r2.nd).2.2 b (List.mem_flatMap.2 ⟨_,hm,by rw[e];simp⟩) b (by simp) rfl⟩
end
end Go.CM.Tt

noncomputable section
namespace Go.CM.Tt
section
variable {h h' g:Heap} {lo b:Nat} {x:SheetD} {hz n1 n2 n3 vr n5 n6 u:CV}
theorem OwnSB.start {l:List Str} {a:Int} (o:OwnR h lo 1 n1 (l.map Flat.enc)) (hb:lo<=b) (hl:b<h.next) (ne:idOf n1≠[b]):OwnSB h lo b (.int .i64 a) n1 (.slice none 0 0 0) (.slice none 0 0 0) (.slice none 0 0 0) (.slice none 0 0 0) (.slice none 0 0 0) ⟨a,l,[],[],[],[],[]⟩:=by
 refine⟨rfl,[],⟨OwnR.nil,rfl,λj e d he _=>by simp at he⟩,⟨λr hr=> ?_,?_,λk hk=> ?_⟩⟩
 ·simp only[flatS,List.cons_append,List.nil_append,List.mem_cons,List.not_mem_nil,or_false]at hr
  rcases hr with rfl|rfl|rfl|rfl|rfl|rfl
  ·exact o
  all_goals exact OwnR.nil
 ·have e:idsR (flatS ⟨a,l,[],[],[],[],[]⟩ n1 (.slice none 0 0 0) (.slice none 0 0 0) (.slice none 0 0 0) (.slice none 0 0 0)++[(4,.slice none 0 0 0,[])])++b::idsIn []=idOf n1++[b]:=by
    simp[idsR,flatS,idOf,idsIn]
  rw[e];refine List.nodup_append.2 ⟨OwnR.idNodup _,by simp,λc hc d hd e2=> ?_⟩;rw[List.mem_singleton]at hd;rcases idOf_one n1 with h1|⟨j,h1⟩
  ·rw[h1]at hc;cases hc
  ·rw[h1]at hc
   exact ne (by rw[h1,<-List.mem_singleton.1 hc,e2,hd])
 ·have:k=b:=by simpa[idsIn]using hk
  rw[this];exact⟨hb,hl⟩
theorem OwnSB.keep (o:OwnSB h lo b hz n1 n2 n3 vr n5 n6 x) (hn:h.next<=h'.next) (hk:∀k,lo<=k->k<h.next->h'.get k=h.get k):OwnSB h' lo b hz n1 n2 n3 vr n5 n6 x:=by
 obtain⟨css,r1,r2⟩:=o.r;have hl:=λk hm=>hk k (r2.lt k hm).1 (r2.lt k hm).2;have g:=r2.keep hn hl;exact⟨o.hz,css,r1.stay g (by simp) hn λk hm=>hl k (List.mem_append_right _ (List.mem_cons_of_mem _ hm)),g⟩
theorem OwnSB.route {css:List (List CV)} {e:List CV} {d:RouteS} {lo2:Nat} (e0:hz= .int .i64 x.hz) (r1:OwnRs g lo vr css x.routes) (r2:OwnG g lo (flatS x n1 n2 n3 n5 n6++[(4,vr,css)]) (b::idsIn css))
  (oe:OwnRS g lo2 e d) (hlo:lo<=lo2) (hlt:∀k∈idsR (flatS x n1 n2 n3 n5 n6++[(4,vr,css)])++b::idsIn css,k<lo2) (nd:(idsOf e).Nodup)
  (hn:g.next<=h'.next) (hk:∀k,k<g.next->k<lo\/idOf vr≠[k]->h'.get k=g.get k) (om:OwnR h' lo 4 u (css++[e])) {j:Nat} (hi:idOf u=[j]) (hj:g.next<=j):OwnSB h' lo b hz n1 n2 n3 u n5 n6 {x with routes:=x.routes++[d]}:=by
 have eid:∀(v:CV) (c:List (List CV)),idsR (flatS x n1 n2 n3 n5 n6++[(4,v,c)])=idsR (flatS x n1 n2 n3 n5 n6)++idOf v:=λv c=>by simp[idsR]
 have nd0:=r2.nd;rw[eid,List.append_assoc]at nd0;rw[eid,List.append_assoc]at hlt;have nA:=List.nodup_append.1 nd0;have nV:=List.nodup_append.1 nA.2.1;have oid:=oe.ids
 have nev:∀k,k∈idsR (flatS x n1 n2 n3 n5 n6)\/k∈b::idsIn css->idOf vr≠[k]:=λk hk e1=>by
  rcases hk with hk|hk
  ·exact nA.2.2 k hk k (by rw[e1];simp) rfl
  ·exact nV.2.2 k (by rw[e1];simp) k hk rfl
 have glt:∀k,k∈idsR (flatS x n1 n2 n3 n5 n6)\/k∈b::idsIn css->k<g.next:=λk hk=>by
  have:=r2.lt k (by
   rw[eid,List.append_assoc];rcases hk with hk|hk
   ·exact List.mem_append_left _ hk
   ·exact List.mem_append_right _ (List.mem_append_right _ hk))
  exact this.2
 have kp:∀k,k∈idsR (flatS x n1 n2 n3 n5 n6)\/k∈b::idsIn css->h'.get k=g.get k:=λk hk2=>hk k (glt k hk2) (.inr (nev k hk2))
 have ke:∀k∈idsOf e,h'.get k=g.get k:=λk hk2=>hk k (oid k hk2).2 (.inr λe1=>by
  have h1:=(oid k hk2).1;have h2:=hlt k (List.mem_append_right _ (List.mem_append_left _ (by rw[e1];simp)));omega)
 refine⟨e0,css++[e],⟨om,by rw[List.length_append,List.length_append,r1.2.1];rfl,λi e' d' he hd=> ?_⟩,⟨λr hr=> ?_,?_,λk hk2=> ?_⟩⟩
 ·by_cases c:i<css.length
  ·rw[List.getElem?_append_left c]at he
   rw[List.getElem?_append_left (by rw[<-r1.2.1];exact c)]at hd;exact(r1.2.2 i e' d' he hd).other hn λk hk2=>kp k (.inr (List.mem_cons_of_mem _ (List.mem_flatMap.2 ⟨e',List.mem_of_getElem? he,hk2⟩)))
  ·have hi2:i=css.length:=by
     have:=(List.getElem?_eq_some_iff.1 he).1;rw[List.length_append,List.length_singleton]at this;omega
   subst hi2;rw[List.getElem?_append_right (Nat.le_refl _),Nat.sub_self]at he;have he:e=e':=by simpa using he
   have hd:d=d':=by
    rw[r1.2.1,List.getElem?_append_right (Nat.le_refl _),Nat.sub_self]at hd;simpa using hd
   subst he hd;exact(oe.low hlo).other hn ke
 ·have hr:r∈flatS x n1 n2 n3 n5 n6++[(4,u,css++[e])]:=hr
  rcases List.mem_append.1 hr with hr|hr
  ·exact(r2.o r (List.mem_append_left _ hr)).other hn λk _ _ hid=>kp k (.inl (List.mem_flatMap.2 ⟨r,hr,by rw[hid];simp⟩))
  ·rw[List.mem_singleton.1 hr];exact om
 ·have e9:idsR (flatS {x with routes:=x.routes++[d]} n1 n2 n3 n5 n6++[(4,u,css++[e])])++b::idsIn (css++[e])=idsR (flatS x n1 n2 n3 n5 n6)++(idOf u++(b::idsIn css++idsOf e)):=by
    rw[show flatS {x with routes:=x.routes++[d]} n1 n2 n3 n5 n6=flatS x n1 n2 n3 n5 n6 from rfl,eid]
    simp[idsIn,idsOf]
  rw[e9,hi];have inner:(b::idsIn css++idsOf e).Nodup:=nodup_behind (n:=lo2) nV.2.1 (λa ha=>hlt a (List.mem_append_right _ (List.mem_append_right _ ha))) nd (λa ha=>(oid a ha).1)
  have ilt:∀a∈b::idsIn css++idsOf e,a<g.next:=λa ha=>by
   rcases List.mem_append.1 ha with ha|ha
   ·exact glt a (.inr ha)
   ·exact(oid a ha).2
  refine List.nodup_append.2 ⟨nA.1,List.nodup_append.2 ⟨by simp,inner,λa ha c hc e1=> ?_⟩,λa ha c hc e1=> ?_⟩
  ·rw[List.mem_singleton.1 ha]at e1
   have:=ilt c hc;omega
  ·have h1:=glt a (.inl ha)
   rcases List.mem_append.1 hc with hc|hc
   ·rw[List.mem_singleton.1 hc]at e1;omega
   ·rcases List.mem_append.1 hc with hc|hc
    ·exact nA.2.2 a ha c (List.mem_append_right _ hc) e1
    ·have h2:=(oid c hc).1
     have h3:=hlt a (List.mem_append_left _ ha);omega
 ·rcases List.mem_cons.1 hk2 with rfl|hk2
  ·have:=r2.x k (by simp)
   exact⟨this.1,by omega⟩
  ·unfold idsIn at hk2
   rw[List.flatMap_append,List.mem_append]at hk2;rcases hk2 with hk2|hk2
   ·have:=r2.x k (List.mem_cons_of_mem _ hk2)
    exact⟨this.1,by omega⟩
   ·have:=oid k (by simpa using hk2)
    exact⟨by omega,by omega⟩
end
theorem told_take {α β:Type} {l:List α} {f:Nat->α->β} {k:Nat} (h:k<l.length):(l.mapIdx f).take (k+1)=(l.mapIdx f).take k++[f k l[k]]:=by
 rw[List.take_add_one,List.getElem?_eq_getElem (by rw[List.length_mapIdx];exact h),List.getElem_mapIdx];rfl
theorem told_all {α β:Type} {l:List α} {f:Nat->α->β} {k:Nat} (h:¬k<l.length) (h2:k<=l.length):(l.mapIdx f).take k=l.mapIdx f:=by
 have:k=l.length:=by omega
 rw[this];exact List.take_of_length_le (by rw[List.length_mapIdx];exact Nat.le_refl _)
theorem inL.ex {n:Int} {l:List Str} (h:inL n l):∃j:Nat,n=j/\j<l.length:=⟨n.toNat,by have:=h.1;omega,by have:=h.1;have:=h.2;omega⟩
end Go.CM.Tt

noncomputable section
namespace Go.CM.Tt
open Go.CM
structure RunD where
 trip:Int
 no:Int
 arr:List Int
 dep:List Int
def RunD.Cells (h:Heap) (cs:List CV) (d:RunD):Prop:=∃v1 v2,cs=[.int .i64 d.trip,.int .i64 d.no,v1,v2]/\Sl h v1 d.arr/\Sl h v2 d.dep
instance:Rp RunD:=⟨4,RunD.Cells,λx ⟨v1,v2,e,s1,s2⟩=>⟨v1,v2,e,s1.ext x,s2.ext x⟩,λ⟨v1,v2,e,_,_⟩=>by rw[e];rfl⟩
def RunD.none:RunD:=⟨0,0,[],[]⟩
def RouteW.pre (r:RouteW):Nat->Int
 |0=>0
 |k+1=>r.pre k+r.rides.getD k 0+r.stays.getD k 0
def RouteW.long (r:RouteW):Int:=r.pre r.rides.length
def RouteW.arrs (r:RouteW) (a:Int) (k:Nat):List Int:=a::(List.range k).map λj=>a+r.pre j+r.rides.getD j 0
def RouteW.deps (r:RouteW) (a:Int) (k:Nat):List Int:=a::(List.range k).map λj=>a+r.pre (j+1)
theorem RouteW.arrs_more (r:RouteW) (a:Int) (k:Nat):r.arrs a (k+1)=r.arrs a k++[a+r.pre k+r.rides.getD k 0]:=by
 unfold RouteW.arrs;rw[List.range_succ,List.map_append];rfl
theorem RouteW.deps_more (r:RouteW) (a:Int) (k:Nat):r.deps a (k+1)=r.deps a k++[a+r.pre (k+1)]:=by
 unfold RouteW.deps;rw[List.range_succ,List.map_append];rfl
theorem RouteW.arrs_len (r:RouteW) (a:Int) (k:Nat):(r.arrs a k).length=k+1:=by simp[RouteW.arrs]
theorem RouteW.deps_len (r:RouteW) (a:Int) (k:Nat):(r.deps a k).length=k+1:=by simp[RouteW.deps]
theorem RouteW.arrs_at (r:RouteW) (a:Int) {k j:Nat} (h:j<k):(r.arrs a k)[j+1]? =some (a+r.pre j+r.rides.getD j 0):=by
 simp[RouteW.arrs,h]
theorem RouteW.deps_at (r:RouteW) (a:Int) {k j:Nat} (h:j<=k):(r.deps a k)[j]? =some (a+r.pre j):=by
 cases j with
 |zero=>simp[RouteW.deps,RouteW.pre]
 |succ j=>simp[RouteW.deps,show j<k by omega]
def WorldD.has (w:WorldD) (t:TripW) (r:RouteW) (no:Int):Prop:=0<=no/\no<countT t.frm t.evr t.untl/\t.frm+no*t.evr+r.long<=w.hz
def WorldD.cnt (w:WorldD) (t:TripW) (r:RouteW):Int:=countT t.frm t.evr (if t.untl<=w.hz-r.long then t.untl else w.hz-r.long)
theorem countT_lt {f e u n:Int} (he:0<=e) (hn:0<=n):n<countT f e u↔f+n*e<=u/\(e=0->n=0):=by
 unfold countT;by_cases c1:u<f
 ·rw[if_pos c1]
  have:0<=n*e:=Int.mul_nonneg hn he;exact Iff.intro (λh=>by omega) (λh=>by omega)
 rw[if_neg c1];by_cases c2:e=0
 ·rw[if_pos c2,c2,Int.mul_zero]
  exact Iff.intro (λh=>⟨by omega,λ_=>by omega⟩) (λh=>by have:=h.2 rfl;omega)
 rw[if_neg c2];have k:=Int.le_ediv_iff_mul_le (a:=n) (b:=u-f) (c:=e) (by omega);exact Iff.intro (λh=>⟨by have:=k.1 (by omega);omega,λh=>absurd h c2⟩) (λh=>by have:=k.2 (by omega);omega)
theorem countT_ge {f e u:Int} (he:0<=e):0<=countT f e u:=by
 unfold countT;split
 ·exact Int.le_refl _
 ·split
  ·decide
  ·have:=Int.ediv_nonneg (a:=u-f) (b:=e) (by omega) he
   omega
theorem WorldD.has_iff {w:WorldD} {t:TripW} {r:RouteW} (he:0<=t.evr) {n:Int} (hn:0<=n):w.has t r n↔n<w.cnt t r:=by
 unfold WorldD.has WorldD.cnt;rw[countT_lt he hn,countT_lt he hn];split<;>(constructor<;>intro h<;>(try obtain⟨h1,⟨h2,h3⟩,h4⟩:=h)<;>(try obtain⟨h1,h2⟩:=h)<;>first|(refine⟨hn,⟨?_,by assumption⟩,?_⟩<;>omega)|exact⟨by omega,by assumption⟩)
theorem WorldD.cnt_ge {w:WorldD} {t:TripW} {r:RouteW} (he:0<=t.evr):0<=w.cnt t r:=countT_ge he
theorem WorldD.cnt_of {w:WorldD} {t:TripW} {r:RouteW} (he:0<=t.evr) {k:Nat} (h1:∀j:Nat,j<k->w.has t r j) (h2:¬w.has t r k):(k:Int)=w.cnt t r:=by
 have g:=WorldD.cnt_ge (w:=w) (t:=t) (r:=r) he;rw[WorldD.has_iff he (by omega)]at h2;rcases Nat.eq_zero_or_pos k with rfl|hk
 ·omega
 ·have:=(WorldD.has_iff he (by omega)).1 (h1 (k-1) (by omega))
  omega
structure WorldD.Fine (w:WorldD):Prop where
 hz:TickOk w.hz
 trip:∀t∈w.trips,TickOk t.frm/\TickOk t.evr/\TickOk t.untl/\t.frm<=t.untl/\∃j:Nat,j<w.routes.length/\t.route=(j:Int)
 route:∀r∈w.routes,2<=r.stops.length/\r.stops.length<=32/\r.rides.length+1=r.stops.length/\r.stays.length+2=r.stops.length/\(∀n∈r.rides,1<=n/\n<=1099511627776)/\∀n∈r.stays,TickOk n
theorem WorldD.check_whole {w:WorldD} (c:w.check.err=0):w.whole/\w.told.Fit:=by
 by_cases hw:w.whole
 ·refine⟨hw,fit_of_make ?_⟩
  unfold WorldD.check at c;rwa[if_pos hw]at c
 ·exfalso
  unfold WorldD.check at c;rw[if_neg hw]at c;cases c
theorem ifs_zero {p q:Prop} [Decidable p] [Decidable q] (h:(if p then(5:Int)else if q then 2 else 0)=0):¬p/\¬q:=by
 by_cases a:p
 ·rw[if_pos a]at h;cases h
 ·rw[if_neg a]at h
  by_cases b:q
  ·rw[if_pos b]at h;cases h
  ·exact⟨a,b⟩
theorem WorldD.fine {w:WorldD} (c:w.check.err=0):w.Fine:=by
 obtain⟨hw,f⟩:=WorldD.check_whole c;have nm:=f.ok.2.2.1;refine⟨nm _ (by simp[SheetD.nums,WorldD.told]),λt ht=> ?_,λr hr=> ?_⟩
 ·obtain⟨i,hi,rfl⟩:=List.getElem_of_mem ht
  have hm:w.trips[i].told w.names i∈w.told.trips:=by
   show _∈w.trips.mapIdx _;exact List.mem_mapIdx.2 ⟨i,hi,rfl⟩
  have hn:∀n∈[w.trips[i].frm,w.trips[i].evr,w.trips[i].untl],TickOk n:=λn hn=>nm n (by
   have:n∈w.told.trips.flatMap λt=>[t.frm,t.evr,t.untl]:=List.mem_flatMap.2 ⟨_,hm,hn⟩;simp only[SheetD.nums,List.mem_append];exact .inl (.inr this))
  have he:=f.trips _ hm;have hr:=hw.2.2.2.2.1 _ ht;obtain⟨j,e,hj⟩:=hr.ex;refine⟨hn _ (by simp),hn _ (by simp),hn _ (by simp),?_,j,by have:=hw.1.2.2.1;omega,e⟩;have:=(ifs_zero (show(if place w.told.names.routes (atL w.names.routes w.trips[i].route)<0 then(5:Int)else if w.trips[i].untl<w.trips[i].frm then 2 else 0)=0 from he)).2
  omega
 ·obtain⟨i,hi,rfl⟩:=List.getElem_of_mem hr
  have hm:w.routes[i].told w.names i∈w.told.routes:=by
   show _∈w.routes.mapIdx _;exact List.mem_mapIdx.2 ⟨i,hi,rfl⟩
  obtain⟨o1,o2,o3,o4⟩:=f.ok.2.2.2 _ hm;simp only[RouteW.told,List.length_map]at o1 o2 o3 o4
  have hn:∀n∈w.routes[i].rides++w.routes[i].stays,TickOk n:=λn hn=>nm n (by
   have:n∈w.told.routes.flatMap λr=>r.rides++r.stays:=List.mem_flatMap.2 ⟨_,hm,hn⟩;simp only[SheetD.nums,List.mem_append];exact .inl (.inl (.inr this)))
  have he:=f.routes _ hm;refine⟨o1,o2,o3,o4,λn h=>⟨?_,(hn n (List.mem_append.2 (.inl h))).2⟩,λn h=>hn n (List.mem_append.2 (.inr h))⟩;obtain⟨k,hk,rfl⟩:=List.getElem_of_mem h;unfold RouteW.err at he;split at he
  ·cases he
  ·split at he
   ·cases he
   ·rename_i _ hb
    by_cases g:1<=w.routes[i].rides[k]
    ·exact g
    ·exfalso
     refine hb ⟨k,hk,.inl ?_⟩;show w.routes[i].rides.getD k 0<1;rw[List.getD_eq_getElem?_getD,List.getElem?_eq_getElem hk];show w.routes[i].rides[k]<1;omega
theorem WorldD.Fine.ride {w:WorldD} (f:w.Fine) {r:RouteW} (hr:r∈w.routes) (k:Nat):0<=r.rides.getD k 0/\r.rides.getD k 0<=1099511627776/\0<=r.stays.getD k 0/\r.stays.getD k 0<=1099511627776:=by
 obtain⟨_,_,_,_,h5,h6⟩:=f.route r hr
 have a:0<=r.rides.getD k 0/\r.rides.getD k 0<=1099511627776:=by
  rw[List.getD_eq_getElem?_getD];cases e:r.rides[k]? with
  |none=>exact⟨by decide,by decide⟩
  |some n=>have:=h5 n (List.mem_of_getElem? e);exact⟨by show(0:Int)<=n;omega,this.2⟩
 have b:0<=r.stays.getD k 0/\r.stays.getD k 0<=1099511627776:=by
  rw[List.getD_eq_getElem?_getD];cases e:r.stays[k]? with
  |none=>exact⟨by decide,by decide⟩
  |some n=>exact h6 n (List.mem_of_getElem? e)
 exact⟨a.1,a.2,b.1,b.2⟩
theorem WorldD.Fine.pre {w:WorldD} (f:w.Fine) {r:RouteW} (hr:r∈w.routes):∀k:Nat,0<=r.pre k/\r.pre k<=k*2199023255552
 |0=>⟨Int.le_refl _,Int.le_refl _⟩
 |k+1=>by
  have ih:=f.pre hr k;have:=f.ride hr k;unfold RouteW.pre;omega
theorem WorldD.Fine.last {w:WorldD} (f:w.Fine) {r:RouteW} (hr:r∈w.routes) {n:Nat} (hn:r.rides.length=n+1):r.long=r.pre n+r.rides.getD n 0:=by
 obtain⟨_,_,h3,h4,_,_⟩:=f.route r hr;unfold RouteW.long;rw[hn];show r.pre n+r.rides.getD n 0+r.stays.getD n 0=_;rw[show r.stays.getD n 0=0 by rw[List.getD_eq_getElem?_getD,List.getElem?_eq_none (by omega)];rfl];omega
end Go.CM.Tt

noncomputable section
namespace Go.CM.Tt
open Go.CM
theorem ediv_twice {d e:Int} (he:0<e):d/(2*e)=d/e/2:=by
 rw[Int.mul_comm,Int.ediv_ediv_of_nonneg (by omega)]
theorem countT_half {f e u:Int} (he:0<e):countT f (2*e) u=(countT f e u+1)/2:=by
 unfold countT;by_cases c:u<f
 ·rw[if_pos c,if_pos c];rfl
 ·rw[if_neg c,if_neg c,if_neg (by omega),if_neg (by omega),ediv_twice he]
  omega
theorem countT_half2 {f e u:Int} (he:0<e):countT (f+e) (2*e) u=countT f e u/2:=by
 unfold countT;by_cases c:u<f
 ·rw[if_pos (by omega),if_pos c];rfl
 ·rw[if_neg c,if_neg (show ¬e=0 by omega)]
  have k:(u-f)/e<1↔u-f<1*e:=Int.ediv_lt_iff_lt_mul he;have g:0<=(u-f)/e:=Int.ediv_nonneg (by omega) (by omega);by_cases c2:u<f+e
  ·rw[if_pos c2]
   have:=k.2 (by omega);omega
  ·rw[if_neg c2,if_neg (by omega),ediv_twice he]
   have e1:(u-(f+e))/e=(u-f)/e-1:=by
    rw[show u-(f+e)=u-f+(-1)*e by omega,Int.add_mul_ediv_right _ _ (by omega)];omega
   rw[e1];omega
def WorldD.tripAt (w:WorldD) (j:Nat):TripW:=w.trips.getD j ⟨0,0,0,0⟩
def WorldD.routeOf (w:WorldD) (t:TripW):RouteW:=w.routes.getD t.route.toNat ⟨[],[],[]⟩
def WorldD.hasAt (w:WorldD) (j:Nat) (no:Int):Prop:=w.has (w.tripAt j) (w.routeOf (w.tripAt j)) no
def WorldD.cntAt (w:WorldD) (j:Nat):Int:=w.cnt (w.tripAt j) (w.routeOf (w.tripAt j))
def WorldD.runAt (w:WorldD) (j:Nat) (no:Int):RunD:=
 let t:=w.tripAt j
 let r:=w.routeOf t
 ⟨(j:Int),no,r.arrs (t.frm+no*t.evr) r.rides.length,r.deps (t.frm+no*t.evr) r.rides.length⟩
theorem WorldD.tripAt_eq {w:WorldD} {j:Nat} (hj:j<w.trips.length):w.tripAt j=w.trips[j]:=by
 unfold WorldD.tripAt;rw[List.getD_eq_getElem?_getD,List.getElem?_eq_getElem hj];rfl
theorem WorldD.routeOf_eq {w:WorldD} {t:TripW} {j:Nat} (hj:j<w.routes.length) (e:t.route=(j:Int)):w.routeOf t=w.routes[j]:=by
 unfold WorldD.routeOf;rw[e,Int.toNat_natCast,List.getD_eq_getElem?_getD,List.getElem?_eq_getElem hj];rfl
def RouteW.tame (r:RouteW):Prop:=r.rides.length<=32/\(∀k:Nat,0<=r.rides.getD k 0/\r.rides.getD k 0<=1099511627776/\0<=r.stays.getD k 0/\r.stays.getD k 0<=1099511627776)/\∀k:Nat,0<=r.pre k/\r.pre k<=k*2199023255552
theorem WorldD.Fine.tame {w:WorldD} (f:w.Fine) {r:RouteW} (hr:r∈w.routes):r.tame:=⟨by have:=(f.route r hr).2.2.1;have:=(f.route r hr).2.1;omega,f.ride hr,f.pre hr⟩
structure WorldD.Trip (w:WorldD) (j:Nat) (t:TripW) (r:RouteW) (jr:Nat):Prop where
 ht:∃h:j<w.trips.length,w.trips[j]=t
 hr:∃h:jr<w.routes.length,w.routes[jr]=r
 e:t.route=(jr:Int)
 f:TickOk t.frm
 v:TickOk t.evr
 u:TickOk t.untl
 fu:t.frm<=t.untl
 tame:r.tame
 last:∃n,r.rides.length=n+1/\r.long=r.pre n+r.rides.getD n 0
 stops:r.rides.length+1=r.stops.length
 at_:w.tripAt j=t
 of_:w.routeOf t=r
theorem WorldD.Fine.at {w:WorldD} (f:w.Fine) {j:Nat} (hj:j<w.trips.length):∃t r jr,w.Trip j t r jr:=by
 obtain⟨h1,h2,h3,h4,jr,hjr,e⟩:=f.trip _ (List.getElem_mem hj);have hm:=List.getElem_mem hjr;obtain⟨g1,g2,g3,g4,_⟩:=f.route _ hm;obtain⟨n,hn⟩:∃n,w.routes[jr].rides.length=n+1:=⟨w.routes[jr].rides.length-1,by omega⟩;exact⟨w.trips[j],w.routes[jr],jr,⟨hj,rfl⟩,⟨hjr,rfl⟩,e,h1,h2,h3,h4,f.tame hm,⟨n,hn,f.last hm hn⟩,g3,WorldD.tripAt_eq hj,WorldD.routeOf_eq hjr e⟩
theorem WorldD.Trip.has {w:WorldD} {j jr:Nat} {t:TripW} {r:RouteW} (T:w.Trip j t r jr) {no:Int}:w.hasAt j no↔w.has t r no:=by
 unfold WorldD.hasAt;rw[T.at_,T.of_]
theorem WorldD.Trip.run {w:WorldD} {j jr:Nat} {t:TripW} {r:RouteW} (T:w.Trip j t r jr) {no:Int}:w.runAt j no=⟨(j:Int),no,r.arrs (t.frm+no*t.evr) r.rides.length,r.deps (t.frm+no*t.evr) r.rides.length⟩:=by
 show(⟨(j:Int),no,(w.routeOf (w.tripAt j)).arrs ((w.tripAt j).frm+no*(w.tripAt j).evr) (w.routeOf (w.tripAt j)).rides.length,(w.routeOf (w.tripAt j)).deps ((w.tripAt j).frm+no*(w.tripAt j).evr) (w.routeOf (w.tripAt j)).rides.length⟩:RunD)=_;rw[T.at_,T.of_]
theorem WorldD.Trip.end_ {w:WorldD} {j jr:Nat} {t:TripW} {r:RouteW} (T:w.Trip j t r jr) (a:Int):(r.arrs a r.rides.length).length=r.rides.length+1/\(r.arrs a r.rides.length)[r.rides.length]? =some (a+r.long):=by
 obtain⟨n,hn,hl⟩:=T.last;refine⟨RouteW.arrs_len _ _ _,?_⟩;rw[hn,RouteW.arrs_at r a (by omega),hl,Int.add_assoc]
end Go.CM.Tt

noncomputable section
namespace Go.CM.Tt
open Go.CM
open Classical in
def WorldD.countX (w:WorldD) (n:Int):Int:=if w.check.err=0/\0<=n/\n<w.trips.length then w.cntAt n.toNat else 0
open Classical in
def WorldD.oneX (w:WorldD) (n no:Int):RunD×Int:=if w.check.err=0 then if(0<=n/\n<w.trips.length)/\w.hasAt n.toNat no then(w.runAt n.toNat no,0)else(RunD.none,5)else(RunD.none,2)
def RunD.timesOk (r:RunD):Prop:=2<=r.arr.length/\r.dep.length=r.arr.length/\r.arr.getD 0 0=r.dep.getD 0 0/\r.dep.getD (r.arr.length-1) 0=r.arr.getD (r.arr.length-1) 0/\0<=r.arr.getD 0 0/\r.arr.getD (r.arr.length-1) 0<=1099511627776/\
 ∀k,k+1<r.arr.length->r.dep.getD k 0<r.arr.getD (k+1) 0/\r.arr.getD (k+1) 0<=r.dep.getD (k+1) 0
open Classical in
def WorldD.checkR (w:WorldD) (r:RunD):Int:=
 if(w.oneX r.trip r.no).2≠0 then(w.oneX r.trip r.no).2 else if ¬r.timesOk\/r.arr.length≠(w.routeOf (w.tripAt r.trip.toNat)).stops.length then 2 else if w.hz<r.arr.getD (r.arr.length-1) 0 then 9 else 0
open Classical in
theorem WorldD.oneX_bad {w:WorldD} {n no:Int} (h:¬w.check.err=0):w.oneX n no=(RunD.none,2):=by unfold WorldD.oneX;rw[if_neg h]
theorem WorldD.oneX_not {w:WorldD} {n no:Int} (h:w.check.err=0) (h2:¬((0<=n/\n<w.trips.length)/\w.hasAt n.toNat no)):w.oneX n no=(RunD.none,5):=by unfold WorldD.oneX;rw[if_pos h,if_neg h2]
theorem WorldD.oneX_there {w:WorldD} {j:Nat} {no:Int} (h:w.check.err=0) (h2:j<w.trips.length) (h3:w.hasAt j no):w.oneX (j:Int) no=(w.runAt j no,0):=by
 unfold WorldD.oneX;rw[if_pos h,if_pos ⟨⟨by omega,by omega⟩,by rw[Int.toNat_natCast];exact h3⟩,Int.toNat_natCast]
theorem WorldD.countX_bad {w:WorldD} {n:Int} (h:¬(w.check.err=0/\0<=n/\n<w.trips.length)):w.countX n=0:=by unfold WorldD.countX;rw[if_neg h]
theorem WorldD.countX_there {w:WorldD} {j:Nat} (h:w.check.err=0) (h2:j<w.trips.length):w.countX (j:Int)=w.cntAt j:=by
 unfold WorldD.countX;rw[if_pos ⟨h,by omega,by omega⟩,Int.toNat_natCast]
end Go.CM.Tt

noncomputable section
namespace Go.CM.Tt
open Go.CM
theorem WorldD.oneX_zero {w:WorldD} {n no:Int} (h:(w.oneX n no).2=0):w.check.err=0/\∃j:Nat,n=(j:Int)/\j<w.trips.length/\w.hasAt j no:=by
 by_cases c:w.check.err=0
 ·by_cases d:(0<=n/\n<w.trips.length)/\w.hasAt n.toNat no
  ·obtain⟨j,hj⟩:∃j:Nat,n=(j:Int):=⟨n.toNat,by omega⟩
   refine⟨c,j,hj,by omega,?_⟩;have:=d.2;rwa[hj,Int.toNat_natCast]at this
  ·rw[WorldD.oneX_not c d]at h;cases h
 ·rw[WorldD.oneX_bad c]at h;cases h
end Go.CM.Tt

noncomputable section
namespace Go.CM.Tt
open Go.CM
def WorldD.runsT (w:WorldD) (j n:Nat):List RunD:=(List.range n).map λno=>w.runAt j ((no:Nat):Int)
def WorldD.runs (w:WorldD):Nat->List RunD
 |0=>[]
 |k+1=>w.runs k++w.runsT k (w.cntAt k).toNat
theorem WorldD.runsT_more {w:WorldD} {j n:Nat}:w.runsT j (n+1)=w.runsT j n++[w.runAt j (n:Int)]:=by
 unfold WorldD.runsT;rw[List.range_succ,List.map_append];rfl
theorem WorldD.runsT_len {w:WorldD} {j n:Nat}:(w.runsT j n).length=n:=by simp[WorldD.runsT]
def OwnRn (h:Heap) (lo:Nat) (e:List CV) (d:RunD):Prop:=∃u1 u2,e=[.int .i64 d.trip,.int .i64 d.no,u1,u2]/\OwnR h lo 1 u1 (d.arr.map Flat.enc)/\OwnR h lo 1 u2 (d.dep.map Flat.enc)
section
variable {h h':Heap} {lo lo':Nat} {e:List CV} {d:RunD} {P:Nat->Prop} {v:CV} {l:List RunD}
theorem OwnRn.ext (o:OwnRn h lo e d) (x:Ext h h'):OwnRn h' lo e d:=by
 obtain⟨u1,u2,rfl,o1,o2⟩:=o;exact⟨u1,u2,rfl,o1.ext x,o2.ext x⟩
theorem OwnRn.low (o:OwnRn h lo e d) (hl:lo'<=lo):OwnRn h lo' e d:=by
 obtain⟨u1,u2,rfl,o1,o2⟩:=o;exact⟨u1,u2,rfl,o1.low hl,o2.low hl⟩
theorem OwnRn.other (o:OwnRn h lo e d) (hn:h.next<=h'.next) (hk:∀k,k∈idsOf e->h'.get k=h.get k):OwnRn h' lo e d:=by
 obtain⟨u1,u2,rfl,o1,o2⟩:=o;exact⟨u1,u2,rfl,o1.other hn λk _ _ hi=>hk k (by simp[idsOf,hi]),o2.other hn λk _ _ hi=>hk k (by simp[idsOf,hi])⟩
theorem OwnRn.ids (o:OwnRn h lo e d):∀k∈idsOf e,lo<=k/\k<h.next:=by
 obtain⟨u1,u2,rfl,o1,o2⟩:=o;intro k hk;have hk:k∈([]:List Nat)++(([]:List Nat)++(idOf u1++(idOf u2++[]))):=hk;simp only[List.mem_append,List.not_mem_nil,or_false,false_or]at hk;rcases hk with hk|hk
 ·exact OwnR.ids o1 k hk
 ·exact OwnR.ids o2 k hk
theorem OwnRn.rp (o:OwnRn h lo e d):Rp.R h e d:=by
 obtain⟨u1,u2,rfl,o1,o2⟩:=o;exact⟨u1,u2,rfl,o1.toSl,o2.toSl⟩
theorem OwnRn.of {t n:Int} {vA vD:CV} {arr dep:List Int} (O:OwnG h lo [(1,vA,arr.map Flat.enc),(1,vD,dep.map Flat.enc)] []):OwnRn h lo [.int .i64 t,.int .i64 n,vA,vD] (⟨t,n,arr,dep⟩:RunD):=
 ⟨vA,vD,rfl,O.o (1,vA,arr.map Flat.enc) (by simp),O.o (1,vD,dep.map Flat.enc) (by simp)⟩
def RunsB (h:Heap) (lo:Nat) (P:Nat->Prop) (v:CV) (css:List (List CV)) (l:List RunD):Prop:=
 OwnR h lo 4 v css/\css.length=l.length/\(∀(j:Nat) (e:List CV) (d:RunD),css[j]? =some e->l[j]? =some d->OwnRn h lo e d)/\(∀a∈idsIn css,a<h.next/\a∉idOf v/\¬P a)/\∀a∈idOf v,¬P a
theorem RunsB.nil:RunsB h lo P (.slice none 0 0 0) [] []:=⟨OwnR.nil,rfl,λj e d he=>by simp at he,λa ha=>by simp[idsIn]at ha,λa ha=>by simp[idOf]at ha⟩
theorem RunsB.keep {css:List (List CV)} (o:RunsB h lo P v css l) (hn:h.next<=h'.next) (hk:∀k,k<h.next->¬P k->h'.get k=h.get k):RunsB h' lo P v css l:=by
 obtain⟨o1,o2,o3,o4,o5⟩:=o;refine⟨o1.other hn λk _ hk2 hi=>hk k hk2 (o5 k (by rw[hi];simp)),o2,λj e d he hd=>(o3 j e d he hd).other hn λk hi=> ?_,λa ha=>⟨Nat.lt_of_lt_of_le (o4 a ha).1 hn,(o4 a ha).2⟩,o5⟩;have:=o4 k (List.mem_flatMap.2 ⟨e,List.mem_of_getElem? he,hi⟩);exact hk k this.1 this.2.2
theorem RunsB.more {h1:Heap} {n0:Nat} {v':CV} {css:List (List CV)} (o:RunsB h lo P v css l) (X:Ext h h1) (hl:lo<=h.next) (hP:∀k,P k->k<h.next) (hn0:h.next<=n0) (E:OwnRn h1 n0 e d)
  (om:OwnR h' lo 4 v' (css++[e])) (hk:∀k,k<h1.next->idOf v≠[k]->h'.get k=h1.get k) (hn:h'.next=h1.next+1) (hi:idOf v'=[h1.next]):RunsB h' lo P v' (css++[e]) (l++[d]):=by
 obtain⟨o1,o2,o3,o4,o5⟩:=o;have nX:=X.next;have ov:∀k,k∉idOf v->idOf v≠[k]:=λk hk e=>hk (by rw[e];simp);refine⟨om,by rw[List.length_append,List.length_append,o2];rfl,λj e1 d1 he hd=> ?_,λa ha=> ?_,λa ha=> ?_⟩
 ·by_cases hj:j<css.length
  ·rw[List.getElem?_append_left hj]at he
   rw[List.getElem?_append_left (by omega)]at hd;refine((o3 j e1 d1 he hd).ext X).other (by omega) λk hi2=> ?_;have:=o4 k (List.mem_flatMap.2 ⟨e1,List.mem_of_getElem? he,hi2⟩);exact hk k (by omega) (ov k this.2.1)
  ·have hj2:j=css.length:=by
     have:=(List.getElem?_eq_some_iff.1 he).1;simp only[List.length_append,List.length_cons,List.length_nil]at this;omega
   subst hj2;rw[List.getElem?_append_right (Nat.le_refl _),Nat.sub_self]at he;rw[List.getElem?_append_right (by omega),o2,Nat.sub_self]at hd;have he:e=e1:=by simpa using he
   have hd:d=d1:=by simpa using hd
   subst he hd;refine(E.low (by omega)).other (by omega) λk hi2=> ?_;have:=E.ids k hi2;exact hk k this.2 (ov k λhv=>by have:=(OwnR.ids o1 k hv).2;omega)
 ·have ha:a∈List.flatMap idsOf (css++[e]):=ha
  rw[List.flatMap_append,List.mem_append]at ha;rw[hi];rcases ha with ha|ha
  ·have:=o4 a ha
   exact⟨by omega,by rw[List.mem_singleton];omega,this.2.2⟩
  ·have:=E.ids a (by simpa using ha)
   exact⟨by omega,by rw[List.mem_singleton];omega,λhp=>by have:=hP a hp;omega⟩
 ·rw[hi,List.mem_singleton]at ha
  exact λhp=>by have:=hP a hp;omega
theorem RunsB.toSl {css:List (List CV)} (o:RunsB h lo P v css l):Sl h v l:=⟨css,o.1.sl,o.2.1,λj e d he hd=>(o.2.2.1 j e d he hd).rp⟩
end
end Go.CM.Tt

noncomputable section
namespace Go.CM.Tt
open Go.CM
def laterA (f:Nat) (d:Int) (l:List Int):List Int:=l.mapIdx λk a=>if f<k\/(k=0/\f=0)then a+d else a
def laterD (f:Nat) (d:Int) (l:List Int):List Int:=l.mapIdx λk a=>if f<=k then a+d else a
open Classical in
def RunD.later (r:RunD) (f d:Int):RunD×Int:=
 if ¬r.timesOk\/f<0\/(r.arr.length:Int)-1<=f\/d<0 then(RunD.none,2)else if 1099511627776-r.arr.getD (r.arr.length-1) 0<d then(RunD.none,9)else(⟨r.trip,r.no,laterA f.toNat d r.arr,laterD f.toNat d r.dep⟩,0)
theorem RunD.later_bad {r:RunD} {f d:Int} (h:¬r.timesOk\/f<0\/(r.arr.length:Int)-1<=f\/d<0):r.later f d=(RunD.none,2):=by unfold RunD.later;rw[if_pos h]
theorem RunD.later_far {r:RunD} {f d:Int} (h:¬(¬r.timesOk\/f<0\/(r.arr.length:Int)-1<=f\/d<0)) (h2:1099511627776-r.arr.getD (r.arr.length-1) 0<d):r.later f d=(RunD.none,9):=by unfold RunD.later;rw[if_neg h,if_pos h2]
theorem RunD.later_ok {r:RunD} {f d:Int} (h:¬(¬r.timesOk\/f<0\/(r.arr.length:Int)-1<=f\/d<0)) (h2:¬1099511627776-r.arr.getD (r.arr.length-1) 0<d):r.later f d=(⟨r.trip,r.no,laterA f.toNat d r.arr,laterD f.toNat d r.dep⟩,0):=by unfold RunD.later;rw[if_neg h,if_neg h2]
def upA (f:Nat) (d:Int) (k:Nat) (l:List Int):List Int:=l.mapIdx λj a=>if j<k/\(f<j\/(j=0/\f=0))then a+d else a
def upD (f:Nat) (d:Int) (k:Nat) (l:List Int):List Int:=l.mapIdx λj a=>if j<k/\f<=j then a+d else a
section
variable {f k:Nat} {d:Int} {l:List Int}
theorem upA_len:(upA f d k l).length=l.length:=by simp[upA]
theorem upD_len:(upD f d k l).length=l.length:=by simp[upD]
theorem upA_get {j:Nat} (h:j<(upA f d k l).length):(upA f d k l)[j]=if j<k/\(f<j\/(j=0/\f=0))then l[j]'(by rw[upA_len]at h;exact h)+d else l[j]'(by rw[upA_len]at h;exact h):=by simp[upA]
theorem upD_get {j:Nat} (h:j<(upD f d k l).length):(upD f d k l)[j]=if j<k/\f<=j then l[j]'(by rw[upD_len]at h;exact h)+d else l[j]'(by rw[upD_len]at h;exact h):=by simp[upD]
theorem laterA_get {j:Nat} (h:j<(laterA f d l).length) (h2:j<l.length):(laterA f d l)[j]=if f<j\/(j=0/\f=0)then l[j]+d else l[j]:=by simp[laterA]
theorem laterD_get {j:Nat} (h:j<(laterD f d l).length) (h2:j<l.length):(laterD f d l)[j]=if f<=j then l[j]+d else l[j]:=by simp[laterD]
theorem upA_start:upA f d f l=l:=by
 refine List.ext_getElem upA_len λj h1 h2=> ?_;rw[upA_get,if_neg (by omega)]
theorem upD_start:upD f d f l=l:=by
 refine List.ext_getElem upD_len λj h1 h2=> ?_;rw[upD_get,if_neg (by omega)]
theorem upA_end:upA f d l.length l=laterA f d l:=by
 refine List.ext_getElem (by simp[upA,laterA]) λj h1 h2=> ?_;have hj:j<l.length:=by rw[upA_len]at h1;exact h1
 rw[upA_get,laterA_get _ hj];by_cases c:f<j\/(j=0/\f=0)
 ·rw[if_pos ⟨hj,c⟩,if_pos c]
 ·rw[if_neg (λh=>c h.2),if_neg c]
theorem upD_end:upD f d l.length l=laterD f d l:=by
 refine List.ext_getElem (by simp[upD,laterD]) λj h1 h2=> ?_;have hj:j<l.length:=by rw[upD_len]at h1;exact h1
 rw[upD_get,laterD_get _ hj];by_cases c:f<=j
 ·rw[if_pos ⟨hj,c⟩,if_pos c]
 ·rw[if_neg (λh=>c h.2),if_neg c]
theorem upA_at (h:k<l.length):(upA f d k l)[k]'(by rw[upA_len];exact h)=l[k]:=by
 rw[upA_get,if_neg (by omega)]
theorem upD_at (h:k<l.length):(upD f d k l)[k]'(by rw[upD_len];exact h)=l[k]:=by
 rw[upD_get,if_neg (by omega)]
theorem upA_succ (h:k<l.length) (c:f<k\/(k=0/\f=0)):upA f d (k+1) l=(upA f d k l).set k (l[k]+d):=by
 refine List.ext_getElem (by rw[List.length_set,upA_len,upA_len]) λj h1 h2=> ?_;rw[List.getElem_set,upA_get,upA_get];by_cases e:k=j
 ·subst e
  rw[if_pos rfl,if_pos ⟨by omega,c⟩]
 ·rw[if_neg e]
  by_cases c2:j<k/\(f<j\/(j=0/\f=0))
  ·rw[if_pos c2,if_pos ⟨by omega,c2.2⟩]
  ·rw[if_neg c2,if_neg (λh=>c2 ⟨by omega,h.2⟩)]
theorem upA_same (c:¬(f<k\/(k=0/\f=0))):upA f d (k+1) l=upA f d k l:=by
 refine List.ext_getElem (by rw[upA_len,upA_len]) λj h1 h2=> ?_;rw[upA_get,upA_get];by_cases c2:j<k/\(f<j\/(j=0/\f=0))
 ·rw[if_pos c2,if_pos ⟨by omega,c2.2⟩]
 ·rw[if_neg c2,if_neg (λh=>c2 ⟨by
   by_cases e:j=k
   ·subst e;exact absurd h.2 c
   ·omega,h.2⟩)]
theorem upD_succ (h:k<l.length) (c:f<=k):upD f d (k+1) l=(upD f d k l).set k (l[k]+d):=by
 refine List.ext_getElem (by rw[List.length_set,upD_len,upD_len]) λj h1 h2=> ?_;rw[List.getElem_set,upD_get,upD_get];by_cases e:k=j
 ·subst e
  rw[if_pos rfl,if_pos ⟨by omega,c⟩]
 ·rw[if_neg e]
  by_cases c2:j<k/\f<=j
  ·rw[if_pos c2,if_pos ⟨by omega,c2.2⟩]
  ·rw[if_neg c2,if_neg (λh=>c2 ⟨by omega,h.2⟩)]
theorem getZ (h:k<l.length):l.getD k 0=l[k]:=by simp[List.getD_eq_getElem?_getD,h]
theorem upD_enc (h:k<l.length):((upD f d k l).map (Flat.enc:Int->List CV))[k]? =some [.int .i64 (l.getD k 0)]:=by
 rw[List.getElem?_map,List.getElem?_eq_getElem (by rw[upD_len];exact h),upD_at h,getZ h];rfl
theorem upA_enc (h:k<l.length):((upA f d k l).map (Flat.enc:Int->List CV))[k]? =some [.int .i64 (l.getD k 0)]:=by
 rw[List.getElem?_map,List.getElem?_eq_getElem (by rw[upA_len];exact h),upA_at h,getZ h];rfl
theorem upD_set (h:k<l.length) (c:f<=k):((upD f d k l).map (Flat.enc:Int->List CV)).set k [.int .i64 (l.getD k 0+d)]=(upD f d (k+1) l).map Flat.enc:=by
 rw[upD_succ h c,List.map_set,getZ h];rfl
theorem upA_set (h:k<l.length) (c:f<k\/(k=0/\f=0)):((upA f d k l).map (Flat.enc:Int->List CV)).set k [.int .i64 (l.getD k 0+d)]=(upA f d (k+1) l).map Flat.enc:=by
 rw[upA_succ h c,List.map_set,getZ h];rfl
end
theorem RunD.timesOk.dep_le {r:RunD} (t:r.timesOk):∀m k:Nat,k+m<r.arr.length->r.dep.getD k 0<=r.dep.getD (k+m) 0
 |0,k,_=>Int.le_refl _
 |m+1,k,h=>by
  have:=t.dep_le m k (by omega);have:=t.2.2.2.2.2.2 (k+m) (by omega);show _<=r.dep.getD (k+m+1) 0;omega
theorem RunD.timesOk.lim {r:RunD} (t:r.timesOk) {k:Nat} (h:k<r.arr.length):0<=r.arr.getD k 0/\r.arr.getD k 0<=r.dep.getD k 0/\r.dep.getD k 0<=r.arr.getD (r.arr.length-1) 0:=by
 have a:=t.dep_le (r.arr.length-1-k) k (by omega);rw[show k+(r.arr.length-1-k)=r.arr.length-1 by omega]at a;obtain⟨t1,t2,t3,t4,t5,t6,t7⟩:=id t;cases k with
 |zero=>omega
 |succ k=>
  have b:=t.dep_le k 0 (by omega);rw[Nat.zero_add]at b;have:=t7 k h;omega
end Go.CM.Tt

namespace Go.CM.Tt
open Go.CM
structure LateD where
 trip:Int
 no:Int
 pos:Int
 by_:Int
def LateD.enc (d:LateD):List CV:=[.int .i64 d.trip,.int .i64 d.no,.int .i64 d.pos,.int .i64 d.by_]
noncomputable instance:Rp LateD:=⟨4,λ_ cs d=>cs=d.enc,λ_ h=>h,λh=>by rw[h];rfl⟩
noncomputable instance:Flat LateD:=⟨LateD.enc,λ_ _ _=>Iff.rfl⟩
def cmpI (a b:Int):Int:=if a<b then -1 else if b<a then 1 else 0
def orI:List Int->Int
 |[]=>0
 |a::r=>if a=0 then orI r else a
def ltK (a b:LateD):Prop:=a.trip<b.trip\/(a.trip=b.trip/\(a.no<b.no\/(a.no=b.no/\a.pos<b.pos)))
theorem cmpI_neg {a b:Int}:cmpI a b<0↔a<b:=by
 unfold cmpI
 split
 ·exact Iff.intro (λ_=>by assumption) (λ_=>by decide)
 ·split<;>exact Iff.intro (λh=>by omega) (λh=>by omega)
theorem cmpI_zero {a b:Int}:cmpI a b=0↔a=b:=by
 unfold cmpI
 split
 ·exact Iff.intro (λh=>by cases h) (λh=>by omega)
 ·split
  ·exact Iff.intro (λh=>by cases h) (λh=>by omega)
  ·exact Iff.intro (λ_=>by omega) (λ_=>rfl)
theorem cmpK_neg {a b:LateD}:orI [cmpI a.trip b.trip,cmpI a.no b.no,cmpI a.pos b.pos]<0↔ltK a b:=by
 unfold ltK
 have z1:=cmpI_zero (a:=a.trip) (b:=b.trip)
 have z2:=cmpI_zero (a:=a.no) (b:=b.no)
 have z3:=cmpI_zero (a:=a.pos) (b:=b.pos)
 have n1:=cmpI_neg (a:=a.trip) (b:=b.trip)
 have n2:=cmpI_neg (a:=a.no) (b:=b.no)
 have n3:=cmpI_neg (a:=a.pos) (b:=b.pos)
 unfold orI
 split
 ·rename_i e1
  unfold orI
  split
  ·rename_i e2
   unfold orI
   split
   ·rename_i e3
    unfold orI
    exact Iff.intro (λh=>by omega) (λh=>by have:=z1.1 e1;have:=z2.1 e2;have:=z3.1 e3;omega)
   ·rename_i e3
    rw[n3]
    exact Iff.intro (λh=> .inr ⟨z1.1 e1,.inr ⟨z2.1 e2,h⟩⟩) (λh=>by have:=z1.1 e1;have:=z2.1 e2;omega)
  ·rename_i e2
   rw[n2]
   exact Iff.intro (λh=> .inr ⟨z1.1 e1,.inl h⟩) (λh=>by have:=z1.1 e1;have:¬a.no=b.no:=λe=>e2 (z2.2 e);omega)
 ·rename_i e1
  rw[n1]
  exact Iff.intro .inl (λh=>by have:¬a.trip=b.trip:=λe=>e1 (z1.2 e);omega)
/-- In order. -/
def SortK (l:List LateD):Prop:=∀(m n:Nat) (v w:LateD),m<n->l[m]? =some v->l[n]? =some w->ltK v w
theorem ltK.trans {a b c:LateD} (h1:ltK a b) (h2:ltK b c):ltK a c:=by
 unfold ltK at*
 omega
def FromK (l:List LateD) (x:LateD) (k:Nat):Prop:=k<=l.length/\(∀m w,m<k->l[m]? =some w->ltK w x)/\∀m w,k<=m->l[m]? =some w->¬ltK w x
def idKey (id:Int×Int):LateD:=⟨id.1,id.2,-4611686018427387904,0⟩
/-- A run's delays that stand side by side from a place on. -/
def ofL (d:LateD):Int×Int:=(d.trip,d.no)
def delaysL (l:List LateD) (id:Int×Int):List LateD:=l.filter λd=>decide (ofL d=id)
structure StateD where
 w:WorldD
 late:List LateD
 gone:List (Int×Int)
/-- A run made later by one delay after the other; false where it may not be. -/
noncomputable def RunD.lates:RunD->List LateD->RunD×Bool
 |r,[]=>(r,true)
 |r,d::t=>if(r.later d.pos d.by_).2=0 then(r.later d.pos d.by_).1.lates t else((r.later d.pos d.by_).1,false)
def RunD.lastA (r:RunD):Int:=r.arr.getD (r.arr.length-1) 0
theorem RunD.later_len {r:RunD} {f d:Int} (h:(r.later f d).2=0):(r.later f d).1.arr.length=r.arr.length/\(r.later f d).1.dep.length=r.dep.length/\(r.later f d).1.trip=r.trip/\(r.later f d).1.no=r.no:=by
 unfold RunD.later at h ⊢
 split at h
 ·cases h
 ·split at h
  ·cases h
  ·rename_i h1 h2
   rw[if_neg h1,if_neg h2]
   exact⟨by simp[laterA],by simp[laterD],rfl,rfl⟩
end Go.CM.Tt
