/- A sheet in memory of its own. No condition, no program. -/
import Derived.Test.YtmgpjfnlciapkaaGreatDoorYA
import Derived.Test.YtmgpjfnlciapkaaGreatDoorXZ
import Derived.Test.YtmgpjfnlciapkaaGreatDoorXU
import Derived.Test.YtmgpjfnlciapkaaGreatDoorZYa
set_option linter.unusedVariables false
set_option linter.unusedSimpArgs false
noncomputable section
namespace Go.CM.Tt
def idsOf (cs:List CV):List Nat:=cs.flatMap idOf
theorem nodup_behind {l m:List Nat} {n:Nat} (h1:l.Nodup) (h2:∀a∈l,a<n) (h3:m.Nodup) (h4:∀b∈m,n<=b):(l++m).Nodup:=
 List.nodup_append.2 ⟨h1,h3,λa ha b hb e=>by have:=h2 a ha;have:=h4 b hb;omega⟩
theorem idOf_one (v:CV):idOf v=[]\/∃k,idOf v=[k]:=by
 cases v with
 |ptr p=>rcases p with _|⟨i,o⟩;exact .inl rfl;exact .inr ⟨i,rfl⟩
 |slice p n c x=>rcases p with _|⟨i,o⟩;exact .inl rfl;exact .inr ⟨i,rfl⟩
 |map p=>rcases p with _|i;exact .inl rfl;exact .inr ⟨i,rfl⟩
 |_=>first|exact .inl rfl|exact .inr ⟨_,rfl⟩
theorem OwnR.ids {h:Heap} {lo z:Nat} {v:CV} {l:List (List CV)} (o:OwnR h lo z v l):∀k∈idOf v,lo<=k/\k<h.next:=by
 intro k hk;rcases idOf_one v with e|⟨j,e⟩
 ·rw[e]at hk;cases hk
 ·rw[e]at hk
  rw[List.mem_singleton.1 hk];exact⟨(o.idlt e).2,(o.idlt e).1⟩
theorem OwnR.idNodup (v:CV):(idOf v).Nodup:=by
 rcases idOf_one v with e|⟨j,e⟩<;>rw[e]<;>simp
def OwnRS (h:Heap) (lo:Nat) (e:List CV) (d:RouteS):Prop:=∃u1 u2 u3,e=[.str d.name,u1,u2,u3]/\OwnR h lo 1 u1 (d.stops.map Flat.enc)/\OwnR h lo 1 u2 (d.rides.map Flat.enc)/\OwnR h lo 1 u3 (d.stays.map Flat.enc)
section
variable {h h':Heap} {lo lo':Nat} {e:List CV} {d:RouteS} {x:SheetD}
theorem OwnRS.ext (o:OwnRS h lo e d) (x:Ext h h'):OwnRS h' lo e d:=by
 obtain⟨u1,u2,u3,rfl,o1,o2,o3⟩:=o;exact⟨u1,u2,u3,rfl,o1.ext x,o2.ext x,o3.ext x⟩
theorem OwnRS.low (o:OwnRS h lo e d) (hl:lo'<=lo):OwnRS h lo' e d:=by
 obtain⟨u1,u2,u3,rfl,o1,o2,o3⟩:=o;exact⟨u1,u2,u3,rfl,o1.low hl,o2.low hl,o3.low hl⟩
theorem OwnRS.other (o:OwnRS h lo e d) (hn:h.next<=h'.next) (hk:∀k,k∈idsOf e->h'.get k=h.get k):OwnRS h' lo e d:=by
 obtain⟨u1,u2,u3,rfl,o1,o2,o3⟩:=o;exact⟨u1,u2,u3,rfl,o1.other hn λk _ _ hi=>hk k (by simp[idsOf,hi]),o2.other hn λk _ _ hi=>hk k (by simp[idsOf,hi]),o3.other hn λk _ _ hi=>hk k (by simp[idsOf,hi])⟩
theorem OwnRS.ids (o:OwnRS h lo e d):∀k∈idsOf e,lo<=k/\k<h.next:=by
 obtain⟨u1,u2,u3,rfl,o1,o2,o3⟩:=o;intro k hk;have hk:k∈idOf (.str d.name)++(idOf u1++(idOf u2++(idOf u3++[]))):=hk;simp only[List.mem_append,List.not_mem_nil,or_false]at hk;rcases hk with hk|hk|hk|hk
 ·cases hk
 ·exact OwnR.ids o1 k hk
 ·exact OwnR.ids o2 k hk
 ·exact OwnR.ids o3 k hk
theorem OwnRS.len (o:OwnRS h lo e d):e.length=4:=by
 obtain⟨u1,u2,u3,rfl,_⟩:=o;rfl
theorem OwnRS.rp (o:OwnRS h lo e d):Rp.R h e d:=by
 obtain⟨u1,u2,u3,rfl,o1,o2,o3⟩:=o;exact⟨u1,u2,u3,rfl,o1.toSl,o2.toSl,o3.toSl⟩
def OwnRs (h:Heap) (lo:Nat) (v:CV) (css:List (List CV)) (l:List RouteS):Prop:=OwnR h lo 4 v css/\css.length=l.length/\∀(j:Nat) (e:List CV) (d:RouteS),css[j]? =some e->l[j]? =some d->OwnRS h lo e d
def idsIn (css:List (List CV)):List Nat:=css.flatMap idsOf
theorem OwnRs.ext {v:CV} {css:List (List CV)} {l:List RouteS} (o:OwnRs h lo v css l) (x:Ext h h'):OwnRs h' lo v css l:=
 ⟨o.1.ext x,o.2.1,λj e d he hd=>(o.2.2 j e d he hd).ext x⟩
theorem OwnRs.low {v:CV} {css:List (List CV)} {l:List RouteS} (o:OwnRs h lo v css l) (hl:lo'<=lo):OwnRs h lo' v css l:=
 ⟨o.1.low hl,o.2.1,λj e d he hd=>(o.2.2 j e d he hd).low hl⟩
theorem OwnRs.other {v:CV} {css:List (List CV)} {l:List RouteS} (o:OwnRs h lo v css l) (hn:h.next<=h'.next) (hk:∀k,k∈idOf v++idsIn css->h'.get k=h.get k):OwnRs h' lo v css l:=
 ⟨o.1.other hn λk _ _ hi=>hk k (by simp[hi]),o.2.1,λj e d he hd=>(o.2.2 j e d he hd).other hn λk hi=>hk k (List.mem_append_right _ (List.mem_flatMap.2 ⟨e,List.mem_of_getElem? he,hi⟩))⟩
theorem OwnRs.idsI {v:CV} {css:List (List CV)} {l:List RouteS} (o:OwnRs h lo v css l):∀k∈idsIn css,lo<=k/\k<h.next:=by
 intro k hk;obtain⟨e,he,hi⟩:=List.mem_flatMap.1 hk;obtain⟨j,hj,hej⟩:=List.getElem_of_mem he;have hd:l[j]? =some (l[j]'(by rw[<-o.2.1];exact hj)):=List.getElem?_eq_getElem _;exact(o.2.2 j e _ (by rw[List.getElem?_eq_getElem hj,hej]) hd).ids k hi
theorem OwnRs.toSl {v:CV} {css:List (List CV)} {l:List RouteS} (o:OwnRs h lo v css l):Sl h v l:=
 ⟨css,o.1.sl,o.2.1,λj e d he hd=>(o.2.2 j e d he hd).rp⟩
structure OwnSh (h:Heap) (lo:Nat) (hz:CV) (n1 n2 n3 vr n5 n6:CV) (x:SheetD):Prop where
 hz:hz= .int .i64 x.hz
 o1:OwnR h lo 1 n1 (x.stops.map Flat.enc)
 o2:OwnR h lo 4 n2 (x.paths.map Flat.enc)
 o3:OwnR h lo 7 n3 (x.doors.map Flat.enc)
 o5:OwnR h lo 5 n5 (x.trips.map Flat.enc)
 o6:OwnR h lo 5 n6 (x.hazards.map Flat.enc)
 r:∃css,OwnRs h lo vr css x.routes/\((idOf n1++idOf n2++idOf n3++idOf n5++idOf n6)++(idsIn css++idOf vr)).Nodup
variable {hz n1 n2 n3 vr n5 n6:CV}
theorem OwnSh.rp (o:OwnSh h lo hz n1 n2 n3 vr n5 n6 x):Rp.R h [hz,n1,n2,n3,vr,n5,n6] x:=by
 obtain⟨css,r1,r2⟩:=o.r;refine⟨n1,n2,n3,vr,n5,n6,by rw[o.hz],o.o1.toSl,o.o2.toSl,o.o3.toSl,r1.toSl,o.o5.toSl,o.o6.toSl⟩
end
end Go.CM.Tt

noncomputable section
namespace Go.CM.Tt
section
variable {h h':Heap} {lo:Nat}
abbrev RowE:=Nat×CV×List (List CV)
def idsR (rs:List RowE):List Nat:=rs.flatMap λr=>idOf r.2.1
structure OwnG (h:Heap) (lo:Nat) (rs:List RowE) (xs:List Nat):Prop where
 o:∀r∈rs,OwnR h lo r.1 r.2.1 r.2.2
 nd:(idsR rs++xs).Nodup
 x:∀k∈xs,lo<=k/\k<h.next
theorem OwnG.ext {rs:List RowE} {xs:List Nat} (g:OwnG h lo rs xs) (X:Ext h h'):OwnG h' lo rs xs:=⟨λr hr=>(g.o r hr).ext X,g.nd,λk hk=>⟨(g.x k hk).1,Nat.lt_of_lt_of_le (g.x k hk).2 X.next⟩⟩
theorem OwnG.lt {rs:List RowE} {xs:List Nat} (g:OwnG h lo rs xs):∀k∈idsR rs++xs,lo<=k/\k<h.next:=by
 intro k hk;rcases List.mem_append.1 hk with hk|hk
 ·obtain⟨r,hr,hi⟩:=List.mem_flatMap.1 hk
  exact OwnR.ids (g.o r hr) k hi
 ·exact g.x k hk
theorem OwnG.turn {A B:List RowE} {z:Nat} {v m:CV} {l l':List (List CV)} {xs:List Nat} (g:OwnG h lo (A++(z,v,l)::B) xs) (hn:h.next<=h'.next) (hk:∀k,k<h.next->k<lo\/idOf v≠[k]->h'.get k=h.get k) (om:OwnR h' lo z m l') (hi:idOf m=idOf v\/∃j,idOf m=[j]/\h.next<=j):OwnG h' lo (A++(z,m,l')::B) xs/\∀k∈xs,h'.get k=h.get k:=by
 have e:∀(m:CV) (l:List (List CV)),idsR (A++(z,m,l)::B)++xs=idsR A++(idOf m++(idsR B++xs)):=λm l=>by
  unfold idsR;rw[List.flatMap_append,List.flatMap_cons,List.append_assoc,List.append_assoc]
 have nd:=g.nd;rw[e]at nd;have h1:=List.nodup_append.1 nd;have h2:=List.nodup_append.1 h1.2.1
 have lt:∀k,k∈idsR A\/k∈idsR B++xs->k<h.next:=λk hk=>(g.lt k (by
  rw[e];rcases hk with hk|hk
  ·exact List.mem_append_left _ hk
  ·exact List.mem_append_right _ (List.mem_append_right _ hk))).2
 have ne:∀k,k∈idsR A\/k∈idsR B++xs->idOf v≠[k]:=λk hk e5=>by
  rcases hk with hk|hk
  ·exact h1.2.2 k hk k (by rw[e5];simp) rfl
  ·exact h2.2.2 k (by rw[e5];simp) k hk rfl
 have kp:∀k,k∈idsR A\/k∈idsR B++xs->h'.get k=h.get k:=λk hk2=>hk k (lt k hk2) (.inr (ne k hk2));refine⟨⟨λr hr=> ?_,?_,λk hk=>⟨(g.x k hk).1,Nat.lt_of_lt_of_le (g.x k hk).2 hn⟩⟩,λk hk=>kp k (.inr (List.mem_append_right _ hk))⟩
 ·rcases List.mem_append.1 hr with hr|hr
  ·exact(g.o r (List.mem_append_left _ hr)).other hn λk _ _ hi=>kp k (.inl (List.mem_flatMap.2 ⟨r,hr,by rw[hi];simp⟩))
  ·rcases List.mem_cons.1 hr with rfl|hr
   ·exact om
   ·exact(g.o r (List.mem_append_right _ (List.mem_cons_of_mem _ hr))).other hn λk _ _ hi=>kp k (.inr (List.mem_append_left _ (List.mem_flatMap.2 ⟨r,hr,by rw[hi];simp⟩)))
 ·rw[e]
  rcases hi with hi|⟨jj,hi,hjj⟩
  ·rw[hi];exact nd
  ·rw[hi]
   refine List.nodup_append.2 ⟨h1.1,List.nodup_append.2 ⟨by simp,h2.2.1,λa ha b hb e=> ?_⟩,λa ha b hb e=> ?_⟩
   ·rw[List.mem_singleton]at ha
    have:=lt b (.inr hb);omega
   ·rcases List.mem_append.1 hb with hb|hb
    ·rw[List.mem_singleton]at hb
     have:=lt a (.inl ha);omega
    ·exact h1.2.2 a ha b (List.mem_append_right _ hb) e
theorem OwnG.more {rs:List RowE} {xs:List Nat} {z n:Nat} {v:CV} {l:List (List CV)} (g:OwnG h lo rs xs) (ov:OwnR h lo z v l) (hx:∀k∈idsR rs++xs,k<n) (hv:∀k∈idOf v,n<=k):OwnG h lo (rs++[(z,v,l)]) xs:=by
 refine⟨λr hr=> ?_,?_,g.x⟩
 ·rcases List.mem_append.1 hr with hr|hr
  ·exact g.o r hr
  ·rw[List.mem_singleton.1 hr];exact ov
 ·have h1:=List.nodup_append.1 g.nd
  unfold idsR;rw[List.flatMap_append,List.flatMap_cons,List.flatMap_nil,List.append_nil,List.append_assoc];refine List.nodup_append.2 ⟨h1.1,List.nodup_append.2 ⟨OwnR.idNodup _,h1.2.1,λa ha b hb e=> ?_⟩,λa ha b hb e=> ?_⟩
  ·have:=hv a ha
   have:=hx b (List.mem_append_right _ hb);omega
  ·rcases List.mem_append.1 hb with hb|hb
   ·have:=hv b hb
    have:=hx a (List.mem_append_left _ ha);omega
   ·exact h1.2.2 a ha b hb e
theorem OwnG.nil:OwnG h lo [] []:=⟨(λ_ h=>(by cases h)),(by simp[idsR]),(λ_ h=>(by cases h))⟩
theorem OwnG.low {lo':Nat} {rs:List RowE} {xs:List Nat} (g:OwnG h lo rs xs) (hl:lo'<=lo):OwnG h lo' rs xs:=⟨λr hr=>(g.o r hr).low hl,g.nd,λk hk=>⟨Nat.le_trans hl (g.x k hk).1,(g.x k hk).2⟩⟩
theorem OwnG.keep {rs:List RowE} {xs:List Nat} (g:OwnG h lo rs xs) (hn:h.next<=h'.next) (hk:∀k∈idsR rs++xs,h'.get k=h.get k):OwnG h' lo rs xs:=
 ⟨λr hr=>(g.o r hr).other hn λk _ _ hi=>hk k (List.mem_append_left _ (List.mem_flatMap.2 ⟨r,hr,by rw[hi];simp⟩)),g.nd,λk hk2=>⟨(g.x k hk2).1,Nat.lt_of_lt_of_le (g.x k hk2).2 hn⟩⟩
def OwnGB (h:Heap) (lo n:Nat) (rs:List RowE):Prop:=OwnG h lo rs []/\∀k∈idsR rs,k<n
theorem OwnGB.nil:OwnGB h lo lo []:=⟨OwnG.nil,λk hk=>by simp[idsR]at hk⟩
theorem OwnGB.more {rs:List RowE} {z n n1 n2:Nat} {v:CV} {l:List (List CV)} (g:OwnGB h lo n rs) (ov:OwnR h lo z v l) (hv:∀k∈idOf v,n1<=k/\k<n2) (h1:n<=n1) (h2:n1<=n2):OwnGB h lo n2 (rs++[(z,v,l)]):=by
 refine⟨g.1.more (n:=n1) ov (λk hk=> ?_) (λk hk=>(hv k hk).1),λk hk=> ?_⟩
 ·rw[List.append_nil]at hk
  exact Nat.lt_of_lt_of_le (g.2 k hk) h1
 ·unfold idsR at hk
  rw[List.flatMap_append,List.mem_append]at hk;rcases hk with hk|hk
  ·have:=g.2 k hk;omega
  ·rw[List.flatMap_cons,List.flatMap_nil,List.append_nil]at hk
   exact(hv k hk).2
end
end Go.CM.Tt

noncomputable section
namespace Go.CM.Tt
def OwnRW (h:Heap) (lo:Nat) (e:List CV) (d:RouteW):Prop:=∃u1 u2 u3,e=[u1,u2,u3]/\OwnR h lo 1 u1 (d.stops.map Flat.enc)/\OwnR h lo 1 u2 (d.rides.map Flat.enc)/\OwnR h lo 1 u3 (d.stays.map Flat.enc)
section
variable {h h':Heap} {lo lo':Nat} {e:List CV} {d:RouteW}
theorem OwnRW.ext (o:OwnRW h lo e d) (x:Ext h h'):OwnRW h' lo e d:=by
 obtain⟨u1,u2,u3,rfl,o1,o2,o3⟩:=o;exact⟨u1,u2,u3,rfl,o1.ext x,o2.ext x,o3.ext x⟩
theorem OwnRW.low (o:OwnRW h lo e d) (hl:lo'<=lo):OwnRW h lo' e d:=by
 obtain⟨u1,u2,u3,rfl,o1,o2,o3⟩:=o;exact⟨u1,u2,u3,rfl,o1.low hl,o2.low hl,o3.low hl⟩
theorem OwnRW.other (o:OwnRW h lo e d) (hn:h.next<=h'.next) (hk:∀k,k∈idsOf e->h'.get k=h.get k):OwnRW h' lo e d:=by
 obtain⟨u1,u2,u3,rfl,o1,o2,o3⟩:=o;exact⟨u1,u2,u3,rfl,o1.other hn λk _ _ hi=>hk k (by simp[idsOf,hi]),o2.other hn λk _ _ hi=>hk k (by simp[idsOf,hi]),o3.other hn λk _ _ hi=>hk k (by simp[idsOf,hi])⟩
theorem OwnRW.ids (o:OwnRW h lo e d):∀k∈idsOf e,lo<=k/\k<h.next:=by
 obtain⟨u1,u2,u3,rfl,o1,o2,o3⟩:=o;intro k hk;have hk:k∈idOf u1++(idOf u2++(idOf u3++[])):=hk;simp only[List.mem_append,List.not_mem_nil,or_false]at hk;rcases hk with hk|hk|hk
 ·exact OwnR.ids o1 k hk
 ·exact OwnR.ids o2 k hk
 ·exact OwnR.ids o3 k hk
theorem OwnRW.rp (o:OwnRW h lo e d):Rp.R h e d:=by
 obtain⟨u1,u2,u3,rfl,o1,o2,o3⟩:=o;exact⟨u1,u2,u3,rfl,o1.toSl,o2.toSl,o3.toSl⟩
def OwnRws (h:Heap) (lo:Nat) (v:CV) (css:List (List CV)) (l:List RouteW):Prop:=OwnR h lo 3 v css/\css.length=l.length/\∀(j:Nat) (e:List CV) (d:RouteW),css[j]? =some e->l[j]? =some d->OwnRW h lo e d
theorem OwnRws.ext {v:CV} {css:List (List CV)} {l:List RouteW} (o:OwnRws h lo v css l) (x:Ext h h'):OwnRws h' lo v css l:=
 ⟨o.1.ext x,o.2.1,λj e d he hd=>(o.2.2 j e d he hd).ext x⟩
theorem OwnRws.low {v:CV} {css:List (List CV)} {l:List RouteW} (o:OwnRws h lo v css l) (hl:lo'<=lo):OwnRws h lo' v css l:=
 ⟨o.1.low hl,o.2.1,λj e d he hd=>(o.2.2 j e d he hd).low hl⟩
theorem OwnRws.other {v:CV} {css:List (List CV)} {l:List RouteW} (o:OwnRws h lo v css l) (hn:h.next<=h'.next) (hk:∀k,k∈idOf v++idsIn css->h'.get k=h.get k):OwnRws h' lo v css l:=
 ⟨o.1.other hn λk _ _ hi=>hk k (by simp[hi]),o.2.1,λj e d he hd=>(o.2.2 j e d he hd).other hn λk hi=>hk k (List.mem_append_right _ (List.mem_flatMap.2 ⟨e,List.mem_of_getElem? he,hi⟩))⟩
theorem OwnRws.idsI {v:CV} {css:List (List CV)} {l:List RouteW} (o:OwnRws h lo v css l):∀k∈idsIn css,lo<=k/\k<h.next:=by
 intro k hk;obtain⟨e,he,hi⟩:=List.mem_flatMap.1 hk;obtain⟨j,hj,hej⟩:=List.getElem_of_mem he;have hd:l[j]? =some (l[j]'(by rw[<-o.2.1];exact hj)):=List.getElem?_eq_getElem _;exact(o.2.2 j e _ (by rw[List.getElem?_eq_getElem hj,hej]) hd).ids k hi
theorem OwnRws.toSl {v:CV} {css:List (List CV)} {l:List RouteW} (o:OwnRws h lo v css l):Sl h v l:=
 ⟨css,o.1.sl,o.2.1,λj e d he hd=>(o.2.2 j e d he hd).rp⟩
def WorldD.small (w:WorldD):Prop:=w.names.stops.length<=1048576/\w.names.paths.length<=1048576/\w.names.doors.length<=1048576/\w.names.routes.length<=1048576/\w.names.trips.length<=1048576/\w.names.hazards.length<=1048576/\w.paths.length<=1048576/\w.doors.length<=1048576/\w.routes.length<=1048576/\w.trips.length<=1048576/\w.hazards.length<=1048576/\∀r∈w.routes,r.stops.length<=1048576/\r.rides.length<=1048576/\r.stays.length<=1048576
def flatW (w:WorldD) (p d t z m1 m2 m3 m4 m5 m6:CV):List RowE:=[(3,p,w.paths.map Flat.enc),(6,d,w.doors.map Flat.enc),(4,t,w.trips.map Flat.enc),(5,z,w.hazards.map Flat.enc),(1,m1,w.names.stops.map Flat.enc),(1,m2,w.names.paths.map Flat.enc),(1,m3,w.names.doors.map Flat.enc),(1,m4,w.names.routes.map Flat.enc),(1,m5,w.names.trips.map Flat.enc),(1,m6,w.names.hazards.map Flat.enc)]
structure OwnWd (h:Heap) (lo:Nat) (hz m1 m2 m3 m4 m5 m6 p d vr t z:CV) (w:WorldD):Prop where
 hz:hz= .int .i64 w.hz
 r:∃css,OwnRws h lo vr css w.routes/\OwnG h lo (flatW w p d t z m1 m2 m3 m4 m5 m6++[(3,vr,css)]) (idsIn css)
theorem OwnWd.ext {hz m1 m2 m3 m4 m5 m6 p d vr t z:CV} {w:WorldD} (o:OwnWd h lo hz m1 m2 m3 m4 m5 m6 p d vr t z w) (X:Ext h h'):OwnWd h' lo hz m1 m2 m3 m4 m5 m6 p d vr t z w:=by
 obtain⟨css,r1,r2⟩:=o.r;exact⟨o.hz,css,r1.ext X,r2.ext X⟩
theorem OwnWd.rp {hz m1 m2 m3 m4 m5 m6 p d vr t z:CV} {w:WorldD} (o:OwnWd h lo hz m1 m2 m3 m4 m5 m6 p d vr t z w):Rp.R h [hz,m1,m2,m3,m4,m5,m6,p,d,vr,t,z] w:=by
 obtain⟨css,r1,r2⟩:=o.r;have g:∀(j:Nat) {a:Nat} {v:CV} {l:List (List CV)},(flatW w p d t z m1 m2 m3 m4 m5 m6)[j]? =some (a,v,l)->OwnR h lo a v l:=λj {_ _ _} hm=>r2.o _ (List.mem_append_left _ (List.mem_of_getElem? hm));refine⟨m1,m2,m3,m4,m5,m6,p,d,vr,t,z,by rw[o.hz],?_,?_,?_,?_,?_,?_,?_,?_,r1.toSl,?_,?_⟩
 ·exact OwnR.toSl (α:=Str) (lo:=lo) (g 4 rfl)
 ·exact OwnR.toSl (α:=Str) (lo:=lo) (g 5 rfl)
 ·exact OwnR.toSl (α:=Str) (lo:=lo) (g 6 rfl)
 ·exact OwnR.toSl (α:=Str) (lo:=lo) (g 7 rfl)
 ·exact OwnR.toSl (α:=Str) (lo:=lo) (g 8 rfl)
 ·exact OwnR.toSl (α:=Str) (lo:=lo) (g 9 rfl)
 ·exact OwnR.toSl (α:=PathW) (lo:=lo) (g 0 rfl)
 ·exact OwnR.toSl (α:=DoorW) (lo:=lo) (g 1 rfl)
 ·exact OwnR.toSl (α:=TripW) (lo:=lo) (g 2 rfl)
 ·exact OwnR.toSl (α:=HazW) (lo:=lo) (g 3 rfl)
end
end Go.CM.Tt

namespace Go.Proofs.YtmgpjfnlciapkaaGreatDoor
open Go Go.CM Go.CM.Tt
noncomputable section
set_option maxHeartbeats 16000000
set_option maxRecDepth 100000
theorem in_w {h:Heap} {tm:Tm} {Q:R->Prop} {v:CV} {l:List Str} (sl:Sl h v l) (n:Int) (q:∀b:Bool,(b=true↔inL n l)->Q (.val (.bool b) h)):W E1 (.call (.fn 126 [] []) [v,.int .i64 n]) tm h Q:=by
 refine W.fn (s:=fnOf Tryz.f126) rfl rfl rfl rfl ?_;by_cases c:0<=n
 ·by_cases d:n<l.length
  ·repeat refine W.g ?_
   exact q true (Iff.intro (λ_=>⟨c,d⟩) (λ_=>rfl))
  ·repeat refine W.g ?_
   exact q false (Iff.intro (λh=>by cases h) (λh=>absurd h.2 d))
 ·repeat refine W.g ?_
  exact q false (Iff.intro (λh=>by cases h) (λh=>absurd h.1 c))
structure WCtx (H:Heap) (b3 b4 b5:Nat) (v1 v2 v3 v4 v5 v6:CV) (n:NamesD):Prop where
 l3:LocE H b3 0 [v1,v2,v3,v4,v5,v6]
 l4:LocE H b4 0 [.fn 126 [] []]
 l5:LocE H b5 0 [.fn 127 [] [.ptr (some (b4,0)),.ptr (some (b3,0))]]
 s1:Sl H v1 n.stops
 s2:Sl H v2 n.paths
 s4:Sl H v4 n.routes
section
variable {H h:Heap} {tm:Tm} {Q:R->Prop} {b3 b4 b5:Nat} {v1 v2 v3 v4 v5 v6:CV} {n:NamesD}
theorem oddS_w (c:WCtx H b3 b4 b5 v1 v2 v3 v4 v5 v6 n) (X:Ext H h) (i:Int) (q:∀b:Bool,(b=true↔¬inL i n.stops)->Q (.val (.bool b) h)):W E1 (.call (.fn 127 [] [.ptr (some (b4,0)),.ptr (some (b3,0))]) [.int .i64 i]) tm h Q:=by
 obtain⟨l3,l4,l5,s1,s2,s4⟩:=c;refine W.fn (s:=fnOf Tryz.f127) rfl rfl rfl rfl ?_;repeat refine W.g ?_
 refine W.call rfl rfl rfl (in_w (s1.ext X) i λb hb=> ?_);cases b
 ·repeat refine W.g ?_
  exact q true (Iff.intro (λ_ h=>by cases hb.2 h) (λ_=>rfl))
 ·repeat refine W.g ?_
  exact q false (Iff.intro (λh=>by cases h) (λh=>absurd (hb.1 rfl) h))
theorem odd3_w (c:WCtx H b3 b4 b5 v1 v2 v3 v4 v5 v6 n) (X:Ext H h) (d:PathW) (q:∀h2 (b:Bool),Ext h h2->(b=true↔¬inL d.a n.stops\/¬inL d.b n.stops)->Q (.val (.bool b) h2)):W E1 (.call (.fn 129 [] [.ptr (some (b5,0))]) [.agg d.enc]) tm h Q:=by
 have l5:=c.l5;refine W.fn (s:=fnOf Tryz.f129) rfl rfl rfl rfl ?_;repeat (first|refine W.g ?_|refine W.m λh_ X_ n_ g_ L_=> ?_)
 have X1:Ext h h_:=X_;refine W.call rfl rfl rfl (oddS_w c (X.trans X_) d.a λb hb=> ?_);cases b
 ·repeat refine W.g ?_
  refine W.call rfl rfl rfl (oddS_w c (X.trans X_) d.b λb hb2=> ?_);cases b
  ·repeat refine W.g ?_
   exact q _ false X1 (Iff.intro (λh=>by cases h) (λh=>by rcases h with h|h;exact hb.2 h;exact hb2.2 h))
  ·repeat refine W.g ?_
   exact q _ true X1 (Iff.intro (λ_=> .inr (hb2.1 rfl)) (λ_=>rfl))
 ·repeat refine W.g ?_
  exact q _ true X1 (Iff.intro (λ_=> .inl (hb.1 rfl)) (λ_=>rfl))
theorem odd4_w (c:WCtx H b3 b4 b5 v1 v2 v3 v4 v5 v6 n) (X:Ext H h) (d:DoorW) (q:∀h2 (b:Bool),Ext h h2->(b=true↔¬inL d.a n.stops\/¬inL d.b n.stops)->Q (.val (.bool b) h2)):W E1 (.call (.fn 131 [] [.ptr (some (b5,0))]) [.agg d.enc]) tm h Q:=by
 have l5:=c.l5;refine W.fn (s:=fnOf Tryz.f131) rfl rfl rfl rfl ?_;repeat (first|refine W.g ?_|refine W.m λh_ X_ n_ g_ L_=> ?_)
 have X1:Ext h h_:=X_;refine W.call rfl rfl rfl (oddS_w c (X.trans X_) d.a λb hb=> ?_);cases b
 ·repeat refine W.g ?_
  refine W.call rfl rfl rfl (oddS_w c (X.trans X_) d.b λb hb2=> ?_);cases b
  ·repeat refine W.g ?_
   exact q _ false X1 (Iff.intro (λh=>by cases h) (λh=>by rcases h with h|h;exact hb.2 h;exact hb2.2 h))
  ·repeat refine W.g ?_
   exact q _ true X1 (Iff.intro (λ_=> .inr (hb2.1 rfl)) (λ_=>rfl))
 ·repeat refine W.g ?_
  exact q _ true X1 (Iff.intro (λ_=> .inl (hb.1 rfl)) (λ_=>rfl))
theorem odd5_w (c:WCtx H b3 b4 b5 v1 v2 v3 v4 v5 v6 n) (X:Ext H h) {e:List CV} {d:RouteW} (r:Rp.R h e d) (hm:d.stops.length<=1099511627776) (q:∀h2 (b:Bool),Ext h h2->(b=true↔∃s,s∈d.stops/\¬inL s n.stops)->Q (.val (.bool b) h2)):W E1 (.call (.fn 133 [] [.ptr (some (b5,0))]) [.agg e]) tm h Q:=by
 have l5:=c.l5;obtain⟨u1,u2,u3,rfl,t1,t2,t3⟩:=r;refine W.fn (s:=fnOf Tryz.f133) rfl rfl rfl rfl ?_;repeat (first|refine W.g ?_|refine W.m λh_ X_ n_ g_ L_=> ?_)
 have X1:Ext h h_:=X_;refine W.call rfl rfl rfl (conF_nt _ [] _ (λs=>¬inL s n.stops) (t1.ext X_) hm (λd _ tm h' Q X' q=>oddS_w c ((X.trans X1).trans X') d λb hb=>q _ b (Ext.refl _) hb) λh2 b X2 hb=> ?_);repeat refine W.g ?_
 exact q _ b (X1.trans X2) hb
theorem odd6_w (c:WCtx H b3 b4 b5 v1 v2 v3 v4 v5 v6 n) (X:Ext H h) (d:TripW) (q:∀h2 (b:Bool),Ext h h2->(b=true↔¬inL d.route n.routes)->Q (.val (.bool b) h2)):W E1 (.call (.fn 136 [] [.ptr (some (b4,0)),.ptr (some (b3,0))]) [.agg d.enc]) tm h Q:=by
 obtain⟨l3,l4,l5,s1,s2,s4⟩:=c;refine W.fn (s:=fnOf Tryz.f136) rfl rfl rfl rfl ?_;repeat (first|refine W.g ?_|refine W.m λh_ X_ n_ g_ L_=> ?_)
 have X1:Ext h h_:=X_;refine W.call rfl rfl rfl (in_w (s4.ext (X.trans X1)) d.route λb hb=> ?_);cases b
 ·repeat refine W.g ?_
  exact q _ true X1 (Iff.intro (λ_ h=>by cases hb.2 h) (λ_=>rfl))
 ·repeat refine W.g ?_
  exact q _ false X1 (Iff.intro (λh=>by cases h) (λh=>absurd (hb.1 rfl) h))
theorem odd7_w (c:WCtx H b3 b4 b5 v1 v2 v3 v4 v5 v6 n) (X:Ext H h) (d:HazW) (q:∀h2 (b:Bool),Ext h h2->(b=true↔¬inL d.on (if d.stop then n.stops else n.paths))->Q (.val (.bool b) h2)):W E1 (.call (.fn 138 [] [.ptr (some (b5,0)),.ptr (some (b4,0)),.ptr (some (b3,0))]) [.agg d.enc]) tm h Q:=by
 obtain⟨st,on,tt⟩:=d;have c0:=c;obtain⟨l3,l4,l5,s1,s2,s4⟩:=c;refine W.fn (s:=fnOf Tryz.f138) rfl rfl rfl rfl ?_;cases st
 ·repeat (first|refine W.g ?_|refine W.m λh_ X_ n_ g_ L_=> ?_)
  have X1:Ext h h_:=X_;refine W.call rfl rfl rfl (in_w (s2.ext (X.trans X1)) on λb hb=> ?_);cases b
  ·repeat refine W.g ?_
   exact q _ true X1 (Iff.intro (λ_ h=>by cases hb.2 h) (λ_=>rfl))
  ·repeat refine W.g ?_
   exact q _ false X1 (Iff.intro (λh=>by cases h) (λh=>absurd (hb.1 rfl) h))
 ·repeat (first|refine W.g ?_|refine W.m λh_ X_ n_ g_ L_=> ?_)
  have X1:Ext h h_:=X_;refine W.call rfl rfl rfl (oddS_w c0 (X.trans X1) on λb hb=> ?_);repeat refine W.g ?_
  exact q _ b X1 hb
end
theorem whole_w {h:Heap} {tm:Tm} {Q:R->Prop} {cs:List CV} {w:WorldD} (r:Rp.R h cs w) (sm:w.small) (q:∀h' (b:Bool),Ext h h'->(b=true↔w.whole)->Q (.val (.bool b) h')):W E1 (.call (.fn 62 [] []) [.agg cs]) tm h Q:=by
 obtain⟨v1,v2,v3,v4,v5,v6,v7,v8,v9,v10,v11,rfl,s1,s2,s3,s4,s5,s6,s7,s8,s9,s10,s11⟩:=r;obtain⟨f1,f2,f3,f4,f5,f6,f7,f8,f9,f10,f11,fr2⟩:=sm;refine W.fn (s:=fnOf Tryz.f62) rfl rfl rfl rfl ?_;repeat (refine W.seq ?_)
 refine W.region ?_;refine W.box rfl rfl rfl λHa Xa na ga La=> ?_;repeat (first|refine W.g ?_|refine W.m λh_ X_ n_ g_ L_=> ?_)
 have L3:LocE h_ Ha.next 0 [v1,v2,v3,v4,v5,v6]:=L_;have Xh:=Xa.trans X_;have La:=La.ext X_;obtain⟨H,hH⟩:∃H,H=h_:=⟨_,rfl⟩;rw[<-hH]at L3 Xh La ⊢;clear L_ g_;refine W.k4 1 2 3 15 λT=> ?_;rcases Decidable.em (w.names.paths.length=w.paths.length)with e1|e1
 case inr=>
  repeat refine W.g ?_
  exact q _ false Xh (Iff.intro (λh=>by cases h) (λh=>absurd h.1.1 e1))
 repeat refine W.g ?_
 refine W.k4 1 2 3 24 λT=> ?_;rcases Decidable.em (w.names.doors.length=w.doors.length)with e2|e2
 case inr=>
  repeat refine W.g ?_
  exact q _ false Xh (Iff.intro (λh=>by cases h) (λh=>absurd h.1.2.1 e2))
 repeat refine W.g ?_
 refine W.k4 1 2 3 33 λT=> ?_;rcases Decidable.em (w.names.routes.length=w.routes.length)with e3|e3
 case inr=>
  repeat refine W.g ?_
  exact q _ false Xh (Iff.intro (λh=>by cases h) (λh=>absurd h.1.2.2.1 e3))
 repeat refine W.g ?_
 refine W.k4 1 2 3 42 λT=> ?_;rcases Decidable.em (w.names.trips.length=w.trips.length)with e4|e4
 case inr=>
  repeat refine W.g ?_
  exact q _ false Xh (Iff.intro (λh=>by cases h) (λh=>absurd h.1.2.2.2.1 e4))
 repeat refine W.g ?_
 rcases Decidable.em (w.names.hazards.length=w.hazards.length)with e5|e5
 case inr=>
  repeat refine W.g ?_
  exact q _ false Xh (Iff.intro (λh=>by cases h) (λh=>absurd h.1.2.2.2.2 e5))
 repeat (first|refine W.g ?_|refine W.m λh_ X_ n_ g_ L_=> ?_)
 rename_i K4 X4 n4 g4 L4;obtain⟨b4,hb4⟩:∃b4,b4=H.next:=⟨_,rfl⟩;obtain⟨b5,hb5⟩:∃b5,b5=K4.next:=⟨_,rfl⟩;have X45:Ext H h_:=X4.trans X_;have C:WCtx h_ Ha.next b4 b5 v1 v2 v3 v4 v5 v6 w.names:=⟨L3.ext X45,by rw[hb4];exact L4.ext X_,by rw[hb4,hb5];exact L_,(s1.ext Xh).ext X45,(s2.ext Xh).ext X45,(s4.ext Xh).ext X45⟩;have XK:Ext h h_:=Xh.trans X45;have La:=La.ext X45;rw[<-hb4,<-hb5];obtain⟨K,hK⟩:∃K,K=h_:=⟨_,rfl⟩;rw[<-hK]at C XK La ⊢;clear X4 X_ g4 L4 g_ L_ L3;refine W.k7 1 2 4 5 3 53 54 λT=> ?_;refine W.call rfl rfl rfl (conF_pathW _ [] _ (λd=>¬inL d.a w.names.stops\/¬inL d.b w.names.stops) (s7.ext XK) (by omega) (λd _ tm h' Q X' q=>odd3_w C X' d q) λh2 p2 X2 hp2=> ?_);cases p2
 case true=>
  repeat refine W.g ?_
  refine q _ false (XK.trans X2) (Iff.intro (λh=>by cases h) (λhw=> ?_));obtain⟨d,hd,hn⟩:=hp2.1 rfl;have:=hw.2.1 d hd;rcases hn with hn|hn
  ·exact absurd this.1 hn
  ·exact absurd this.2 hn
 refine W.k6 1 2 4 5 3 55 λT=> ?_;repeat refine W.g ?_
 refine W.call rfl rfl rfl (conF_doorW _ [] _ (λd=>¬inL d.a w.names.stops\/¬inL d.b w.names.stops) (s8.ext (XK.trans X2)) (by omega) (λd _ tm h' Q X' q=>odd4_w C (X2.trans X') d q) λh3 p3 X3 hp3=> ?_);have Y3:=X2.trans X3;cases p3
 case true=>
  repeat refine W.g ?_
  refine q _ false (XK.trans Y3) (Iff.intro (λh=>by cases h) (λhw=> ?_));obtain⟨d,hd,hn⟩:=hp3.1 rfl;have:=hw.2.2.1 d hd;rcases hn with hn|hn
  ·exact absurd this.1 hn
  ·exact absurd this.2 hn
 refine W.k7 1 2 4 5 3 57 61 λT=> ?_;repeat refine W.g ?_
 refine W.call rfl rfl rfl (conF_routeW _ [] _ (λd=>∃s,s∈d.stops/\¬inL s w.names.stops) (s9.ext (XK.trans Y3)) (by omega) (λd hd e re tm h' Q X' q=>odd5_w C (Y3.trans X') (Rp.ext X' re) (by have:=(fr2 d hd).1;omega) q) λh4 p4 X4 hp4=> ?_);have Y4:=Y3.trans X4;cases p4
 case true=>
  repeat refine W.g ?_
  refine q _ false (XK.trans Y4) (Iff.intro (λh=>by cases h) (λhw=> ?_));obtain⟨d,hd,s,hs,hn⟩:=hp4.1 rfl;exact absurd (hw.2.2.2.1 d hd s hs) hn
 refine W.k7 1 2 4 5 3 64 68 λT=> ?_;repeat refine W.g ?_
 refine W.call rfl rfl rfl (conF_tripW _ [] _ (λd=>¬inL d.route w.names.routes) (s10.ext (XK.trans Y4)) (by omega) (λd _ tm h' Q X' q=>odd6_w C (Y4.trans X') d q) λh5 p5 X5 hp5=> ?_);have Y5:=Y4.trans X5;cases p5
 case true=>
  repeat refine W.g ?_
  refine q _ false (XK.trans Y5) (Iff.intro (λh=>by cases h) (λhw=> ?_));obtain⟨d,hd,hn⟩:=hp5.1 rfl;exact absurd (hw.2.2.2.2.1 d hd) hn
 refine W.k7 1 2 4 5 3 71 75 λT=> ?_;repeat refine W.g ?_
 refine W.call rfl rfl rfl (conF_hazW _ [] _ (λd=>¬inL d.on (if d.stop then w.names.stops else w.names.paths)) (s11.ext (XK.trans Y5)) (by omega) (λd _ tm h' Q X' q=>odd7_w C (Y5.trans X') d q) λh6 p6 X6 hp6=> ?_)
 have Y6:=Y5.trans X6;cases p6
 case true=>
  repeat refine W.g ?_
  refine q _ false (XK.trans Y6) (Iff.intro (λh=>by cases h) (λhw=> ?_));obtain⟨d,hd,hn⟩:=hp6.1 rfl;exact absurd (hw.2.2.2.2.2 d hd) hn
 repeat refine W.g ?_
 have no:∀{α:Type} {l:List α} {P:α->Prop},(false=true↔∃d,d∈l/\P d)->∀d∈l,¬P d:=λh d hd hp=>by cases h.2 ⟨d,hd,hp⟩
 refine q _ true (XK.trans Y6) (Iff.intro (λ_=>⟨⟨e1,e2,e3,e4,e5⟩,λd hd=> ?_,λd hd=> ?_,λd hd s hs=> ?_,λd hd=> ?_,λd hd=> ?_⟩) (λ_=>rfl))
 ·have:=no hp2 d hd
  exact⟨Classical.not_not.1 λh=>this (.inl h),Classical.not_not.1 λh=>this (.inr h)⟩
 ·have:=no hp3 d hd
  exact⟨Classical.not_not.1 λh=>this (.inl h),Classical.not_not.1 λh=>this (.inr h)⟩
 ·exact Classical.not_not.1 λh=>no hp4 d hd ⟨s,hs,h⟩
 ·exact Classical.not_not.1 (no hp5 d hd)
 ·exact Classical.not_not.1 (no hp6 d hd)
end
end Go.Proofs.YtmgpjfnlciapkaaGreatDoor
