/- A sheet that is handed in: what memory says of it. No condition, no program. -/
import Derived.Test.YtnjkaahbhebaeaaGreatDoorYA
import Derived.Test.YtnjkaahbhebaeaaGreatDoorCmZ
set_option linter.unusedVariables false
set_option linter.unusedSimpArgs false
noncomputable section
namespace Go.CM.Tt
open Go.CM
theorem choose_list {α β:Type} {R:α->β->Prop}:∀{xs:List α},(∀x∈xs,∃y,R x y)->∃ys:List β,ys.length=xs.length/\∀(j:Nat) (x:α) (y:β),xs[j]? =some x->ys[j]? =some y->R x y
 |[],_=>⟨[],rfl,λj x y h=>by simp at h⟩
 |x::xs,h=>by
  obtain⟨y,hy⟩:=h x (by simp);obtain⟨ys,h1,h2⟩:=choose_list (R:=R) (xs:=xs) λz hz=>h z (List.mem_cons_of_mem _ hz);refine⟨y::ys,by simp[h1],λj a b ha hb=> ?_⟩;cases j with
  |zero=>simp at ha hb;subst ha hb;exact hy
  |succ j=>exact h2 j a b (by simpa using ha) (by simpa using hb)
theorem rep_int {h:Heap} {k:IntKind} {vs:List CV} {d:Dat} (r:Rep h (.int k) vs d):∃n,vs=[.int k n]:=by
 cases r with
 |int _ n _=>exact⟨n,rfl⟩
theorem rep_str {h:Heap} {vs:List CV} {d:Dat} (r:Rep h .str vs d):∃s:Str,vs=[.str s]:=by
 cases r with
 |str s _=>exact⟨s,rfl⟩
theorem rep_bool {h:Heap} {vs:List CV} {d:Dat} (r:Rep h .bool vs d):∃b,vs=[.bool b]:=by
 cases r with
 |bool b=>exact⟨b,rfl⟩
theorem rep_slice {h:Heap} {e:PT} {vs:List CV} {d:Dat} (r:Rep h (.slice e) vs d):∃v vss,vs=[v]/\SlG h e.size v vss/\∀u∈vss,∃d,Rep h e u d:=by
 obtain⟨v,ds,rfl,rfl⟩:∃v ds,vs=[v]/\d= .row ds:=by
  cases r with
  |nil=>exact⟨_,_,rfl,rfl⟩
  |emp=>exact⟨_,_,rfl,rfl⟩
  |row=>exact⟨_,_,rfl,rfl⟩
 obtain⟨vss,h1,h2,h3⟩:=r.sl;refine⟨v,vss,rfl,h1,λu hu=> ?_⟩;obtain⟨j,hj⟩:=List.getElem?_of_mem hu;have hl:=(List.getElem?_eq_some_iff.1 hj).1;exact⟨_,h3 j u _ hj (List.getElem?_eq_getElem (by omega))⟩
theorem rep_struct {h:Heap} {Ts:List PT} {vs:List CV} {d:Dat} (r:Rep h (.struct Ts) vs d):∃vss:List (List CV),vs=vss.flatten/\vss.length=Ts.length/\∀(j:Nat) (T:PT) (u:List CV),Ts[j]? =some T->vss[j]? =some u->∃d,Rep h T u d:=by
 cases r with
 |struct _ vss ds h1 h2 hr=>
  refine⟨vss,rfl,h1,λj T u hT hu=> ?_⟩;have hl:=(List.getElem?_eq_some_iff.1 hT).1;exact⟨_,hr j T u _ hT hu (List.getElem?_eq_getElem (by omega))⟩
theorem rep_sl {h:Heap} {α:Type} [Rp α] {T:PT} {vs:List CV} {d:Dat} (hz:T.size=Rp.z α) (f:∀vs d,Rep h T vs d->∃a:α,Rp.R h vs a) (r:Rep h (.slice T) vs d):∃(v:CV) (l:List α),vs=[v]/\Sl h v l:=by
 obtain⟨v,vss,rfl,h1,h2⟩:=rep_slice r
 obtain⟨l,l1,l2⟩:=choose_list (R:=λ(x:List CV) (a:α)=>Rp.R h x a) (xs:=vss) λx hx=>by
  obtain⟨d,hd⟩:=h2 x hx;exact f x d hd
 exact⟨v,l,rfl,vss,by rw[<-hz];exact h1,l1.symm,l2⟩
theorem rep_sstr {h:Heap} {vs:List CV} {d:Dat} (r:Rep h (.slice .str) vs d):∃(v:CV) (l:List Str),vs=[v]/\Sl h v l:=rep_sl rfl (λvs d r=>rep_str r) r
theorem rep_sint {h:Heap} {vs:List CV} {d:Dat} (r:Rep h (.slice (.int .i64)) vs d):∃(v:CV) (l:List Int),vs=[v]/\Sl h v l:=rep_sl rfl (λvs d r=>rep_int r) r
def ptTimes:PT:= .struct [.int .i64,.int .i64,.int .i64]
theorem rep_times {h:Heap} {vs:List CV} {d:Dat} (r:Rep h ptTimes vs d):∃x:Times,Rp.R h vs x:=by
 obtain⟨vss,rfl,hl,hr⟩:=rep_struct r
 match vss,hl with
 |[c0,c1,c2],_=>
  obtain⟨_,r0⟩:=hr 0 _ c0 rfl rfl;obtain⟨x0,rfl⟩:=rep_int r0;obtain⟨_,r1⟩:=hr 1 _ c1 rfl rfl;obtain⟨x1,rfl⟩:=rep_int r1;obtain⟨_,r2⟩:=hr 2 _ c2 rfl rfl;obtain⟨x2,rfl⟩:=rep_int r2;exact⟨⟨x0,x1,x2⟩,rfl⟩
end Go.CM.Tt

noncomputable section
namespace Go.CM
theorem open_vals {H:Type} {enc:TypeId×Value->H} {P:Program} {W:World}:∀(items:List (PT×Value)),(∀it∈items,∃t d ps,PTok P it.1 t/\DataW.Trod enc P W 0 (λ_=>true) true t it.2 d ps)->∀base,
  ∃(bs:List ArgB) (vss:List (List CV)),vss.length=items.length/\(∀b∈bs,ArgOk W b)/\
   (∀ρ,Placed ρ base bs->(∀b∈bs,ArgVR W ρ b)/\∀(i:Nat) (it:PT×Value) (vs:List CV),items[i]? =some it->vss[i]? =some vs->VRs ρ vs it.2.cells.toList)/\
   (∀vs∈vss,∀c∈vs,c.one=true)/\
   ∀h,Laid h base bs->∀(i:Nat) (it:PT×Value) (vs:List CV),items[i]? =some it->vss[i]? =some vs->∃d,Rep h it.1 vs d
 |[],_,base=>⟨[],[],rfl,λb hb=>by simp at hb,λρ _=>⟨λb hb=>by simp at hb,λi it vs h=>by simp at h⟩,λvs h=>by simp at h,λh _ i it vs hi=>by simp at hi⟩
 |it::items,hit,base=>by
  obtain⟨t,d,ps,ok,fuel,ht⟩:=hit it (by simp);obtain⟨vs0,bs0,d0,o⟩:=open_pt ok fuel _ _ ht base;obtain⟨bs,vss,k1,k2,k3,k4,k5⟩:=open_vals items (λx hx=>hit x (List.mem_cons_of_mem _ hx)) (base+bs0.length);refine⟨bs0++bs,vs0::vss,by simp[k1],λb hb=> ?_,λρ p=>⟨λb hb=> ?_,λi x vs h1 h2=> ?_⟩,λvs hv=> ?_,λh p i x vs h1 h2=> ?_⟩
  ·rcases List.mem_append.1 hb with hb|hb
   ·exact o.ok b hb
   ·exact k2 b hb
  ·rcases List.mem_append.1 hb with hb|hb
   ·exact(o.vr ρ p.split.1).2 b hb
   ·exact(k3 ρ p.split.2).1 b hb
  ·cases i with
   |zero=>simp at h1 h2;subst h1 h2;exact(o.vr ρ p.split.1).1
   |succ i=>exact(k3 ρ p.split.2).2 i x vs (by simpa using h1) (by simpa using h2)
  ·rcases List.mem_cons.1 hv with rfl|hv
   ·exact o.one
   ·exact k4 vs hv
  ·cases i with
   |zero=>simp at h1 h2;subst h1 h2;exact⟨_,o.rep h p.split.1⟩
   |succ i=>exact k5 h p.split.2 i x vs (by simpa using h1) (by simpa using h2)
theorem open_args {H:Type} {enc:TypeId×Value->H} {P:Program} {W:World} {g:Nat} {rows:List (Nat×List CV)} (items:List (PT×Value)) (hit:∀it∈items,∃t d ps,PTok P it.1 t/\DataW.Trod enc P W 0 (λ_=>true) true t it.2 d ps)
  (h1:g<=W.heap.size) (hrows:∀r∈rows,r.1<g/\r.2.all CV.plain=true) (h2:RowsAt W rows (rho0 g)):
  ∃(bs:List ArgB) (vss:List (List CV)),vss.length=items.length/\HR (rhoA g bs) (heapOf g rows (bs.map (·.cs))) W/\
   ∀(i:Nat) (it:PT×Value) (vs:List CV),items[i]? =some it->vss[i]? =some vs->VRs (rhoA g bs) vs it.2.cells.toList/\(∀c∈vs,c.one=true)/\∃d,Rep (heapOf g rows (bs.map (·.cs))) it.1 vs d:=by
 obtain⟨bs,vss,k1,k2,k3,k4,k5⟩:=open_vals items hit g
 have hpl:Placed (rhoA g bs) g bs:=λn b hb=>by
  show(if g+n<g then some (g+n,0)else(bs[g+n-g]?).map λb=>(b.blk,b.off))=_
  rw[if_neg (by omega),show g+n-g=n by omega,hb];rfl
 have hlaid:Laid (heapOf g rows (bs.map (·.cs))) g bs:=λn b hb=>by
  have hn:=(List.getElem?_eq_some_iff.1 hb).1;refine⟨?_,heapOf_at (by rw[List.getElem?_map,hb];rfl)⟩;rw[heapOf_next,List.length_map];omega
 obtain⟨hvr,hv⟩:=k3 _ hpl;refine⟨bs,vss,k1,hr_args h1 hrows h2 (λb hb=> ?_),λi it vs a1 a2=>⟨hv i it vs a1 a2,k4 vs (List.mem_of_getElem? a2),k5 _ hlaid i it vs a1 a2⟩⟩;obtain⟨arr,ty,fz,q1,q2,q3⟩:=k2 b hb;exact⟨arr,ty,fz,q1,q2,hvr b hb arr ty fz q1,q3⟩
theorem agg_of {ρ:Rho} {vs:List CV} {v:Value} (h:VRs ρ vs v.cells.toList) (h1:∀c∈vs,c.one=true) (hn:vs.length≠1):∃arr,v= .agg arr/\VR ρ (.agg vs) (.agg arr):=by
 have hl:=h.1;cases v with
 |agg arr=>exact⟨arr,rfl,VRs.agg h h1⟩
 |_=>simp[Value.cells]at hl;omega
end Go.CM

noncomputable section
namespace Go.CM.Tt
open Go.CM
def ptPathW:PT:= .struct [.int .i64,.int .i64,.int .i64]
theorem rep_pathW {h:Heap} {vs:List CV} {d:Dat} (r:Rep h ptPathW vs d):∃x:PathW,Rp.R h vs x:=by
 obtain⟨vss,rfl,hl,hr⟩:=rep_struct r
 match vss,hl with
 |[c0,c1,c2],_=>
  obtain⟨_,r0⟩:=hr 0 _ c0 rfl rfl;obtain⟨x0,rfl⟩:=rep_int r0;obtain⟨_,r1⟩:=hr 1 _ c1 rfl rfl;obtain⟨x1,rfl⟩:=rep_int r1;obtain⟨_,r2⟩:=hr 2 _ c2 rfl rfl;obtain⟨x2,rfl⟩:=rep_int r2;exact⟨⟨x0,x1,x2⟩,rfl⟩
def ptDoorW:PT:= .struct [.int .i64,.int .i64,.int .i64,ptTimes]
theorem rep_doorW {h:Heap} {vs:List CV} {d:Dat} (r:Rep h ptDoorW vs d):∃x:DoorW,Rp.R h vs x:=by
 obtain⟨vss,rfl,hl,hr⟩:=rep_struct r
 match vss,hl with
 |[c0,c1,c2,c3],_=>
  obtain⟨_,r0⟩:=hr 0 _ c0 rfl rfl;obtain⟨x0,rfl⟩:=rep_int r0;obtain⟨_,r1⟩:=hr 1 _ c1 rfl rfl;obtain⟨x1,rfl⟩:=rep_int r1;obtain⟨_,r2⟩:=hr 2 _ c2 rfl rfl;obtain⟨x2,rfl⟩:=rep_int r2;obtain⟨_,r3⟩:=hr 3 _ c3 rfl rfl;obtain⟨x3,rt⟩:=rep_times r3;have rt:c3=x3.enc:=rt;subst rt;exact⟨⟨x0,x1,x2,x3⟩,rfl⟩
def ptTripW:PT:= .struct [.int .i64,.int .i64,.int .i64,.int .i64]
theorem rep_tripW {h:Heap} {vs:List CV} {d:Dat} (r:Rep h ptTripW vs d):∃x:TripW,Rp.R h vs x:=by
 obtain⟨vss,rfl,hl,hr⟩:=rep_struct r
 match vss,hl with
 |[c0,c1,c2,c3],_=>
  obtain⟨_,r0⟩:=hr 0 _ c0 rfl rfl;obtain⟨x0,rfl⟩:=rep_int r0;obtain⟨_,r1⟩:=hr 1 _ c1 rfl rfl;obtain⟨x1,rfl⟩:=rep_int r1;obtain⟨_,r2⟩:=hr 2 _ c2 rfl rfl;obtain⟨x2,rfl⟩:=rep_int r2;obtain⟨_,r3⟩:=hr 3 _ c3 rfl rfl;obtain⟨x3,rfl⟩:=rep_int r3;exact⟨⟨x0,x1,x2,x3⟩,rfl⟩
def ptHazW:PT:= .struct [.bool,.int .i64,ptTimes]
theorem rep_hazW {h:Heap} {vs:List CV} {d:Dat} (r:Rep h ptHazW vs d):∃x:HazW,Rp.R h vs x:=by
 obtain⟨vss,rfl,hl,hr⟩:=rep_struct r
 match vss,hl with
 |[c0,c1,c2],_=>
  obtain⟨_,r0⟩:=hr 0 _ c0 rfl rfl;obtain⟨x0,rfl⟩:=rep_bool r0;obtain⟨_,r1⟩:=hr 1 _ c1 rfl rfl;obtain⟨x1,rfl⟩:=rep_int r1;obtain⟨_,r2⟩:=hr 2 _ c2 rfl rfl;obtain⟨x2,rt⟩:=rep_times r2;have rt:c2=x2.enc:=rt;subst rt;exact⟨⟨x0,x1,x2⟩,rfl⟩
def ptRouteW:PT:= .struct [.slice (.int .i64),.slice (.int .i64),.slice (.int .i64)]
theorem rep_routeW {h:Heap} {vs:List CV} {d:Dat} (r:Rep h ptRouteW vs d):∃x:RouteW,Rp.R h vs x:=by
 obtain⟨vss,rfl,hl,hr⟩:=rep_struct r
 match vss,hl with
 |[c1,c2,c3],_=>
  obtain⟨_,r1⟩:=hr 0 _ c1 rfl rfl;obtain⟨v1,x1,rfl,s1⟩:=rep_sint r1;obtain⟨_,r2⟩:=hr 1 _ c2 rfl rfl;obtain⟨v2,x2,rfl,s2⟩:=rep_sint r2;obtain⟨_,r3⟩:=hr 2 _ c3 rfl rfl;obtain⟨v3,x3,rfl,s3⟩:=rep_sint r3;exact⟨⟨x1,x2,x3⟩,v1,v2,v3,rfl,s1,s2,s3⟩
def ptNames:PT:= .struct [.slice .str,.slice .str,.slice .str,.slice .str,.slice .str,.slice .str]
theorem rep_names {h:Heap} {vs:List CV} {d:Dat} (r:Rep h ptNames vs d):∃(x:NamesD) (v1 v2 v3 v4 v5 v6:CV),vs=[v1,v2,v3,v4,v5,v6]/\Sl h v1 x.stops/\Sl h v2 x.paths/\Sl h v3 x.doors/\Sl h v4 x.routes/\Sl h v5 x.trips/\Sl h v6 x.hazards:=by
 obtain⟨vss,rfl,hl,hr⟩:=rep_struct r
 match vss,hl with
 |[c1,c2,c3,c4,c5,c6],_=>
  obtain⟨_,r1⟩:=hr 0 _ c1 rfl rfl;obtain⟨v1,x1,rfl,s1⟩:=rep_sstr r1;obtain⟨_,r2⟩:=hr 1 _ c2 rfl rfl;obtain⟨v2,x2,rfl,s2⟩:=rep_sstr r2;obtain⟨_,r3⟩:=hr 2 _ c3 rfl rfl;obtain⟨v3,x3,rfl,s3⟩:=rep_sstr r3;obtain⟨_,r4⟩:=hr 3 _ c4 rfl rfl;obtain⟨v4,x4,rfl,s4⟩:=rep_sstr r4;obtain⟨_,r5⟩:=hr 4 _ c5 rfl rfl;obtain⟨v5,x5,rfl,s5⟩:=rep_sstr r5;obtain⟨_,r6⟩:=hr 5 _ c6 rfl rfl;obtain⟨v6,x6,rfl,s6⟩:=rep_sstr r6;exact⟨⟨x1,x2,x3,x4,x5,x6⟩,v1,v2,v3,v4,v5,v6,rfl,s1,s2,s3,s4,s5,s6⟩
def ptWorld:PT:= .struct [.int .i64,ptNames,.slice ptPathW,.slice ptDoorW,.slice ptRouteW,.slice ptTripW,.slice ptHazW]
theorem rep_world {h:Heap} {vs:List CV} {d:Dat} (r:Rep h ptWorld vs d):∃x:WorldD,Rp.R h vs x:=by
 obtain⟨vss,rfl,hl,hr⟩:=rep_struct r
 match vss,hl with
 |[c0,c1,c2,c3,c4,c5,c6],_=>
  obtain⟨_,r0⟩:=hr 0 _ c0 rfl rfl;obtain⟨x0,rfl⟩:=rep_int r0;obtain⟨_,r1⟩:=hr 1 _ c1 rfl rfl;obtain⟨x1,n1,n2,n3,n4,n5,n6,rfl,t1,t2,t3,t4,t5,t6⟩:=rep_names r1;obtain⟨_,r2⟩:=hr 2 _ c2 rfl rfl;obtain⟨v2,x2,rfl,s2⟩:=rep_sl (α:=PathW) rfl (λvs d r=>rep_pathW r) r2;obtain⟨_,r3⟩:=hr 3 _ c3 rfl rfl;obtain⟨v3,x3,rfl,s3⟩:=rep_sl (α:=DoorW) rfl (λvs d r=>rep_doorW r) r3;obtain⟨_,r4⟩:=hr 4 _ c4 rfl rfl;obtain⟨v4,x4,rfl,s4⟩:=rep_sl (α:=RouteW) rfl (λvs d r=>rep_routeW r) r4;obtain⟨_,r5⟩:=hr 5 _ c5 rfl rfl;obtain⟨v5,x5,rfl,s5⟩:=rep_sl (α:=TripW) rfl (λvs d r=>rep_tripW r) r5;obtain⟨_,r6⟩:=hr 6 _ c6 rfl rfl;obtain⟨v6,x6,rfl,s6⟩:=rep_sl (α:=HazW) rfl (λvs d r=>rep_hazW r) r6;exact⟨⟨x0,x1,x2,x3,x4,x5,x6⟩,n1,n2,n3,n4,n5,n6,v2,v3,v4,v5,v6,rfl,t1,t2,t3,t4,t5,t6,s2,s3,s4,s5,s6⟩
end Go.CM.Tt

noncomputable section
namespace Go.CM
theorem envW_small2 {P:Program} {tyL:List (Nat×TyS)} {fnL:List (Nat×FnS)} {g:Nat} {kn:List KE} {rows:List (Nat×List CV)} (ht:∀p∈tyL,tyOf P p.1 p.2.cmp=some p.2/\(p.2.cmp=true->cmpB P p.1=true))
  (hf:∀p∈fnL,∃fn,P.funcs[p.1]? =some fn/\p.2=fnOf fn/\fnGood fn=true) (hm:P.follows .mixedOrders=true) (hr:rowsGood g rows=true) (hk:∀e∈kn,KnownOk P g rows e):EnvW P ⟨lk tyL,lk fnL,g,kn,rows⟩:=by
 have row:∀f s,lk fnL f=some s->∃fn,P.funcs[f]? =some fn/\s=⟨fn.ntmps,fn.results.toList,fn.body⟩/\fnGood fn=true:=by
  intro f s h;obtain⟨fn,h1,h2,h3⟩:=hf _ (lk_mem h);exact⟨fn,h1,h2,h3⟩
 refine⟨⟨λt s h=> ?_,λf s h=> ?_⟩,λf s c h hb=> ?_,λf s fn h hfn=> ?_,hm,hk,λr hmm=> ?_⟩
 ·have h1:=ht _ (lk_mem h)
  exact⟨h1.1,λe=>cmpB_ok (h1.2 e)⟩
 ·obtain⟨fn,h1,rfl,_⟩:=row f s h
  exact⟨fn,h1,rfl,rfl,rfl⟩
 ·obtain⟨fn,h1,rfl,h2⟩:=row f s h
  unfold fnGood at h2;rw[Bool.and_eq_true]at h2;have hb:fn.body=some c:=hb;rw[hb]at h2;exact h2.2
 ·obtain⟨fn',h1,rfl,h2⟩:=row f s h
  rw[h1]at hfn;cases hfn;unfold fnGood at h2;rw[Bool.and_eq_true]at h2;simpa using h2.1
 ·have:=List.all_eq_true.1 hr r hmm
  rw[Bool.and_eq_true]at this;exact⟨by have:=this.1;rw[Nat.blt_eq]at this;exact this,this.2⟩
end Go.CM
