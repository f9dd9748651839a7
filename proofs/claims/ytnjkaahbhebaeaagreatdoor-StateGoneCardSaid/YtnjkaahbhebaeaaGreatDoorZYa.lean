/- What is asked of a world's rows, one by one. No condition. -/
import Derived.Test.YtnjkaahbhebaeaaGreatDoorXU
import Derived.Test.YtnjkaahbhebaeaaGreatDoorYE
import Derived.Test.YtnjkaahbhebaeaaGreatDoorYI
import Derived.Test.YtnjkaahbhebaeaaGreatDoorYA
import Derived.Test.YtnjkaahbhebaeaaGreatDoorZB
set_option linter.unusedVariables false
set_option linter.unusedSimpArgs false
set_option maxRecDepth 100000
namespace Go.Proofs.YtnjkaahbhebaeaaGreatDoor
open Go Go.CM Go.CM.Tt
noncomputable section
set_option maxHeartbeats 8000000
theorem idxF_pathW {h:Heap} {tm:Tm} {Q:R->Prop} {v:CV} {l:List PathW} (f:Nat) (first caps:List CV) (P:PathW->Prop) (sl:Sl h v l) (hm:l.length<=1099511627776)
  (hf:∀d,d∈l->∀(tm:Tm) (h':Heap) (Q:R->Prop),Ext h h'->(∀h2 (b:Bool),Ext h' h2->(b=true↔P d)->Q (.val (.bool b) h2))->W E1 (.call (.fn f first caps) [.agg d.enc]) tm h' Q)
  (q:∀h' (r:Int),Ext h h'->(0<=r↔∃d,d∈l/\P d)->Q (.val (.int .i64 r) h')):W E1 (.call (.fn 243 [] []) [v,.fn f first caps]) tm h Q:=by
 refine W.fn (s:=fnOf Tryz.f243) rfl rfl rfl rfl ?_;repeat refine W.g ?_
 refine W.loop (σ:=Nat) (λk tm h'=>Ext h h'/\tm.look 0=v/\tm.look 1= .fn f first caps/\tm.look 7= .int .i64 (l.length:Int)/\tm.look 8= .int .i64 (k:Int)/\k<=l.length/\∀j,j<k->∀a,l[j]? =some a->¬P a) (λk=>l.length-k) ?_ (s:=0)
  ⟨Ext.refl _,rfl,rfl,rfl,rfl,Nat.zero_le _,λj hj=>by omega⟩
 rintro k tm h' ⟨X,w0,w1,w7,w8,hk,hn⟩;obtain⟨T,rfl⟩:=Tm.t4 w0 w1 w7 w8;clear w0 w1 w7 w8;by_cases c1:k<l.length
 ·repeat refine W.g ?_
  refine W.iz λi_ o_ L_=> ?_;repeat refine W.g ?_
  refine W.call rfl rfl rfl (hf l[k] (List.getElem_mem c1) _ _ _ X λh2 b X2 hb=> ?_);cases b
  ·repeat refine W.g ?_
   refine⟨k+1,lessN c1,X.trans X2,rfl,rfl,rfl,rfl,c1,λj hj a ha hp=> ?_⟩;by_cases e:j=k
   ·subst e
    rw[List.getElem?_eq_getElem c1]at ha;cases ha;cases hb.2 hp
   ·exact hn j (by omega) a ha hp
  ·repeat refine W.g ?_
   exact q _ _ (X.trans X2) (Iff.intro (λ_=>⟨l[k],List.getElem_mem c1,hb.1 rfl⟩) (λ_=>by omega))
 ·repeat refine W.g ?_
  refine q _ _ X (Iff.intro (λh=>by omega) (λh=> ?_));obtain⟨d,hd,hp⟩:=h;obtain⟨j,hj⟩:=List.getElem?_of_mem hd;exact absurd hp (hn j (by have:=(List.getElem?_eq_some_iff.1 hj).1;omega) d hj)
theorem conF_pathW {h:Heap} {tm:Tm} {Q:R->Prop} {v:CV} {l:List PathW} (f:Nat) (first caps:List CV) (P:PathW->Prop) (sl:Sl h v l) (hm:l.length<=1099511627776)
  (hf:∀d,d∈l->∀(tm:Tm) (h':Heap) (Q:R->Prop),Ext h h'->(∀h2 (b:Bool),Ext h' h2->(b=true↔P d)->Q (.val (.bool b) h2))->W E1 (.call (.fn f first caps) [.agg d.enc]) tm h' Q)
  (q:∀h' (b:Bool),Ext h h'->(b=true↔∃d,d∈l/\P d)->Q (.val (.bool b) h')):W E1 (.call (.fn 207 [] []) [v,.fn f first caps]) tm h Q:=by
 refine W.fn (s:=fnOf Tryz.f207) rfl rfl rfl rfl ?_;repeat refine W.g ?_
 refine W.call rfl rfl rfl (idxF_pathW f first caps P sl hm hf λh' r X hr=> ?_);by_cases c:0<=r
 ·repeat refine W.g ?_
  exact q h' true X (Iff.intro (λ_=>hr.1 c) (λ_=>rfl))
 ·repeat refine W.g ?_
  exact q h' false X (Iff.intro (λh=>by cases h) (λh=>absurd (hr.2 h) c))
theorem idxF_doorW {h:Heap} {tm:Tm} {Q:R->Prop} {v:CV} {l:List DoorW} (f:Nat) (first caps:List CV) (P:DoorW->Prop) (sl:Sl h v l) (hm:l.length<=1099511627776)
  (hf:∀d,d∈l->∀(tm:Tm) (h':Heap) (Q:R->Prop),Ext h h'->(∀h2 (b:Bool),Ext h' h2->(b=true↔P d)->Q (.val (.bool b) h2))->W E1 (.call (.fn f first caps) [.agg d.enc]) tm h' Q)
  (q:∀h' (r:Int),Ext h h'->(0<=r↔∃d,d∈l/\P d)->Q (.val (.int .i64 r) h')):W E1 (.call (.fn 244 [] []) [v,.fn f first caps]) tm h Q:=by
 refine W.fn (s:=fnOf Tryz.f244) rfl rfl rfl rfl ?_;repeat refine W.g ?_
 refine W.loop (σ:=Nat) (λk tm h'=>Ext h h'/\tm.look 0=v/\tm.look 1= .fn f first caps/\tm.look 7= .int .i64 (l.length:Int)/\tm.look 8= .int .i64 (k:Int)/\k<=l.length/\∀j,j<k->∀a,l[j]? =some a->¬P a) (λk=>l.length-k) ?_ (s:=0)
  ⟨Ext.refl _,rfl,rfl,rfl,rfl,Nat.zero_le _,λj hj=>by omega⟩
 rintro k tm h' ⟨X,w0,w1,w7,w8,hk,hn⟩;obtain⟨T,rfl⟩:=Tm.t4 w0 w1 w7 w8;clear w0 w1 w7 w8;by_cases c1:k<l.length
 ·repeat refine W.g ?_
  refine W.iz λi_ o_ L_=> ?_;repeat refine W.g ?_
  refine W.call rfl rfl rfl (hf l[k] (List.getElem_mem c1) _ _ _ X λh2 b X2 hb=> ?_);cases b
  ·repeat refine W.g ?_
   refine⟨k+1,lessN c1,X.trans X2,rfl,rfl,rfl,rfl,c1,λj hj a ha hp=> ?_⟩;by_cases e:j=k
   ·subst e
    rw[List.getElem?_eq_getElem c1]at ha;cases ha;cases hb.2 hp
   ·exact hn j (by omega) a ha hp
  ·repeat refine W.g ?_
   exact q _ _ (X.trans X2) (Iff.intro (λ_=>⟨l[k],List.getElem_mem c1,hb.1 rfl⟩) (λ_=>by omega))
 ·repeat refine W.g ?_
  refine q _ _ X (Iff.intro (λh=>by omega) (λh=> ?_));obtain⟨d,hd,hp⟩:=h;obtain⟨j,hj⟩:=List.getElem?_of_mem hd;exact absurd hp (hn j (by have:=(List.getElem?_eq_some_iff.1 hj).1;omega) d hj)
theorem conF_doorW {h:Heap} {tm:Tm} {Q:R->Prop} {v:CV} {l:List DoorW} (f:Nat) (first caps:List CV) (P:DoorW->Prop) (sl:Sl h v l) (hm:l.length<=1099511627776)
  (hf:∀d,d∈l->∀(tm:Tm) (h':Heap) (Q:R->Prop),Ext h h'->(∀h2 (b:Bool),Ext h' h2->(b=true↔P d)->Q (.val (.bool b) h2))->W E1 (.call (.fn f first caps) [.agg d.enc]) tm h' Q)
  (q:∀h' (b:Bool),Ext h h'->(b=true↔∃d,d∈l/\P d)->Q (.val (.bool b) h')):W E1 (.call (.fn 209 [] []) [v,.fn f first caps]) tm h Q:=by
 refine W.fn (s:=fnOf Tryz.f209) rfl rfl rfl rfl ?_;repeat refine W.g ?_
 refine W.call rfl rfl rfl (idxF_doorW f first caps P sl hm hf λh' r X hr=> ?_);by_cases c:0<=r
 ·repeat refine W.g ?_
  exact q h' true X (Iff.intro (λ_=>hr.1 c) (λ_=>rfl))
 ·repeat refine W.g ?_
  exact q h' false X (Iff.intro (λh=>by cases h) (λh=>absurd (hr.2 h) c))
theorem idxF_tripW {h:Heap} {tm:Tm} {Q:R->Prop} {v:CV} {l:List TripW} (f:Nat) (first caps:List CV) (P:TripW->Prop) (sl:Sl h v l) (hm:l.length<=1099511627776)
  (hf:∀d,d∈l->∀(tm:Tm) (h':Heap) (Q:R->Prop),Ext h h'->(∀h2 (b:Bool),Ext h' h2->(b=true↔P d)->Q (.val (.bool b) h2))->W E1 (.call (.fn f first caps) [.agg d.enc]) tm h' Q)
  (q:∀h' (r:Int),Ext h h'->(0<=r↔∃d,d∈l/\P d)->Q (.val (.int .i64 r) h')):W E1 (.call (.fn 247 [] []) [v,.fn f first caps]) tm h Q:=by
 refine W.fn (s:=fnOf Tryz.f247) rfl rfl rfl rfl ?_;repeat refine W.g ?_
 refine W.loop (σ:=Nat) (λk tm h'=>Ext h h'/\tm.look 0=v/\tm.look 1= .fn f first caps/\tm.look 7= .int .i64 (l.length:Int)/\tm.look 8= .int .i64 (k:Int)/\k<=l.length/\∀j,j<k->∀a,l[j]? =some a->¬P a) (λk=>l.length-k) ?_ (s:=0)
  ⟨Ext.refl _,rfl,rfl,rfl,rfl,Nat.zero_le _,λj hj=>by omega⟩
 rintro k tm h' ⟨X,w0,w1,w7,w8,hk,hn⟩;obtain⟨T,rfl⟩:=Tm.t4 w0 w1 w7 w8;clear w0 w1 w7 w8;by_cases c1:k<l.length
 ·repeat refine W.g ?_
  refine W.iz λi_ o_ L_=> ?_;repeat refine W.g ?_
  refine W.call rfl rfl rfl (hf l[k] (List.getElem_mem c1) _ _ _ X λh2 b X2 hb=> ?_);cases b
  ·repeat refine W.g ?_
   refine⟨k+1,lessN c1,X.trans X2,rfl,rfl,rfl,rfl,c1,λj hj a ha hp=> ?_⟩;by_cases e:j=k
   ·subst e
    rw[List.getElem?_eq_getElem c1]at ha;cases ha;cases hb.2 hp
   ·exact hn j (by omega) a ha hp
  ·repeat refine W.g ?_
   exact q _ _ (X.trans X2) (Iff.intro (λ_=>⟨l[k],List.getElem_mem c1,hb.1 rfl⟩) (λ_=>by omega))
 ·repeat refine W.g ?_
  refine q _ _ X (Iff.intro (λh=>by omega) (λh=> ?_));obtain⟨d,hd,hp⟩:=h;obtain⟨j,hj⟩:=List.getElem?_of_mem hd;exact absurd hp (hn j (by have:=(List.getElem?_eq_some_iff.1 hj).1;omega) d hj)
theorem conF_tripW {h:Heap} {tm:Tm} {Q:R->Prop} {v:CV} {l:List TripW} (f:Nat) (first caps:List CV) (P:TripW->Prop) (sl:Sl h v l) (hm:l.length<=1099511627776)
  (hf:∀d,d∈l->∀(tm:Tm) (h':Heap) (Q:R->Prop),Ext h h'->(∀h2 (b:Bool),Ext h' h2->(b=true↔P d)->Q (.val (.bool b) h2))->W E1 (.call (.fn f first caps) [.agg d.enc]) tm h' Q)
  (q:∀h' (b:Bool),Ext h h'->(b=true↔∃d,d∈l/\P d)->Q (.val (.bool b) h')):W E1 (.call (.fn 214 [] []) [v,.fn f first caps]) tm h Q:=by
 refine W.fn (s:=fnOf Tryz.f214) rfl rfl rfl rfl ?_;repeat refine W.g ?_
 refine W.call rfl rfl rfl (idxF_tripW f first caps P sl hm hf λh' r X hr=> ?_);by_cases c:0<=r
 ·repeat refine W.g ?_
  exact q h' true X (Iff.intro (λ_=>hr.1 c) (λ_=>rfl))
 ·repeat refine W.g ?_
  exact q h' false X (Iff.intro (λh=>by cases h) (λh=>absurd (hr.2 h) c))
theorem idxF_hazW {h:Heap} {tm:Tm} {Q:R->Prop} {v:CV} {l:List HazW} (f:Nat) (first caps:List CV) (P:HazW->Prop) (sl:Sl h v l) (hm:l.length<=1099511627776)
  (hf:∀d,d∈l->∀(tm:Tm) (h':Heap) (Q:R->Prop),Ext h h'->(∀h2 (b:Bool),Ext h' h2->(b=true↔P d)->Q (.val (.bool b) h2))->W E1 (.call (.fn f first caps) [.agg d.enc]) tm h' Q)
  (q:∀h' (r:Int),Ext h h'->(0<=r↔∃d,d∈l/\P d)->Q (.val (.int .i64 r) h')):W E1 (.call (.fn 248 [] []) [v,.fn f first caps]) tm h Q:=by
 refine W.fn (s:=fnOf Tryz.f248) rfl rfl rfl rfl ?_;repeat refine W.g ?_
 refine W.loop (σ:=Nat) (λk tm h'=>Ext h h'/\tm.look 0=v/\tm.look 1= .fn f first caps/\tm.look 7= .int .i64 (l.length:Int)/\tm.look 8= .int .i64 (k:Int)/\k<=l.length/\∀j,j<k->∀a,l[j]? =some a->¬P a) (λk=>l.length-k) ?_ (s:=0)
  ⟨Ext.refl _,rfl,rfl,rfl,rfl,Nat.zero_le _,λj hj=>by omega⟩
 rintro k tm h' ⟨X,w0,w1,w7,w8,hk,hn⟩;obtain⟨T,rfl⟩:=Tm.t4 w0 w1 w7 w8;clear w0 w1 w7 w8;by_cases c1:k<l.length
 ·repeat refine W.g ?_
  refine W.iz λi_ o_ L_=> ?_;repeat refine W.g ?_
  refine W.call rfl rfl rfl (hf l[k] (List.getElem_mem c1) _ _ _ X λh2 b X2 hb=> ?_);cases b
  ·repeat refine W.g ?_
   refine⟨k+1,lessN c1,X.trans X2,rfl,rfl,rfl,rfl,c1,λj hj a ha hp=> ?_⟩;by_cases e:j=k
   ·subst e
    rw[List.getElem?_eq_getElem c1]at ha;cases ha;cases hb.2 hp
   ·exact hn j (by omega) a ha hp
  ·repeat refine W.g ?_
   exact q _ _ (X.trans X2) (Iff.intro (λ_=>⟨l[k],List.getElem_mem c1,hb.1 rfl⟩) (λ_=>by omega))
 ·repeat refine W.g ?_
  refine q _ _ X (Iff.intro (λh=>by omega) (λh=> ?_));obtain⟨d,hd,hp⟩:=h;obtain⟨j,hj⟩:=List.getElem?_of_mem hd;exact absurd hp (hn j (by have:=(List.getElem?_eq_some_iff.1 hj).1;omega) d hj)
theorem conF_hazW {h:Heap} {tm:Tm} {Q:R->Prop} {v:CV} {l:List HazW} (f:Nat) (first caps:List CV) (P:HazW->Prop) (sl:Sl h v l) (hm:l.length<=1099511627776)
  (hf:∀d,d∈l->∀(tm:Tm) (h':Heap) (Q:R->Prop),Ext h h'->(∀h2 (b:Bool),Ext h' h2->(b=true↔P d)->Q (.val (.bool b) h2))->W E1 (.call (.fn f first caps) [.agg d.enc]) tm h' Q)
  (q:∀h' (b:Bool),Ext h h'->(b=true↔∃d,d∈l/\P d)->Q (.val (.bool b) h')):W E1 (.call (.fn 216 [] []) [v,.fn f first caps]) tm h Q:=by
 refine W.fn (s:=fnOf Tryz.f216) rfl rfl rfl rfl ?_;repeat refine W.g ?_
 refine W.call rfl rfl rfl (idxF_hazW f first caps P sl hm hf λh' r X hr=> ?_);by_cases c:0<=r
 ·repeat refine W.g ?_
  exact q h' true X (Iff.intro (λ_=>hr.1 c) (λ_=>rfl))
 ·repeat refine W.g ?_
  exact q h' false X (Iff.intro (λh=>by cases h) (λh=>absurd (hr.2 h) c))
theorem idxF_routeW {h:Heap} {tm:Tm} {Q:R->Prop} {v:CV} {l:List RouteW} (f:Nat) (first caps:List CV) (P:RouteW->Prop) (sl:Sl h v l) (hm:l.length<=1099511627776)
  (hf:∀d,d∈l->∀e,Rp.R h e d->∀(tm:Tm) (h':Heap) (Q:R->Prop),Ext h h'->(∀h2 (b:Bool),Ext h' h2->(b=true↔P d)->Q (.val (.bool b) h2))->W E1 (.call (.fn f first caps) [.agg e]) tm h' Q)
  (q:∀h' (r:Int),Ext h h'->(0<=r↔∃d,d∈l/\P d)->Q (.val (.int .i64 r) h')):W E1 (.call (.fn 245 [] []) [v,.fn f first caps]) tm h Q:=by
 refine W.fn (s:=fnOf Tryz.f245) rfl rfl rfl rfl ?_;repeat refine W.g ?_
 refine W.loop (σ:=Nat) (λk tm h'=>Ext h h'/\tm.look 0=v/\tm.look 1= .fn f first caps/\tm.look 7= .int .i64 (l.length:Int)/\tm.look 8= .int .i64 (k:Int)/\k<=l.length/\∀j,j<k->∀a,l[j]? =some a->¬P a) (λk=>l.length-k) ?_ (s:=0)
  ⟨Ext.refl _,rfl,rfl,rfl,rfl,Nat.zero_le _,λj hj=>by omega⟩
 rintro k tm h' ⟨X,w0,w1,w7,w8,hk,hn⟩;obtain⟨T,rfl⟩:=Tm.t4 w0 w1 w7 w8;clear w0 w1 w7 w8;by_cases c1:k<l.length
 ·repeat refine W.g ?_
  refine W.ixR (by assumption) c1 rfl rfl rfl rfl rfl rfl rfl λi_ o_ e L_ r_=> ?_;have hlen:=Rp.len r_;repeat refine W.g ?_
  refine W.call rfl rfl rfl (hf l[k] (List.getElem_mem c1) e r_ _ _ _ X λh2 b X2 hb=> ?_);cases b
  ·repeat refine W.g ?_
   refine⟨k+1,lessN c1,X.trans X2,rfl,rfl,rfl,rfl,c1,λj hj a ha hp=> ?_⟩;by_cases e:j=k
   ·subst e
    rw[List.getElem?_eq_getElem c1]at ha;cases ha;cases hb.2 hp
   ·exact hn j (by omega) a ha hp
  ·repeat refine W.g ?_
   exact q _ _ (X.trans X2) (Iff.intro (λ_=>⟨l[k],List.getElem_mem c1,hb.1 rfl⟩) (λ_=>by omega))
 ·repeat refine W.g ?_
  refine q _ _ X (Iff.intro (λh=>by omega) (λh=> ?_));obtain⟨d,hd,hp⟩:=h;obtain⟨j,hj⟩:=List.getElem?_of_mem hd;exact absurd hp (hn j (by have:=(List.getElem?_eq_some_iff.1 hj).1;omega) d hj)
theorem conF_routeW {h:Heap} {tm:Tm} {Q:R->Prop} {v:CV} {l:List RouteW} (f:Nat) (first caps:List CV) (P:RouteW->Prop) (sl:Sl h v l) (hm:l.length<=1099511627776)
  (hf:∀d,d∈l->∀e,Rp.R h e d->∀(tm:Tm) (h':Heap) (Q:R->Prop),Ext h h'->(∀h2 (b:Bool),Ext h' h2->(b=true↔P d)->Q (.val (.bool b) h2))->W E1 (.call (.fn f first caps) [.agg e]) tm h' Q)
  (q:∀h' (b:Bool),Ext h h'->(b=true↔∃d,d∈l/\P d)->Q (.val (.bool b) h')):W E1 (.call (.fn 211 [] []) [v,.fn f first caps]) tm h Q:=by
 refine W.fn (s:=fnOf Tryz.f211) rfl rfl rfl rfl ?_;repeat refine W.g ?_
 refine W.call rfl rfl rfl (idxF_routeW f first caps P sl hm hf λh' r X hr=> ?_);by_cases c:0<=r
 ·repeat refine W.g ?_
  exact q h' true X (Iff.intro (λ_=>hr.1 c) (λ_=>rfl))
 ·repeat refine W.g ?_
  exact q h' false X (Iff.intro (λh=>by cases h) (λh=>absurd (hr.2 h) c))
theorem idxF_nt {h:Heap} {tm:Tm} {Q:R->Prop} {v:CV} {l:List Int} (f:Nat) (first caps:List CV) (P:Int->Prop) (sl:Sl h v l) (hm:l.length<=1099511627776)
  (hf:∀d,d∈l->∀(tm:Tm) (h':Heap) (Q:R->Prop),Ext h h'->(∀h2 (b:Bool),Ext h' h2->(b=true↔P d)->Q (.val (.bool b) h2))->W E1 (.call (.fn f first caps) [.int .i64 d]) tm h' Q)
  (q:∀h' (r:Int),Ext h h'->(0<=r↔∃d,d∈l/\P d)->Q (.val (.int .i64 r) h')):W E1 (.call (.fn 246 [] []) [v,.fn f first caps]) tm h Q:=by
 refine W.fn (s:=fnOf Tryz.f246) rfl rfl rfl rfl ?_;repeat refine W.g ?_
 refine W.loop (σ:=Nat) (λk tm h'=>Ext h h'/\tm.look 0=v/\tm.look 1= .fn f first caps/\tm.look 7= .int .i64 (l.length:Int)/\tm.look 8= .int .i64 (k:Int)/\k<=l.length/\∀j,j<k->∀a,l[j]? =some a->¬P a) (λk=>l.length-k) ?_ (s:=0)
  ⟨Ext.refl _,rfl,rfl,rfl,rfl,Nat.zero_le _,λj hj=>by omega⟩
 rintro k tm h' ⟨X,w0,w1,w7,w8,hk,hn⟩;obtain⟨T,rfl⟩:=Tm.t4 w0 w1 w7 w8;clear w0 w1 w7 w8;by_cases c1:k<l.length
 ·repeat refine W.g ?_
  refine W.iz λi_ o_ L_=> ?_;repeat refine W.g ?_
  refine W.call rfl rfl rfl (hf l[k] (List.getElem_mem c1) _ _ _ X λh2 b X2 hb=> ?_);cases b
  ·repeat refine W.g ?_
   refine⟨k+1,lessN c1,X.trans X2,rfl,rfl,rfl,rfl,c1,λj hj a ha hp=> ?_⟩;by_cases e:j=k
   ·subst e
    rw[List.getElem?_eq_getElem c1]at ha;cases ha;cases hb.2 hp
   ·exact hn j (by omega) a ha hp
  ·repeat refine W.g ?_
   exact q _ _ (X.trans X2) (Iff.intro (λ_=>⟨l[k],List.getElem_mem c1,hb.1 rfl⟩) (λ_=>by omega))
 ·repeat refine W.g ?_
  refine q _ _ X (Iff.intro (λh=>by omega) (λh=> ?_));obtain⟨d,hd,hp⟩:=h;obtain⟨j,hj⟩:=List.getElem?_of_mem hd;exact absurd hp (hn j (by have:=(List.getElem?_eq_some_iff.1 hj).1;omega) d hj)
theorem conF_nt {h:Heap} {tm:Tm} {Q:R->Prop} {v:CV} {l:List Int} (f:Nat) (first caps:List CV) (P:Int->Prop) (sl:Sl h v l) (hm:l.length<=1099511627776)
  (hf:∀d,d∈l->∀(tm:Tm) (h':Heap) (Q:R->Prop),Ext h h'->(∀h2 (b:Bool),Ext h' h2->(b=true↔P d)->Q (.val (.bool b) h2))->W E1 (.call (.fn f first caps) [.int .i64 d]) tm h' Q)
  (q:∀h' (b:Bool),Ext h h'->(b=true↔∃d,d∈l/\P d)->Q (.val (.bool b) h')):W E1 (.call (.fn 213 [] []) [v,.fn f first caps]) tm h Q:=by
 refine W.fn (s:=fnOf Tryz.f213) rfl rfl rfl rfl ?_;repeat refine W.g ?_
 refine W.call rfl rfl rfl (idxF_nt f first caps P sl hm hf λh' r X hr=> ?_);by_cases c:0<=r
 ·repeat refine W.g ?_
  exact q h' true X (Iff.intro (λ_=>hr.1 c) (λ_=>rfl))
 ·repeat refine W.g ?_
  exact q h' false X (Iff.intro (λh=>by cases h) (λh=>absurd (hr.2 h) c))
theorem all_strI {h:Heap} {tm:Tm} {Q:R->Prop} {v:CV} {l:List Int} (f:Nat) (first caps:List CV) (F:Int->Str) (sl:Sl h v l) (hm:l.length<=1048576)
  (hf:∀d,d∈l->∀(tm:Tm) (h':Heap) (Q:R->Prop),Ext h h'->(∀h2,Ext h' h2->Q (.val (.str (F d)) h2))->W E1 (.call (.fn f first caps) [.int .i64 d]) tm h' Q)
  (q:∀h' v',Ext h h'->OwnR h' h.next 1 v' ((l.map F).map Flat.enc)->Q (.val v' h')):W E1 (.call (.fn 221 [] []) [v,.fn f first caps]) tm h Q:=by
 refine W.fn (s:=fnOf Tryz.f221) rfl rfl rfl rfl ?_;repeat refine W.g ?_
 refine W.loop (σ:=Nat) (λk tm h'=>Ext h h'/\tm.look 1= .fn f first caps/\tm.look 7=v/\tm.look 8= .int .i64 (l.length:Int)/\tm.look 9= .int .i64 (k:Int)/\k<=l.length/\∃vo,tm.look 4=vo/\OwnR h' h.next 1 vo (((l.take k).map F).map Flat.enc)) (λk=>l.length-k) ?_ (s:=0)
  ⟨Ext.refl _,rfl,rfl,rfl,rfl,Nat.zero_le _,_,rfl,OwnR.nil⟩
 rintro k tm h' ⟨X,w1,w7,w8,w9,hk,vo,w4,O⟩;obtain⟨pv,nv,cv,xv,e⟩:=O.form;cases e;obtain⟨T,rfl⟩:=Tm.t5 w1 w4 w7 w8 w9;clear w1 w4 w7 w8 w9;by_cases c1:k<l.length
 ·repeat refine W.g ?_
  refine W.iz λi_ o_ L_=> ?_;repeat refine W.g ?_
  have X9:Ext h' h':=Ext.x;refine W.call rfl rfl rfl (hf l[k] (List.getElem_mem c1) _ _ _ (X.trans X9) λh2 X2=> ?_);refine W.k7 1 4 7 8 9 13 16 λT=> ?_;repeat refine W.n λh_ X_ n_ g_ S_=> ?_
  have S_:SlG _ 1 _ ([F l[k]].map Flat.enc):=S_
  refine W.apR (H:=h) (z:=1) (X.trans (X9.trans (X2.trans X_))) (O.ext (X9.trans (X2.trans X_))) S_ rfl rfl rfl rfl rfl rfl rfl rfl rfl rfl rfl rfl (by
   simp only[List.length_map,List.length_take,List.length_cons,List.length_nil];show _*16<=_;omega) λv' h3 X3 O3=> ?_
  obtain⟨pv,nv,cv,xv,e⟩:=O3.form;cases e;repeat refine W.g ?_
  refine⟨k+1,lessN c1,X3,rfl,rfl,rfl,rfl,c1,_,rfl,?_⟩;rw[List.take_add_one,List.getElem?_eq_getElem c1,List.map_append,map_app];exact O3
 ·repeat refine W.g ?_
  rw[show k=l.length by omega,List.take_length]at O;exact q _ _ X O
end
end Go.Proofs.YtnjkaahbhebaeaaGreatDoor

namespace Go.Proofs.YtnjkaahbhebaeaaGreatDoor
open Go Go.CM Go.CM.Tt
noncomputable section
set_option maxHeartbeats 16000000
set_option maxRecDepth 100000
theorem in_w {h:Heap} {tm:Tm} {Q:R->Prop} {v:CV} {l:List Str} (sl:Sl h v l) (n:Int) (q:∀b:Bool,(b=true↔inL n l)->Q (.val (.bool b) h)):W E1 (.call (.fn 205 [] []) [v,.int .i64 n]) tm h Q:=by
 refine W.fn (s:=fnOf Tryz.f205) rfl rfl rfl rfl ?_;by_cases c:0<=n
 ·by_cases d:n<l.length
  ·repeat refine W.g ?_
   exact q true (Iff.intro (λ_=>⟨c,d⟩) (λ_=>rfl))
  ·repeat refine W.g ?_
   exact q false (Iff.intro (λh=>by cases h) (λh=>absurd h.2 d))
 ·repeat refine W.g ?_
  exact q false (Iff.intro (λh=>by cases h) (λh=>absurd h.1 c))
structure WCtx (H:Heap) (b3 b4 b5:Nat) (v1 v2 v3 v4 v5 v6:CV) (n:NamesD):Prop where
 l3:LocE H b3 0 [v1,v2,v3,v4,v5,v6]
 l4:LocE H b4 0 [.fn 205 [] []]
 l5:LocE H b5 0 [.fn 206 [] [.ptr (some (b4,0)),.ptr (some (b3,0))]]
 s1:Sl H v1 n.stops
 s2:Sl H v2 n.paths
 s4:Sl H v4 n.routes
section
variable {H h:Heap} {tm:Tm} {Q:R->Prop} {b3 b4 b5:Nat} {v1 v2 v3 v4 v5 v6:CV} {n:NamesD}
theorem oddS_w (c:WCtx H b3 b4 b5 v1 v2 v3 v4 v5 v6 n) (X:Ext H h) (i:Int) (q:∀b:Bool,(b=true↔¬inL i n.stops)->Q (.val (.bool b) h)):W E1 (.call (.fn 206 [] [.ptr (some (b4,0)),.ptr (some (b3,0))]) [.int .i64 i]) tm h Q:=by
 obtain⟨l3,l4,l5,s1,s2,s4⟩:=c;refine W.fn (s:=fnOf Tryz.f206) rfl rfl rfl rfl ?_;repeat refine W.g ?_
 refine W.call rfl rfl rfl (in_w (s1.ext X) i λb hb=> ?_);cases b
 ·repeat refine W.g ?_
  exact q true (Iff.intro (λ_ h=>by cases hb.2 h) (λ_=>rfl))
 ·repeat refine W.g ?_
  exact q false (Iff.intro (λh=>by cases h) (λh=>absurd (hb.1 rfl) h))
theorem odd3_w (c:WCtx H b3 b4 b5 v1 v2 v3 v4 v5 v6 n) (X:Ext H h) (d:PathW) (q:∀h2 (b:Bool),Ext h h2->(b=true↔¬inL d.a n.stops\/¬inL d.b n.stops)->Q (.val (.bool b) h2)):W E1 (.call (.fn 208 [] [.ptr (some (b5,0))]) [.agg d.enc]) tm h Q:=by
 have l5:=c.l5;refine W.fn (s:=fnOf Tryz.f208) rfl rfl rfl rfl ?_;repeat (first|refine W.g ?_|refine W.m λh_ X_ n_ g_ L_=> ?_)
 have X1:Ext h h_:=X_;refine W.call rfl rfl rfl (oddS_w c (X.trans X_) d.a λb hb=> ?_);cases b
 ·repeat refine W.g ?_
  refine W.call rfl rfl rfl (oddS_w c (X.trans X_) d.b λb hb2=> ?_);cases b
  ·repeat refine W.g ?_
   exact q _ false X1 (Iff.intro (λh=>by cases h) (λh=>by rcases h with h|h;exact hb.2 h;exact hb2.2 h))
  ·repeat refine W.g ?_
   exact q _ true X1 (Iff.intro (λ_=> .inr (hb2.1 rfl)) (λ_=>rfl))
 ·repeat refine W.g ?_
  exact q _ true X1 (Iff.intro (λ_=> .inl (hb.1 rfl)) (λ_=>rfl))
theorem odd4_w (c:WCtx H b3 b4 b5 v1 v2 v3 v4 v5 v6 n) (X:Ext H h) (d:DoorW) (q:∀h2 (b:Bool),Ext h h2->(b=true↔¬inL d.a n.stops\/¬inL d.b n.stops)->Q (.val (.bool b) h2)):W E1 (.call (.fn 210 [] [.ptr (some (b5,0))]) [.agg d.enc]) tm h Q:=by
 have l5:=c.l5;refine W.fn (s:=fnOf Tryz.f210) rfl rfl rfl rfl ?_;repeat (first|refine W.g ?_|refine W.m λh_ X_ n_ g_ L_=> ?_)
 have X1:Ext h h_:=X_;refine W.call rfl rfl rfl (oddS_w c (X.trans X_) d.a λb hb=> ?_);cases b
 ·repeat refine W.g ?_
  refine W.call rfl rfl rfl (oddS_w c (X.trans X_) d.b λb hb2=> ?_);cases b
  ·repeat refine W.g ?_
   exact q _ false X1 (Iff.intro (λh=>by cases h) (λh=>by rcases h with h|h;exact hb.2 h;exact hb2.2 h))
  ·repeat refine W.g ?_
   exact q _ true X1 (Iff.intro (λ_=> .inr (hb2.1 rfl)) (λ_=>rfl))
 ·repeat refine W.g ?_
  exact q _ true X1 (Iff.intro (λ_=> .inl (hb.1 rfl)) (λ_=>rfl))
theorem odd5_w (c:WCtx H b3 b4 b5 v1 v2 v3 v4 v5 v6 n) (X:Ext H h) {e:List CV} {d:RouteW} (r:Rp.R h e d) (hm:d.stops.length<=1099511627776) (q:∀h2 (b:Bool),Ext h h2->(b=true↔∃s,s∈d.stops/\¬inL s n.stops)->Q (.val (.bool b) h2)):W E1 (.call (.fn 212 [] [.ptr (some (b5,0))]) [.agg e]) tm h Q:=by
 have l5:=c.l5;obtain⟨u1,u2,u3,rfl,t1,t2,t3⟩:=r;refine W.fn (s:=fnOf Tryz.f212) rfl rfl rfl rfl ?_;repeat (first|refine W.g ?_|refine W.m λh_ X_ n_ g_ L_=> ?_)
 have X1:Ext h h_:=X_;refine W.call rfl rfl rfl (conF_nt _ [] _ (λs=>¬inL s n.stops) (t1.ext X_) hm (λd _ tm h' Q X' q=>oddS_w c ((X.trans X1).trans X') d λb hb=>q _ b (Ext.refl _) hb) λh2 b X2 hb=> ?_);repeat refine W.g ?_
 exact q _ b (X1.trans X2) hb
theorem odd6_w (c:WCtx H b3 b4 b5 v1 v2 v3 v4 v5 v6 n) (X:Ext H h) (d:TripW) (q:∀h2 (b:Bool),Ext h h2->(b=true↔¬inL d.route n.routes)->Q (.val (.bool b) h2)):W E1 (.call (.fn 215 [] [.ptr (some (b4,0)),.ptr (some (b3,0))]) [.agg d.enc]) tm h Q:=by
 obtain⟨l3,l4,l5,s1,s2,s4⟩:=c;refine W.fn (s:=fnOf Tryz.f215) rfl rfl rfl rfl ?_;repeat (first|refine W.g ?_|refine W.m λh_ X_ n_ g_ L_=> ?_)
 have X1:Ext h h_:=X_;refine W.call rfl rfl rfl (in_w (s4.ext (X.trans X1)) d.route λb hb=> ?_);cases b
 ·repeat refine W.g ?_
  exact q _ true X1 (Iff.intro (λ_ h=>by cases hb.2 h) (λ_=>rfl))
 ·repeat refine W.g ?_
  exact q _ false X1 (Iff.intro (λh=>by cases h) (λh=>absurd (hb.1 rfl) h))
theorem odd7_w (c:WCtx H b3 b4 b5 v1 v2 v3 v4 v5 v6 n) (X:Ext H h) (d:HazW) (q:∀h2 (b:Bool),Ext h h2->(b=true↔¬inL d.on (if d.stop then n.stops else n.paths))->Q (.val (.bool b) h2)):W E1 (.call (.fn 217 [] [.ptr (some (b5,0)),.ptr (some (b4,0)),.ptr (some (b3,0))]) [.agg d.enc]) tm h Q:=by
 obtain⟨st,on,tt⟩:=d;have c0:=c;obtain⟨l3,l4,l5,s1,s2,s4⟩:=c;refine W.fn (s:=fnOf Tryz.f217) rfl rfl rfl rfl ?_;cases st
 ·repeat (first|refine W.g ?_|refine W.m λh_ X_ n_ g_ L_=> ?_)
  have X1:Ext h h_:=X_;refine W.call rfl rfl rfl (in_w (s2.ext (X.trans X1)) on λb hb=> ?_);cases b
  ·repeat refine W.g ?_
   exact q _ true X1 (Iff.intro (λ_ h=>by cases hb.2 h) (λ_=>rfl))
  ·repeat refine W.g ?_
   exact q _ false X1 (Iff.intro (λh=>by cases h) (λh=>absurd (hb.1 rfl) h))
 ·repeat (first|refine W.g ?_|refine W.m λh_ X_ n_ g_ L_=> ?_)
  have X1:Ext h h_:=X_;refine W.call rfl rfl rfl (oddS_w c0 (X.trans X1) on λb hb=> ?_);repeat refine W.g ?_
  exact q _ b X1 hb
end
theorem whole_w {h:Heap} {tm:Tm} {Q:R->Prop} {cs:List CV} {w:WorldD} (r:Rp.R h cs w) (sm:w.small) (q:∀h' (b:Bool),Ext h h'->(b=true↔w.whole)->Q (.val (.bool b) h')):W E1 (.call (.fn 141 [] []) [.agg cs]) tm h Q:=by
 obtain⟨v1,v2,v3,v4,v5,v6,v7,v8,v9,v10,v11,rfl,s1,s2,s3,s4,s5,s6,s7,s8,s9,s10,s11⟩:=r;obtain⟨f1,f2,f3,f4,f5,f6,f7,f8,f9,f10,f11,fr2⟩:=sm;refine W.fn (s:=fnOf Tryz.f141) rfl rfl rfl rfl ?_;repeat (refine W.seq ?_)
 refine W.region ?_;refine W.box rfl rfl rfl λHa Xa na ga La=> ?_;repeat (first|refine W.g ?_|refine W.m λh_ X_ n_ g_ L_=> ?_)
 have L3:LocE h_ Ha.next 0 [v1,v2,v3,v4,v5,v6]:=L_;have Xh:=Xa.trans X_;have La:=La.ext X_;obtain⟨H,hH⟩:∃H,H=h_:=⟨_,rfl⟩;rw[<-hH]at L3 Xh La ⊢;clear L_ g_;refine W.k4 1 2 3 15 λT=> ?_;rcases Decidable.em (w.names.paths.length=w.paths.length)with e1|e1
 case inr=>
  repeat refine W.g ?_
  exact q _ false Xh (Iff.intro (λh=>by cases h) (λh=>absurd h.1.1 e1))
 repeat refine W.g ?_
 refine W.k4 1 2 3 24 λT=> ?_;rcases Decidable.em (w.names.doors.length=w.doors.length)with e2|e2
 case inr=>
  repeat refine W.g ?_
  exact q _ false Xh (Iff.intro (λh=>by cases h) (λh=>absurd h.1.2.1 e2))
 repeat refine W.g ?_
 refine W.k4 1 2 3 33 λT=> ?_;rcases Decidable.em (w.names.routes.length=w.routes.length)with e3|e3
 case inr=>
  repeat refine W.g ?_
  exact q _ false Xh (Iff.intro (λh=>by cases h) (λh=>absurd h.1.2.2.1 e3))
 repeat refine W.g ?_
 refine W.k4 1 2 3 42 λT=> ?_;rcases Decidable.em (w.names.trips.length=w.trips.length)with e4|e4
 case inr=>
  repeat refine W.g ?_
  exact q _ false Xh (Iff.intro (λh=>by cases h) (λh=>absurd h.1.2.2.2.1 e4))
 repeat refine W.g ?_
 rcases Decidable.em (w.names.hazards.length=w.hazards.length)with e5|e5
 case inr=>
  repeat refine W.g ?_
  exact q _ false Xh (Iff.intro (λh=>by cases h) (λh=>absurd h.1.2.2.2.2 e5))
 repeat (first|refine W.g ?_|refine W.m λh_ X_ n_ g_ L_=> ?_)
 rename_i K4 X4 n4 g4 L4;obtain⟨b4,hb4⟩:∃b4,b4=H.next:=⟨_,rfl⟩;obtain⟨b5,hb5⟩:∃b5,b5=K4.next:=⟨_,rfl⟩;have X45:Ext H h_:=X4.trans X_;have C:WCtx h_ Ha.next b4 b5 v1 v2 v3 v4 v5 v6 w.names:=⟨L3.ext X45,by rw[hb4];exact L4.ext X_,by rw[hb4,hb5];exact L_,(s1.ext Xh).ext X45,(s2.ext Xh).ext X45,(s4.ext Xh).ext X45⟩;have XK:Ext h h_:=Xh.trans X45;have La:=La.ext X45;rw[<-hb4,<-hb5];obtain⟨K,hK⟩:∃K,K=h_:=⟨_,rfl⟩;rw[<-hK]at C XK La ⊢;clear X4 X_ g4 L4 g_ L_ L3;refine W.k7 1 2 4 5 3 53 54 λT=> ?_;refine W.call rfl rfl rfl (conF_pathW _ [] _ (λd=>¬inL d.a w.names.stops\/¬inL d.b w.names.stops) (s7.ext XK) (by omega) (λd _ tm h' Q X' q=>odd3_w C X' d q) λh2 p2 X2 hp2=> ?_);cases p2
 case true=>
  repeat refine W.g ?_
  refine q _ false (XK.trans X2) (Iff.intro (λh=>by cases h) (λhw=> ?_));obtain⟨d,hd,hn⟩:=hp2.1 rfl;have:=hw.2.1 d hd;rcases hn with hn|hn
  ·exact absurd this.1 hn
  ·exact absurd this.2 hn
 refine W.k6 1 2 4 5 3 55 λT=> ?_;repeat refine W.g ?_
 refine W.call rfl rfl rfl (conF_doorW _ [] _ (λd=>¬inL d.a w.names.stops\/¬inL d.b w.names.stops) (s8.ext (XK.trans X2)) (by omega) (λd _ tm h' Q X' q=>odd4_w C (X2.trans X') d q) λh3 p3 X3 hp3=> ?_);have Y3:=X2.trans X3;cases p3
 case true=>
  repeat refine W.g ?_
  refine q _ false (XK.trans Y3) (Iff.intro (λh=>by cases h) (λhw=> ?_));obtain⟨d,hd,hn⟩:=hp3.1 rfl;have:=hw.2.2.1 d hd;rcases hn with hn|hn
  ·exact absurd this.1 hn
  ·exact absurd this.2 hn
 refine W.k7 1 2 4 5 3 57 61 λT=> ?_;repeat refine W.g ?_
 refine W.call rfl rfl rfl (conF_routeW _ [] _ (λd=>∃s,s∈d.stops/\¬inL s w.names.stops) (s9.ext (XK.trans Y3)) (by omega) (λd hd e re tm h' Q X' q=>odd5_w C (Y3.trans X') (Rp.ext X' re) (by have:=(fr2 d hd).1;omega) q) λh4 p4 X4 hp4=> ?_);have Y4:=Y3.trans X4;cases p4
 case true=>
  repeat refine W.g ?_
  refine q _ false (XK.trans Y4) (Iff.intro (λh=>by cases h) (λhw=> ?_));obtain⟨d,hd,s,hs,hn⟩:=hp4.1 rfl;exact absurd (hw.2.2.2.1 d hd s hs) hn
 refine W.k7 1 2 4 5 3 64 68 λT=> ?_;repeat refine W.g ?_
 refine W.call rfl rfl rfl (conF_tripW _ [] _ (λd=>¬inL d.route w.names.routes) (s10.ext (XK.trans Y4)) (by omega) (λd _ tm h' Q X' q=>odd6_w C (Y4.trans X') d q) λh5 p5 X5 hp5=> ?_);have Y5:=Y4.trans X5;cases p5
 case true=>
  repeat refine W.g ?_
  refine q _ false (XK.trans Y5) (Iff.intro (λh=>by cases h) (λhw=> ?_));obtain⟨d,hd,hn⟩:=hp5.1 rfl;exact absurd (hw.2.2.2.2.1 d hd) hn
 refine W.k7 1 2 4 5 3 71 75 λT=> ?_;repeat refine W.g ?_
 refine W.call rfl rfl rfl (conF_hazW _ [] _ (λd=>¬inL d.on (if d.stop then w.names.stops else w.names.paths)) (s11.ext (XK.trans Y5)) (by omega) (λd _ tm h' Q X' q=>odd7_w C (Y5.trans X') d q) λh6 p6 X6 hp6=> ?_)
 have Y6:=Y5.trans X6;cases p6
 case true=>
  repeat refine W.g ?_
  refine q _ false (XK.trans Y6) (Iff.intro (λh=>by cases h) (λhw=> ?_));obtain⟨d,hd,hn⟩:=hp6.1 rfl;exact absurd (hw.2.2.2.2.2 d hd) hn
 repeat refine W.g ?_
 have no:∀{α:Type} {l:List α} {P:α->Prop},(false=true↔∃d,d∈l/\P d)->∀d∈l,¬P d:=λh d hd hp=>by cases h.2 ⟨d,hd,hp⟩
 refine q _ true (XK.trans Y6) (Iff.intro (λ_=>⟨⟨e1,e2,e3,e4,e5⟩,λd hd=> ?_,λd hd=> ?_,λd hd s hs=> ?_,λd hd=> ?_,λd hd=> ?_⟩) (λ_=>rfl))
 ·have:=no hp2 d hd
  exact⟨Classical.not_not.1 λh=>this (.inl h),Classical.not_not.1 λh=>this (.inr h)⟩
 ·have:=no hp3 d hd
  exact⟨Classical.not_not.1 λh=>this (.inl h),Classical.not_not.1 λh=>this (.inr h)⟩
 ·exact Classical.not_not.1 λh=>no hp4 d hd ⟨s,hs,h⟩
 ·exact Classical.not_not.1 (no hp5 d hd)
 ·exact Classical.not_not.1 (no hp6 d hd)
end
end Go.Proofs.YtnjkaahbhebaeaaGreatDoor
