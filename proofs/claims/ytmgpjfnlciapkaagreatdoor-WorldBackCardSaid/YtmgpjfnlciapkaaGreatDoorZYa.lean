/- What is asked of a world's rows, one by one. No condition. -/
import Derived.Test.YtmgpjfnlciapkaaGreatDoorXG
import Derived.Test.YtmgpjfnlciapkaaGreatDoorYC
import Derived.Test.YtmgpjfnlciapkaaGreatDoorYI
set_option linter.unusedVariables false
set_option linter.unusedSimpArgs false
namespace Go.Proofs.YtmgpjfnlciapkaaGreatDoor
open Go Go.CM Go.CM.Tt
noncomputable section
set_option maxHeartbeats 8000000
theorem idxF_pathW {h:Heap} {tm:Tm} {Q:R->Prop} {v:CV} {l:List PathW} (f:Nat) (first caps:List CV) (P:PathW->Prop) (sl:Sl h v l) (hm:l.length<=1099511627776)
  (hf:∀d,d∈l->∀(tm:Tm) (h':Heap) (Q:R->Prop),Ext h h'->(∀h2 (b:Bool),Ext h' h2->(b=true↔P d)->Q (.val (.bool b) h2))->W E1 (.call (.fn f first caps) [.agg d.enc]) tm h' Q)
  (q:∀h' (r:Int),Ext h h'->(0<=r↔∃d,d∈l/\P d)->Q (.val (.int .i64 r) h')):W E1 (.call (.fn 155 [] []) [v,.fn f first caps]) tm h Q:=by
 refine W.fn (s:=fnOf Tryz.f155) rfl rfl rfl rfl ?_
 refine W.g ?_
 refine W.loop (σ:=Nat) (λk tm h'=>Ext h h'/\tm.look 0=v/\tm.look 1= .fn f first caps/\tm.look 7= .int .i64 (l.length:Int)/\tm.look 8= .int .i64 (k:Int)/\k<=l.length/\∀j,j<k->∀a,l[j]? =some a->¬P a) (λk=>l.length-k) ?_ (s:=0)
  ⟨Ext.refl _,rfl,rfl,rfl,rfl,Nat.zero_le _,λj hj=>by omega⟩
 rintro k tm h' ⟨X,w0,w1,w7,w8,hk,hn⟩
 obtain⟨T,rfl⟩:=Tm.t4 w0 w1 w7 w8
 clear w0 w1 w7 w8
 by_cases c1:k<l.length
 ·refine W.g ?_
  refine W.iz λi_ o_ L_=> ?_
  refine W.g ?_
  refine W.call rfl rfl rfl (hf l[k] (List.getElem_mem c1) _ _ _ X λh2 b X2 hb=> ?_)
  cases b
  ·refine W.g ?_
   refine⟨k+1,lessN c1,X.trans X2,rfl,rfl,rfl,rfl,c1,λj hj a ha hp=> ?_⟩
   by_cases e:j=k
   ·subst e
    rw[List.getElem?_eq_getElem c1]at ha
    cases ha
    cases hb.2 hp
   ·exact hn j (by omega) a ha hp
  ·refine W.g ?_
   exact q _ _ (X.trans X2) (Iff.intro (λ_=>⟨l[k],List.getElem_mem c1,hb.1 rfl⟩) (λ_=>by omega))
 ·refine W.g ?_
  refine q _ _ X (Iff.intro (λh=>by omega) (λh=> ?_))
  obtain⟨d,hd,hp⟩:=h
  obtain⟨j,hj⟩:=List.getElem?_of_mem hd
  exact absurd hp (hn j (by have:=(List.getElem?_eq_some_iff.1 hj).1;omega) d hj)
theorem conF_pathW {h:Heap} {tm:Tm} {Q:R->Prop} {v:CV} {l:List PathW} (f:Nat) (first caps:List CV) (P:PathW->Prop) (sl:Sl h v l) (hm:l.length<=1099511627776)
  (hf:∀d,d∈l->∀(tm:Tm) (h':Heap) (Q:R->Prop),Ext h h'->(∀h2 (b:Bool),Ext h' h2->(b=true↔P d)->Q (.val (.bool b) h2))->W E1 (.call (.fn f first caps) [.agg d.enc]) tm h' Q)
  (q:∀h' (b:Bool),Ext h h'->(b=true↔∃d,d∈l/\P d)->Q (.val (.bool b) h')):W E1 (.call (.fn 128 [] []) [v,.fn f first caps]) tm h Q:=by
 refine W.fn (s:=fnOf Tryz.f128) rfl rfl rfl rfl ?_
 refine W.g ?_
 refine W.call rfl rfl rfl (idxF_pathW f first caps P sl hm hf λh' r X hr=> ?_)
 by_cases c:0<=r
 ·refine W.g ?_
  exact q h' true X (Iff.intro (λ_=>hr.1 c) (λ_=>rfl))
 ·refine W.g ?_
  exact q h' false X (Iff.intro (λh=>by cases h) (λh=>absurd (hr.2 h) c))
theorem idxF_doorW {h:Heap} {tm:Tm} {Q:R->Prop} {v:CV} {l:List DoorW} (f:Nat) (first caps:List CV) (P:DoorW->Prop) (sl:Sl h v l) (hm:l.length<=1099511627776)
  (hf:∀d,d∈l->∀(tm:Tm) (h':Heap) (Q:R->Prop),Ext h h'->(∀h2 (b:Bool),Ext h' h2->(b=true↔P d)->Q (.val (.bool b) h2))->W E1 (.call (.fn f first caps) [.agg d.enc]) tm h' Q)
  (q:∀h' (r:Int),Ext h h'->(0<=r↔∃d,d∈l/\P d)->Q (.val (.int .i64 r) h')):W E1 (.call (.fn 156 [] []) [v,.fn f first caps]) tm h Q:=by
 refine W.fn (s:=fnOf Tryz.f156) rfl rfl rfl rfl ?_
 refine W.g ?_
 refine W.loop (σ:=Nat) (λk tm h'=>Ext h h'/\tm.look 0=v/\tm.look 1= .fn f first caps/\tm.look 7= .int .i64 (l.length:Int)/\tm.look 8= .int .i64 (k:Int)/\k<=l.length/\∀j,j<k->∀a,l[j]? =some a->¬P a) (λk=>l.length-k) ?_ (s:=0)
  ⟨Ext.refl _,rfl,rfl,rfl,rfl,Nat.zero_le _,λj hj=>by omega⟩
 rintro k tm h' ⟨X,w0,w1,w7,w8,hk,hn⟩
 obtain⟨T,rfl⟩:=Tm.t4 w0 w1 w7 w8
 clear w0 w1 w7 w8
 by_cases c1:k<l.length
 ·refine W.g ?_
  refine W.iz λi_ o_ L_=> ?_
  refine W.g ?_
  refine W.call rfl rfl rfl (hf l[k] (List.getElem_mem c1) _ _ _ X λh2 b X2 hb=> ?_)
  cases b
  ·refine W.g ?_
   refine⟨k+1,lessN c1,X.trans X2,rfl,rfl,rfl,rfl,c1,λj hj a ha hp=> ?_⟩
   by_cases e:j=k
   ·subst e
    rw[List.getElem?_eq_getElem c1]at ha
    cases ha
    cases hb.2 hp
   ·exact hn j (by omega) a ha hp
  ·refine W.g ?_
   exact q _ _ (X.trans X2) (Iff.intro (λ_=>⟨l[k],List.getElem_mem c1,hb.1 rfl⟩) (λ_=>by omega))
 ·refine W.g ?_
  refine q _ _ X (Iff.intro (λh=>by omega) (λh=> ?_))
  obtain⟨d,hd,hp⟩:=h
  obtain⟨j,hj⟩:=List.getElem?_of_mem hd
  exact absurd hp (hn j (by have:=(List.getElem?_eq_some_iff.1 hj).1;omega) d hj)
theorem conF_doorW {h:Heap} {tm:Tm} {Q:R->Prop} {v:CV} {l:List DoorW} (f:Nat) (first caps:List CV) (P:DoorW->Prop) (sl:Sl h v l) (hm:l.length<=1099511627776)
  (hf:∀d,d∈l->∀(tm:Tm) (h':Heap) (Q:R->Prop),Ext h h'->(∀h2 (b:Bool),Ext h' h2->(b=true↔P d)->Q (.val (.bool b) h2))->W E1 (.call (.fn f first caps) [.agg d.enc]) tm h' Q)
  (q:∀h' (b:Bool),Ext h h'->(b=true↔∃d,d∈l/\P d)->Q (.val (.bool b) h')):W E1 (.call (.fn 130 [] []) [v,.fn f first caps]) tm h Q:=by
 refine W.fn (s:=fnOf Tryz.f130) rfl rfl rfl rfl ?_
 refine W.g ?_
 refine W.call rfl rfl rfl (idxF_doorW f first caps P sl hm hf λh' r X hr=> ?_)
 by_cases c:0<=r
 ·refine W.g ?_
  exact q h' true X (Iff.intro (λ_=>hr.1 c) (λ_=>rfl))
 ·refine W.g ?_
  exact q h' false X (Iff.intro (λh=>by cases h) (λh=>absurd (hr.2 h) c))
theorem idxF_tripW {h:Heap} {tm:Tm} {Q:R->Prop} {v:CV} {l:List TripW} (f:Nat) (first caps:List CV) (P:TripW->Prop) (sl:Sl h v l) (hm:l.length<=1099511627776)
  (hf:∀d,d∈l->∀(tm:Tm) (h':Heap) (Q:R->Prop),Ext h h'->(∀h2 (b:Bool),Ext h' h2->(b=true↔P d)->Q (.val (.bool b) h2))->W E1 (.call (.fn f first caps) [.agg d.enc]) tm h' Q)
  (q:∀h' (r:Int),Ext h h'->(0<=r↔∃d,d∈l/\P d)->Q (.val (.int .i64 r) h')):W E1 (.call (.fn 159 [] []) [v,.fn f first caps]) tm h Q:=by
 refine W.fn (s:=fnOf Tryz.f159) rfl rfl rfl rfl ?_
 refine W.g ?_
 refine W.loop (σ:=Nat) (λk tm h'=>Ext h h'/\tm.look 0=v/\tm.look 1= .fn f first caps/\tm.look 7= .int .i64 (l.length:Int)/\tm.look 8= .int .i64 (k:Int)/\k<=l.length/\∀j,j<k->∀a,l[j]? =some a->¬P a) (λk=>l.length-k) ?_ (s:=0)
  ⟨Ext.refl _,rfl,rfl,rfl,rfl,Nat.zero_le _,λj hj=>by omega⟩
 rintro k tm h' ⟨X,w0,w1,w7,w8,hk,hn⟩
 obtain⟨T,rfl⟩:=Tm.t4 w0 w1 w7 w8
 clear w0 w1 w7 w8
 by_cases c1:k<l.length
 ·refine W.g ?_
  refine W.iz λi_ o_ L_=> ?_
  refine W.g ?_
  refine W.call rfl rfl rfl (hf l[k] (List.getElem_mem c1) _ _ _ X λh2 b X2 hb=> ?_)
  cases b
  ·refine W.g ?_
   refine⟨k+1,lessN c1,X.trans X2,rfl,rfl,rfl,rfl,c1,λj hj a ha hp=> ?_⟩
   by_cases e:j=k
   ·subst e
    rw[List.getElem?_eq_getElem c1]at ha
    cases ha
    cases hb.2 hp
   ·exact hn j (by omega) a ha hp
  ·refine W.g ?_
   exact q _ _ (X.trans X2) (Iff.intro (λ_=>⟨l[k],List.getElem_mem c1,hb.1 rfl⟩) (λ_=>by omega))
 ·refine W.g ?_
  refine q _ _ X (Iff.intro (λh=>by omega) (λh=> ?_))
  obtain⟨d,hd,hp⟩:=h
  obtain⟨j,hj⟩:=List.getElem?_of_mem hd
  exact absurd hp (hn j (by have:=(List.getElem?_eq_some_iff.1 hj).1;omega) d hj)
theorem conF_tripW {h:Heap} {tm:Tm} {Q:R->Prop} {v:CV} {l:List TripW} (f:Nat) (first caps:List CV) (P:TripW->Prop) (sl:Sl h v l) (hm:l.length<=1099511627776)
  (hf:∀d,d∈l->∀(tm:Tm) (h':Heap) (Q:R->Prop),Ext h h'->(∀h2 (b:Bool),Ext h' h2->(b=true↔P d)->Q (.val (.bool b) h2))->W E1 (.call (.fn f first caps) [.agg d.enc]) tm h' Q)
  (q:∀h' (b:Bool),Ext h h'->(b=true↔∃d,d∈l/\P d)->Q (.val (.bool b) h')):W E1 (.call (.fn 135 [] []) [v,.fn f first caps]) tm h Q:=by
 refine W.fn (s:=fnOf Tryz.f135) rfl rfl rfl rfl ?_
 refine W.g ?_
 refine W.call rfl rfl rfl (idxF_tripW f first caps P sl hm hf λh' r X hr=> ?_)
 by_cases c:0<=r
 ·refine W.g ?_
  exact q h' true X (Iff.intro (λ_=>hr.1 c) (λ_=>rfl))
 ·refine W.g ?_
  exact q h' false X (Iff.intro (λh=>by cases h) (λh=>absurd (hr.2 h) c))
theorem idxF_hazW {h:Heap} {tm:Tm} {Q:R->Prop} {v:CV} {l:List HazW} (f:Nat) (first caps:List CV) (P:HazW->Prop) (sl:Sl h v l) (hm:l.length<=1099511627776)
  (hf:∀d,d∈l->∀(tm:Tm) (h':Heap) (Q:R->Prop),Ext h h'->(∀h2 (b:Bool),Ext h' h2->(b=true↔P d)->Q (.val (.bool b) h2))->W E1 (.call (.fn f first caps) [.agg d.enc]) tm h' Q)
  (q:∀h' (r:Int),Ext h h'->(0<=r↔∃d,d∈l/\P d)->Q (.val (.int .i64 r) h')):W E1 (.call (.fn 160 [] []) [v,.fn f first caps]) tm h Q:=by
 refine W.fn (s:=fnOf Tryz.f160) rfl rfl rfl rfl ?_
 refine W.g ?_
 refine W.loop (σ:=Nat) (λk tm h'=>Ext h h'/\tm.look 0=v/\tm.look 1= .fn f first caps/\tm.look 7= .int .i64 (l.length:Int)/\tm.look 8= .int .i64 (k:Int)/\k<=l.length/\∀j,j<k->∀a,l[j]? =some a->¬P a) (λk=>l.length-k) ?_ (s:=0)
  ⟨Ext.refl _,rfl,rfl,rfl,rfl,Nat.zero_le _,λj hj=>by omega⟩
 rintro k tm h' ⟨X,w0,w1,w7,w8,hk,hn⟩
 obtain⟨T,rfl⟩:=Tm.t4 w0 w1 w7 w8
 clear w0 w1 w7 w8
 by_cases c1:k<l.length
 ·refine W.g ?_
  refine W.iz λi_ o_ L_=> ?_
  refine W.g ?_
  refine W.call rfl rfl rfl (hf l[k] (List.getElem_mem c1) _ _ _ X λh2 b X2 hb=> ?_)
  cases b
  ·refine W.g ?_
   refine⟨k+1,lessN c1,X.trans X2,rfl,rfl,rfl,rfl,c1,λj hj a ha hp=> ?_⟩
   by_cases e:j=k
   ·subst e
    rw[List.getElem?_eq_getElem c1]at ha
    cases ha
    cases hb.2 hp
   ·exact hn j (by omega) a ha hp
  ·refine W.g ?_
   exact q _ _ (X.trans X2) (Iff.intro (λ_=>⟨l[k],List.getElem_mem c1,hb.1 rfl⟩) (λ_=>by omega))
 ·refine W.g ?_
  refine q _ _ X (Iff.intro (λh=>by omega) (λh=> ?_))
  obtain⟨d,hd,hp⟩:=h
  obtain⟨j,hj⟩:=List.getElem?_of_mem hd
  exact absurd hp (hn j (by have:=(List.getElem?_eq_some_iff.1 hj).1;omega) d hj)
theorem conF_hazW {h:Heap} {tm:Tm} {Q:R->Prop} {v:CV} {l:List HazW} (f:Nat) (first caps:List CV) (P:HazW->Prop) (sl:Sl h v l) (hm:l.length<=1099511627776)
  (hf:∀d,d∈l->∀(tm:Tm) (h':Heap) (Q:R->Prop),Ext h h'->(∀h2 (b:Bool),Ext h' h2->(b=true↔P d)->Q (.val (.bool b) h2))->W E1 (.call (.fn f first caps) [.agg d.enc]) tm h' Q)
  (q:∀h' (b:Bool),Ext h h'->(b=true↔∃d,d∈l/\P d)->Q (.val (.bool b) h')):W E1 (.call (.fn 137 [] []) [v,.fn f first caps]) tm h Q:=by
 refine W.fn (s:=fnOf Tryz.f137) rfl rfl rfl rfl ?_
 refine W.g ?_
 refine W.call rfl rfl rfl (idxF_hazW f first caps P sl hm hf λh' r X hr=> ?_)
 by_cases c:0<=r
 ·refine W.g ?_
  exact q h' true X (Iff.intro (λ_=>hr.1 c) (λ_=>rfl))
 ·refine W.g ?_
  exact q h' false X (Iff.intro (λh=>by cases h) (λh=>absurd (hr.2 h) c))
theorem idxF_routeW {h:Heap} {tm:Tm} {Q:R->Prop} {v:CV} {l:List RouteW} (f:Nat) (first caps:List CV) (P:RouteW->Prop) (sl:Sl h v l) (hm:l.length<=1099511627776)
  (hf:∀d,d∈l->∀e,Rp.R h e d->∀(tm:Tm) (h':Heap) (Q:R->Prop),Ext h h'->(∀h2 (b:Bool),Ext h' h2->(b=true↔P d)->Q (.val (.bool b) h2))->W E1 (.call (.fn f first caps) [.agg e]) tm h' Q)
  (q:∀h' (r:Int),Ext h h'->(0<=r↔∃d,d∈l/\P d)->Q (.val (.int .i64 r) h')):W E1 (.call (.fn 157 [] []) [v,.fn f first caps]) tm h Q:=by
 refine W.fn (s:=fnOf Tryz.f157) rfl rfl rfl rfl ?_
 refine W.g ?_
 refine W.loop (σ:=Nat) (λk tm h'=>Ext h h'/\tm.look 0=v/\tm.look 1= .fn f first caps/\tm.look 7= .int .i64 (l.length:Int)/\tm.look 8= .int .i64 (k:Int)/\k<=l.length/\∀j,j<k->∀a,l[j]? =some a->¬P a) (λk=>l.length-k) ?_ (s:=0)
  ⟨Ext.refl _,rfl,rfl,rfl,rfl,Nat.zero_le _,λj hj=>by omega⟩
 rintro k tm h' ⟨X,w0,w1,w7,w8,hk,hn⟩
 obtain⟨T,rfl⟩:=Tm.t4 w0 w1 w7 w8
 clear w0 w1 w7 w8
 by_cases c1:k<l.length
 ·refine W.g ?_
  refine W.ixR (by assumption) c1 rfl rfl rfl rfl rfl rfl rfl λi_ o_ e L_ r_=> ?_
  skip
  have hlen:=Rp.len r_
  refine W.g ?_
  refine W.call rfl rfl rfl (hf l[k] (List.getElem_mem c1) e r_ _ _ _ X λh2 b X2 hb=> ?_)
  cases b
  ·refine W.g ?_
   refine⟨k+1,lessN c1,X.trans X2,rfl,rfl,rfl,rfl,c1,λj hj a ha hp=> ?_⟩
   by_cases e:j=k
   ·subst e
    rw[List.getElem?_eq_getElem c1]at ha
    cases ha
    cases hb.2 hp
   ·exact hn j (by omega) a ha hp
  ·refine W.g ?_
   exact q _ _ (X.trans X2) (Iff.intro (λ_=>⟨l[k],List.getElem_mem c1,hb.1 rfl⟩) (λ_=>by omega))
 ·refine W.g ?_
  refine q _ _ X (Iff.intro (λh=>by omega) (λh=> ?_))
  obtain⟨d,hd,hp⟩:=h
  obtain⟨j,hj⟩:=List.getElem?_of_mem hd
  exact absurd hp (hn j (by have:=(List.getElem?_eq_some_iff.1 hj).1;omega) d hj)
theorem conF_routeW {h:Heap} {tm:Tm} {Q:R->Prop} {v:CV} {l:List RouteW} (f:Nat) (first caps:List CV) (P:RouteW->Prop) (sl:Sl h v l) (hm:l.length<=1099511627776)
  (hf:∀d,d∈l->∀e,Rp.R h e d->∀(tm:Tm) (h':Heap) (Q:R->Prop),Ext h h'->(∀h2 (b:Bool),Ext h' h2->(b=true↔P d)->Q (.val (.bool b) h2))->W E1 (.call (.fn f first caps) [.agg e]) tm h' Q)
  (q:∀h' (b:Bool),Ext h h'->(b=true↔∃d,d∈l/\P d)->Q (.val (.bool b) h')):W E1 (.call (.fn 132 [] []) [v,.fn f first caps]) tm h Q:=by
 refine W.fn (s:=fnOf Tryz.f132) rfl rfl rfl rfl ?_
 refine W.g ?_
 refine W.call rfl rfl rfl (idxF_routeW f first caps P sl hm hf λh' r X hr=> ?_)
 by_cases c:0<=r
 ·refine W.g ?_
  exact q h' true X (Iff.intro (λ_=>hr.1 c) (λ_=>rfl))
 ·refine W.g ?_
  exact q h' false X (Iff.intro (λh=>by cases h) (λh=>absurd (hr.2 h) c))
theorem idxF_nt {h:Heap} {tm:Tm} {Q:R->Prop} {v:CV} {l:List Int} (f:Nat) (first caps:List CV) (P:Int->Prop) (sl:Sl h v l) (hm:l.length<=1099511627776)
  (hf:∀d,d∈l->∀(tm:Tm) (h':Heap) (Q:R->Prop),Ext h h'->(∀h2 (b:Bool),Ext h' h2->(b=true↔P d)->Q (.val (.bool b) h2))->W E1 (.call (.fn f first caps) [.int .i64 d]) tm h' Q)
  (q:∀h' (r:Int),Ext h h'->(0<=r↔∃d,d∈l/\P d)->Q (.val (.int .i64 r) h')):W E1 (.call (.fn 158 [] []) [v,.fn f first caps]) tm h Q:=by
 refine W.fn (s:=fnOf Tryz.f158) rfl rfl rfl rfl ?_
 refine W.g ?_
 refine W.loop (σ:=Nat) (λk tm h'=>Ext h h'/\tm.look 0=v/\tm.look 1= .fn f first caps/\tm.look 7= .int .i64 (l.length:Int)/\tm.look 8= .int .i64 (k:Int)/\k<=l.length/\∀j,j<k->∀a,l[j]? =some a->¬P a) (λk=>l.length-k) ?_ (s:=0)
  ⟨Ext.refl _,rfl,rfl,rfl,rfl,Nat.zero_le _,λj hj=>by omega⟩
 rintro k tm h' ⟨X,w0,w1,w7,w8,hk,hn⟩
 obtain⟨T,rfl⟩:=Tm.t4 w0 w1 w7 w8
 clear w0 w1 w7 w8
 by_cases c1:k<l.length
 ·refine W.g ?_
  refine W.iz λi_ o_ L_=> ?_
  refine W.g ?_
  refine W.call rfl rfl rfl (hf l[k] (List.getElem_mem c1) _ _ _ X λh2 b X2 hb=> ?_)
  cases b
  ·refine W.g ?_
   refine⟨k+1,lessN c1,X.trans X2,rfl,rfl,rfl,rfl,c1,λj hj a ha hp=> ?_⟩
   by_cases e:j=k
   ·subst e
    rw[List.getElem?_eq_getElem c1]at ha
    cases ha
    cases hb.2 hp
   ·exact hn j (by omega) a ha hp
  ·refine W.g ?_
   exact q _ _ (X.trans X2) (Iff.intro (λ_=>⟨l[k],List.getElem_mem c1,hb.1 rfl⟩) (λ_=>by omega))
 ·refine W.g ?_
  refine q _ _ X (Iff.intro (λh=>by omega) (λh=> ?_))
  obtain⟨d,hd,hp⟩:=h
  obtain⟨j,hj⟩:=List.getElem?_of_mem hd
  exact absurd hp (hn j (by have:=(List.getElem?_eq_some_iff.1 hj).1;omega) d hj)
theorem conF_nt {h:Heap} {tm:Tm} {Q:R->Prop} {v:CV} {l:List Int} (f:Nat) (first caps:List CV) (P:Int->Prop) (sl:Sl h v l) (hm:l.length<=1099511627776)
  (hf:∀d,d∈l->∀(tm:Tm) (h':Heap) (Q:R->Prop),Ext h h'->(∀h2 (b:Bool),Ext h' h2->(b=true↔P d)->Q (.val (.bool b) h2))->W E1 (.call (.fn f first caps) [.int .i64 d]) tm h' Q)
  (q:∀h' (b:Bool),Ext h h'->(b=true↔∃d,d∈l/\P d)->Q (.val (.bool b) h')):W E1 (.call (.fn 134 [] []) [v,.fn f first caps]) tm h Q:=by
 refine W.fn (s:=fnOf Tryz.f134) rfl rfl rfl rfl ?_
 refine W.g ?_
 refine W.call rfl rfl rfl (idxF_nt f first caps P sl hm hf λh' r X hr=> ?_)
 by_cases c:0<=r
 ·refine W.g ?_
  exact q h' true X (Iff.intro (λ_=>hr.1 c) (λ_=>rfl))
 ·refine W.g ?_
  exact q h' false X (Iff.intro (λh=>by cases h) (λh=>absurd (hr.2 h) c))
theorem all_strI {h:Heap} {tm:Tm} {Q:R->Prop} {v:CV} {l:List Int} (f:Nat) (first caps:List CV) (F:Int->Str) (sl:Sl h v l) (hm:l.length<=1048576)
  (hf:∀d,d∈l->∀(tm:Tm) (h':Heap) (Q:R->Prop),Ext h h'->(∀h2,Ext h' h2->Q (.val (.str (F d)) h2))->W E1 (.call (.fn f first caps) [.int .i64 d]) tm h' Q)
  (q:∀h' v',Ext h h'->OwnR h' h.next 1 v' ((l.map F).map Flat.enc)->Q (.val v' h')):W E1 (.call (.fn 124 [] []) [v,.fn f first caps]) tm h Q:=by
 refine W.fn (s:=fnOf Tryz.f124) rfl rfl rfl rfl ?_
 refine W.g ?_
 refine W.loop (σ:=Nat) (λk tm h'=>Ext h h'/\tm.look 1= .fn f first caps/\tm.look 7=v/\tm.look 8= .int .i64 (l.length:Int)/\tm.look 9= .int .i64 (k:Int)/\k<=l.length/\∃vo,tm.look 4=vo/\OwnR h' h.next 1 vo (((l.take k).map F).map Flat.enc)) (λk=>l.length-k) ?_ (s:=0)
  ⟨Ext.refl _,rfl,rfl,rfl,rfl,Nat.zero_le _,_,rfl,OwnR.nil⟩
 rintro k tm h' ⟨X,w1,w7,w8,w9,hk,vo,w4,O⟩
 obtain⟨pv,nv,cv,xv,e⟩:=O.form
 cases e
 obtain⟨T,rfl⟩:=Tm.t5 w1 w4 w7 w8 w9
 clear w1 w4 w7 w8 w9
 by_cases c1:k<l.length
 ·refine W.g ?_
  refine W.iz λi_ o_ L_=> ?_
  refine W.g ?_
  have X9:Ext h' h':=Ext.x
  refine W.call rfl rfl rfl (hf l[k] (List.getElem_mem c1) _ _ _ (X.trans X9) λh2 X2=> ?_)
  refine W.k7 1 4 7 8 9 13 16 λT=> ?_
  repeat refine W.n λh_ X_ n_ g_ S_=> ?_
  have S_:SlG _ 1 _ ([F l[k]].map Flat.enc):=S_
  refine W.apR (H:=h) (z:=1) (X.trans (X9.trans (X2.trans X_))) (O.ext (X9.trans (X2.trans X_))) S_ rfl rfl rfl rfl rfl rfl rfl rfl rfl rfl rfl rfl (by
   simp only[List.length_map,List.length_take,List.length_cons,List.length_nil]
   show _*16<=_
   omega) λv' h3 X3 O3=> ?_
  obtain⟨pv,nv,cv,xv,e⟩:=O3.form
  cases e
  refine W.g ?_
  refine⟨k+1,lessN c1,X3,rfl,rfl,rfl,rfl,c1,_,rfl,?_⟩
  rw[List.take_add_one,List.getElem?_eq_getElem c1,List.map_append,map_app]
  exact O3
 ·refine W.g ?_
  rw[show k=l.length by omega,List.take_length]at O
  exact q _ _ X O
end
end Go.Proofs.YtmgpjfnlciapkaaGreatDoor
