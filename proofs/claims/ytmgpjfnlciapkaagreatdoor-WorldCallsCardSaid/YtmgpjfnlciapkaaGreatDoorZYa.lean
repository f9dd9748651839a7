/- What is asked of a world's rows, one by one. No condition. -/
import Derived.Test.YtmgpjfnlciapkaaGreatDoorXU
import Derived.Test.YtmgpjfnlciapkaaGreatDoorYC
import Derived.Test.YtmgpjfnlciapkaaGreatDoorYI
import Derived.Test.YtmgpjfnlciapkaaGreatDoorYA
set_option linter.unusedVariables false
set_option linter.unusedSimpArgs false
namespace Go.Proofs.YtmgpjfnlciapkaaGreatDoor
open Go Go.CM Go.CM.Tt
noncomputable section
set_option maxHeartbeats 8000000
theorem idxF_pathW {h:Heap} {tm:Tm} {Q:R->Prop} {v:CV} {l:List PathW} (f:Nat) (first caps:List CV) (P:PathW->Prop) (sl:Sl h v l) (hm:l.length<=1099511627776)
  (hf:∀d,d∈l->∀(tm:Tm) (h':Heap) (Q:R->Prop),Ext h h'->(∀h2 (b:Bool),Ext h' h2->(b=true↔P d)->Q (.val (.bool b) h2))->W E1 (.call (.fn f first caps) [.agg d.enc]) tm h' Q)
  (q:∀h' (r:Int),Ext h h'->(0<=r↔∃d,d∈l/\P d)->Q (.val (.int .i64 r) h')):W E1 (.call (.fn 155 [] []) [v,.fn f first caps]) tm h Q:=by
 refine W.fn (s:=fnOf Tryz.f155) rfl rfl rfl rfl ?_;repeat refine W.g ?_
 refine W.loop (σ:=Nat) (λk tm h'=>Ext h h'/\tm.look 0=v/\tm.look 1= .fn f first caps/\tm.look 7= .int .i64 (l.length:Int)/\tm.look 8= .int .i64 (k:Int)/\k<=l.length/\∀j,j<k->∀a,l[j]? =some a->¬P a) (λk=>l.length-k) ?_ (s:=0)
  ⟨Ext.refl _,rfl,rfl,rfl,rfl,Nat.zero_le _,λj hj=>by omega⟩
 rintro k tm h' ⟨X,w0,w1,w7,w8,hk,hn⟩;obtain⟨T,rfl⟩:=Tm.t4 w0 w1 w7 w8;clear w0 w1 w7 w8;by_cases c1:k<l.length
 ·repeat refine W.g ?_
  refine W.iz λi_ o_ L_=> ?_;repeat refine W.g ?_
  refine W.call rfl rfl rfl (hf l[k] (List.getElem_mem c1) _ _ _ X λh2 b X2 hb=> ?_);cases b
  ·repeat refine W.g ?_
   refine⟨k+1,lessN c1,X.trans X2,rfl,rfl,rfl,rfl,c1,λj hj a ha hp=> ?_⟩;by_cases e:j=k
   ·subst e
    rw[List.getElem?_eq_getElem c1]at ha;cases ha;cases hb.2 hp
   ·exact hn j (by omega) a ha hp
  ·repeat refine W.g ?_
   exact q _ _ (X.trans X2) (Iff.intro (λ_=>⟨l[k],List.getElem_mem c1,hb.1 rfl⟩) (λ_=>by omega))
 ·repeat refine W.g ?_
  refine q _ _ X (Iff.intro (λh=>by omega) (λh=> ?_));obtain⟨d,hd,hp⟩:=h;obtain⟨j,hj⟩:=List.getElem?_of_mem hd;exact absurd hp (hn j (by have:=(List.getElem?_eq_some_iff.1 hj).1;omega) d hj)
theorem conF_pathW {h:Heap} {tm:Tm} {Q:R->Prop} {v:CV} {l:List PathW} (f:Nat) (first caps:List CV) (P:PathW->Prop) (sl:Sl h v l) (hm:l.length<=1099511627776)
  (hf:∀d,d∈l->∀(tm:Tm) (h':Heap) (Q:R->Prop),Ext h h'->(∀h2 (b:Bool),Ext h' h2->(b=true↔P d)->Q (.val (.bool b) h2))->W E1 (.call (.fn f first caps) [.agg d.enc]) tm h' Q)
  (q:∀h' (b:Bool),Ext h h'->(b=true↔∃d,d∈l/\P d)->Q (.val (.bool b) h')):W E1 (.call (.fn 128 [] []) [v,.fn f first caps]) tm h Q:=by
 refine W.fn (s:=fnOf Tryz.f128) rfl rfl rfl rfl ?_;repeat refine W.g ?_
 refine W.call rfl rfl rfl (idxF_pathW f first caps P sl hm hf λh' r X hr=> ?_);by_cases c:0<=r
 ·repeat refine W.g ?_
  exact q h' true X (Iff.intro (λ_=>hr.1 c) (λ_=>rfl))
 ·repeat refine W.g ?_
  exact q h' false X (Iff.intro (λh=>by cases h) (λh=>absurd (hr.2 h) c))
theorem idxF_doorW {h:Heap} {tm:Tm} {Q:R->Prop} {v:CV} {l:List DoorW} (f:Nat) (first caps:List CV) (P:DoorW->Prop) (sl:Sl h v l) (hm:l.length<=1099511627776)
  (hf:∀d,d∈l->∀(tm:Tm) (h':Heap) (Q:R->Prop),Ext h h'->(∀h2 (b:Bool),Ext h' h2->(b=true↔P d)->Q (.val (.bool b) h2))->W E1 (.call (.fn f first caps) [.agg d.enc]) tm h' Q)
  (q:∀h' (r:Int),Ext h h'->(0<=r↔∃d,d∈l/\P d)->Q (.val (.int .i64 r) h')):W E1 (.call (.fn 156 [] []) [v,.fn f first caps]) tm h Q:=by
 refine W.fn (s:=fnOf Tryz.f156) rfl rfl rfl rfl ?_;repeat refine W.g ?_
 refine W.loop (σ:=Nat) (λk tm h'=>Ext h h'/\tm.look 0=v/\tm.look 1= .fn f first caps/\tm.look 7= .int .i64 (l.length:Int)/\tm.look 8= .int .i64 (k:Int)/\k<=l.length/\∀j,j<k->∀a,l[j]? =some a->¬P a) (λk=>l.length-k) ?_ (s:=0)
  ⟨Ext.refl _,rfl,rfl,rfl,rfl,Nat.zero_le _,λj hj=>by omega⟩
 rintro k tm h' ⟨X,w0,w1,w7,w8,hk,hn⟩;obtain⟨T,rfl⟩:=Tm.t4 w0 w1 w7 w8;clear w0 w1 w7 w8;by_cases c1:k<l.length
 ·repeat refine W.g ?_
  refine W.iz λi_ o_ L_=> ?_;repeat refine W.g ?_
  refine W.call rfl rfl rfl (hf l[k] (List.getElem_mem c1) _ _ _ X λh2 b X2 hb=> ?_);cases b
  ·repeat refine W.g ?_
   refine⟨k+1,lessN c1,X.trans X2,rfl,rfl,rfl,rfl,c1,λj hj a ha hp=> ?_⟩;by_cases e:j=k
   ·subst e
    rw[List.getElem?_eq_getElem c1]at ha;cases ha;cases hb.2 hp
   ·exact hn j (by omega) a ha hp
  ·repeat refine W.g ?_
   exact q _ _ (X.trans X2) (Iff.intro (λ_=>⟨l[k],List.getElem_mem c1,hb.1 rfl⟩) (λ_=>by omega))
 ·repeat refine W.g ?_
  refine q _ _ X (Iff.intro (λh=>by omega) (λh=> ?_));obtain⟨d,hd,hp⟩:=h;obtain⟨j,hj⟩:=List.getElem?_of_mem hd;exact absurd hp (hn j (by have:=(List.getElem?_eq_some_iff.1 hj).1;omega) d hj)
theorem conF_doorW {h:Heap} {tm:Tm} {Q:R->Prop} {v:CV} {l:List DoorW} (f:Nat) (first caps:List CV) (P:DoorW->Prop) (sl:Sl h v l) (hm:l.length<=1099511627776)
  (hf:∀d,d∈l->∀(tm:Tm) (h':Heap) (Q:R->Prop),Ext h h'->(∀h2 (b:Bool),Ext h' h2->(b=true↔P d)->Q (.val (.bool b) h2))->W E1 (.call (.fn f first caps) [.agg d.enc]) tm h' Q)
  (q:∀h' (b:Bool),Ext h h'->(b=true↔∃d,d∈l/\P d)->Q (.val (.bool b) h')):W E1 (.call (.fn 130 [] []) [v,.fn f first caps]) tm h Q:=by
 refine W.fn (s:=fnOf Tryz.f130) rfl rfl rfl rfl ?_;repeat refine W.g ?_
 refine W.call rfl rfl rfl (idxF_doorW f first caps P sl hm hf λh' r X hr=> ?_);by_cases c:0<=r
 ·repeat refine W.g ?_
  exact q h' true X (Iff.intro (λ_=>hr.1 c) (λ_=>rfl))
 ·repeat refine W.g ?_
  exact q h' false X (Iff.intro (λh=>by cases h) (λh=>absurd (hr.2 h) c))
theorem idxF_tripW {h:Heap} {tm:Tm} {Q:R->Prop} {v:CV} {l:List TripW} (f:Nat) (first caps:List CV) (P:TripW->Prop) (sl:Sl h v l) (hm:l.length<=1099511627776)
  (hf:∀d,d∈l->∀(tm:Tm) (h':Heap) (Q:R->Prop),Ext h h'->(∀h2 (b:Bool),Ext h' h2->(b=true↔P d)->Q (.val (.bool b) h2))->W E1 (.call (.fn f first caps) [.agg d.enc]) tm h' Q)
  (q:∀h' (r:Int),Ext h h'->(0<=r↔∃d,d∈l/\P d)->Q (.val (.int .i64 r) h')):W E1 (.call (.fn 159 [] []) [v,.fn f first caps]) tm h Q:=by
 refine W.fn (s:=fnOf Tryz.f159) rfl rfl rfl rfl ?_;repeat refine W.g ?_
 refine W.loop (σ:=Nat) (λk tm h'=>Ext h h'/\tm.look 0=v/\tm.look 1= .fn f first caps/\tm.look 7= .int .i64 (l.length:Int)/\tm.look 8= .int .i64 (k:Int)/\k<=l.length/\∀j,j<k->∀a,l[j]? =some a->¬P a) (λk=>l.length-k) ?_ (s:=0)
  ⟨Ext.refl _,rfl,rfl,rfl,rfl,Nat.zero_le _,λj hj=>by omega⟩
 rintro k tm h' ⟨X,w0,w1,w7,w8,hk,hn⟩;obtain⟨T,rfl⟩:=Tm.t4 w0 w1 w7 w8;clear w0 w1 w7 w8;by_cases c1:k<l.length
 ·repeat refine W.g ?_
  refine W.iz λi_ o_ L_=> ?_;repeat refine W.g ?_
  refine W.call rfl rfl rfl (hf l[k] (List.getElem_mem c1) _ _ _ X λh2 b X2 hb=> ?_);cases b
  ·repeat refine W.g ?_
   refine⟨k+1,lessN c1,X.trans X2,rfl,rfl,rfl,rfl,c1,λj hj a ha hp=> ?_⟩;by_cases e:j=k
   ·subst e
    rw[List.getElem?_eq_getElem c1]at ha;cases ha;cases hb.2 hp
   ·exact hn j (by omega) a ha hp
  ·repeat refine W.g ?_
   exact q _ _ (X.trans X2) (Iff.intro (λ_=>⟨l[k],List.getElem_mem c1,hb.1 rfl⟩) (λ_=>by omega))
 ·repeat refine W.g ?_
  refine q _ _ X (Iff.intro (λh=>by omega) (λh=> ?_));obtain⟨d,hd,hp⟩:=h;obtain⟨j,hj⟩:=List.getElem?_of_mem hd;exact absurd hp (hn j (by have:=(List.getElem?_eq_some_iff.1 hj).1;omega) d hj)
theorem conF_tripW {h:Heap} {tm:Tm} {Q:R->Prop} {v:CV} {l:List TripW} (f:Nat) (first caps:List CV) (P:TripW->Prop) (sl:Sl h v l) (hm:l.length<=1099511627776)
  (hf:∀d,d∈l->∀(tm:Tm) (h':Heap) (Q:R->Prop),Ext h h'->(∀h2 (b:Bool),Ext h' h2->(b=true↔P d)->Q (.val (.bool b) h2))->W E1 (.call (.fn f first caps) [.agg d.enc]) tm h' Q)
  (q:∀h' (b:Bool),Ext h h'->(b=true↔∃d,d∈l/\P d)->Q (.val (.bool b) h')):W E1 (.call (.fn 135 [] []) [v,.fn f first caps]) tm h Q:=by
 refine W.fn (s:=fnOf Tryz.f135) rfl rfl rfl rfl ?_;repeat refine W.g ?_
 refine W.call rfl rfl rfl (idxF_tripW f first caps P sl hm hf λh' r X hr=> ?_);by_cases c:0<=r
 ·repeat refine W.g ?_
  exact q h' true X (Iff.intro (λ_=>hr.1 c) (λ_=>rfl))
 ·repeat refine W.g ?_
  exact q h' false X (Iff.intro (λh=>by cases h) (λh=>absurd (hr.2 h) c))
theorem idxF_hazW {h:Heap} {tm:Tm} {Q:R->Prop} {v:CV} {l:List HazW} (f:Nat) (first caps:List CV) (P:HazW->Prop) (sl:Sl h v l) (hm:l.length<=1099511627776)
  (hf:∀d,d∈l->∀(tm:Tm) (h':Heap) (Q:R->Prop),Ext h h'->(∀h2 (b:Bool),Ext h' h2->(b=true↔P d)->Q (.val (.bool b) h2))->W E1 (.call (.fn f first caps) [.agg d.enc]) tm h' Q)
  (q:∀h' (r:Int),Ext h h'->(0<=r↔∃d,d∈l/\P d)->Q (.val (.int .i64 r) h')):W E1 (.call (.fn 160 [] []) [v,.fn f first caps]) tm h Q:=by
 refine W.fn (s:=fnOf Tryz.f160) rfl rfl rfl rfl ?_;repeat refine W.g ?_
 refine W.loop (σ:=Nat) (λk tm h'=>Ext h h'/\tm.look 0=v/\tm.look 1= .fn f first caps/\tm.look 7= .int .i64 (l.length:Int)/\tm.look 8= .int .i64 (k:Int)/\k<=l.length/\∀j,j<k->∀a,l[j]? =some a->¬P a) (λk=>l.length-k) ?_ (s:=0)
  ⟨Ext.refl _,rfl,rfl,rfl,rfl,Nat.zero_le _,λj hj=>by omega⟩
 rintro k tm h' ⟨X,w0,w1,w7,w8,hk,hn⟩;obtain⟨T,rfl⟩:=Tm.t4 w0 w1 w7 w8;clear w0 w1 w7 w8;by_cases c1:k<l.length
 ·repeat refine W.g ?_
  refine W.iz λi_ o_ L_=> ?_;repeat refine W.g ?_
  refine W.call rfl rfl rfl (hf l[k] (List.getElem_mem c1) _ _ _ X λh2 b X2 hb=> ?_);cases b
  ·repeat refine W.g ?_
   refine⟨k+1,lessN c1,X.trans X2,rfl,rfl,rfl,rfl,c1,λj hj a ha hp=> ?_⟩;by_cases e:j=k
   ·subst e
    rw[List.getElem?_eq_getElem c1]at ha;cases ha;cases hb.2 hp
   ·exact hn j (by omega) a ha hp
  ·repeat refine W.g ?_
   exact q _ _ (X.trans X2) (Iff.intro (λ_=>⟨l[k],List.getElem_mem c1,hb.1 rfl⟩) (λ_=>by omega))
 ·repeat refine W.g ?_
  refine q _ _ X (Iff.intro (λh=>by omega) (λh=> ?_));obtain⟨d,hd,hp⟩:=h;obtain⟨j,hj⟩:=List.getElem?_of_mem hd;exact absurd hp (hn j (by have:=(List.getElem?_eq_some_iff.1 hj).1;omega) d hj)
theorem conF_hazW {h:Heap} {tm:Tm} {Q:R->Prop} {v:CV} {l:List HazW} (f:Nat) (first caps:List CV) (P:HazW->Prop) (sl:Sl h v l) (hm:l.length<=1099511627776)
  (hf:∀d,d∈l->∀(tm:Tm) (h':Heap) (Q:R->Prop),Ext h h'->(∀h2 (b:Bool),Ext h' h2->(b=true↔P d)->Q (.val (.bool b) h2))->W E1 (.call (.fn f first caps) [.agg d.enc]) tm h' Q)
  (q:∀h' (b:Bool),Ext h h'->(b=true↔∃d,d∈l/\P d)->Q (.val (.bool b) h')):W E1 (.call (.fn 137 [] []) [v,.fn f first caps]) tm h Q:=by
 refine W.fn (s:=fnOf Tryz.f137) rfl rfl rfl rfl ?_;repeat refine W.g ?_
 refine W.call rfl rfl rfl (idxF_hazW f first caps P sl hm hf λh' r X hr=> ?_);by_cases c:0<=r
 ·repeat refine W.g ?_
  exact q h' true X (Iff.intro (λ_=>hr.1 c) (λ_=>rfl))
 ·repeat refine W.g ?_
  exact q h' false X (Iff.intro (λh=>by cases h) (λh=>absurd (hr.2 h) c))
theorem idxF_routeW {h:Heap} {tm:Tm} {Q:R->Prop} {v:CV} {l:List RouteW} (f:Nat) (first caps:List CV) (P:RouteW->Prop) (sl:Sl h v l) (hm:l.length<=1099511627776)
  (hf:∀d,d∈l->∀e,Rp.R h e d->∀(tm:Tm) (h':Heap) (Q:R->Prop),Ext h h'->(∀h2 (b:Bool),Ext h' h2->(b=true↔P d)->Q (.val (.bool b) h2))->W E1 (.call (.fn f first caps) [.agg e]) tm h' Q)
  (q:∀h' (r:Int),Ext h h'->(0<=r↔∃d,d∈l/\P d)->Q (.val (.int .i64 r) h')):W E1 (.call (.fn 157 [] []) [v,.fn f first caps]) tm h Q:=by
 refine W.fn (s:=fnOf Tryz.f157) rfl rfl rfl rfl ?_;repeat refine W.g ?_
 refine W.loop (σ:=Nat) (λk tm h'=>Ext h h'/\tm.look 0=v/\tm.look 1= .fn f first caps/\tm.look 7= .int .i64 (l.length:Int)/\tm.look 8= .int .i64 (k:Int)/\k<=l.length/\∀j,j<k->∀a,l[j]? =some a->¬P a) (λk=>l.length-k) ?_ (s:=0)
  ⟨Ext.refl _,rfl,rfl,rfl,rfl,Nat.zero_le _,λj hj=>by omega⟩
 rintro k tm h' ⟨X,w0,w1,w7,w8,hk,hn⟩;obtain⟨T,rfl⟩:=Tm.t4 w0 w1 w7 w8;clear w0 w1 w7 w8;by_cases c1:k<l.length
 ·repeat refine W.g ?_
  refine W.ixR (by assumption) c1 rfl rfl rfl rfl rfl rfl rfl λi_ o_ e L_ r_=> ?_;have hlen:=Rp.len r_;repeat refine W.g ?_
  refine W.call rfl rfl rfl (hf l[k] (List.getElem_mem c1) e r_ _ _ _ X λh2 b X2 hb=> ?_);cases b
  ·repeat refine W.g ?_
   refine⟨k+1,lessN c1,X.trans X2,rfl,rfl,rfl,rfl,c1,λj hj a ha hp=> ?_⟩;by_cases e:j=k
   ·subst e
    rw[List.getElem?_eq_getElem c1]at ha;cases ha;cases hb.2 hp
   ·exact hn j (by omega) a ha hp
  ·repeat refine W.g ?_
   exact q _ _ (X.trans X2) (Iff.intro (λ_=>⟨l[k],List.getElem_mem c1,hb.1 rfl⟩) (λ_=>by omega))
 ·repeat refine W.g ?_
  refine q _ _ X (Iff.intro (λh=>by omega) (λh=> ?_));obtain⟨d,hd,hp⟩:=h;obtain⟨j,hj⟩:=List.getElem?_of_mem hd;exact absurd hp (hn j (by have:=(List.getElem?_eq_some_iff.1 hj).1;omega) d hj)
theorem conF_routeW {h:Heap} {tm:Tm} {Q:R->Prop} {v:CV} {l:List RouteW} (f:Nat) (first caps:List CV) (P:RouteW->Prop) (sl:Sl h v l) (hm:l.length<=1099511627776)
  (hf:∀d,d∈l->∀e,Rp.R h e d->∀(tm:Tm) (h':Heap) (Q:R->Prop),Ext h h'->(∀h2 (b:Bool),Ext h' h2->(b=true↔P d)->Q (.val (.bool b) h2))->W E1 (.call (.fn f first caps) [.agg e]) tm h' Q)
  (q:∀h' (b:Bool),Ext h h'->(b=true↔∃d,d∈l/\P d)->Q (.val (.bool b) h')):W E1 (.call (.fn 132 [] []) [v,.fn f first caps]) tm h Q:=by
 refine W.fn (s:=fnOf Tryz.f132) rfl rfl rfl rfl ?_;repeat refine W.g ?_
 refine W.call rfl rfl rfl (idxF_routeW f first caps P sl hm hf λh' r X hr=> ?_);by_cases c:0<=r
 ·repeat refine W.g ?_
  exact q h' true X (Iff.intro (λ_=>hr.1 c) (λ_=>rfl))
 ·repeat refine W.g ?_
  exact q h' false X (Iff.intro (λh=>by cases h) (λh=>absurd (hr.2 h) c))
theorem idxF_nt {h:Heap} {tm:Tm} {Q:R->Prop} {v:CV} {l:List Int} (f:Nat) (first caps:List CV) (P:Int->Prop) (sl:Sl h v l) (hm:l.length<=1099511627776)
  (hf:∀d,d∈l->∀(tm:Tm) (h':Heap) (Q:R->Prop),Ext h h'->(∀h2 (b:Bool),Ext h' h2->(b=true↔P d)->Q (.val (.bool b) h2))->W E1 (.call (.fn f first caps) [.int .i64 d]) tm h' Q)
  (q:∀h' (r:Int),Ext h h'->(0<=r↔∃d,d∈l/\P d)->Q (.val (.int .i64 r) h')):W E1 (.call (.fn 158 [] []) [v,.fn f first caps]) tm h Q:=by
 refine W.fn (s:=fnOf Tryz.f158) rfl rfl rfl rfl ?_;repeat refine W.g ?_
 refine W.loop (σ:=Nat) (λk tm h'=>Ext h h'/\tm.look 0=v/\tm.look 1= .fn f first caps/\tm.look 7= .int .i64 (l.length:Int)/\tm.look 8= .int .i64 (k:Int)/\k<=l.length/\∀j,j<k->∀a,l[j]? =some a->¬P a) (λk=>l.length-k) ?_ (s:=0)
  ⟨Ext.refl _,rfl,rfl,rfl,rfl,Nat.zero_le _,λj hj=>by omega⟩
 rintro k tm h' ⟨X,w0,w1,w7,w8,hk,hn⟩;obtain⟨T,rfl⟩:=Tm.t4 w0 w1 w7 w8;clear w0 w1 w7 w8;by_cases c1:k<l.length
 ·repeat refine W.g ?_
  refine W.iz λi_ o_ L_=> ?_;repeat refine W.g ?_
  refine W.call rfl rfl rfl (hf l[k] (List.getElem_mem c1) _ _ _ X λh2 b X2 hb=> ?_);cases b
  ·repeat refine W.g ?_
   refine⟨k+1,lessN c1,X.trans X2,rfl,rfl,rfl,rfl,c1,λj hj a ha hp=> ?_⟩;by_cases e:j=k
   ·subst e
    rw[List.getElem?_eq_getElem c1]at ha;cases ha;cases hb.2 hp
   ·exact hn j (by omega) a ha hp
  ·repeat refine W.g ?_
   exact q _ _ (X.trans X2) (Iff.intro (λ_=>⟨l[k],List.getElem_mem c1,hb.1 rfl⟩) (λ_=>by omega))
 ·repeat refine W.g ?_
  refine q _ _ X (Iff.intro (λh=>by omega) (λh=> ?_));obtain⟨d,hd,hp⟩:=h;obtain⟨j,hj⟩:=List.getElem?_of_mem hd;exact absurd hp (hn j (by have:=(List.getElem?_eq_some_iff.1 hj).1;omega) d hj)
theorem conF_nt {h:Heap} {tm:Tm} {Q:R->Prop} {v:CV} {l:List Int} (f:Nat) (first caps:List CV) (P:Int->Prop) (sl:Sl h v l) (hm:l.length<=1099511627776)
  (hf:∀d,d∈l->∀(tm:Tm) (h':Heap) (Q:R->Prop),Ext h h'->(∀h2 (b:Bool),Ext h' h2->(b=true↔P d)->Q (.val (.bool b) h2))->W E1 (.call (.fn f first caps) [.int .i64 d]) tm h' Q)
  (q:∀h' (b:Bool),Ext h h'->(b=true↔∃d,d∈l/\P d)->Q (.val (.bool b) h')):W E1 (.call (.fn 134 [] []) [v,.fn f first caps]) tm h Q:=by
 refine W.fn (s:=fnOf Tryz.f134) rfl rfl rfl rfl ?_;repeat refine W.g ?_
 refine W.call rfl rfl rfl (idxF_nt f first caps P sl hm hf λh' r X hr=> ?_);by_cases c:0<=r
 ·repeat refine W.g ?_
  exact q h' true X (Iff.intro (λ_=>hr.1 c) (λ_=>rfl))
 ·repeat refine W.g ?_
  exact q h' false X (Iff.intro (λh=>by cases h) (λh=>absurd (hr.2 h) c))
theorem all_strI {h:Heap} {tm:Tm} {Q:R->Prop} {v:CV} {l:List Int} (f:Nat) (first caps:List CV) (F:Int->Str) (sl:Sl h v l) (hm:l.length<=1048576)
  (hf:∀d,d∈l->∀(tm:Tm) (h':Heap) (Q:R->Prop),Ext h h'->(∀h2,Ext h' h2->Q (.val (.str (F d)) h2))->W E1 (.call (.fn f first caps) [.int .i64 d]) tm h' Q)
  (q:∀h' v',Ext h h'->OwnR h' h.next 1 v' ((l.map F).map Flat.enc)->Q (.val v' h')):W E1 (.call (.fn 124 [] []) [v,.fn f first caps]) tm h Q:=by
 refine W.fn (s:=fnOf Tryz.f124) rfl rfl rfl rfl ?_;repeat refine W.g ?_
 refine W.loop (σ:=Nat) (λk tm h'=>Ext h h'/\tm.look 1= .fn f first caps/\tm.look 7=v/\tm.look 8= .int .i64 (l.length:Int)/\tm.look 9= .int .i64 (k:Int)/\k<=l.length/\∃vo,tm.look 4=vo/\OwnR h' h.next 1 vo (((l.take k).map F).map Flat.enc)) (λk=>l.length-k) ?_ (s:=0)
  ⟨Ext.refl _,rfl,rfl,rfl,rfl,Nat.zero_le _,_,rfl,OwnR.nil⟩
 rintro k tm h' ⟨X,w1,w7,w8,w9,hk,vo,w4,O⟩;obtain⟨pv,nv,cv,xv,e⟩:=O.form;cases e;obtain⟨T,rfl⟩:=Tm.t5 w1 w4 w7 w8 w9;clear w1 w4 w7 w8 w9;by_cases c1:k<l.length
 ·repeat refine W.g ?_
  refine W.iz λi_ o_ L_=> ?_;repeat refine W.g ?_
  have X9:Ext h' h':=Ext.x;refine W.call rfl rfl rfl (hf l[k] (List.getElem_mem c1) _ _ _ (X.trans X9) λh2 X2=> ?_);refine W.k7 1 4 7 8 9 13 16 λT=> ?_;repeat refine W.n λh_ X_ n_ g_ S_=> ?_
  have S_:SlG _ 1 _ ([F l[k]].map Flat.enc):=S_
  refine W.apR (H:=h) (z:=1) (X.trans (X9.trans (X2.trans X_))) (O.ext (X9.trans (X2.trans X_))) S_ rfl rfl rfl rfl rfl rfl rfl rfl rfl rfl rfl rfl (by
   simp only[List.length_map,List.length_take,List.length_cons,List.length_nil];show _*16<=_;omega) λv' h3 X3 O3=> ?_
  obtain⟨pv,nv,cv,xv,e⟩:=O3.form;cases e;repeat refine W.g ?_
  refine⟨k+1,lessN c1,X3,rfl,rfl,rfl,rfl,c1,_,rfl,?_⟩;rw[List.take_add_one,List.getElem?_eq_getElem c1,List.map_append,map_app];exact O3
 ·repeat refine W.g ?_
  rw[show k=l.length by omega,List.take_length]at O;exact q _ _ X O
end
end Go.Proofs.YtmgpjfnlciapkaaGreatDoor

namespace Go.CM.Tt
def Clean (seen l:List Str) (n:Nat):Prop:=∀m a,m<n->l[m]? =some a->a∉seen++l.take m
theorem dupIn_no:∀{l seen:List Str} {i:Nat},Clean seen l l.length->dupIn seen l i=none
 |[],_,_,_=>rfl
 |a::l,seen,i,h=>by
  have h0:a∉seen:=by simpa using h 0 a (by simp) rfl
  have ih:=dupIn_no (l:=l) (seen:=seen++[a]) (i:=i+1) λm b hm hb=>by
   have:=h (m+1) b (by simpa using hm) (by simpa using hb);simpa[List.append_assoc]using this
  unfold dupIn;rw[if_neg h0,ih]
theorem dupIn_some:∀{l seen:List Str} {i j:Nat} {a:Str},Clean seen l j->l[j]? =some a->a∈seen++l.take j->dupIn seen l i=some (i+j)
 |[],_,_,_,_,_,h,_=>by simp at h
 |b::l,seen,i,0,a,_,h,hm=>by
  have:b=a:=by simpa using h
  unfold dupIn;rw[if_pos (by rw[this];simpa using hm)];rfl
 |b::l,seen,i,j+1,a,hc,h,hm=>by
  have h0:b∉seen:=by simpa using hc 0 b (by omega) rfl
  have ih:=dupIn_some (l:=l) (seen:=seen++[b]) (i:=i+1) (j:=j) (a:=a) (λm c hm hc'=>by
   have:=hc (m+1) c (by omega) (by simpa using hc');simpa[List.append_assoc]using this) (by simpa using h) (by simpa[List.append_assoc]using hm)
  unfold dupIn;rw[if_neg h0,ih]
  congr 1
  omega
theorem dups_no:∀{L:List (List Str)} {seen:List Str} {k:Int},(∀n l,L[n]? =some l->Clean (seen++(L.take n).flatten) l l.length)->dups seen L k=none
 |[],_,_,_=>rfl
 |l::L,seen,k,h=>by
  have h0:=h 0 l rfl
  have ih:=dups_no (L:=L) (seen:=seen++l) (k:=k+1) λn m hm=>by
   have:=h (n+1) m (by simpa using hm);simpa[List.append_assoc]using this
  unfold dups;rw[dupIn_no (by simpa using h0)];exact ih
theorem dups_some:∀{L:List (List Str)} {seen:List Str} {k:Int} {n:Nat} {l:List Str} {j:Nat} {a:Str},(∀n' l',n'<n->L[n']? =some l'->Clean (seen++(L.take n').flatten) l' l'.length)->L[n]? =some l->Clean (seen++(L.take n).flatten) l j->l[j]? =some a->a∈(seen++(L.take n).flatten)++l.take j->dups seen L k=some ⟨6,k+n,j⟩
 |[],_,_,_,_,_,_,_,h,_,_,_=>by simp at h
 |l0::L,seen,k,0,l,j,a,_,h,hc,ha,hm=>by
  have:l0=l:=by simpa using h
  subst this;unfold dups;rw[dupIn_some (i:=0) (j:=j) (by simpa using hc) ha (by simpa using hm)];simp
 |l0::L,seen,k,n+1,l,j,a,hp,h,hc,ha,hm=>by
  have h0:=hp 0 l0 (by omega) rfl
  have ih:=dups_some (L:=L) (seen:=seen++l0) (k:=k+1) (n:=n) (l:=l) (j:=j) (a:=a) (λn' l' hn' hl'=>by
   have:=hp (n'+1) l' (by omega) (by simpa using hl');simpa[List.append_assoc]using this) (by simpa using h) (by simpa[List.append_assoc]using hc) ha (by simpa[List.append_assoc]using hm)
  unfold dups;rw[dupIn_no (by simpa using h0)];simp only;rw[ih]
  congr 2
  omega
theorem firstErr_no {α:Type} {f:α->Int}:∀{l:List α} {i:Nat},(∀a∈l,f a=0)->firstErr f l i=none
 |[],_,_=>rfl
 |a::l,i,h=>by
  unfold firstErr;rw[if_pos (h a (by simp))];exact firstErr_no λb hb=>h b (List.mem_cons_of_mem _ hb)
theorem firstErr_none {α:Type} {f:α->Int}:∀{l:List α} {i:Nat},firstErr f l i=none->∀a∈l,f a=0
 |[],_,_,a,h=>by cases h
 |b::l,i,h,a,ha=>by
  unfold firstErr at h;split at h
  ·rename_i hb
   rcases List.mem_cons.1 ha with rfl|ha
   ·exact hb
   ·exact firstErr_none h a ha
  ·cases h
theorem firstErr_some {α:Type} {f:α->Int}:∀{l:List α} {i j:Nat} {a:α},(∀m b,m<j->l[m]? =some b->f b=0)->l[j]? =some a->f a≠0->firstErr f l i=some (f a,i+j)
 |[],_,_,_,_,h,_=>by simp at h
 |b::l,i,0,a,_,h,hf=>by
  have:b=a:=by simpa using h
  subst this;unfold firstErr;rw[if_neg hf];rfl
 |b::l,i,j+1,a,hc,h,hf=>by
  have h0:=hc 0 b (by omega) rfl;have ih:=firstErr_some (l:=l) (i:=i+1) (j:=j) (a:=a) (λm c hm hc'=>hc (m+1) c (by omega) (by simpa using hc')) (by simpa using h) hf;unfold firstErr;rw[if_pos h0,ih]
  congr 2
  omega
end Go.CM.Tt

namespace Go.CM.Tt
theorem firstErr_map {α:Type} (f:α->Int):∀(l:List α) (i:Nat),firstErr f l i=firstErr id (l.map f) i
 |[],_=>rfl
 |a::l,i=>by
  rw[List.map_cons];unfold firstErr;rw[firstErr_map f l (i+1)];rfl
theorem len_le_flatten {α:Type}:∀{L:List (List α)} {l:List α},l∈L->l.length<=L.flatten.length
 |[],_,h=>by cases h
 |a::L,l,h=>by
  rw[List.flatten_cons,List.length_append];rcases List.mem_cons.1 h with rfl|h
  ·omega
  ·have:=len_le_flatten h
   omega
noncomputable def WorldD.errs (w:WorldD):List (List Int):=[[],w.names.stops.map λ_=>0,w.paths.map PathW.err,w.doors.map (DoorW.err w.hz),w.routes.map RouteW.err,w.trips.map TripW.err,w.hazards.map (HazW.err w.hz)]
theorem wrong_err {w:WorldD} (hd:dups [] w.names.lists 0=none) {k j:Nat} {l:List Int} {e:Int} (hp:∀n l',n<k->w.errs[n]? =some l'->∀x∈l',x=0) (hl:w.errs[k]? =some l) (hj:∀m b,m<j->l[m]? =some b->b=0) (he:l[j]? =some e) (h0:e≠0):w.wrong=⟨e,k,j⟩:=by
 have hs:firstErr id l 0=some (e,j):=by
  have:=firstErr_some (f:=id) (i:=0) hj he h0;simpa using this
 have no:∀n l',n<k->w.errs[n]? =some l'->firstErr id l' 0=none:=λn l' hn hl'=>firstErr_no (hp n l' hn hl');unfold WorldD.wrong;rw[hd,firstErr_map PathW.err,firstErr_map (DoorW.err w.hz),firstErr_map RouteW.err,firstErr_map TripW.err,firstErr_map (HazW.err w.hz)];have hk:k<7:=(List.getElem?_eq_some_iff.1 hl).1;unfold WorldD.errs at hl no;rcases k with _|_|_|_|_|_|_|k
 ·cases hl;simp at he
 ·cases hl
  rw[List.getElem?_map]at he;cases hx:w.names.stops[j]? with
  |none=>rw[hx]at he;cases he
  |some x=>rw[hx]at he;exact absurd (Option.some.inj he).symm h0
 ·cases hl
  rw[hs];rfl
 ·have n2:=no 2 _ (by omega) rfl
  cases hl;rw[n2,hs];rfl
 ·have n2:=no 2 _ (by omega) rfl
  have n3:=no 3 _ (by omega) rfl;cases hl;rw[n2,n3,hs];rfl
 ·have n2:=no 2 _ (by omega) rfl
  have n3:=no 3 _ (by omega) rfl;have n4:=no 4 _ (by omega) rfl;cases hl;rw[n2,n3,n4,hs];rfl
 ·have n2:=no 2 _ (by omega) rfl
  have n3:=no 3 _ (by omega) rfl;have n4:=no 4 _ (by omega) rfl;have n5:=no 5 _ (by omega) rfl;cases hl;rw[n2,n3,n4,n5,hs];rfl
 ·omega
theorem wrong_none {w:WorldD} (hd:dups [] w.names.lists 0=none) (hp:∀(n:Nat) (l':List Int),w.errs[n]? =some l'->∀x∈l',x=0):w.wrong=Wrong0:=by
 have no:∀(n:Nat) (l':List Int),w.errs[n]? =some l'->firstErr id l' 0=none:=λn l' hl'=>firstErr_no (hp n l' hl');unfold WorldD.wrong;rw[hd,firstErr_map PathW.err,firstErr_map (DoorW.err w.hz),firstErr_map RouteW.err,firstErr_map TripW.err,firstErr_map (HazW.err w.hz)];rw[no 2 _ rfl,no 3 _ rfl,no 4 _ rfl,no 5 _ rfl,no 6 _ rfl];rfl
end Go.CM.Tt

noncomputable section
namespace Go.CM.Tt
def SheetD.Ok (x:SheetD):Prop:=x.few/\(∀s∈x.all,NameOk s)/\(∀n∈x.nums,TickOk n)/\∀r∈x.routes,r.ok
theorem nn {p:Prop} (h:p):¬¬p:=λg=>g h
theorem SheetD.err_zero {x:SheetD}:x.err=0↔x.Ok:=by
 unfold SheetD.err SheetD.Ok;by_cases c1:x.few
 ·by_cases c2:∀s∈x.all,NameOk s
  ·by_cases c3:∀n∈x.nums,TickOk n
   ·by_cases c4:∀r∈x.routes,r.ok
    ·rw[if_neg (nn c1),if_neg (nn c2),if_neg (nn c3),if_neg (nn c4)]
     exact Iff.intro (λ_=>⟨c1,c2,c3,c4⟩) (λ_=>rfl)
    ·rw[if_neg (nn c1),if_neg (nn c2),if_neg (nn c3),if_pos c4]
     exact Iff.intro (λh=>by cases h) (λh=>absurd h.2.2.2 c4)
   ·rw[if_neg (nn c1),if_neg (nn c2),if_pos c3]
    exact Iff.intro (λh=>by cases h) (λh=>absurd h.2.2.1 c3)
  ·rw[if_neg (nn c1),if_pos c2]
   exact Iff.intro (λh=>by cases h) (λh=>absurd h.2.1 c2)
 ·rw[if_pos c1]
  exact Iff.intro (λh=>by cases h) (λh=>absurd h.1 c1)
theorem dupIn_nodup:∀{l seen:List Str} {i:Nat},dupIn seen l i=none->seen.Nodup->(seen++l).Nodup
 |[],seen,_,_,h=>by simpa using h
 |a::l,seen,i,h,hs=>by
  unfold dupIn at h;by_cases c:a∈seen
  ·rw[if_pos c]at h;cases h
  ·rw[if_neg c]at h
   have:=dupIn_nodup h (List.nodup_append.2 ⟨hs,by simp,λx hx y hy e=>by
    rw[List.mem_singleton]at hy;exact c (by rw[<-hy,<-e];exact hx)⟩)
   simpa[List.append_assoc]using this
theorem dups_nodup:∀{L:List (List Str)} {seen:List Str} {k:Int},dups seen L k=none->seen.Nodup->(seen++L.flatten).Nodup
 |[],seen,_,_,h=>by simpa using h
 |l::L,seen,k,h,hs=>by
  unfold dups at h;cases c:dupIn seen l 0 with
  |some i=>rw[c]at h;cases h
  |none=>
   rw[c]at h;have:=dups_nodup h (dupIn_nodup c hs);simpa[List.append_assoc]using this
theorem clean_nodup {seen p r:List Str} (h:(seen++p).Nodup):Clean seen (p++r) p.length:=by
 intro m a hm ha hin;rw[List.getElem?_append_left hm]at ha;rw[List.take_append_of_le_length (by omega)]at hin;have e:seen++p=(seen++p.take m)++p.drop m:=by rw[List.append_assoc,List.take_append_drop]
 rw[e]at h
 have hd:a∈p.drop m:=by
  have e2:(p.drop m)[0]? =some a:=by rw[List.getElem?_drop,Nat.add_zero];exact ha
  exact List.mem_of_getElem? e2
 exact(List.nodup_append.1 h).2.2 a hin a hd rfl
theorem flatten_take {L:List (List Str)} {n:Nat} {l:List Str} (h:L.flatten.Nodup) (hl:L[n]? =some l):((L.take n).flatten++l).Nodup:=by
 have hlt:=(List.getElem?_eq_some_iff.1 hl).1
 have e:L=L.take n++(l::L.drop (n+1)):=by
  conv=>lhs;rw[<-List.take_append_drop n L,List.drop_eq_getElem_cons hlt]
  rw[List.getElem?_eq_getElem hlt]at hl;rw[Option.some.inj hl]
 rw[e,List.flatten_append,List.flatten_cons,<-List.append_assoc]at h;exact(List.nodup_append.1 h).1
theorem dups_of_nodup {L:List (List Str)} {k:Int} (h:L.flatten.Nodup):dups [] L k=none:=
 dups_no λn l hl=>by
  have:=clean_nodup (r:=[]) (flatten_take h hl);rw[List.append_nil]at this;rw[List.nil_append];exact this
theorem dups_err:∀{L:List (List Str)} {seen:List Str} {k:Int} {d:WrongD},dups seen L k=some d->d.err=6
 |[],_,_,_,h=>by cases h
 |l::L,seen,k,d,h=>by
  unfold dups at h;cases c:dupIn seen l 0 with
  |some i=>rw[c]at h;cases h;rfl
  |none=>rw[c]at h;exact dups_err h
theorem firstErr_err {α:Type} {f:α->Int}:∀{l:List α} {i:Nat} {e:Int} {j:Nat},firstErr f l i=some (e,j)->e≠0
 |[],_,_,_,h=>by cases h
 |a::l,i,e,j,h=>by
  unfold firstErr at h;by_cases c:f a=0
  ·rw[if_pos c]at h;exact firstErr_err h
  ·rw[if_neg c]at h;cases h;exact c
structure SheetD.Fit (x:SheetD):Prop where
 ok:x.Ok
 nd:x.names.lists.flatten.Nodup
 paths:∀p∈x.paths,(p.num x.stops).err=0
 doors:∀p∈x.doors,(p.num x.stops).err x.hz=0
 routes:∀p∈x.routes,(p.num x.stops).err=0
 trips:∀p∈x.trips,(p.num x.names.routes).err=0
 hazards:∀p∈x.hazards,(p.num x.stops x.names.paths).err x.hz=0
theorem SheetD.Fit.wrong {x:SheetD} (f:x.Fit):x.num.wrong=Wrong0:=by
 have hm:∀{α β:Type} {g:α->β} {e:β->Int} {l:List α},(∀p∈l,e (g p)=0)->∀a∈l.map g,e a=0:=λh a ha=>by
  obtain⟨p,hp,rfl⟩:=List.mem_map.1 ha;exact h p hp
 unfold WorldD.wrong;rw[show dups [] x.num.names.lists 0=none from dups_of_nodup f.nd];show(atKind 2 (firstErr PathW.err (x.paths.map _) 0)).getD ((atKind 3 (firstErr (DoorW.err x.hz) (x.doors.map _) 0)).getD ((atKind 4 (firstErr RouteW.err (x.routes.map _) 0)).getD ((atKind 5 (firstErr TripW.err (x.trips.map _) 0)).getD ((atKind 6 (firstErr (HazW.err x.hz) (x.hazards.map _) 0)).getD Wrong0))))=Wrong0;rw[firstErr_no (hm (e:=PathW.err) f.paths),firstErr_no (hm (e:=DoorW.err x.hz) f.doors),firstErr_no (hm (e:=RouteW.err) f.routes),firstErr_no (hm (e:=TripW.err) f.trips),firstErr_no (hm (e:=HazW.err x.hz) f.hazards)];rfl
theorem SheetD.Fit.make {x:SheetD} (f:x.Fit):x.make=(x.num,Wrong0):=by
 unfold SheetD.make;rw[if_pos (SheetD.err_zero.2 f.ok),f.wrong,if_pos (show Wrong0.err=0 from rfl)]
theorem fit_of_make {x:SheetD} (h:x.make.2.err=0):x.Fit:=by
 unfold SheetD.make at h;by_cases c:x.err=0
 ·rw[if_pos c]at h
  have hw:x.num.wrong.err=0:=by
   by_cases d:x.num.wrong.err=0
   ·exact d
   ·rw[if_neg d]at h;exact h
  have ok:=SheetD.err_zero.1 c;unfold WorldD.wrong at hw;cases h0:dups [] x.num.names.lists 0 with
  |some d=>rw[h0]at hw;have:=dups_err h0;rw[Option.getD_some]at hw;omega
  |none=>
  have key:∀{α:Type} {g:α->Int} {l:List α} {k:Int} {w:WrongD},((atKind k (firstErr g l 0)).getD w).err=0->(∀a∈l,g a=0)/\w.err=0:=λ{α g l k w} h=>by
   cases e:firstErr g l 0 with
   |some ej=>
    obtain⟨e1,j1⟩:=ej;rw[e]at h;exact absurd h (firstErr_err e)
   |none=>rw[e]at h;exact⟨firstErr_none e,h⟩
  rw[h0,Option.getD_none]at hw;obtain⟨k2,hw⟩:=key hw;obtain⟨k3,hw⟩:=key hw;obtain⟨k4,hw⟩:=key hw;obtain⟨k5,hw⟩:=key hw;obtain⟨k6,hw⟩:=key hw;have hnd:=dups_nodup h0 (by simp);rw[List.nil_append]at hnd;exact⟨ok,hnd,λp hp=>k2 _ (List.mem_map.2 ⟨p,hp,rfl⟩),λp hp=>k3 _ (List.mem_map.2 ⟨p,hp,rfl⟩),λp hp=>k4 _ (List.mem_map.2 ⟨p,hp,rfl⟩),λp hp=>k5 _ (List.mem_map.2 ⟨p,hp,rfl⟩),λp hp=>k6 _ (List.mem_map.2 ⟨p,hp,rfl⟩)⟩
 ·rw[if_neg c]at h
  exact absurd h c
def cut {α:Type} (l:List α) (k:Nat):List α:=l.take k++l.drop (k+1)
theorem twice {L:List (List Str)} (h:L.flatten.Nodup) {M:List (List Str)} {n:Nat} {l:List Str} {a:Str} (hl:L[n]? =some l) (hm:∀m,m<n->M[m]? =L[m]?) (hn:M[n]? =some (l++[a])) (ha:a∈l):dups [] M 0=some ⟨6,n,l.length⟩:=by
 have et:∀m,m<=n->M.take m=L.take m:=λm h=>by
  refine List.ext_getElem? λi=> ?_;rw[List.getElem?_take,List.getElem?_take];by_cases c:i<m
  ·rw[if_pos c,if_pos c];exact hm i (by omega)
  ·rw[if_neg c,if_neg c]
 have:=dups_some (L:=M) (seen:=[]) (k:=0) (n:=n) (l:=l++[a]) (j:=l.length) (a:=a) (λn' l' hn' hl'=>by
  have c:=clean_nodup (r:=[]) (flatten_take h ((hm n' hn').symm.trans hl'));rw[List.append_nil]at c;rw[List.nil_append,et n' (by omega)];exact c) hn (by rw[List.nil_append,et n (Nat.le_refl _)];exact clean_nodup (flatten_take h hl)) (by rw[List.getElem?_append_right (Nat.le_refl _),Nat.sub_self];rfl) (List.mem_append_right _ (by rw[List.take_append_of_le_length (Nat.le_refl _),List.take_length];exact ha))
 rw[this,Int.zero_add]
theorem SheetD.Ok.numNames {x:SheetD} (o:x.Ok):∀l∈x.num.names.lists,∀s∈l,NameOk s:=by
 intro l hl s hs;refine o.2.1 s ?_;unfold SheetD.all;simp only[List.mem_append]
 have hm:∀{α:Type} {g:α->Str} {f:α->List Str} {l:List α},(∀a,g a∈f a)->s∈l.map g->s∈l.flatMap f:=λh hs=>by
  obtain⟨a,ha,rfl⟩:=List.mem_map.1 hs;exact List.mem_flatMap.2 ⟨a,ha,h a⟩
 simp only[NamesD.lists,SheetD.num,SheetD.names,List.mem_cons,List.not_mem_nil,or_false]at hl;rcases hl with rfl|rfl|rfl|rfl|rfl|rfl|rfl
 ·cases hs
 ·exact .inl (.inl (.inl (.inl (.inl hs))))
 ·exact .inl (.inl (.inl (.inl (.inr (hm (λa=>by simp) hs)))))
 ·exact .inl (.inl (.inl (.inr (hm (λa=>by simp) hs))))
 ·exact .inl (.inl (.inr (hm (λa=>by simp) hs)))
 ·exact .inl (.inr (hm (λa=>by simp) hs))
 ·exact .inr (hm (λa=>by simp) hs)
theorem SheetD.Ok.numFew {x:SheetD} (o:x.Ok):(x.num.names.lists.flatten).length<4096:=by
 obtain⟨f1,f2,f3,f4,f5,f6⟩:=o.1;simp only[NamesD.lists,SheetD.num,SheetD.names,List.flatten_cons,List.flatten_nil,List.length_append,List.length_map,List.length_nil];omega
theorem SheetD.numLens (x:SheetD):x.num.names.paths.length=x.num.paths.length/\x.num.names.doors.length=x.num.doors.length/\x.num.names.routes.length=x.num.routes.length/\x.num.names.trips.length=x.num.trips.length/\x.num.names.hazards.length=x.num.hazards.length:=by
 refine⟨?_,?_,?_,?_,?_⟩<;>simp[SheetD.num,SheetD.names]
theorem SheetD.Ok.numRoutes {x:SheetD} (o:x.Ok):∀r∈x.num.routes,r.rides.length+1=r.stops.length/\r.stops.length<=1000:=by
 intro r hr;obtain⟨a,ha,rfl⟩:=List.mem_map.1 hr;obtain⟨h1,h2,h3,h4⟩:=o.2.2.2 a ha;simp only[RouteS.num,List.length_map];omega
def RouteS.light (r:RouteS):Prop:=r.stops.length<=60/\r.rides.length<=60/\r.stays.length<=60
def SheetD.light (x:SheetD):Prop:=x.stops.length<=60/\x.paths.length<=60/\x.doors.length<=60/\x.routes.length<=60/\x.trips.length<=60/\x.hazards.length<=60/\∀r∈x.routes,r.light
theorem SheetD.light.slim {x:SheetD} (l:x.light):x.slim:=λr hr=>by
 obtain⟨h1,h2,h3⟩:=l.2.2.2.2.2.2 r hr;exact⟨by omega,by omega,by omega⟩
def WorldD.short (w:WorldD):Prop:=w.names.stops.length<=1099511627776/\w.names.paths.length<=1099511627776/\w.names.doors.length<=1099511627776/\w.names.routes.length<=1099511627776/\w.names.trips.length<=1099511627776/\w.names.hazards.length<=1099511627776/\w.paths.length<=1099511627776/\w.doors.length<=1099511627776/\w.routes.length<=1099511627776/\w.trips.length<=1099511627776/\w.hazards.length<=1099511627776/\∀r∈w.routes,r.stops.length<=1099511627776/\r.rides.length<=1099511627776/\r.stays.length<=1099511627776
theorem SheetD.num_short {x:SheetD} (o:x.Ok):x.num.short:=by
 obtain⟨f1,f2,f3,f4,f5,f6⟩:=o.1;refine⟨?_,?_,?_,?_,?_,?_,?_,?_,?_,?_,?_,λr hr=> ?_⟩;iterate 11 (simp only[SheetD.num,SheetD.names,List.length_map];omega)
 obtain⟨a,ha,rfl⟩:=List.mem_map.1 hr;obtain⟨h1,h2,h3,h4⟩:=o.2.2.2 a ha;simp only[RouteS.num,List.length_map];omega
end Go.CM.Tt

noncomputable section
namespace Go.CM.Tt
def inL (n:Int) (l:List Str):Prop:=0<=n/\n<l.length
def WorldD.whole (w:WorldD):Prop:=
 (w.names.paths.length=w.paths.length/\w.names.doors.length=w.doors.length/\w.names.routes.length=w.routes.length/\w.names.trips.length=w.trips.length/\w.names.hazards.length=w.hazards.length)/\
 (∀p∈w.paths,inL p.a w.names.stops/\inL p.b w.names.stops)/\(∀d∈w.doors,inL d.a w.names.stops/\inL d.b w.names.stops)/\(∀r∈w.routes,∀s∈r.stops,inL s w.names.stops)/\
 (∀t∈w.trips,inL t.route w.names.routes)/\(∀h∈w.hazards,inL h.on (if h.stop then w.names.stops else w.names.paths))
def atL (l:List Str) (n:Int):Str:=l.getD n.toNat []
def PathW.told (n:NamesD) (i:Nat) (p:PathW):PathS:=⟨n.paths.getD i [],atL n.stops p.a,atL n.stops p.b,p.len⟩
def DoorW.told (n:NamesD) (i:Nat) (d:DoorW):DoorS:=⟨n.doors.getD i [],atL n.stops d.a,atL n.stops d.b,d.len,d.times⟩
def RouteW.told (n:NamesD) (i:Nat) (r:RouteW):RouteS:=⟨n.routes.getD i [],r.stops.map (atL n.stops),r.rides,r.stays⟩
def TripW.told (n:NamesD) (i:Nat) (t:TripW):TripS:=⟨n.trips.getD i [],atL n.routes t.route,t.frm,t.evr,t.untl⟩
def HazW.told (n:NamesD) (i:Nat) (h:HazW):HazS:=⟨n.hazards.getD i [],atL (if h.stop then n.stops else n.paths) h.on,h.times⟩
def WorldD.told (w:WorldD):SheetD:=⟨w.hz,w.names.stops,w.paths.mapIdx (λi p=>p.told w.names i),w.doors.mapIdx (λi p=>p.told w.names i),w.routes.mapIdx (λi p=>p.told w.names i),w.trips.mapIdx (λi p=>p.told w.names i),w.hazards.mapIdx (λi p=>p.told w.names i)⟩
def SheetD.none:SheetD:=⟨0,[],[],[],[],[],[]⟩
open Classical in
def WorldD.check (w:WorldD):WrongD:=if w.whole then w.told.make.2 else⟨2,0,0⟩
open Classical in
def WorldD.sheet (w:WorldD):SheetD×Int:=if w.check.err=0 then(w.told,0)else(SheetD.none,w.check.err)
theorem atL_at {l:List Str} {j:Nat} (h:j<l.length):atL l (j:Int)=l[j]:=by
 unfold atL;rw[Int.toNat_natCast,List.getD_eq_getElem?_getD,List.getElem?_eq_getElem h];rfl
theorem getD_at {l:List Str} {j:Nat} (h:j<l.length):l.getD j []=l[j]:=by
 rw[List.getD_eq_getElem?_getD,List.getElem?_eq_getElem h];rfl
theorem hazNum_eq {x:SheetD} {p:HazS}:p.num x.stops x.names.paths=if 0<=place x.stops p.on then⟨true,place x.stops p.on,p.times⟩else⟨false,place x.names.paths p.on,p.times⟩:=rfl
end Go.CM.Tt
