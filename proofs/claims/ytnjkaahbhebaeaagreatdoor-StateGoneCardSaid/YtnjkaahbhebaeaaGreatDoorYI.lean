/- Lists made of lists. No condition. -/
import Derived.Test.YtnjkaahbhebaeaaGreatDoorXU
import Derived.Test.YtnjkaahbhebaeaaGreatDoorYG
set_option linter.unusedVariables false
set_option linter.unusedSimpArgs false
set_option maxRecDepth 100000
namespace Go.Proofs.YtnjkaahbhebaeaaGreatDoor
open Go Go.CM Go.CM.Tt
noncomputable section
set_option maxHeartbeats 8000000
theorem all_pathS {h:Heap} {tm:Tm} {Q:R->Prop} {v:CV} {l:List PathS} (f:Nat) (first caps:List CV) (F:PathS->Str) (sl:Sl h v l) (hm:l.length<=1048576)
  (hf:∀d,d∈l->∀(tm:Tm) (h':Heap) (Q:R->Prop),Ext h h'->(∀h2,Ext h' h2->Q (.val (.str (F d)) h2))->W E1 (.call (.fn f first caps) [.agg d.enc]) tm h' Q)
  (q:∀h' v',Ext h h'->OwnR h' h.next 1 v' ((l.map F).map Flat.enc)->Q (.val v' h')):W E1 (.call (.fn 258 [] []) [v,.fn f first caps]) tm h Q:=by
 refine W.fn (s:=fnOf Tryz.f258) rfl rfl rfl rfl ?_;repeat refine W.g ?_
 refine W.loop (σ:=Nat) (λk tm h'=>Ext h h'/\tm.look 1= .fn f first caps/\tm.look 7=v/\tm.look 8= .int .i64 (l.length:Int)/\tm.look 9= .int .i64 (k:Int)/\k<=l.length/\∃vo,tm.look 4=vo/\OwnR h' h.next 1 vo (((l.take k).map F).map Flat.enc)) (λk=>l.length-k) ?_ (s:=0)
  ⟨Ext.refl _,rfl,rfl,rfl,rfl,Nat.zero_le _,_,rfl,OwnR.nil⟩
 rintro k tm h' ⟨X,w1,w7,w8,w9,hk,vo,w4,O⟩;obtain⟨pv,nv,cv,xv,e⟩:=O.form;cases e;obtain⟨T,rfl⟩:=Tm.t5 w1 w4 w7 w8 w9;clear w1 w4 w7 w8 w9;by_cases c1:k<l.length
 ·repeat refine W.g ?_
  refine W.iz λi_ o_ L_=> ?_;repeat (first|refine W.g ?_|refine W.m λh_ X_ n_ g_ L_=> ?_)
  have X9:Ext h' h_:=Ext.x;refine W.call rfl rfl rfl (hf l[k] (List.getElem_mem c1) _ _ _ (X.trans X9) λh2 X2=> ?_);refine W.k7 1 4 7 8 9 13 16 λT=> ?_;repeat refine W.n λh_ X_ n_ g_ S_=> ?_
  have S_:SlG _ 1 _ ([F l[k]].map Flat.enc):=S_
  refine W.apR (H:=h) (z:=1) (X.trans (X9.trans (X2.trans X_))) (O.ext (X9.trans (X2.trans X_))) S_ rfl rfl rfl rfl rfl rfl rfl rfl rfl rfl rfl rfl (by
   simp only[List.length_map,List.length_take,List.length_cons,List.length_nil];show _*16<=_;omega) λv' h3 X3 O3=> ?_
  obtain⟨pv,nv,cv,xv,e⟩:=O3.form;cases e;repeat refine W.g ?_
  refine⟨k+1,lessN c1,X3,rfl,rfl,rfl,rfl,c1,_,rfl,?_⟩;rw[List.take_add_one,List.getElem?_eq_getElem c1,List.map_append,map_app];exact O3
 ·repeat refine W.g ?_
  rw[show k=l.length by omega,List.take_length]at O;exact q _ _ X O
theorem all_doorS {h:Heap} {tm:Tm} {Q:R->Prop} {v:CV} {l:List DoorS} (f:Nat) (first caps:List CV) (F:DoorS->Str) (sl:Sl h v l) (hm:l.length<=1048576)
  (hf:∀d,d∈l->∀(tm:Tm) (h':Heap) (Q:R->Prop),Ext h h'->(∀h2,Ext h' h2->Q (.val (.str (F d)) h2))->W E1 (.call (.fn f first caps) [.agg d.enc]) tm h' Q)
  (q:∀h' v',Ext h h'->OwnR h' h.next 1 v' ((l.map F).map Flat.enc)->Q (.val v' h')):W E1 (.call (.fn 260 [] []) [v,.fn f first caps]) tm h Q:=by
 refine W.fn (s:=fnOf Tryz.f260) rfl rfl rfl rfl ?_;repeat refine W.g ?_
 refine W.loop (σ:=Nat) (λk tm h'=>Ext h h'/\tm.look 1= .fn f first caps/\tm.look 7=v/\tm.look 8= .int .i64 (l.length:Int)/\tm.look 9= .int .i64 (k:Int)/\k<=l.length/\∃vo,tm.look 4=vo/\OwnR h' h.next 1 vo (((l.take k).map F).map Flat.enc)) (λk=>l.length-k) ?_ (s:=0)
  ⟨Ext.refl _,rfl,rfl,rfl,rfl,Nat.zero_le _,_,rfl,OwnR.nil⟩
 rintro k tm h' ⟨X,w1,w7,w8,w9,hk,vo,w4,O⟩;obtain⟨pv,nv,cv,xv,e⟩:=O.form;cases e;obtain⟨T,rfl⟩:=Tm.t5 w1 w4 w7 w8 w9;clear w1 w4 w7 w8 w9;by_cases c1:k<l.length
 ·repeat refine W.g ?_
  refine W.iz λi_ o_ L_=> ?_;repeat (first|refine W.g ?_|refine W.m λh_ X_ n_ g_ L_=> ?_)
  have X9:Ext h' h_:=Ext.x;refine W.call rfl rfl rfl (hf l[k] (List.getElem_mem c1) _ _ _ (X.trans X9) λh2 X2=> ?_);refine W.k7 1 4 7 8 9 13 16 λT=> ?_;repeat refine W.n λh_ X_ n_ g_ S_=> ?_
  have S_:SlG _ 1 _ ([F l[k]].map Flat.enc):=S_
  refine W.apR (H:=h) (z:=1) (X.trans (X9.trans (X2.trans X_))) (O.ext (X9.trans (X2.trans X_))) S_ rfl rfl rfl rfl rfl rfl rfl rfl rfl rfl rfl rfl (by
   simp only[List.length_map,List.length_take,List.length_cons,List.length_nil];show _*16<=_;omega) λv' h3 X3 O3=> ?_
  obtain⟨pv,nv,cv,xv,e⟩:=O3.form;cases e;repeat refine W.g ?_
  refine⟨k+1,lessN c1,X3,rfl,rfl,rfl,rfl,c1,_,rfl,?_⟩;rw[List.take_add_one,List.getElem?_eq_getElem c1,List.map_append,map_app];exact O3
 ·repeat refine W.g ?_
  rw[show k=l.length by omega,List.take_length]at O;exact q _ _ X O
theorem all_routeS {h:Heap} {tm:Tm} {Q:R->Prop} {v:CV} {l:List RouteS} (f:Nat) (first caps:List CV) (F:RouteS->Str) (sl:Sl h v l) (hm:l.length<=1048576)
  (hf:∀d,d∈l->∀e,Rp.R h e d->∀(tm:Tm) (h':Heap) (Q:R->Prop),Ext h h'->(∀h2,Ext h' h2->Q (.val (.str (F d)) h2))->W E1 (.call (.fn f first caps) [.agg e]) tm h' Q)
  (q:∀h' v',Ext h h'->OwnR h' h.next 1 v' ((l.map F).map Flat.enc)->Q (.val v' h')):W E1 (.call (.fn 262 [] []) [v,.fn f first caps]) tm h Q:=by
 refine W.fn (s:=fnOf Tryz.f262) rfl rfl rfl rfl ?_;repeat refine W.g ?_
 refine W.loop (σ:=Nat) (λk tm h'=>Ext h h'/\tm.look 1= .fn f first caps/\tm.look 7=v/\tm.look 8= .int .i64 (l.length:Int)/\tm.look 9= .int .i64 (k:Int)/\k<=l.length/\∃vo,tm.look 4=vo/\OwnR h' h.next 1 vo (((l.take k).map F).map Flat.enc)) (λk=>l.length-k) ?_ (s:=0)
  ⟨Ext.refl _,rfl,rfl,rfl,rfl,Nat.zero_le _,_,rfl,OwnR.nil⟩
 rintro k tm h' ⟨X,w1,w7,w8,w9,hk,vo,w4,O⟩;obtain⟨pv,nv,cv,xv,e⟩:=O.form;cases e;obtain⟨T,rfl⟩:=Tm.t5 w1 w4 w7 w8 w9;clear w1 w4 w7 w8 w9;by_cases c1:k<l.length
 ·repeat refine W.g ?_
  refine W.ixR sl c1 rfl rfl rfl rfl rfl rfl rfl λi_ o_ e L_ r_=> ?_;have hlen:=Rp.len r_;repeat (first|refine W.g ?_|refine W.m λh_ X_ n_ g_ L_=> ?_)
  have X9:Ext h' h_:=Ext.x;refine W.call rfl rfl rfl (hf l[k] (List.getElem_mem c1) e r_ _ _ _ (X.trans X9) λh2 X2=> ?_);refine W.k7 1 4 7 8 9 13 16 λT=> ?_;repeat refine W.n λh_ X_ n_ g_ S_=> ?_
  have S_:SlG _ 1 _ ([F l[k]].map Flat.enc):=S_
  refine W.apR (H:=h) (z:=1) (X.trans (X9.trans (X2.trans X_))) (O.ext (X9.trans (X2.trans X_))) S_ rfl rfl rfl rfl rfl rfl rfl rfl rfl rfl rfl rfl (by
   simp only[List.length_map,List.length_take,List.length_cons,List.length_nil];show _*16<=_;omega) λv' h3 X3 O3=> ?_
  obtain⟨pv,nv,cv,xv,e⟩:=O3.form;cases e;repeat refine W.g ?_
  refine⟨k+1,lessN c1,X3,rfl,rfl,rfl,rfl,c1,_,rfl,?_⟩;rw[List.take_add_one,List.getElem?_eq_getElem c1,List.map_append,map_app];exact O3
 ·repeat refine W.g ?_
  rw[show k=l.length by omega,List.take_length]at O;exact q _ _ X O
theorem all_tripS {h:Heap} {tm:Tm} {Q:R->Prop} {v:CV} {l:List TripS} (f:Nat) (first caps:List CV) (F:TripS->Str) (sl:Sl h v l) (hm:l.length<=1048576)
  (hf:∀d,d∈l->∀(tm:Tm) (h':Heap) (Q:R->Prop),Ext h h'->(∀h2,Ext h' h2->Q (.val (.str (F d)) h2))->W E1 (.call (.fn f first caps) [.agg d.enc]) tm h' Q)
  (q:∀h' v',Ext h h'->OwnR h' h.next 1 v' ((l.map F).map Flat.enc)->Q (.val v' h')):W E1 (.call (.fn 264 [] []) [v,.fn f first caps]) tm h Q:=by
 refine W.fn (s:=fnOf Tryz.f264) rfl rfl rfl rfl ?_;repeat refine W.g ?_
 refine W.loop (σ:=Nat) (λk tm h'=>Ext h h'/\tm.look 1= .fn f first caps/\tm.look 7=v/\tm.look 8= .int .i64 (l.length:Int)/\tm.look 9= .int .i64 (k:Int)/\k<=l.length/\∃vo,tm.look 4=vo/\OwnR h' h.next 1 vo (((l.take k).map F).map Flat.enc)) (λk=>l.length-k) ?_ (s:=0)
  ⟨Ext.refl _,rfl,rfl,rfl,rfl,Nat.zero_le _,_,rfl,OwnR.nil⟩
 rintro k tm h' ⟨X,w1,w7,w8,w9,hk,vo,w4,O⟩;obtain⟨pv,nv,cv,xv,e⟩:=O.form;cases e;obtain⟨T,rfl⟩:=Tm.t5 w1 w4 w7 w8 w9;clear w1 w4 w7 w8 w9;by_cases c1:k<l.length
 ·repeat refine W.g ?_
  refine W.iz λi_ o_ L_=> ?_;repeat (first|refine W.g ?_|refine W.m λh_ X_ n_ g_ L_=> ?_)
  have X9:Ext h' h_:=Ext.x;refine W.call rfl rfl rfl (hf l[k] (List.getElem_mem c1) _ _ _ (X.trans X9) λh2 X2=> ?_);refine W.k7 1 4 7 8 9 13 16 λT=> ?_;repeat refine W.n λh_ X_ n_ g_ S_=> ?_
  have S_:SlG _ 1 _ ([F l[k]].map Flat.enc):=S_
  refine W.apR (H:=h) (z:=1) (X.trans (X9.trans (X2.trans X_))) (O.ext (X9.trans (X2.trans X_))) S_ rfl rfl rfl rfl rfl rfl rfl rfl rfl rfl rfl rfl (by
   simp only[List.length_map,List.length_take,List.length_cons,List.length_nil];show _*16<=_;omega) λv' h3 X3 O3=> ?_
  obtain⟨pv,nv,cv,xv,e⟩:=O3.form;cases e;repeat refine W.g ?_
  refine⟨k+1,lessN c1,X3,rfl,rfl,rfl,rfl,c1,_,rfl,?_⟩;rw[List.take_add_one,List.getElem?_eq_getElem c1,List.map_append,map_app];exact O3
 ·repeat refine W.g ?_
  rw[show k=l.length by omega,List.take_length]at O;exact q _ _ X O
theorem all_hazS {h:Heap} {tm:Tm} {Q:R->Prop} {v:CV} {l:List HazS} (f:Nat) (first caps:List CV) (F:HazS->Str) (sl:Sl h v l) (hm:l.length<=1048576)
  (hf:∀d,d∈l->∀(tm:Tm) (h':Heap) (Q:R->Prop),Ext h h'->(∀h2,Ext h' h2->Q (.val (.str (F d)) h2))->W E1 (.call (.fn f first caps) [.agg d.enc]) tm h' Q)
  (q:∀h' v',Ext h h'->OwnR h' h.next 1 v' ((l.map F).map Flat.enc)->Q (.val v' h')):W E1 (.call (.fn 266 [] []) [v,.fn f first caps]) tm h Q:=by
 refine W.fn (s:=fnOf Tryz.f266) rfl rfl rfl rfl ?_;repeat refine W.g ?_
 refine W.loop (σ:=Nat) (λk tm h'=>Ext h h'/\tm.look 1= .fn f first caps/\tm.look 7=v/\tm.look 8= .int .i64 (l.length:Int)/\tm.look 9= .int .i64 (k:Int)/\k<=l.length/\∃vo,tm.look 4=vo/\OwnR h' h.next 1 vo (((l.take k).map F).map Flat.enc)) (λk=>l.length-k) ?_ (s:=0)
  ⟨Ext.refl _,rfl,rfl,rfl,rfl,Nat.zero_le _,_,rfl,OwnR.nil⟩
 rintro k tm h' ⟨X,w1,w7,w8,w9,hk,vo,w4,O⟩;obtain⟨pv,nv,cv,xv,e⟩:=O.form;cases e;obtain⟨T,rfl⟩:=Tm.t5 w1 w4 w7 w8 w9;clear w1 w4 w7 w8 w9;by_cases c1:k<l.length
 ·repeat refine W.g ?_
  refine W.iz λi_ o_ L_=> ?_;repeat (first|refine W.g ?_|refine W.m λh_ X_ n_ g_ L_=> ?_)
  have X9:Ext h' h_:=Ext.x;refine W.call rfl rfl rfl (hf l[k] (List.getElem_mem c1) _ _ _ (X.trans X9) λh2 X2=> ?_);refine W.k7 1 4 7 8 9 13 16 λT=> ?_;repeat refine W.n λh_ X_ n_ g_ S_=> ?_
  have S_:SlG _ 1 _ ([F l[k]].map Flat.enc):=S_
  refine W.apR (H:=h) (z:=1) (X.trans (X9.trans (X2.trans X_))) (O.ext (X9.trans (X2.trans X_))) S_ rfl rfl rfl rfl rfl rfl rfl rfl rfl rfl rfl rfl (by
   simp only[List.length_map,List.length_take,List.length_cons,List.length_nil];show _*16<=_;omega) λv' h3 X3 O3=> ?_
  obtain⟨pv,nv,cv,xv,e⟩:=O3.form;cases e;repeat refine W.g ?_
  refine⟨k+1,lessN c1,X3,rfl,rfl,rfl,rfl,c1,_,rfl,?_⟩;rw[List.take_add_one,List.getElem?_eq_getElem c1,List.map_append,map_app];exact O3
 ·repeat refine W.g ?_
  rw[show k=l.length by omega,List.take_length]at O;exact q _ _ X O
theorem all_pathW {h:Heap} {tm:Tm} {Q:R->Prop} {v:CV} {l:List PathS} (f:Nat) (first caps:List CV) (F:PathS->PathW) (sl:Sl h v l) (hm:l.length<=1048576)
  (hf:∀d,d∈l->∀(tm:Tm) (h':Heap) (Q:R->Prop),Ext h h'->(∀h2,Ext h' h2->Q (.val (.agg (PathW.enc (F d))) h2))->W E1 (.call (.fn f first caps) [.agg d.enc]) tm h' Q)
  (q:∀h' v',Ext h h'->OwnR h' h.next 3 v' ((l.map F).map Flat.enc)->Q (.val v' h')):W E1 (.call (.fn 270 [] []) [v,.fn f first caps]) tm h Q:=by
 refine W.fn (s:=fnOf Tryz.f270) rfl rfl rfl rfl ?_;repeat refine W.g ?_
 refine W.loop (σ:=Nat) (λk tm h'=>Ext h h'/\tm.look 1= .fn f first caps/\tm.look 7=v/\tm.look 8= .int .i64 (l.length:Int)/\tm.look 9= .int .i64 (k:Int)/\k<=l.length/\∃vo,tm.look 4=vo/\OwnR h' h.next 3 vo (((l.take k).map F).map Flat.enc)) (λk=>l.length-k) ?_ (s:=0)
  ⟨Ext.refl _,rfl,rfl,rfl,rfl,Nat.zero_le _,_,rfl,OwnR.nil⟩
 rintro k tm h' ⟨X,w1,w7,w8,w9,hk,vo,w4,O⟩;obtain⟨pv,nv,cv,xv,e⟩:=O.form;cases e;obtain⟨T,rfl⟩:=Tm.t5 w1 w4 w7 w8 w9;clear w1 w4 w7 w8 w9;by_cases c1:k<l.length
 ·repeat refine W.g ?_
  refine W.iz λi_ o_ L_=> ?_;repeat (first|refine W.g ?_|refine W.m λh_ X_ n_ g_ L_=> ?_)
  have X9:Ext h' h_:=Ext.x;refine W.call rfl rfl rfl (hf l[k] (List.getElem_mem c1) _ _ _ (X.trans X9) λh2 X2=> ?_);refine W.k7 1 4 7 8 9 13 16 λT=> ?_;repeat refine W.n λh_ X_ n_ g_ S_=> ?_
  have S_:SlG _ 3 _ ([F l[k]].map Flat.enc):=S_
  refine W.apR (H:=h) (z:=3) (X.trans (X9.trans (X2.trans X_))) (O.ext (X9.trans (X2.trans X_))) S_ rfl rfl rfl rfl rfl rfl rfl rfl rfl rfl rfl rfl (by
   simp only[List.length_map,List.length_take,List.length_cons,List.length_nil];show _*24<=_;omega) λv' h3 X3 O3=> ?_
  obtain⟨pv,nv,cv,xv,e⟩:=O3.form;cases e;repeat refine W.g ?_
  refine⟨k+1,lessN c1,X3,rfl,rfl,rfl,rfl,c1,_,rfl,?_⟩;rw[List.take_add_one,List.getElem?_eq_getElem c1,List.map_append,map_app];exact O3
 ·repeat refine W.g ?_
  rw[show k=l.length by omega,List.take_length]at O;exact q _ _ X O
theorem all_doorW {h:Heap} {tm:Tm} {Q:R->Prop} {v:CV} {l:List DoorS} (f:Nat) (first caps:List CV) (F:DoorS->DoorW) (sl:Sl h v l) (hm:l.length<=1048576)
  (hf:∀d,d∈l->∀(tm:Tm) (h':Heap) (Q:R->Prop),Ext h h'->(∀h2,Ext h' h2->Q (.val (.agg (DoorW.enc (F d))) h2))->W E1 (.call (.fn f first caps) [.agg d.enc]) tm h' Q)
  (q:∀h' v',Ext h h'->OwnR h' h.next 6 v' ((l.map F).map Flat.enc)->Q (.val v' h')):W E1 (.call (.fn 272 [] []) [v,.fn f first caps]) tm h Q:=by
 refine W.fn (s:=fnOf Tryz.f272) rfl rfl rfl rfl ?_;repeat refine W.g ?_
 refine W.loop (σ:=Nat) (λk tm h'=>Ext h h'/\tm.look 1= .fn f first caps/\tm.look 7=v/\tm.look 8= .int .i64 (l.length:Int)/\tm.look 9= .int .i64 (k:Int)/\k<=l.length/\∃vo,tm.look 4=vo/\OwnR h' h.next 6 vo (((l.take k).map F).map Flat.enc)) (λk=>l.length-k) ?_ (s:=0)
  ⟨Ext.refl _,rfl,rfl,rfl,rfl,Nat.zero_le _,_,rfl,OwnR.nil⟩
 rintro k tm h' ⟨X,w1,w7,w8,w9,hk,vo,w4,O⟩;obtain⟨pv,nv,cv,xv,e⟩:=O.form;cases e;obtain⟨T,rfl⟩:=Tm.t5 w1 w4 w7 w8 w9;clear w1 w4 w7 w8 w9;by_cases c1:k<l.length
 ·repeat refine W.g ?_
  refine W.iz λi_ o_ L_=> ?_;repeat (first|refine W.g ?_|refine W.m λh_ X_ n_ g_ L_=> ?_)
  have X9:Ext h' h_:=Ext.x;refine W.call rfl rfl rfl (hf l[k] (List.getElem_mem c1) _ _ _ (X.trans X9) λh2 X2=> ?_);refine W.k7 1 4 7 8 9 13 16 λT=> ?_;repeat refine W.n λh_ X_ n_ g_ S_=> ?_
  have S_:SlG _ 6 _ ([F l[k]].map Flat.enc):=S_
  refine W.apR (H:=h) (z:=6) (X.trans (X9.trans (X2.trans X_))) (O.ext (X9.trans (X2.trans X_))) S_ rfl rfl rfl rfl rfl rfl rfl rfl rfl rfl rfl rfl (by
   simp only[List.length_map,List.length_take,List.length_cons,List.length_nil];show _*48<=_;omega) λv' h3 X3 O3=> ?_
  obtain⟨pv,nv,cv,xv,e⟩:=O3.form;cases e;repeat refine W.g ?_
  refine⟨k+1,lessN c1,X3,rfl,rfl,rfl,rfl,c1,_,rfl,?_⟩;rw[List.take_add_one,List.getElem?_eq_getElem c1,List.map_append,map_app];exact O3
 ·repeat refine W.g ?_
  rw[show k=l.length by omega,List.take_length]at O;exact q _ _ X O
theorem all_tripW {h:Heap} {tm:Tm} {Q:R->Prop} {v:CV} {l:List TripS} (f:Nat) (first caps:List CV) (F:TripS->TripW) (sl:Sl h v l) (hm:l.length<=1048576)
  (hf:∀d,d∈l->∀(tm:Tm) (h':Heap) (Q:R->Prop),Ext h h'->(∀h2,Ext h' h2->Q (.val (.agg (TripW.enc (F d))) h2))->W E1 (.call (.fn f first caps) [.agg d.enc]) tm h' Q)
  (q:∀h' v',Ext h h'->OwnR h' h.next 4 v' ((l.map F).map Flat.enc)->Q (.val v' h')):W E1 (.call (.fn 277 [] []) [v,.fn f first caps]) tm h Q:=by
 refine W.fn (s:=fnOf Tryz.f277) rfl rfl rfl rfl ?_;repeat refine W.g ?_
 refine W.loop (σ:=Nat) (λk tm h'=>Ext h h'/\tm.look 1= .fn f first caps/\tm.look 7=v/\tm.look 8= .int .i64 (l.length:Int)/\tm.look 9= .int .i64 (k:Int)/\k<=l.length/\∃vo,tm.look 4=vo/\OwnR h' h.next 4 vo (((l.take k).map F).map Flat.enc)) (λk=>l.length-k) ?_ (s:=0)
  ⟨Ext.refl _,rfl,rfl,rfl,rfl,Nat.zero_le _,_,rfl,OwnR.nil⟩
 rintro k tm h' ⟨X,w1,w7,w8,w9,hk,vo,w4,O⟩;obtain⟨pv,nv,cv,xv,e⟩:=O.form;cases e;obtain⟨T,rfl⟩:=Tm.t5 w1 w4 w7 w8 w9;clear w1 w4 w7 w8 w9;by_cases c1:k<l.length
 ·repeat refine W.g ?_
  refine W.iz λi_ o_ L_=> ?_;repeat (first|refine W.g ?_|refine W.m λh_ X_ n_ g_ L_=> ?_)
  have X9:Ext h' h_:=Ext.x;refine W.call rfl rfl rfl (hf l[k] (List.getElem_mem c1) _ _ _ (X.trans X9) λh2 X2=> ?_);refine W.k7 1 4 7 8 9 13 16 λT=> ?_;repeat refine W.n λh_ X_ n_ g_ S_=> ?_
  have S_:SlG _ 4 _ ([F l[k]].map Flat.enc):=S_
  refine W.apR (H:=h) (z:=4) (X.trans (X9.trans (X2.trans X_))) (O.ext (X9.trans (X2.trans X_))) S_ rfl rfl rfl rfl rfl rfl rfl rfl rfl rfl rfl rfl (by
   simp only[List.length_map,List.length_take,List.length_cons,List.length_nil];show _*32<=_;omega) λv' h3 X3 O3=> ?_
  obtain⟨pv,nv,cv,xv,e⟩:=O3.form;cases e;repeat refine W.g ?_
  refine⟨k+1,lessN c1,X3,rfl,rfl,rfl,rfl,c1,_,rfl,?_⟩;rw[List.take_add_one,List.getElem?_eq_getElem c1,List.map_append,map_app];exact O3
 ·repeat refine W.g ?_
  rw[show k=l.length by omega,List.take_length]at O;exact q _ _ X O
theorem all_hazW {h:Heap} {tm:Tm} {Q:R->Prop} {v:CV} {l:List HazS} (f:Nat) (first caps:List CV) (F:HazS->HazW) (sl:Sl h v l) (hm:l.length<=1048576)
  (hf:∀d,d∈l->∀(tm:Tm) (h':Heap) (Q:R->Prop),Ext h h'->(∀h2,Ext h' h2->Q (.val (.agg (HazW.enc (F d))) h2))->W E1 (.call (.fn f first caps) [.agg d.enc]) tm h' Q)
  (q:∀h' v',Ext h h'->OwnR h' h.next 5 v' ((l.map F).map Flat.enc)->Q (.val v' h')):W E1 (.call (.fn 279 [] []) [v,.fn f first caps]) tm h Q:=by
 refine W.fn (s:=fnOf Tryz.f279) rfl rfl rfl rfl ?_;repeat refine W.g ?_
 refine W.loop (σ:=Nat) (λk tm h'=>Ext h h'/\tm.look 1= .fn f first caps/\tm.look 7=v/\tm.look 8= .int .i64 (l.length:Int)/\tm.look 9= .int .i64 (k:Int)/\k<=l.length/\∃vo,tm.look 4=vo/\OwnR h' h.next 5 vo (((l.take k).map F).map Flat.enc)) (λk=>l.length-k) ?_ (s:=0)
  ⟨Ext.refl _,rfl,rfl,rfl,rfl,Nat.zero_le _,_,rfl,OwnR.nil⟩
 rintro k tm h' ⟨X,w1,w7,w8,w9,hk,vo,w4,O⟩;obtain⟨pv,nv,cv,xv,e⟩:=O.form;cases e;obtain⟨T,rfl⟩:=Tm.t5 w1 w4 w7 w8 w9;clear w1 w4 w7 w8 w9;by_cases c1:k<l.length
 ·repeat refine W.g ?_
  refine W.iz λi_ o_ L_=> ?_;repeat (first|refine W.g ?_|refine W.m λh_ X_ n_ g_ L_=> ?_)
  have X9:Ext h' h_:=Ext.x;refine W.call rfl rfl rfl (hf l[k] (List.getElem_mem c1) _ _ _ (X.trans X9) λh2 X2=> ?_);refine W.k7 1 4 7 8 9 13 16 λT=> ?_;repeat refine W.n λh_ X_ n_ g_ S_=> ?_
  have S_:SlG _ 5 _ ([F l[k]].map Flat.enc):=S_
  refine W.apR (H:=h) (z:=5) (X.trans (X9.trans (X2.trans X_))) (O.ext (X9.trans (X2.trans X_))) S_ rfl rfl rfl rfl rfl rfl rfl rfl rfl rfl rfl rfl (by
   simp only[List.length_map,List.length_take,List.length_cons,List.length_nil];show _*40<=_;omega) λv' h3 X3 O3=> ?_
  obtain⟨pv,nv,cv,xv,e⟩:=O3.form;cases e;repeat refine W.g ?_
  refine⟨k+1,lessN c1,X3,rfl,rfl,rfl,rfl,c1,_,rfl,?_⟩;rw[List.take_add_one,List.getElem?_eq_getElem c1,List.map_append,map_app];exact O3
 ·repeat refine W.g ?_
  rw[show k=l.length by omega,List.take_length]at O;exact q _ _ X O
theorem all_int {h:Heap} {tm:Tm} {Q:R->Prop} {v:CV} {l:List Str} (f:Nat) (first caps:List CV) (F:Str->Int) (sl:Sl h v l) (hm:l.length<=1048576)
  (hf:∀d,d∈l->∀(tm:Tm) (h':Heap) (Q:R->Prop),Ext h h'->(∀h2,Ext h' h2->Q (.val (.int .i64 (F d)) h2))->W E1 (.call (.fn f first caps) [.str d]) tm h' Q)
  (q:∀h' v',Ext h h'->OwnR h' h.next 1 v' ((l.map F).map Flat.enc)->Q (.val v' h')):W E1 (.call (.fn 276 [] []) [v,.fn f first caps]) tm h Q:=by
 refine W.fn (s:=fnOf Tryz.f276) rfl rfl rfl rfl ?_;repeat refine W.g ?_
 refine W.loop (σ:=Nat) (λk tm h'=>Ext h h'/\tm.look 1= .fn f first caps/\tm.look 7=v/\tm.look 8= .int .i64 (l.length:Int)/\tm.look 9= .int .i64 (k:Int)/\k<=l.length/\∃vo,tm.look 4=vo/\OwnR h' h.next 1 vo (((l.take k).map F).map Flat.enc)) (λk=>l.length-k) ?_ (s:=0)
  ⟨Ext.refl _,rfl,rfl,rfl,rfl,Nat.zero_le _,_,rfl,OwnR.nil⟩
 rintro k tm h' ⟨X,w1,w7,w8,w9,hk,vo,w4,O⟩;obtain⟨pv,nv,cv,xv,e⟩:=O.form;cases e;obtain⟨T,rfl⟩:=Tm.t5 w1 w4 w7 w8 w9;clear w1 w4 w7 w8 w9;by_cases c1:k<l.length
 ·repeat refine W.g ?_
  refine W.iz λi_ o_ L_=> ?_;repeat refine W.g ?_
  have X9:Ext h' h':=Ext.x;refine W.call rfl rfl rfl (hf l[k] (List.getElem_mem c1) _ _ _ (X.trans X9) λh2 X2=> ?_);refine W.k7 1 4 7 8 9 13 16 λT=> ?_;repeat refine W.n λh_ X_ n_ g_ S_=> ?_
  have S_:SlG _ 1 _ ([F l[k]].map Flat.enc):=S_
  refine W.apR (H:=h) (z:=1) (X.trans (X9.trans (X2.trans X_))) (O.ext (X9.trans (X2.trans X_))) S_ rfl rfl rfl rfl rfl rfl rfl rfl rfl rfl rfl rfl (by
   simp only[List.length_map,List.length_take,List.length_cons,List.length_nil];show _*8<=_;omega) λv' h3 X3 O3=> ?_
  obtain⟨pv,nv,cv,xv,e⟩:=O3.form;cases e;repeat refine W.g ?_
  refine⟨k+1,lessN c1,X3,rfl,rfl,rfl,rfl,c1,_,rfl,?_⟩;rw[List.take_add_one,List.getElem?_eq_getElem c1,List.map_append,map_app];exact O3
 ·repeat refine W.g ?_
  rw[show k=l.length by omega,List.take_length]at O;exact q _ _ X O
end
end Go.Proofs.YtnjkaahbhebaeaaGreatDoor
