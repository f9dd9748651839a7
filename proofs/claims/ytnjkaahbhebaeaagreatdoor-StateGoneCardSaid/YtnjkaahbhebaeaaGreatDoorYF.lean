/- Copies; all names of a sheet. No condition. -/
import Derived.Test.YtnjkaahbhebaeaaGreatDoorXU
import Derived.Test.YtnjkaahbhebaeaaGreatDoorYE
set_option linter.unusedVariables false
set_option linter.unusedSimpArgs false
set_option maxRecDepth 100000
namespace Go.Proofs.YtnjkaahbhebaeaaGreatDoor
open Go Go.CM Go.CM.Tt
noncomputable section
set_option maxHeartbeats 8000000
theorem clone_str {h:Heap} {tm:Tm} {Q:R->Prop} {v:CV} {l:List Str} (sl:Sl h v l) (hm:l.length<=1073741824)
  (q:∀h' v',Ext h h'->OwnR h' h.next 1 v' (l.map Flat.enc)->Q (.val v' h')):W E1 (.call (.fn 119 [] []) [v]) tm h Q:=by
 refine W.fn (s:=fnOf Tryz.f119) rfl rfl rfl rfl ?_;have sg:=Sl.to_map Flat.iff sl;have hlen:(l.map Flat.enc).length=l.length:=List.length_map _;have e0:∀{h':Heap},OwnR h' h'.next 1 (.slice none 0 0 0) []:=OwnR.nil;rcases sg with⟨rfl,h0⟩|⟨rfl,h0⟩|⟨i,o,c,x,cs,ro,rfl,h2,h3,h4,h5,h6⟩
 ·repeat refine W.g ?_
  exact q _ _ (Ext.refl _) (by rw[h0];exact OwnR.nil)
 ·repeat (first|refine W.g ?_|refine W.n λh_ X_ n_ g_ S_=> ?_)
  exact q _ _ X_ (by rw[h0];exact .inr ⟨h.next,0,false,rfl,Nat.le_refl _,by omega,g_,λe he=>(by cases he),.inl ⟨rfl,.inl rfl⟩⟩)
 ·have sg:SlG h 1 (.slice (some (i,o)) (l.map (Flat.enc:Str->List CV)).length c x) (l.map Flat.enc):= .inr (.inr ⟨i,o,c,x,cs,ro,rfl,h2,h3,h4,h5,h6⟩)
  repeat (first|refine W.g ?_|refine W.n λh_ X_ n_ g_ S_=> ?_)
  refine W.apR X_ (z:=1) (l:=[]) (l2:=l.map Flat.enc) (.inr ⟨h.next,0,false,rfl,Nat.le_refl _,by omega,g_,λe he=>(by cases he),.inl ⟨rfl,.inl rfl⟩⟩) (sg.ext X_) rfl rfl rfl rfl rfl rfl rfl rfl rfl rfl rfl rfl (by rw[hlen];show(0+l.length)*16<=_;omega) λv' h' X O=> ?_;repeat refine W.g ?_
  exact q _ _ X O
theorem clone_int {h:Heap} {tm:Tm} {Q:R->Prop} {v:CV} {l:List Int} (sl:Sl h v l) (hm:l.length<=1073741824)
  (q:∀h' v',Ext h h'->OwnR h' h.next 1 v' (l.map Flat.enc)->Q (.val v' h')):W E1 (.call (.fn 126 [] []) [v]) tm h Q:=by
 refine W.fn (s:=fnOf Tryz.f126) rfl rfl rfl rfl ?_;have sg:=Sl.to_map Flat.iff sl;have hlen:(l.map Flat.enc).length=l.length:=List.length_map _;have e0:∀{h':Heap},OwnR h' h'.next 1 (.slice none 0 0 0) []:=OwnR.nil;rcases sg with⟨rfl,h0⟩|⟨rfl,h0⟩|⟨i,o,c,x,cs,ro,rfl,h2,h3,h4,h5,h6⟩
 ·repeat refine W.g ?_
  exact q _ _ (Ext.refl _) (by rw[h0];exact OwnR.nil)
 ·repeat (first|refine W.g ?_|refine W.n λh_ X_ n_ g_ S_=> ?_)
  exact q _ _ X_ (by rw[h0];exact .inr ⟨h.next,0,false,rfl,Nat.le_refl _,by omega,g_,λe he=>(by cases he),.inl ⟨rfl,.inl rfl⟩⟩)
 ·have sg:SlG h 1 (.slice (some (i,o)) (l.map (Flat.enc:Int->List CV)).length c x) (l.map Flat.enc):= .inr (.inr ⟨i,o,c,x,cs,ro,rfl,h2,h3,h4,h5,h6⟩)
  repeat (first|refine W.g ?_|refine W.n λh_ X_ n_ g_ S_=> ?_)
  refine W.apR X_ (z:=1) (l:=[]) (l2:=l.map Flat.enc) (.inr ⟨h.next,0,false,rfl,Nat.le_refl _,by omega,g_,λe he=>(by cases he),.inl ⟨rfl,.inl rfl⟩⟩) (sg.ext X_) rfl rfl rfl rfl rfl rfl rfl rfl rfl rfl rfl rfl (by rw[hlen];show(0+l.length)*8<=_;omega) λv' h' X O=> ?_;repeat refine W.g ?_
  exact q _ _ X O
theorem take_flat {α β:Type} {l:List α} {f:α->List β} {k:Nat} (h:k<l.length):(l.take (k+1)).flatMap f=(l.take k).flatMap f++f l[k]:=by
 rw[List.take_add_one,List.getElem?_eq_getElem h,List.flatMap_append];simp
theorem flat_le {α β:Type} {l:List α} {f:α->List β} {k:Nat}:((l.take k).flatMap f).length<=(l.flatMap f).length:=by
 conv=>rhs;rw[<-List.take_append_drop k l,List.flatMap_append,List.length_append]
 omega
theorem map_app {α β:Type} {f:α->β} {a b:List α}:(a++b).map f=a.map f++b.map f:=List.map_append
theorem names_w {h:Heap} {tm:Tm} {Q:R->Prop} {cs:List CV} {x:SheetD} (r:Rp.R h cs x) (few:x.few) (hl:x.all.length<=1073741824)
  (q:∀h' v',Ext h h'->Sl h' v' x.all->Q (.val v' h')):W E1 (.call (.fn 250 [] []) [.agg cs]) tm h Q:=by
 obtain⟨v1,v2,v3,v4,v5,v6,rfl,s1,s2,s3,s4,s5,s6⟩:=r;obtain⟨f1,f2,f3,f4,f5,f6⟩:=few;refine W.fn (s:=fnOf Tryz.f250) rfl rfl rfl rfl ?_;unfold SheetD.all at hl q;obtain⟨pA,hpA⟩:∃pA,pA=x.paths.flatMap λp=>[p.name,p.a,p.b]:=⟨_,rfl⟩;obtain⟨dA,hdA⟩:∃dA,dA=x.doors.flatMap λd=>[d.name,d.a,d.b]:=⟨_,rfl⟩;obtain⟨rA,hrA⟩:∃rA,rA=x.routes.flatMap λr=>r.name::r.stops:=⟨_,rfl⟩;obtain⟨tA,htA⟩:∃tA,tA=x.trips.flatMap λt=>[t.name,t.route]:=⟨_,rfl⟩;obtain⟨hA,hhA⟩:∃hA,hA=x.hazards.flatMap λh=>[h.name,h.on]:=⟨_,rfl⟩;rw[<-hpA,<-hdA,<-hrA,<-htA,<-hhA]at hl q;simp only[List.length_append]at hl;repeat (refine W.seq ?_)
 refine W.region ?_;refine W.box rfl rfl rfl λH XH nH gH LH=> ?_;repeat refine W.g ?_
 refine W.call rfl rfl rfl (clone_str (s1.ext XH) (by omega) λh1 vo X1 O=> ?_);obtain⟨pv,nv,cv,xv,e⟩:=O.form;cases e;refine W.k2 1 16 λT=> ?_;repeat refine W.g ?_
 have X:=X1;refine W.k5 1 3 18 19 20 λT=> ?_
 refine W.loop (σ:=Nat) (λk tm h'=>Ext H h'/\tm.look 1= .ptr (some (h.next,0))/\tm.look 18=v2/\tm.look 19= .int .i64 (x.paths.length:Int)/\tm.look 20= .int .i64 (k:Int)/\k<=x.paths.length/\∃vo,tm.look 3=vo/\OwnR h' H.next 1 vo ((x.stops++(x.paths.take k).flatMap (λp=>[p.name,p.a,p.b])).map Flat.enc)) (λk=>x.paths.length-k) ?_ (s:=0)
  ⟨Ext.x,rfl,rfl,rfl,rfl,Nat.zero_le _,_,rfl,by rw[List.take_zero,List.flatMap_nil,List.append_nil];exact O⟩
 clear O;rintro k tm h' ⟨X,w1,w18,w19,w20,hk,vo,w3,O⟩;obtain⟨pv,nv,cv,xv,e⟩:=O.form;cases e;obtain⟨T,rfl⟩:=Tm.t5 w1 w3 w18 w19 w20;clear w1 w3 w18 w19 w20;by_cases c1:k<x.paths.length
 ·repeat refine W.g ?_
  refine W.iz λi_ o_ L_=> ?_;repeat (first|refine W.g ?_|refine W.m λh_ X_ n_ g_ L_=> ?_|refine W.n λh_ X_ n_ g_ S_=> ?_)
  have hfl:=flat_le (l:=x.paths) (f:=(λp=>[p.name,p.a,p.b])) (k:=k+1);rw[take_flat c1]at hfl;simp only[List.length_append,List.length_cons,List.length_nil]at hfl;rw[<-hpA]at hfl;have S_:SlG _ 1 _ (([x.paths[k].name,x.paths[k].a,x.paths[k].b]:List Str).map Flat.enc):=S_
  refine W.apR (H:=H) (z:=1) Ext.x (O.ext Ext.x) S_ rfl rfl rfl rfl rfl rfl rfl rfl rfl rfl rfl rfl (by
   simp only[List.length_map,List.length_append,List.length_cons,List.length_nil];show _*16<=_;omega) λv' h2 X2 O2=> ?_
  obtain⟨pv,nv,cv,xv,e⟩:=O2.form;cases e;repeat refine W.g ?_
  exact⟨k+1,lessN c1,X2,rfl,rfl,rfl,rfl,c1,_,rfl,by rw[take_flat c1,<-List.append_assoc,map_app];exact O2⟩
 repeat refine W.g ?_
 rw[show k=x.paths.length by omega,List.take_length]at O;refine W.k5 1 3 35 36 37 λT=> ?_;rw[<-hpA]at O
 refine W.loop (σ:=Nat) (λk tm h'=>Ext H h'/\tm.look 1= .ptr (some (h.next,0))/\tm.look 35=v3/\tm.look 36= .int .i64 (x.doors.length:Int)/\tm.look 37= .int .i64 (k:Int)/\k<=x.doors.length/\∃vo,tm.look 3=vo/\OwnR h' H.next 1 vo (((x.stops++pA)++(x.doors.take k).flatMap (λd=>[d.name,d.a,d.b])).map Flat.enc)) (λk=>x.doors.length-k) ?_ (s:=0)
  ⟨Ext.x,rfl,rfl,rfl,rfl,Nat.zero_le _,_,rfl,by rw[List.take_zero,List.flatMap_nil,List.append_nil];exact O⟩
 clear O;rintro k tm h' ⟨X,w1,w35,w36,w37,hk,vo,w3,O⟩;obtain⟨pv,nv,cv,xv,e⟩:=O.form;cases e;obtain⟨T,rfl⟩:=Tm.t5 w1 w3 w35 w36 w37;clear w1 w3 w35 w36 w37;by_cases c1:k<x.doors.length
 ·repeat refine W.g ?_
  refine W.iz λi_ o_ L_=> ?_;repeat (first|refine W.g ?_|refine W.m λh_ X_ n_ g_ L_=> ?_|refine W.n λh_ X_ n_ g_ S_=> ?_)
  have hfl:=flat_le (l:=x.doors) (f:=(λd=>[d.name,d.a,d.b])) (k:=k+1);rw[take_flat c1]at hfl;simp only[List.length_append,List.length_cons,List.length_nil]at hfl;rw[<-hdA]at hfl;have S_:SlG _ 1 _ (([x.doors[k].name,x.doors[k].a,x.doors[k].b]:List Str).map Flat.enc):=S_
  refine W.apR (H:=H) (z:=1) Ext.x (O.ext Ext.x) S_ rfl rfl rfl rfl rfl rfl rfl rfl rfl rfl rfl rfl (by
   simp only[List.length_map,List.length_append,List.length_cons,List.length_nil];show _*16<=_;omega) λv' h2 X2 O2=> ?_
  obtain⟨pv,nv,cv,xv,e⟩:=O2.form;cases e;repeat refine W.g ?_
  exact⟨k+1,lessN c1,X2,rfl,rfl,rfl,rfl,c1,_,rfl,by rw[take_flat c1,<-List.append_assoc,map_app];exact O2⟩
 repeat refine W.g ?_
 rw[show k=x.doors.length by omega,List.take_length]at O;rw[<-hdA]at O;refine W.k5 1 3 52 53 54 λT=> ?_
 refine W.loop (σ:=Nat) (λk tm h'=>Ext H h'/\tm.look 1= .ptr (some (h.next,0))/\tm.look 52=v4/\tm.look 53= .int .i64 (x.routes.length:Int)/\tm.look 54= .int .i64 (k:Int)/\k<=x.routes.length/\∃vo,tm.look 3=vo/\OwnR h' H.next 1 vo ((x.stops++pA++dA++(x.routes.take k).flatMap (λr=>r.name::r.stops)).map Flat.enc)) (λk=>x.routes.length-k) ?_ (s:=0)
  ⟨Ext.x,rfl,rfl,rfl,rfl,Nat.zero_le _,_,rfl,by rw[List.take_zero,List.flatMap_nil,List.append_nil];exact O⟩
 clear O;rintro k tm h' ⟨X,w1,w52,w53,w54,hk,vo,w3,O⟩;obtain⟨pv,nv,cv,xv,e⟩:=O.form;cases e;obtain⟨T,rfl⟩:=Tm.t5 w1 w3 w52 w53 w54;clear w1 w3 w52 w53 w54;by_cases c1:k<x.routes.length
 ·repeat refine W.g ?_
  refine W.ixR s4 c1 rfl rfl rfl rfl rfl rfl rfl λi_ o_ e L_ r_=> ?_;obtain⟨u1,u2,u3,rfl,t1,t2,t3⟩:=r_;have hfl:=flat_le (l:=x.routes) (f:=(λr=>r.name::r.stops)) (k:=k+1);rw[take_flat c1]at hfl;simp only[List.length_append,List.length_cons,List.length_nil]at hfl;rw[<-hrA]at hfl;repeat (first|refine W.g ?_|refine W.m λh_ X_ n_ g_ L_=> ?_)
  have dy:DY (λb=>b=h'.next) h_ [] []:=DY.start (λb hb=>by omega);try refine W.dv ?_
  refine W.ldY dy rfl L_ rfl rfl rfl rfl rfl rfl rfl λr1 ha dy sa La=> ?_;try refine W.dv ?_
  refine W.newY dy rfl rfl rfl rfl λr2 hb dy xb nb gb=> ?_;have gb:hb.get ha.next=some (.cells (Flat.enc x.routes[k].name) false):=gb;have na:ha.next=h_.next:=sa.next;have Xb:Ext h' hb:=(X_.trans sa.ext).trans xb;try refine W.dv ?_
  refine W.apY (H:=H) (z:=1) (l2:=[Flat.enc x.routes[k].name]) dy (X.trans Xb) (O.ext Xb) (SlG.one (by show ha.next<hb.next;omega) gb) (λb hb2=> ?_) rfl rfl rfl rfl rfl rfl rfl rfl rfl rfl rfl rfl rfl (by
   simp only[List.length_map,List.length_append,List.length_cons,List.length_nil];show _*16<=_;omega) λr3 v3 hc dy Xc bc nc O3 _=> ?_
  ·subst hb2
   rcases O.notIn (Nat.le_refl _)with e|⟨i,e,hi,_⟩
   ·rw[e]
    show h'.next∉[ha.next];simp only[List.mem_singleton];omega
   ·rw[e]
    show h'.next∉[i,ha.next];simp only[List.mem_cons,List.not_mem_nil,or_false];omega
  obtain⟨pv,nv,cv,xv,e⟩:=O3.form;cases e;try refine W.dv ?_
  refine W.ldY dy rfl ((La.ext xb).of_get (bc _ rfl) nc) rfl rfl rfl rfl rfl rfl rfl λr4 hd dy sd Ld=> ?_;try refine W.dv ?_
  have Xd:Ext H hd:=Xc.trans sd.ext
  refine W.apY (H:=H) (z:=1) (l2:=x.routes[k].stops.map Flat.enc) dy.drop Xd (O3.ext sd.ext) ((Sl.to_map Flat.iff t1).ext (XH.trans Xd)) (λb hb2=>hb2.elim) rfl rfl rfl rfl rfl rfl rfl rfl rfl rfl rfl rfl rfl (by
   simp only[List.length_map,List.length_append,List.length_cons,List.length_nil];show _*16<=_;omega) λr5 v5 he dy Xe be ne O5 _=> ?_
  obtain⟨pv,nv,cv,xv,e⟩:=O5.form;cases e;try refine W.dv ?_
  repeat refine W.g ?_
  exact⟨k+1,lessN c1,Xe,rfl,rfl,rfl,rfl,c1,_,rfl,by rw[take_flat c1,<-List.append_assoc,map_app,List.map_cons];rw[List.append_assoc]at O5;exact O5⟩
 repeat refine W.g ?_
 rw[show k=x.routes.length by omega,List.take_length,<-hrA]at O;refine W.k5 1 3 68 69 70 λT=> ?_
 refine W.loop (σ:=Nat) (λk tm h'=>Ext H h'/\tm.look 1= .ptr (some (h.next,0))/\tm.look 68=v5/\tm.look 69= .int .i64 (x.trips.length:Int)/\tm.look 70= .int .i64 (k:Int)/\k<=x.trips.length/\∃vo,tm.look 3=vo/\OwnR h' H.next 1 vo (((x.stops++pA++dA++rA)++(x.trips.take k).flatMap (λt=>[t.name,t.route])).map Flat.enc)) (λk=>x.trips.length-k) ?_ (s:=0)
  ⟨Ext.x,rfl,rfl,rfl,rfl,Nat.zero_le _,_,rfl,by rw[List.take_zero,List.flatMap_nil,List.append_nil];exact O⟩
 clear O;rintro k tm h' ⟨X,w1,w68,w69,w70,hk,vo,w3,O⟩;obtain⟨pv,nv,cv,xv,e⟩:=O.form;cases e;obtain⟨T,rfl⟩:=Tm.t5 w1 w3 w68 w69 w70;clear w1 w3 w68 w69 w70;by_cases c1:k<x.trips.length
 ·repeat refine W.g ?_
  refine W.iz λi_ o_ L_=> ?_;repeat (first|refine W.g ?_|refine W.m λh_ X_ n_ g_ L_=> ?_|refine W.n λh_ X_ n_ g_ S_=> ?_)
  have hfl:=flat_le (l:=x.trips) (f:=(λt=>[t.name,t.route])) (k:=k+1);rw[take_flat c1]at hfl;simp only[List.length_append,List.length_cons,List.length_nil]at hfl;rw[<-htA]at hfl;have S_:SlG _ 1 _ (([x.trips[k].name,x.trips[k].route]:List Str).map Flat.enc):=S_
  refine W.apR (H:=H) (z:=1) Ext.x (O.ext Ext.x) S_ rfl rfl rfl rfl rfl rfl rfl rfl rfl rfl rfl rfl (by
   simp only[List.length_map,List.length_append,List.length_cons,List.length_nil];show _*16<=_;omega) λv' h2 X2 O2=> ?_
  obtain⟨pv,nv,cv,xv,e⟩:=O2.form;cases e;repeat refine W.g ?_
  exact⟨k+1,lessN c1,X2,rfl,rfl,rfl,rfl,c1,_,rfl,by rw[take_flat c1,<-List.append_assoc,map_app];exact O2⟩
 repeat refine W.g ?_
 rw[show k=x.trips.length by omega,List.take_length]at O;refine W.k5 1 3 83 84 85 λT=> ?_;rw[<-htA]at O
 refine W.loop (σ:=Nat) (λk tm h'=>Ext H h'/\tm.look 1= .ptr (some (h.next,0))/\tm.look 83=v6/\tm.look 84= .int .i64 (x.hazards.length:Int)/\tm.look 85= .int .i64 (k:Int)/\k<=x.hazards.length/\∃vo,tm.look 3=vo/\OwnR h' H.next 1 vo (((x.stops++pA++dA++rA++tA)++(x.hazards.take k).flatMap (λh=>[h.name,h.on])).map Flat.enc)) (λk=>x.hazards.length-k) ?_ (s:=0)
  ⟨Ext.x,rfl,rfl,rfl,rfl,Nat.zero_le _,_,rfl,by rw[List.take_zero,List.flatMap_nil,List.append_nil];exact O⟩
 clear O;rintro k tm h' ⟨X,w1,w83,w84,w85,hk,vo,w3,O⟩;obtain⟨pv,nv,cv,xv,e⟩:=O.form;cases e;obtain⟨T,rfl⟩:=Tm.t5 w1 w3 w83 w84 w85;clear w1 w3 w83 w84 w85;by_cases c1:k<x.hazards.length
 ·repeat refine W.g ?_
  refine W.iz λi_ o_ L_=> ?_;repeat (first|refine W.g ?_|refine W.m λh_ X_ n_ g_ L_=> ?_|refine W.n λh_ X_ n_ g_ S_=> ?_)
  have hfl:=flat_le (l:=x.hazards) (f:=(λh=>[h.name,h.on])) (k:=k+1);rw[take_flat c1]at hfl;simp only[List.length_append,List.length_cons,List.length_nil]at hfl;rw[<-hhA]at hfl;have S_:SlG _ 1 _ (([x.hazards[k].name,x.hazards[k].on]:List Str).map Flat.enc):=S_
  refine W.apR (H:=H) (z:=1) Ext.x (O.ext Ext.x) S_ rfl rfl rfl rfl rfl rfl rfl rfl rfl rfl rfl rfl (by
   simp only[List.length_map,List.length_append,List.length_cons,List.length_nil];show _*16<=_;omega) λv' h2 X2 O2=> ?_
  obtain⟨pv,nv,cv,xv,e⟩:=O2.form;cases e;repeat refine W.g ?_
  exact⟨k+1,lessN c1,X2,rfl,rfl,rfl,rfl,c1,_,rfl,by rw[take_flat c1,<-List.append_assoc,map_app];exact O2⟩
 repeat refine W.g ?_
 rw[show k=x.hazards.length by omega,List.take_length]at O;rw[<-hhA]at O;exact q _ _ (XH.trans X) O.toSl
end
end Go.Proofs.YtnjkaahbhebaeaaGreatDoor
