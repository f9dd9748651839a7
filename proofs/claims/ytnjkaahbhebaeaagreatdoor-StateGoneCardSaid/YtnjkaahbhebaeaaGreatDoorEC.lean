/- Rows of ticks: where the next one stands; by the program, by the document. No condition. -/
import Derived.Test.YtnjkaahbhebaeaaGreatDoorXU
import Derived.Test.YtnjkaahbhebaeaaGreatDoorYO
import Derived.Test.YtnjkaahbhebaeaaGreatDoorZB
set_option linter.unusedVariables false
set_option linter.unusedSimpArgs false
set_option maxRecDepth 100000
namespace Go.Proofs.YtnjkaahbhebaeaaGreatDoor
open Go Go.CM Go.CM.Tt
noncomputable section
set_option maxHeartbeats 16000000
theorem tickIs_w {h:Heap} {tm:Tm} {Q:R->Prop} (t:Int) (ht:TickOk t) (q:Q (.val (.bool true) h)):W E1 (.call (.fn 311 [] []) [.int .i64 t]) tm h Q:=by
 refine W.fn (s:=fnOf Tryz.f311) rfl rfl rfl rfl ?_;have h0:=ht.1;have h1:=ht.2;repeat (first|refine W.g ?_|refine W.m λh_ X_ n_ g_ L_=> ?_|refine W.n λh_ X_ n_ g_ S_=> ?_)
 refine W.call rfl rfl rfl (tick_w t λa ha=> ?_);have a0:=ha.2 ht;subst a0;repeat (first|refine W.g ?_|refine W.m λh_ X_ n_ g_ L_=> ?_|refine W.n λh_ X_ n_ g_ S_=> ?_)
 exact q
theorem tickSmall_w {h:Heap} {tm:Tm} {Q:R->Prop} (t:Int) (ht:TickOk t) (q:Q (.val (.tup [.int .i64 t,.int .i64 0]) h)):W E1 (.call (.fn 312 [] []) [.int .i64 t]) tm h Q:=by
 refine W.fn (s:=fnOf Tryz.f312) rfl rfl rfl rfl ?_;repeat (first|refine W.g ?_|refine W.m λh_ X_ n_ g_ L_=> ?_|refine W.n λh_ X_ n_ g_ S_=> ?_)
 refine W.call rfl rfl rfl (tick_w t λa ha=> ?_);have a0:=ha.2 ht;subst a0;repeat (first|refine W.g ?_|refine W.m λh_ X_ n_ g_ L_=> ?_|refine W.n λh_ X_ n_ g_ S_=> ?_)
 exact q
theorem tickAdd_w {h:Heap} {tm:Tm} {Q:R->Prop} (a b:Int) (ha:TickOk a) (hb:TickOk b) (hs:a+b<=1099511627776) (q:Q (.val (.tup [.int .i64 (a+b),.int .i64 0]) h)):W E1 (.call (.fn 295 [] []) [.int .i64 a,.int .i64 b]) tm h Q:=by
 refine W.fn (s:=fnOf Tryz.f295) rfl rfl rfl rfl ?_;have a0:=ha.1;have a1:=ha.2;have b0:=hb.1;have b1:=hb.2;repeat (first|refine W.g ?_|refine W.m λh_ X_ n_ g_ L_=> ?_|refine W.n λh_ X_ n_ g_ S_=> ?_)
 refine W.call rfl rfl rfl (tickIs_w a ha ?_);repeat (first|refine W.g ?_|refine W.m λh_ X_ n_ g_ L_=> ?_|refine W.n λh_ X_ n_ g_ S_=> ?_)
 refine W.call rfl rfl rfl (tickIs_w b hb ?_);repeat (first|refine W.g ?_|refine W.m λh_ X_ n_ g_ L_=> ?_|refine W.n λh_ X_ n_ g_ S_=> ?_)
 refine W.call rfl rfl rfl (tickSmall_w (a+b) ⟨by omega,hs⟩ ?_);repeat (first|refine W.g ?_|refine W.m λh_ X_ n_ g_ L_=> ?_|refine W.n λh_ X_ n_ g_ S_=> ?_)
 exact q
theorem tickMul_w {h:Heap} {tm:Tm} {Q:R->Prop} (a n:Int) (ha:TickOk a) (hn:0<=n) (hs:a*n<=1099511627776) (q:Q (.val (.tup [.int .i64 (a*n),.int .i64 0]) h)):W E1 (.call (.fn 294 [] []) [.int .i64 a,.int .i64 n]) tm h Q:=by
 refine W.fn (s:=fnOf Tryz.f294) rfl rfl rfl rfl ?_;have a0:=ha.1;have a1:=ha.2;have m0:0<=a*n:=Int.mul_nonneg a0 hn;repeat (first|refine W.g ?_|refine W.m λh_ X_ n_ g_ L_=> ?_|refine W.n λh_ X_ n_ g_ S_=> ?_)
 refine W.call rfl rfl rfl (tickIs_w a ha ?_);repeat (first|refine W.g ?_|refine W.m λh_ X_ n_ g_ L_=> ?_|refine W.n λh_ X_ n_ g_ S_=> ?_)
 by_cases c1:n=0
 ·rw[c1,Int.mul_zero]at q
  repeat (first|refine W.g ?_|refine W.m λh_ X_ n_ g_ L_=> ?_|refine W.n λh_ X_ n_ g_ S_=> ?_)
  exact q
 by_cases c2:a=0
 ·rw[c2,Int.zero_mul]at q
  repeat (first|refine W.g ?_|refine W.m λh_ X_ n_ g_ L_=> ?_|refine W.n λh_ X_ n_ g_ S_=> ?_)
  exact q
 repeat (first|refine W.g ?_|refine W.m λh_ X_ n_ g_ L_=> ?_|refine W.n λh_ X_ n_ g_ S_=> ?_)
 have k:n<=1099511627776/a:=(Int.le_ediv_iff_mul_le (by omega)).2 (by rw[Int.mul_comm];exact hs);have h1:1099511627776/a<=1099511627776:=Int.ediv_le_self a (by omega);have h2:0<=1099511627776/a:=Int.ediv_nonneg (by omega) a0;refine W.quo (a:=1099511627776) (b:=a) (by omega) (by omega) (by omega) rfl rfl rfl rfl ?_;have m1: -9223372036854775808<=a*n:=by omega
 have m2:a*n<=9223372036854775807:=by omega
 repeat (first|refine W.g ?_|refine W.m λh_ X_ n_ g_ L_=> ?_|refine W.n λh_ X_ n_ g_ S_=> ?_)
 exact q
theorem tickAt_w {h:Heap} {tm:Tm} {Q:R->Prop} (f e i:Int) (hf:TickOk f) (he:TickOk e) (hi:0<=i) (h0:e=0->i=0) (hs:f+i*e<=1099511627776) (q:Q (.val (.tup [.int .i64 (f+i*e),.int .i64 0]) h)):W E1 (.call (.fn 231 [] []) [.int .i64 f,.int .i64 e,.int .i64 i]) tm h Q:=by
 refine W.fn (s:=fnOf Tryz.f231) rfl rfl rfl rfl ?_;have f0:=hf.1;have e0:=he.1;have m0:0<=e*i:=Int.mul_nonneg e0 hi;rw[Int.mul_comm]at hs q;repeat (first|refine W.g ?_|refine W.m λh_ X_ n_ g_ L_=> ?_|refine W.n λh_ X_ n_ g_ S_=> ?_)
 refine W.call rfl rfl rfl (tick_w f λa ha=> ?_);have a0:=ha.2 hf;subst a0;repeat (first|refine W.g ?_|refine W.m λh_ X_ n_ g_ L_=> ?_|refine W.n λh_ X_ n_ g_ S_=> ?_)
 refine W.call rfl rfl rfl (tick_w e λa ha=> ?_);have a0:=ha.2 he;subst a0;by_cases c:e=0
 ·have:=h0 c
  repeat (first|refine W.g ?_|refine W.m λh_ X_ n_ g_ L_=> ?_|refine W.n λh_ X_ n_ g_ S_=> ?_)
  refine W.call rfl rfl rfl (tickMul_w e i he hi (by omega) ?_);repeat (first|refine W.g ?_|refine W.m λh_ X_ n_ g_ L_=> ?_|refine W.n λh_ X_ n_ g_ S_=> ?_)
  refine W.call rfl rfl rfl (tickAdd_w f (e*i) hf ⟨m0,by omega⟩ hs ?_);repeat (first|refine W.g ?_|refine W.m λh_ X_ n_ g_ L_=> ?_|refine W.n λh_ X_ n_ g_ S_=> ?_)
  exact q
 repeat (first|refine W.g ?_|refine W.m λh_ X_ n_ g_ L_=> ?_|refine W.n λh_ X_ n_ g_ S_=> ?_)
 refine W.call rfl rfl rfl (tickMul_w e i he hi (by omega) ?_);repeat (first|refine W.g ?_|refine W.m λh_ X_ n_ g_ L_=> ?_|refine W.n λh_ X_ n_ g_ S_=> ?_)
 refine W.call rfl rfl rfl (tickAdd_w f (e*i) hf ⟨m0,by omega⟩ hs ?_);repeat (first|refine W.g ?_|refine W.m λh_ X_ n_ g_ L_=> ?_|refine W.n λh_ X_ n_ g_ S_=> ?_)
 exact q
theorem rtickAt_w {h:Heap} {tm:Tm} {Q:R->Prop} (f e i:Int) (hf:TickOk f) (he:TickOk e) (hi:0<=i) (h0:e=0->i=0) (hs:f+i*e<=1099511627776) (q:Q (.val (.tup [.int .i64 (f+i*e),.int .i64 0]) h)):W E1 (.call (.fn 183 [] []) [.int .i64 f,.int .i64 e,.int .i64 i]) tm h Q:=by
 refine W.fn (s:=fnOf Tryz.f183) rfl rfl rfl rfl ?_;have f0:=hf.1;have f1:=hf.2;have e0:=he.1;have m0:0<=i*e:=Int.mul_nonneg hi e0;repeat (first|refine W.g ?_|refine W.m λh_ X_ n_ g_ L_=> ?_|refine W.n λh_ X_ n_ g_ S_=> ?_)
 refine W.call rfl rfl rfl (rtick_w f (λ_=> ?_) (λh=>absurd hf h));repeat (first|refine W.g ?_|refine W.m λh_ X_ n_ g_ L_=> ?_|refine W.n λh_ X_ n_ g_ S_=> ?_)
 refine W.call rfl rfl rfl (rtick_w e (λ_=> ?_) (λh=>absurd he h));by_cases c:e=0
 ·have i0:=h0 c
  rw[c,Int.mul_zero,Int.add_zero]at q;repeat (first|refine W.g ?_|refine W.m λh_ X_ n_ g_ L_=> ?_|refine W.n λh_ X_ n_ g_ S_=> ?_)
  exact q
 repeat (first|refine W.g ?_|refine W.m λh_ X_ n_ g_ L_=> ?_|refine W.n λh_ X_ n_ g_ S_=> ?_)
 have k:i<=(1099511627776-f)/e:=(Int.le_ediv_iff_mul_le (by omega)).2 (by omega);have h1:(1099511627776-f)/e<=1099511627776-f:=Int.ediv_le_self e (by omega);have h2:0<=(1099511627776-f)/e:=Int.ediv_nonneg (by omega) e0;refine W.quo (a:=1099511627776-f) (b:=e) (by omega) (by omega) (by omega) rfl rfl rfl rfl ?_;have m1: -9223372036854775808<=i*e:=by omega
 have m2:i*e<=9223372036854775807:=by omega
 repeat (first|refine W.g ?_|refine W.m λh_ X_ n_ g_ L_=> ?_|refine W.n λh_ X_ n_ g_ S_=> ?_)
 exact q
end
end Go.Proofs.YtnjkaahbhebaeaaGreatDoor

namespace Go.Proofs.YtnjkaahbhebaeaaGreatDoor
open Go Go.CM Go.CM.Tt
noncomputable section
set_option maxHeartbeats 16000000
theorem own2 {h1:Heap} {lo i j x y:Nat} {a:Int} (r:RouteW) (hA:h1.get i=some (.cells [.int .i64 a] false)) (hD:h1.get j=some (.cells [.int .i64 a] false)) (l1:lo<=x) (l2:x<i) (l3:i<j) (l4:j<y) (l5:y<h1.next):
  OwnG h1 lo [(1,.slice (some (i,0)) 1 1 0,(r.arrs a 0).map Flat.enc),(1,.slice (some (j,0)) 1 1 0,(r.deps a 0).map Flat.enc)] [y,x]:=by
 refine⟨λrr hr=> ?_,?_,λk hk=> ?_⟩
 ·simp only[List.mem_cons,List.not_mem_nil,or_false]at hr
  rcases hr with rfl|rfl
  ·exact .inr ⟨i,0,false,rfl,by omega,by omega,hA,λe he=>by
    have:e=[CV.int .i64 a]:=List.mem_singleton.1 he;rw[this];rfl,.inl ⟨rfl,.inr rfl⟩⟩
  ·exact .inr ⟨j,0,false,rfl,by omega,by omega,hD,λe he=>by
    have:e=[CV.int .i64 a]:=List.mem_singleton.1 he;rw[this];rfl,.inl ⟨rfl,.inr rfl⟩⟩
 ·show[i,j,y,x].Nodup
  simp only[List.nodup_cons,List.mem_cons,List.not_mem_nil,or_false,not_or];exact⟨⟨by omega,by omega,by omega⟩,⟨by omega,by omega⟩,by omega,by simp⟩
 ·simp only[List.mem_cons,List.not_mem_nil,or_false]at hk
  omega
theorem run1_w {h:Heap} {tm:Tm} {Q:R->Prop} {cs:List CV} {r:RouteW} {i:Nat} (a:Int) (L:LocE h i 0 cs) (rr:Rp.R h cs r) (ht:r.tame) (ha:TickOk a)
  (q:∀h' vA vD,Ext h h'->OwnG h' h.next [(1,vA,(r.arrs a r.rides.length).map Flat.enc),(1,vD,(r.deps a r.rides.length).map Flat.enc)] []->Q (.val (.agg [.int .i64 0,.int .i64 0,vA,vD]) h')):
  W E1 (.call (.fn 296 [] [.ptr (some (i,0))]) [.int .i64 a]) tm h Q:=by
 obtain⟨v1,v2,v3,rfl,s1,s2,s3⟩:=rr;obtain⟨hl,hr,hp⟩:=ht;obtain⟨a0,a1⟩:=ha;refine W.fn (s:=fnOf Tryz.f296) rfl rfl rfl rfl ?_;repeat (refine W.seq ?_)
 refine W.region ?_;refine W.al rfl rfl rfl λH1 X1 n1 g1 L1=> ?_;have g1:H1.get h.next=some (.cells [.int .i64 0,.int .i64 0,.slice none 0 0 0,.slice none 0 0 0] false):=g1;clear L1;repeat (first|refine W.g ?_|refine W.m λh_ X_ n_ g_ L_=> ?_|refine W.n λh_ X_ n_ g_ S_=> ?_)
 rename_i H2 X2 n2 g2 S2 H3 X3 n3 g3;have g2:H2.get H1.next=some (.cells [.int .i64 a] false):=g2;have g3:H3.get H2.next=some (.cells [.int .i64 a] false):=g3;have g_:h_.get H3.next=some (.cells [.int .i64 0,.int .i64 0,.slice (some (H1.next,0)) 1 1 0,.slice (some (H2.next,0)) 1 1 0] false):=g_;have XK:Ext h h_:=((X1.trans X2).trans X3).trans X_;have gc:=(X_.old h.next (by omega)).trans ((X3.old _ (by omega)).trans ((X2.old _ (by omega)).trans g1));have O:=own2 (lo:=h.next) (x:=h.next) (y:=H3.next) r ((X_.old _ (by omega)).trans ((X3.old _ (by omega)).trans g2)) ((X_.old _ (by omega)).trans g3) (Nat.le_refl _) (by omega) (by omega) (by omega) (by omega);obtain⟨b,hb⟩:∃b,b=H3.next:=⟨_,rfl⟩;rw[<-hb]at g_ O ⊢;have hbn:h.next<b:=by omega
 clear L_ S_ S2 g1 g2 g3 X1 X2 X3 X_ n1 n2 n3;refine W.k7 0 1 3 4 13 14 15 λT=> ?_
 refine W.loop (σ:=Nat) (λk tm h'=>Ext h h'/\tm.look 0= .int .i64 (a+r.pre k)/\tm.look 1= .ptr (some (i,0))/\tm.look 3= .ptr (some (h.next,0))/\tm.look 4= .ptr (some (b,0))/\tm.look 13=v2/\tm.look 14= .int .i64 (r.rides.length:Int)/\tm.look 15= .int .i64 (k:Int)/\k<=r.rides.length/\
   ∃vA vD,OwnG h' h.next [(1,vA,(r.arrs a k).map Flat.enc),(1,vD,(r.deps a k).map Flat.enc)] [b,h.next]/\h'.get b=some (.cells [.int .i64 0,.int .i64 0,vA,vD] false)/\h'.get h.next=some (.cells [.int .i64 0,.int .i64 0,.slice none 0 0 0,.slice none 0 0 0] false)) (λk=>r.rides.length-k) ?_ (s:=0)
  ⟨XK,by show _=CV.int .i64 (a+0);rw[Int.add_zero];rfl,rfl,rfl,rfl,rfl,rfl,rfl,Nat.zero_le _,_,_,O,g_,gc⟩
 clear O g_ gc XK n_;rintro k tm h' ⟨X,w0,w1,w3,w4,w13,w14,w15,hk,vA,vD,O,gb,gc⟩;obtain⟨T,rfl⟩:=Tm.t7 w0 w1 w3 w4 w13 w14 w15;clear w0 w1 w3 w4 w13 w14 w15;have hpk:=hp k;have hrk:=hr k;have nX:=X.next;have ltb:=(O.x b (by simp)).2;have ltc:=(O.x h.next (by simp)).2;have Lb:LocE h' b 0 [.int .i64 0,.int .i64 0,vA,vD]:=⟨_,_,gb,ltb,rfl⟩;by_cases c1:k<r.rides.length
 ·have er:r.rides.getD k 0=r.rides[k]:=by simp[List.getD_eq_getElem?_getD,c1]
  repeat (first|refine W.g ?_|refine W.m λh_ X_ n_ g_ L_=> ?_|refine W.n λh_ X_ n_ g_ S_=> ?_)
  refine W.ixF s2 c1 rfl rfl rfl rfl rfl rfl rfl λi1 o1 M1=> ?_;replace M1:=show LocE h i1 o1 [.int .i64 (r.rides.getD k 0)]from by rw[er];exact M1
  repeat (first|refine W.g ?_|refine W.m λh_ X_ n_ g_ L_=> ?_|refine W.n λh_ X_ n_ g_ S_=> ?_)
  have S_:SlG h_ 1 (.slice (some (h'.next,0)) 1 1 0) [[.int .i64 (a+r.pre k+r.rides.getD k 0)]]:=S_
  refine W.apR2 (H:=h) (z:=1) (X.trans X_) ((O.o (1,vA,(r.arrs a k).map Flat.enc) (by simp)).ext X_) S_ (by simp) rfl rfl rfl rfl rfl rfl rfl rfl rfl rfl rfl rfl (by
   rw[List.length_map,RouteW.arrs_len];show(_+1)*8<=_;omega) λv' h5 X5 O5 k5 n5 i5=> ?_
  rw[show(r.arrs a k).map Flat.enc++[[CV.int .i64 (a+r.pre k+r.rides.getD k 0)]]=(r.arrs a (k+1)).map Flat.enc from by rw[RouteW.arrs_more,List.map_append];rfl]at O5;have OA:=OwnG.turn (A:=[]) (O.ext X_) (h':=h5) (by omega) (λkk h1 h2=>h2.elim (λh2=>(X5.old kk h2).trans ((X.trans X_).old kk h2).symm) (k5 kk h1)) O5 (.inr ⟨_,i5,Nat.le_refl _⟩);have gb5:=(OA.2 b (by simp)).trans ((X_.old b ltb).trans gb);have gc5:=(OA.2 h.next (by simp)).trans ((X_.old h.next ltc).trans gc);obtain⟨pv,nv,cv,xv,ev⟩:=O5.form;have hcells:v'.cells=some [v']:=by rw[ev];rfl
  clear Lb;repeat (first|refine W.g ?_|refine W.m λh_ X_ n_ g_ L_=> ?_|refine W.n λh_ X_ n_ g_ S_=> ?_)
  refine W.stn (vs:=[v']) (cs':=[.int .i64 0,.int .i64 0,v',vD]) rfl rfl rfl hcells rfl rfl gb5 rfl λM nM gM kM=> ?_;have OM:=(OA.1.put nM kM).1;have gcM:=(kM h.next (by omega)).trans gc5;have XM:Ext h M:=Ext.store X5 nM kM (by omega) (by omega);have LM:LocE M b 0 [.int .i64 0,.int .i64 0,v',vD]:=⟨_,_,gM,by omega,rfl⟩;have nM2:=X_.next;clear OA gb5 gc5 O5 hcells;by_cases c2:k<r.stays.length
  ·have es:r.stays.getD k 0=r.stays[k]:=by simp[List.getD_eq_getElem?_getD,c2]
   refine W.k8 0 1 3 4 5 13 14 15 λT=> ?_;repeat (first|refine W.g ?_|refine W.m λh_ X_ n_ g_ L_=> ?_|refine W.n λh_ X_ n_ g_ S_=> ?_)
   refine W.ixF s3 c2 rfl rfl rfl rfl rfl rfl rfl λi2 o2 M2=> ?_;replace M2:=show LocE h i2 o2 [.int .i64 (r.stays.getD k 0)]from by rw[es];exact M2
   repeat (first|refine W.g ?_|refine W.m λh_ X_ n_ g_ L_=> ?_|refine W.n λh_ X_ n_ g_ S_=> ?_)
   have S_:SlG h_ 1 (.slice (some (M.next,0)) 1 1 0) [[.int .i64 (a+r.pre (k+1))]]:=by
    have:a+r.pre (k+1)=a+r.pre k+r.rides.getD k 0+r.stays.getD k 0:=by
     show a+(r.pre k+r.rides.getD k 0+r.stays.getD k 0)=_;omega
    rw[this];exact S_
   refine W.apR2 (H:=h) (z:=1) (XM.trans X_) ((OM.o (1,vD,(r.deps a k).map Flat.enc) (by simp)).ext X_) S_ (by simp) rfl rfl rfl rfl rfl rfl rfl rfl rfl rfl rfl rfl (by
    rw[List.length_map,RouteW.deps_len];show(_+1)*8<=_;omega) λu' h6 X6 O6 k6 n6 i6=> ?_
   rw[show(r.deps a k).map Flat.enc++[[CV.int .i64 (a+r.pre (k+1))]]=(r.deps a (k+1)).map Flat.enc from by rw[RouteW.deps_more,List.map_append];rfl]at O6;have OB:=OwnG.turn (A:=[(1,v',(r.arrs a (k+1)).map Flat.enc)]) (B:=[]) (OM.ext X_) (h':=h6) (by omega) (λkk h1 h2=>h2.elim (λh2=>(X6.old kk h2).trans ((XM.trans X_).old kk h2).symm) (k6 kk h1)) O6 (.inr ⟨_,i6,Nat.le_refl _⟩);have gb6:=(OB.2 b (by simp)).trans ((X_.old b (by omega)).trans gM);have gc6:=(OB.2 h.next (by simp)).trans ((X_.old h.next (by omega)).trans gcM);have nX6:=X_.next;obtain⟨pw,nw,cw,xw,ew⟩:=O6.form;have hcells:u'.cells=some [u']:=by rw[ew];rfl
   clear LM;repeat (first|refine W.g ?_|refine W.m λh_ X_ n_ g_ L_=> ?_|refine W.n λh_ X_ n_ g_ S_=> ?_)
   refine W.stn (vs:=[u']) (cs':=[.int .i64 0,.int .i64 0,v',u']) rfl rfl rfl hcells rfl rfl gb6 rfl λN nN gN kN=> ?_;have ON:=(OB.1.put nN kN).1;have gcN:=(kN h.next (by omega)).trans gc6;have XN:Ext h N:=Ext.store X6 nN kN (by omega) (by omega);repeat (first|refine W.g ?_|refine W.m λh_ X_ n_ g_ L_=> ?_|refine W.n λh_ X_ n_ g_ S_=> ?_)
   refine⟨k+1,lessN c1,XN,?_,rfl,rfl,rfl,rfl,rfl,rfl,c1,_,_,ON,gN,gcN⟩;show CV.int .i64 (a+r.pre k+r.rides.getD k 0+r.stays.getD k 0)=CV.int .i64 (a+(r.pre k+r.rides.getD k 0+r.stays.getD k 0));rw[show a+r.pre k+r.rides.getD k 0+r.stays.getD k 0=a+(r.pre k+r.rides.getD k 0+r.stays.getD k 0)from by omega]
  ·have es:r.stays.getD k 0=0:=by simp[List.getD_eq_getElem?_getD,List.getElem?_eq_none (show r.stays.length<=k by omega)]
   refine W.k8 0 1 3 4 5 13 14 15 λT=> ?_;repeat (first|refine W.g ?_|refine W.m λh_ X_ n_ g_ L_=> ?_|refine W.n λh_ X_ n_ g_ S_=> ?_)
   have S_:SlG h_ 1 (.slice (some (M.next,0)) 1 1 0) [[.int .i64 (a+r.pre (k+1))]]:=by
    have:a+r.pre (k+1)=a+r.pre k+r.rides.getD k 0:=by
     show a+(r.pre k+r.rides.getD k 0+r.stays.getD k 0)=_;omega
    rw[this];exact S_
   refine W.apR2 (H:=h) (z:=1) (XM.trans X_) ((OM.o (1,vD,(r.deps a k).map Flat.enc) (by simp)).ext X_) S_ (by simp) rfl rfl rfl rfl rfl rfl rfl rfl rfl rfl rfl rfl (by
    rw[List.length_map,RouteW.deps_len];show(_+1)*8<=_;omega) λu' h6 X6 O6 k6 n6 i6=> ?_
   rw[show(r.deps a k).map Flat.enc++[[CV.int .i64 (a+r.pre (k+1))]]=(r.deps a (k+1)).map Flat.enc from by rw[RouteW.deps_more,List.map_append];rfl]at O6;have OB:=OwnG.turn (A:=[(1,v',(r.arrs a (k+1)).map Flat.enc)]) (B:=[]) (OM.ext X_) (h':=h6) (by omega) (λkk h1 h2=>h2.elim (λh2=>(X6.old kk h2).trans ((XM.trans X_).old kk h2).symm) (k6 kk h1)) O6 (.inr ⟨_,i6,Nat.le_refl _⟩);have gb6:=(OB.2 b (by simp)).trans ((X_.old b (by omega)).trans gM);have gc6:=(OB.2 h.next (by simp)).trans ((X_.old h.next (by omega)).trans gcM);have nX6:=X_.next;obtain⟨pw,nw,cw,xw,ew⟩:=O6.form;have hcells:u'.cells=some [u']:=by rw[ew];rfl
   clear LM;repeat (first|refine W.g ?_|refine W.m λh_ X_ n_ g_ L_=> ?_|refine W.n λh_ X_ n_ g_ S_=> ?_)
   refine W.stn (vs:=[u']) (cs':=[.int .i64 0,.int .i64 0,v',u']) rfl rfl rfl hcells rfl rfl gb6 rfl λN nN gN kN=> ?_;have ON:=(OB.1.put nN kN).1;have gcN:=(kN h.next (by omega)).trans gc6;have XN:Ext h N:=Ext.store X6 nN kN (by omega) (by omega);repeat (first|refine W.g ?_|refine W.m λh_ X_ n_ g_ L_=> ?_|refine W.n λh_ X_ n_ g_ S_=> ?_)
   refine⟨k+1,lessN c1,XN,?_,rfl,rfl,rfl,rfl,rfl,rfl,c1,_,_,ON,gN,gcN⟩;show CV.int .i64 (a+r.pre k+r.rides.getD k 0)=CV.int .i64 (a+(r.pre k+r.rides.getD k 0+r.stays.getD k 0));rw[show a+r.pre k+r.rides.getD k 0=a+(r.pre k+r.rides.getD k 0+r.stays.getD k 0)from by omega]
 ·have ek:k=r.rides.length:=by omega
  subst ek;repeat (first|refine W.g ?_|refine W.m λh_ X_ n_ g_ L_=> ?_|refine W.n λh_ X_ n_ g_ S_=> ?_)
  refine W.stn (vs:=[.int .i64 0,.int .i64 0,vA,vD]) (cs':=[.int .i64 0,.int .i64 0,vA,vD]) rfl rfl rfl rfl rfl rfl gc rfl λM nM gM kM=> ?_;repeat (first|refine W.g ?_|refine W.m λh_ X_ n_ g_ L_=> ?_|refine W.n λh_ X_ n_ g_ S_=> ?_)
  refine BodyQ.cell1 rfl rfl gM rfl rfl ?_;exact q M vA vD (Ext.store X nM kM (by omega) (by omega)) ⟨λrw hrw=>(O.o rw hrw).other (by omega) λkk _ _ hi=>kM kk (λe=>(List.nodup_append.1 O.nd).2.2 kk (List.mem_flatMap.2 ⟨rw,hrw,by rw[hi];simp⟩) h.next (by simp) e),by have:=(List.nodup_append.1 O.nd).1;simpa using this,λk hk=>by cases hk⟩
end
end Go.Proofs.YtnjkaahbhebaeaaGreatDoor
