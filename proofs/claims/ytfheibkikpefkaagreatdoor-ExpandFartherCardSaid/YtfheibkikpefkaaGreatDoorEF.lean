/- A run made along a route, by the program. No condition but that the route's numbers are small. -/
import Derived.Test.YtfheibkikpefkaaGreatDoorXU
import Derived.Test.YtfheibkikpefkaaGreatDoorEC
import Derived.Test.YtfheibkikpefkaaGreatDoorZW
import Derived.Test.YtfheibkikpefkaaGreatDoorXQ4
set_option linter.unusedVariables false
set_option linter.unusedSimpArgs false
namespace Go.Proofs.YtfheibkikpefkaaGreatDoor
open Go Go.CM Go.CM.Tt
noncomputable section
set_option maxHeartbeats 16000000
theorem own2 {h1:Heap} {lo i j x y:Nat} {a:Int} (r:RouteW) (hA:h1.get i=some (.cells [.int .i64 a] false)) (hD:h1.get j=some (.cells [.int .i64 a] false)) (l1:lo<=x) (l2:x<i) (l3:i<j) (l4:j<y) (l5:y<h1.next):
  OwnG h1 lo [(1,.slice (some (i,0)) 1 1 0,(r.arrs a 0).map Flat.enc),(1,.slice (some (j,0)) 1 1 0,(r.deps a 0).map Flat.enc)] [y,x]:=by
 refine⟨λrr hr=> ?_,?_,λk hk=> ?_⟩
 ·simp only[List.mem_cons,List.not_mem_nil,or_false]at hr
  rcases hr with rfl|rfl
  ·exact .inr ⟨i,0,false,rfl,by omega,by omega,hA,λe he=>by
    have:e=[CV.int .i64 a]:=List.mem_singleton.1 he;rw[this];rfl,.inl ⟨rfl,.inr rfl⟩⟩
  ·exact .inr ⟨j,0,false,rfl,by omega,by omega,hD,λe he=>by
    have:e=[CV.int .i64 a]:=List.mem_singleton.1 he;rw[this];rfl,.inl ⟨rfl,.inr rfl⟩⟩
 ·show[i,j,y,x].Nodup
  simp only[List.nodup_cons,List.mem_cons,List.not_mem_nil,or_false,not_or];exact⟨⟨by omega,by omega,by omega⟩,⟨by omega,by omega⟩,by omega,by simp⟩
 ·simp only[List.mem_cons,List.not_mem_nil,or_false]at hk
  omega
theorem run1_w {h:Heap} {tm:Tm} {Q:R->Prop} {cs:List CV} {r:RouteW} {i:Nat} (a:Int) (L:LocE h i 0 cs) (rr:Rp.R h cs r) (ht:r.tame) (ha:TickOk a)
  (q:∀h' vA vD,Ext h h'->OwnG h' h.next [(1,vA,(r.arrs a r.rides.length).map Flat.enc),(1,vD,(r.deps a r.rides.length).map Flat.enc)] []->Q (.val (.agg [.int .i64 0,.int .i64 0,vA,vD]) h')):
  W E1 (.call (.fn 142 [] [.ptr (some (i,0))]) [.int .i64 a]) tm h Q:=by
 obtain⟨v1,v2,v3,rfl,s1,s2,s3⟩:=rr;obtain⟨hl,hr,hp⟩:=ht;obtain⟨a0,a1⟩:=ha;refine W.fn (s:=fnOf Tryz.f142) rfl rfl rfl rfl ?_;repeat (refine W.seq ?_)
 refine W.region ?_;refine W.al rfl rfl rfl λH1 X1 n1 g1 L1=> ?_;have g1:H1.get h.next=some (.cells [.int .i64 0,.int .i64 0,.slice none 0 0 0,.slice none 0 0 0] false):=g1;clear L1;repeat (first|refine W.g ?_|refine W.m λh_ X_ n_ g_ L_=> ?_|refine W.n λh_ X_ n_ g_ S_=> ?_)
 rename_i H2 X2 n2 g2 S2 H3 X3 n3 g3;have g2:H2.get H1.next=some (.cells [.int .i64 a] false):=g2;have g3:H3.get H2.next=some (.cells [.int .i64 a] false):=g3;have g_:h_.get H3.next=some (.cells [.int .i64 0,.int .i64 0,.slice (some (H1.next,0)) 1 1 0,.slice (some (H2.next,0)) 1 1 0] false):=g_;have XK:Ext h h_:=((X1.trans X2).trans X3).trans X_;have gc:=(X_.old h.next (by omega)).trans ((X3.old _ (by omega)).trans ((X2.old _ (by omega)).trans g1));have O:=own2 (lo:=h.next) (x:=h.next) (y:=H3.next) r ((X_.old _ (by omega)).trans ((X3.old _ (by omega)).trans g2)) ((X_.old _ (by omega)).trans g3) (Nat.le_refl _) (by omega) (by omega) (by omega) (by omega);obtain⟨b,hb⟩:∃b,b=H3.next:=⟨_,rfl⟩;rw[<-hb]at g_ O ⊢;have hbn:h.next<b:=by omega
 clear L_ S_ S2 g1 g2 g3 X1 X2 X3 X_ n1 n2 n3;refine W.k7 0 1 3 4 13 14 15 λT=> ?_
 refine W.loop (σ:=Nat) (λk tm h'=>Ext h h'/\tm.look 0= .int .i64 (a+r.pre k)/\tm.look 1= .ptr (some (i,0))/\tm.look 3= .ptr (some (h.next,0))/\tm.look 4= .ptr (some (b,0))/\tm.look 13=v2/\tm.look 14= .int .i64 (r.rides.length:Int)/\tm.look 15= .int .i64 (k:Int)/\k<=r.rides.length/\
   ∃vA vD,OwnG h' h.next [(1,vA,(r.arrs a k).map Flat.enc),(1,vD,(r.deps a k).map Flat.enc)] [b,h.next]/\h'.get b=some (.cells [.int .i64 0,.int .i64 0,vA,vD] false)/\h'.get h.next=some (.cells [.int .i64 0,.int .i64 0,.slice none 0 0 0,.slice none 0 0 0] false)) (λk=>r.rides.length-k) ?_ (s:=0)
  ⟨XK,by show _=CV.int .i64 (a+0);rw[Int.add_zero];rfl,rfl,rfl,rfl,rfl,rfl,rfl,Nat.zero_le _,_,_,O,g_,gc⟩
 clear O g_ gc XK n_;rintro k tm h' ⟨X,w0,w1,w3,w4,w13,w14,w15,hk,vA,vD,O,gb,gc⟩;obtain⟨T,rfl⟩:=Tm.t7 w0 w1 w3 w4 w13 w14 w15;clear w0 w1 w3 w4 w13 w14 w15;have hpk:=hp k;have hrk:=hr k;have nX:=X.next;have ltb:=(O.x b (by simp)).2;have ltc:=(O.x h.next (by simp)).2;have Lb:LocE h' b 0 [.int .i64 0,.int .i64 0,vA,vD]:=⟨_,_,gb,ltb,rfl⟩;by_cases c1:k<r.rides.length
 ·have er:r.rides.getD k 0=r.rides[k]:=by simp[List.getD_eq_getElem?_getD,c1]
  repeat (first|refine W.g ?_|refine W.m λh_ X_ n_ g_ L_=> ?_|refine W.n λh_ X_ n_ g_ S_=> ?_)
  refine W.ixF s2 c1 rfl rfl rfl rfl rfl rfl rfl λi1 o1 M1=> ?_;replace M1:=show LocE h i1 o1 [.int .i64 (r.rides.getD k 0)]from by rw[er];exact M1
  repeat (first|refine W.g ?_|refine W.m λh_ X_ n_ g_ L_=> ?_|refine W.n λh_ X_ n_ g_ S_=> ?_)
  have S_:SlG h_ 1 (.slice (some (h'.next,0)) 1 1 0) [[.int .i64 (a+r.pre k+r.rides.getD k 0)]]:=S_
  refine W.apR2 (H:=h) (z:=1) (X.trans X_) ((O.o (1,vA,(r.arrs a k).map Flat.enc) (by simp)).ext X_) S_ (by simp) rfl rfl rfl rfl rfl rfl rfl rfl rfl rfl rfl rfl (by
   rw[List.length_map,RouteW.arrs_len];show(_+1)*8<=_;omega) λv' h5 X5 O5 k5 n5 i5=> ?_
  rw[show(r.arrs a k).map Flat.enc++[[CV.int .i64 (a+r.pre k+r.rides.getD k 0)]]=(r.arrs a (k+1)).map Flat.enc from by rw[RouteW.arrs_more,List.map_append];rfl]at O5;have OA:=OwnG.turn (A:=[]) (O.ext X_) (h':=h5) (by omega) (λkk h1 h2=>h2.elim (λh2=>(X5.old kk h2).trans ((X.trans X_).old kk h2).symm) (k5 kk h1)) O5 (.inr ⟨_,i5,Nat.le_refl _⟩);have gb5:=(OA.2 b (by simp)).trans ((X_.old b ltb).trans gb);have gc5:=(OA.2 h.next (by simp)).trans ((X_.old h.next ltc).trans gc);obtain⟨pv,nv,cv,xv,ev⟩:=O5.form;have hcells:v'.cells=some [v']:=by rw[ev];rfl
  clear Lb;repeat (first|refine W.g ?_|refine W.m λh_ X_ n_ g_ L_=> ?_|refine W.n λh_ X_ n_ g_ S_=> ?_)
  refine W.stn (vs:=[v']) (cs':=[.int .i64 0,.int .i64 0,v',vD]) rfl rfl rfl hcells rfl rfl gb5 rfl λM nM gM kM=> ?_;have OM:=(OA.1.put nM kM).1;have gcM:=(kM h.next (by omega)).trans gc5;have XM:Ext h M:=Ext.store X5 nM kM (by omega) (by omega);have LM:LocE M b 0 [.int .i64 0,.int .i64 0,v',vD]:=⟨_,_,gM,by omega,rfl⟩;have nM2:=X_.next;clear OA gb5 gc5 O5 hcells;by_cases c2:k<r.stays.length
  ·have es:r.stays.getD k 0=r.stays[k]:=by simp[List.getD_eq_getElem?_getD,c2]
   refine W.k8 0 1 3 4 5 13 14 15 λT=> ?_;repeat (first|refine W.g ?_|refine W.m λh_ X_ n_ g_ L_=> ?_|refine W.n λh_ X_ n_ g_ S_=> ?_)
   refine W.ixF s3 c2 rfl rfl rfl rfl rfl rfl rfl λi2 o2 M2=> ?_;replace M2:=show LocE h i2 o2 [.int .i64 (r.stays.getD k 0)]from by rw[es];exact M2
   repeat (first|refine W.g ?_|refine W.m λh_ X_ n_ g_ L_=> ?_|refine W.n λh_ X_ n_ g_ S_=> ?_)
   have S_:SlG h_ 1 (.slice (some (M.next,0)) 1 1 0) [[.int .i64 (a+r.pre (k+1))]]:=by
    have:a+r.pre (k+1)=a+r.pre k+r.rides.getD k 0+r.stays.getD k 0:=by
     show a+(r.pre k+r.rides.getD k 0+r.stays.getD k 0)=_;omega
    rw[this];exact S_
   refine W.apR2 (H:=h) (z:=1) (XM.trans X_) ((OM.o (1,vD,(r.deps a k).map Flat.enc) (by simp)).ext X_) S_ (by simp) rfl rfl rfl rfl rfl rfl rfl rfl rfl rfl rfl rfl (by
    rw[List.length_map,RouteW.deps_len];show(_+1)*8<=_;omega) λu' h6 X6 O6 k6 n6 i6=> ?_
   rw[show(r.deps a k).map Flat.enc++[[CV.int .i64 (a+r.pre (k+1))]]=(r.deps a (k+1)).map Flat.enc from by rw[RouteW.deps_more,List.map_append];rfl]at O6;have OB:=OwnG.turn (A:=[(1,v',(r.arrs a (k+1)).map Flat.enc)]) (B:=[]) (OM.ext X_) (h':=h6) (by omega) (λkk h1 h2=>h2.elim (λh2=>(X6.old kk h2).trans ((XM.trans X_).old kk h2).symm) (k6 kk h1)) O6 (.inr ⟨_,i6,Nat.le_refl _⟩);have gb6:=(OB.2 b (by simp)).trans ((X_.old b (by omega)).trans gM);have gc6:=(OB.2 h.next (by simp)).trans ((X_.old h.next (by omega)).trans gcM);have nX6:=X_.next;obtain⟨pw,nw,cw,xw,ew⟩:=O6.form;have hcells:u'.cells=some [u']:=by rw[ew];rfl
   clear LM;repeat (first|refine W.g ?_|refine W.m λh_ X_ n_ g_ L_=> ?_|refine W.n λh_ X_ n_ g_ S_=> ?_)
   refine W.stn (vs:=[u']) (cs':=[.int .i64 0,.int .i64 0,v',u']) rfl rfl rfl hcells rfl rfl gb6 rfl λN nN gN kN=> ?_;have ON:=(OB.1.put nN kN).1;have gcN:=(kN h.next (by omega)).trans gc6;have XN:Ext h N:=Ext.store X6 nN kN (by omega) (by omega);repeat (first|refine W.g ?_|refine W.m λh_ X_ n_ g_ L_=> ?_|refine W.n λh_ X_ n_ g_ S_=> ?_)
   refine⟨k+1,lessN c1,XN,?_,rfl,rfl,rfl,rfl,rfl,rfl,c1,_,_,ON,gN,gcN⟩;show CV.int .i64 (a+r.pre k+r.rides.getD k 0+r.stays.getD k 0)=CV.int .i64 (a+(r.pre k+r.rides.getD k 0+r.stays.getD k 0));rw[show a+r.pre k+r.rides.getD k 0+r.stays.getD k 0=a+(r.pre k+r.rides.getD k 0+r.stays.getD k 0)from by omega]
  ·have es:r.stays.getD k 0=0:=by simp[List.getD_eq_getElem?_getD,List.getElem?_eq_none (show r.stays.length<=k by omega)]
   refine W.k8 0 1 3 4 5 13 14 15 λT=> ?_;repeat (first|refine W.g ?_|refine W.m λh_ X_ n_ g_ L_=> ?_|refine W.n λh_ X_ n_ g_ S_=> ?_)
   have S_:SlG h_ 1 (.slice (some (M.next,0)) 1 1 0) [[.int .i64 (a+r.pre (k+1))]]:=by
    have:a+r.pre (k+1)=a+r.pre k+r.rides.getD k 0:=by
     show a+(r.pre k+r.rides.getD k 0+r.stays.getD k 0)=_;omega
    rw[this];exact S_
   refine W.apR2 (H:=h) (z:=1) (XM.trans X_) ((OM.o (1,vD,(r.deps a k).map Flat.enc) (by simp)).ext X_) S_ (by simp) rfl rfl rfl rfl rfl rfl rfl rfl rfl rfl rfl rfl (by
    rw[List.length_map,RouteW.deps_len];show(_+1)*8<=_;omega) λu' h6 X6 O6 k6 n6 i6=> ?_
   rw[show(r.deps a k).map Flat.enc++[[CV.int .i64 (a+r.pre (k+1))]]=(r.deps a (k+1)).map Flat.enc from by rw[RouteW.deps_more,List.map_append];rfl]at O6;have OB:=OwnG.turn (A:=[(1,v',(r.arrs a (k+1)).map Flat.enc)]) (B:=[]) (OM.ext X_) (h':=h6) (by omega) (λkk h1 h2=>h2.elim (λh2=>(X6.old kk h2).trans ((XM.trans X_).old kk h2).symm) (k6 kk h1)) O6 (.inr ⟨_,i6,Nat.le_refl _⟩);have gb6:=(OB.2 b (by simp)).trans ((X_.old b (by omega)).trans gM);have gc6:=(OB.2 h.next (by simp)).trans ((X_.old h.next (by omega)).trans gcM);have nX6:=X_.next;obtain⟨pw,nw,cw,xw,ew⟩:=O6.form;have hcells:u'.cells=some [u']:=by rw[ew];rfl
   clear LM;repeat (first|refine W.g ?_|refine W.m λh_ X_ n_ g_ L_=> ?_|refine W.n λh_ X_ n_ g_ S_=> ?_)
   refine W.stn (vs:=[u']) (cs':=[.int .i64 0,.int .i64 0,v',u']) rfl rfl rfl hcells rfl rfl gb6 rfl λN nN gN kN=> ?_;have ON:=(OB.1.put nN kN).1;have gcN:=(kN h.next (by omega)).trans gc6;have XN:Ext h N:=Ext.store X6 nN kN (by omega) (by omega);repeat (first|refine W.g ?_|refine W.m λh_ X_ n_ g_ L_=> ?_|refine W.n λh_ X_ n_ g_ S_=> ?_)
   refine⟨k+1,lessN c1,XN,?_,rfl,rfl,rfl,rfl,rfl,rfl,c1,_,_,ON,gN,gcN⟩;show CV.int .i64 (a+r.pre k+r.rides.getD k 0)=CV.int .i64 (a+(r.pre k+r.rides.getD k 0+r.stays.getD k 0));rw[show a+r.pre k+r.rides.getD k 0=a+(r.pre k+r.rides.getD k 0+r.stays.getD k 0)from by omega]
 ·have ek:k=r.rides.length:=by omega
  subst ek;repeat (first|refine W.g ?_|refine W.m λh_ X_ n_ g_ L_=> ?_|refine W.n λh_ X_ n_ g_ S_=> ?_)
  refine W.stn (vs:=[.int .i64 0,.int .i64 0,vA,vD]) (cs':=[.int .i64 0,.int .i64 0,vA,vD]) rfl rfl rfl rfl rfl rfl gc rfl λM nM gM kM=> ?_;repeat (first|refine W.g ?_|refine W.m λh_ X_ n_ g_ L_=> ?_|refine W.n λh_ X_ n_ g_ S_=> ?_)
  refine BodyQ.cell1 rfl rfl gM rfl rfl ?_;exact q M vA vD (Ext.store X nM kM (by omega) (by omega)) ⟨λrw hrw=>(O.o rw hrw).other (by omega) λkk _ _ hi=>kM kk (λe=>(List.nodup_append.1 O.nd).2.2 kk (List.mem_flatMap.2 ⟨rw,hrw,by rw[hi];simp⟩) h.next (by simp) e),by have:=(List.nodup_append.1 O.nd).1;simpa using this,λk hk=>by cases hk⟩
end
end Go.Proofs.YtfheibkikpefkaaGreatDoor

noncomputable section
namespace Go.CM
section
variable {E:Env} {tm:Tm} {H h:Heap} {Q:R->Prop} {all rest:List Oper} {o:Oper} {bs:List Bits} {recs:List Rec} {i:Nat} {idx nr:List Nat}
theorem W.cutB {t:Task} (P:Tm->Heap->Prop) (w:W E t tm h (CutQ P)) (k:∀tm' h',P tm' h'->Q (.code .normal tm' h')):W E t tm h Q:=by
 refine w.mono λr q=> ?_;cases r with
 |code e tm' h'=>
  cases e with
  |normal=>exact k tm' h' q
  |_=>exact q.elim
 |_=>exact q.elim
end
end Go.CM

noncomputable section
namespace Go.CM
section
variable {E:Env} {tm:Tm} {H h:Heap} {Q:R->Prop} {all rest:List Oper} {o:Oper} {bs:List Bits} {recs:List Rec} {i:Nat} {idx nr nx:List Nat} {v:CV}
theorem W.dldE (ds:DX H h idx nx recs) {t:TypeId} {x:Operand} {id off:Nat} {cs:List CV} {ro:Bool} {s:TyS} (hgd:guardOn all tm o=some true) (hop:o.op= .load t x) (hx:cvOf E.globs tm x= .ptr (some (id,off))) (hg:H.get id=some (.cells cs ro)) (hid:id<H.next) (hs:E.ty t=some s) (hp:part cs off s.size s.agg=some v)
  (w:∀h',Same h h'->Ext H h'->W E (.draw bs all rest (i+1) (.op i [id] false h.next h.next::recs)) (putTmp tm o.dst v) h' Q):W E (.draw bs all (o::rest) i recs) tm h Q:=by
 have hfp:fpAny E o tm=[id]:=by
  unfold fpAny;rw[hop];show idOf (cvOf E.globs tm x)=[id];rw[hx];rfl
 have hwr:wrOf o.op=false:=by rw[hop];rfl
 have hgh:h.get id=some (.cells cs ro):=(ds.x.old id hid).trans hg;have hget:(only h [id]).get id=some (.cells cs ro):=by rw[only_get];simpa using hgh
 have ho:opAny E o tm (only h (fpAny E o tm))=some (v,only h [id]):=by
  rw[hfp];unfold opAny;rw[hop];show oLoad E t (cvOf E.globs tm x) (only h [id])=_;rw[hx];unfold oLoad CM.load loadB;simp only[hget,hs,hp,withH]
 have hsame:Same h (back h (only h [id]) ([id]++span h.next 0)):=by
  refine⟨by rw[back_next,only_next],λk=> ?_⟩;rw[back_get];split
  ·rename_i hk
   have:k=id:=by
    have hk:k∈[id]:=hk;simpa using hk
   subst this;rw[hget,hgh]
  ·rfl
 have hfc:∀k∈[id],k<H.next/\CellsAt H k:=λk hk=>by rw[List.mem_singleton]at hk;subst hk;exact⟨hid,cs,ro,hg⟩
 obtain⟨r,⟨N,e⟩,q⟩:=w _ hsame (ds.x.trans hsame.ext);refine⟨r,.step ⟨N,λm hm=> ?_⟩,q⟩
 show(match guardOn all tm o with
  |some true=>dOp E (run E m) bs all rest o i recs tm h
  |some false=>run E m (.draw bs all rest (i+1) recs) (putTmp tm o.dst (.tup [])) h
  |none=> .stop)=r
 rw[hgd];show dOp E (run E m) bs all rest o i recs tm h=r;rw[dOp_any ho,hfp,hwr];have hnx:(only h [id]).next=h.next:=only_next _ _
 show(match okPairs ((nth bs i).getD Bits.nil) [id] false (span h.next ((only h [id]).next-h.next)) recs with
  |true=>run E m (.draw bs all rest (i+1) (.op i [id] false h.next (only h [id]).next::recs)) (putTmp tm o.dst v) (back h (only h [id]) ([id]++span h.next ((only h [id]).next-h.next)))
  |false=> .stop)=r
 rw[hnx,Nat.sub_self];have:okPairs ((nth bs i).getD Bits.nil) [id] false (span h.next 0) recs=true:=okX_read hfc λr hm=>(ds.r r hm).1;rw[this];exact e m hm
theorem W.dstG {t:TypeId} {x y:Operand} {id off:Nat} {cs cs' vs:List CV} {s:TyS} (hri:∀r∈recs,recIdx r∈idx) (hrr:∀r∈recs,recIdx r∈nr\/∃i fp lo,r= .op i fp false lo lo/\(∀k∈fp,k≠id)/\∀k∈fp,k<h.next) (hid:(nr.all λj=>bit j ((nth bs i).getD Bits.nil))=true) (hgd:guardOn all tm o=some true) (hop:o.op= .store t x y) (hx:cvOf E.globs tm x= .ptr (some (id,off))) (hy:(cvOf E.globs tm y).cells=some vs)
  (hs:E.ty t=some s) (hl:Nat.beq (len vs) s.size=true) (hg:h.get id=some (.cells cs false)) (hp:setAt cs vs off=some cs')
  (w:∀recs' h',(∀r∈recs',recIdx r∈i::idx)->Same (h.put id (.cells cs' false)) h'->W E (.draw bs all rest (i+1) recs') (putTmp tm o.dst .undef) h' Q):W E (.draw bs all (o::rest) i recs) tm h Q:=by
 have hfp:fpAny E o tm=[id]:=by
  unfold fpAny;rw[hop];show idOf (cvOf E.globs tm x)=[id];rw[hx];rfl
 have hwr:wrOf o.op=true:=by rw[hop];rfl
 have hget:(only h [id]).get id=some (.cells cs false):=by rw[only_get];simpa using hg
 have ho:opAny E o tm (only h (fpAny E o tm))=some (.undef,(only h [id]).put id (.cells cs' false)):=by
  rw[hfp];unfold opAny;rw[hop];show oStore E t (cvOf E.globs tm x) (cvOf E.globs tm y) (only h [id])=_;rw[hx];unfold oStore CM.store storeV;simp only[hs,hy,hl];unfold putCells;simp only[hget,hp,Option.map_some,ofH]
 have hnx:((only h [id]).put id (.cells cs' false)).next=h.next:=only_next _ _
 have hsame:Same (h.put id (.cells cs' false)) (back h ((only h [id]).put id (.cells cs' false)) ([id]++span h.next 0)):=by
  refine⟨by rw[back_next,hnx];rfl,λk=> ?_⟩;rw[back_get,Heap.get_put,Heap.get_put];split
  ·rename_i hk
   have:k=id:=by
    have hk:k∈[id]:=hk;simpa using hk
   subst this;simp
  ·rename_i hk
   have:¬id=k:=by
    intro e;subst e;exact hk (by show id∈[id];simp)
   rw[if_neg this]
 have hall:okPairs ((nth bs i).getD Bits.nil) [id] true (span h.next 0) recs=true:=DV.pairs (B:=λk=>k≠id) (h:=h) (nr:=nr) (λb hb hm=>hb (List.mem_singleton.1 hm)) (λk hk=>(by cases hk)) (λj hj=>List.all_eq_true.1 hid _ hj) hrr
 obtain⟨r,⟨N,e⟩,q⟩:=w (.op i [id] true h.next h.next::recs) _ (λr hm=>by
  rcases List.mem_cons.1 hm with rfl|hm
  ·simp[recIdx]
  ·exact List.mem_cons_of_mem _ (hri r hm)) hsame
 refine⟨r,.step ⟨N,λm hm=> ?_⟩,q⟩
 show(match guardOn all tm o with
  |some true=>dOp E (run E m) bs all rest o i recs tm h
  |some false=>run E m (.draw bs all rest (i+1) recs) (putTmp tm o.dst (.tup [])) h
  |none=> .stop)=r
 rw[hgd];show dOp E (run E m) bs all rest o i recs tm h=r;rw[dOp_any ho,hfp,hwr]
 show(match okPairs ((nth bs i).getD Bits.nil) [id] true (span h.next (((only h [id]).put id (.cells cs' false)).next-h.next)) recs with
  |true=>run E m (.draw bs all rest (i+1) (.op i [id] true h.next ((only h [id]).put id (.cells cs' false)).next::recs)) (putTmp tm o.dst .undef) (back h ((only h [id]).put id (.cells cs' false)) ([id]++span h.next (((only h [id]).put id (.cells cs' false)).next-h.next)))
  |false=> .stop)=r
 rw[hnx,Nat.sub_self,hall];exact e m hm
theorem W.dlkE {H0:Heap} {t:TypeId} {x:Operand} {id off k:Nat} {e:List CV} {s:TyS} {v:CV} (L:LocE H0 id off e) (ds:DX H h idx nx recs) (X:Ext H0 H) (hgd:guardOn all tm o=some true) (hop:o.op= .load t x) (hx:cvOf E.globs tm x= .ptr (some (id,off+k))) (hs:E.ty t=some s) (h1:s.size=1) (h2:s.agg=false) (he:e[k]? =some v)
  (w:∀h',Same h h'->Ext H h'->W E (.draw bs all rest (i+1) (.op i [id] false h.next h.next::recs)) (putTmp tm o.dst v) h' Q):W E (.draw bs all (o::rest) i recs) tm h Q:=by
 obtain⟨cs,ro,g1,g2,g3⟩:=L;have hn:=cut_nth g3 he;refine W.dldE ds hgd hop hx ((X.old id g2).trans g1) (Nat.lt_of_lt_of_le g2 X.next) hs (v:=v) ?_ w;rw[h1,h2];exact hn
end
end Go.CM
