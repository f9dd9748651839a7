/- The document's answer: the sheet that a whole world tells. No condition but that memory beyond the next number is empty. -/
import Derived.Test.YtfheibkikpefkaaGreatDoorXU
import Derived.Test.YtfheibkikpefkaaGreatDoorYO
import Derived.Test.YtfheibkikpefkaaGreatDoorXZ
import Derived.Test.YtfheibkikpefkaaGreatDoorZB
set_option linter.unusedVariables false
set_option linter.unusedSimpArgs false
namespace Go.Proofs.YtfheibkikpefkaaGreatDoor
open Go Go.CM Go.CM.Tt
noncomputable section
set_option maxHeartbeats 200000000
def aWk (a b c d e f g h i j k l m:CV):Tree CV:=((((((((((((Tree.leaf.set 256 (some a)).set 257 (some b)).set 258 (some c)).set 259 (some d)).set 260 (some e)).set 261 (some f)).set 262 (some g)).set 263 (some h)).set 264 (some i)).set 265 (some j)).set 266 (some k)).set 267 (some l)).set 268 (some m)
def aFy (r:Tree CV):Prop:=r= .leaf\/∃a b c d e f g h i j k l m,r=aWk a b c d e f g h i j k l m
theorem aNq {E:Env} {t:Task} {tm:Tm} {h:Heap} {Q:R->Prop} (i0 i1 i2 i3 i4:Nat) {v0 v1 v2 v3 v4:CV} {R:Tree CV} (w:∀T:Tm,T.rest=R->W E t (((((T.set i0 (some v0)).set i1 (some v1)).set i2 (some v2)).set i3 (some v3)).set i4 (some v4)) h Q) (e0:tm.look i0=v0:=by conv=>lhs;whnf) (e1:tm.look i1=v1:=by conv=>lhs;whnf) (e2:tm.look i2=v2:=by conv=>lhs;whnf) (e3:tm.look i3=v3:=by conv=>lhs;whnf) (e4:tm.look i4=v4:=by conv=>lhs;whnf) (eR:tm.rest=R:=by conv=>lhs;whnf) (e:(((((tm.set i0 (some v0)).set i1 (some v1)).set i2 (some v2)).set i3 (some v3)).set i4 (some v4))=tm:=by rfl):W E t tm h Q:=Eq.subst (motive:=λx=>W E t x h Q) e (w tm eR)
theorem W.q3 {E:Env} {t:Task} {tm:Tm} {h:Heap} {Q:R->Prop} (i0 i1 i2:Nat) {v0 v1 v2:CV} {R:Tree CV} (w:∀T:Tm,T.rest=R->W E t (((T.set i0 (some v0)).set i1 (some v1)).set i2 (some v2)) h Q) (e0:tm.look i0=v0:=by conv=>lhs;whnf) (e1:tm.look i1=v1:=by conv=>lhs;whnf) (e2:tm.look i2=v2:=by conv=>lhs;whnf) (eR:tm.rest=R:=by conv=>lhs;whnf) (e:(((tm.set i0 (some v0)).set i1 (some v1)).set i2 (some v2))=tm:=by rfl):W E t tm h Q:=Eq.subst (motive:=λx=>W E t x h Q) e (w tm eR)
theorem W.q6 {E:Env} {t:Task} {tm:Tm} {h:Heap} {Q:R->Prop} (i0 i1 i2 i3 i4 i5:Nat) {v0 v1 v2 v3 v4 v5:CV} {R:Tree CV} (w:∀T:Tm,T.rest=R->W E t ((((((T.set i0 (some v0)).set i1 (some v1)).set i2 (some v2)).set i3 (some v3)).set i4 (some v4)).set i5 (some v5)) h Q) (e0:tm.look i0=v0:=by conv=>lhs;whnf) (e1:tm.look i1=v1:=by conv=>lhs;whnf) (e2:tm.look i2=v2:=by conv=>lhs;whnf) (e3:tm.look i3=v3:=by conv=>lhs;whnf) (e4:tm.look i4=v4:=by conv=>lhs;whnf) (e5:tm.look i5=v5:=by conv=>lhs;whnf) (eR:tm.rest=R:=by conv=>lhs;whnf) (e:((((((tm.set i0 (some v0)).set i1 (some v1)).set i2 (some v2)).set i3 (some v3)).set i4 (some v4)).set i5 (some v5))=tm:=by rfl):W E t tm h Q:=Eq.subst (motive:=λx=>W E t x h Q) e (w tm eR)
theorem LocE.id {h:Heap} {i off:Nat} {e:List CV} (L:LocE h i off e):i<h.next:=by obtain⟨_,_,_,g,_⟩:=L;exact g
theorem aPa {h:Heap} {tm:Tm} {Q:R->Prop} {cs:List CV} {w:WorldD} (r:Rp.R h cs w) (fr:Fresh h) (hw:w.whole) (sm:w.small) (q:∀h' e,Ext h h'->(∀M:Heap,h'.next<=M.next->(∀k,h.next<=k->k<h'.next->M.get k=h'.get k)->Rp.R M e w.told)->Q (.val (.agg e) h')):W E1 (.call (.fn 53 [] []) [.agg cs]) tm h Q:=by
 obtain⟨v1,v2,v3,v4,v5,v6,v7,v8,v9,v10,v11,rfl,s1,s2,s3,s4,s5,s6,s7,s8,s9,s10,s11⟩:=r;obtain⟨⟨l1,l2,l3,l4,l5⟩,wp,wd,wr,wt,wh⟩:=hw;obtain⟨f1,f2,f3,f4,f5,f6,f7,f8,f9,f10,f11,frr⟩:=sm;refine W.fn (s:=aB Tryz.f53) rfl rfl rfl rfl ?_;repeat (refine W.seq ?_)
 refine W.region ?_;refine W.box rfl rfl rfl λH1 XH1 nH1 gH1 LH1=> ?_;refine jV rfl rfl rfl λH2 XA nA gA LA=> ?_;repeat (first|refine W.g ?_|refine W.m λh_ X_ n_ g_ L_=> ?_)
 obtain⟨H,hH⟩:∃H,H=h_:=⟨_,rfl⟩;rw[<-hH]at X_ n_ L_ ⊢;have XH:Ext h H:=(XH1.trans XA).trans X_;have LH:=(LH1.ext XA).ext X_;have LN:LocE H H2.next 0 [v1,v2,v3,v4,v5,v6]:=L_;have gR:H.get H1.next=some (.cells [.int .i64 0,.slice none 0 0 0,.slice none 0 0 0,.slice none 0 0 0,.slice none 0 0 0,.slice none 0 0 0,.slice none 0 0 0] false):=(X_.old _ (by omega)).trans gA;have u1:=s1.ext XH;have u2:=s2.ext XH;have u3:=s3.ext XH;have u4:=s4.ext XH;have u5:=s5.ext XH;have u6:=s6.ext XH;have u7:=s7.ext XH;have u8:=s8.ext XH;have u9:=s9.ext XH;have u10:=s10.ext XH;have u11:=s11.ext XH;clear s1 s2 s3 s4 s5 s6 s7 s8 s9 s10 s11 XA gA LA LH1 XH1 gH1 X_ L_ g_ hH;refine W.q3 1 2 3 λT hT=> ?_;have hT:T.rest= .leaf:=hT;have dv:DV (λc=>c<H.next) H [] [] []:=kU λb hb=>hb;try refine aP ?_
 refine iX (k:=0) dv (show h.next<H.next by omega) LH rfl rfl rfl rfl rfl rfl rfl λr1 ha dv sa Lz=> ?_;clear Lz;have na:=sa.next;try refine aP ?_
 refine lU (v:= .slice (some (ha.next,0)) 0 0 0) dv rfl rfl rfl rfl λr2 hb dv xb nb gb0=> ?_;try refine aP ?_
 refine iX (k:=0) dv (show H2.next<H.next by omega) (LN.ext (sa.ext.trans xb)) rfl rfl rfl rfl rfl rfl rfl λr3 hc dv sc Lz=> ?_;clear Lz;have nc:=sc.next;have gc0:hc.get ha.next=some (.cells [] false):=(sc.get _).trans gb0;have xc:=(sa.ext.trans xb).trans sc.ext;try refine aP ?_
 refine wU (H:=H) (z:=1) (l:=[]) (l2:=w.names.stops.map Flat.enc) dv xc (.inr ⟨ha.next,0,false,rfl,by omega,by omega,gc0,λe he=>(by cases he),.inl ⟨rfl,.inl rfl⟩⟩) ((aU Flat.iff u1).ext xc) (λc hc hm=>by have:c=ha.next:=(by simpa[idOf]using hm);omega) rfl rfl rfl rfl rfl rfl rfl rfl rfl rfl rfl rfl rfl (by
  rw[List.length_map];show(0+_)*16<=_;omega) λr4 n1 hd dv Xd bd nd O1 _=> ?_
 rw[List.nil_append]at O1;have I1:=OwnR.ids O1;obtain⟨p1,m1,c1,y1,ee⟩:=O1.form;rw[ee];try refine aP ?_
 refine lU (v:= .ptr (some (hd.next,0))) dv rfl rfl rfl rfl λr5 he dv xe ne ge=> ?_;try refine aP ?_
 rw[<-ee];obtain⟨b,hb⟩:∃b,b=hd.next:=⟨_,rfl⟩;rw[<-hb]at ge ⊢;refine W.dst (vs:=[.int .i64 w.hz,n1,.slice none 0 0 0,.slice none 0 0 0,.slice none 0 0 0,.slice none 0 0 0,.slice none 0 0 0]) (cs':=[.int .i64 w.hz,n1,.slice none 0 0 0,.slice none 0 0 0,.slice none 0 0 0,.slice none 0 0 0,.slice none 0 0 0]) (λr hr=>(dv.d.r r hr).1) rfl rfl rfl rfl rfl rfl rfl ge rfl λr6 J hr6 t6=> ?_;try refine aP ?_
 have gb:J.get b=some (.cells [.int .i64 w.hz,n1,.slice none 0 0 0,.slice none 0 0 0,.slice none 0 0 0,.slice none 0 0 0,.slice none 0 0 0] false):=by rw[t6.get,aG]
 have kJ:∀k,k≠b->J.get k=he.get k:=λk hk=>by rw[t6.get,aA,if_neg (Ne.symm hk)]
 have nJ:J.next=he.next:=t6.next;have nXd:=Xd.next;have X:Ext H J:=((Xd.trans xe).put (by omega) (by omega) _).trans t6.ext;have O:OwnSB J H.next b (.int .i64 w.hz) n1 (.slice none 0 0 0) (.slice none 0 0 0) (.slice none 0 0 0) (.slice none 0 0 0) (.slice none 0 0 0) ⟨w.hz,w.names.stops,[],[],[],[],[]⟩:=tY ((O1.ext xe).other (by omega) λk _ _ hid=>kJ k (λe=>by have:=(I1 k (by rw[hid];simp)).2;omega)) (by omega) (by omega) (λe=>by have:=(I1 b (by rw[e];simp)).2;omega);clear dv gb0 gc0 O1 kJ t6 hr6 ge bd xe xc sc sa xb Xd I1 ee;repeat refine W.g ?_
 refine aNq 1 2 3 4 5 λT hT'=> ?_;have hT':T.rest= .leaf:=hT'.trans hT;clear hT
 refine W.loop (σ:=Nat) (λk tm h'=>Ext H h'/\tm.look 1= .ptr (some (h.next,0))/\tm.look 2= .ptr (some (H1.next,0))/\tm.look 3= .ptr (some (H2.next,0))/\tm.look 4= .ptr (some (b,0))/\tm.look 5= .int .i64 (k:Int)/\tm.rest= .leaf/\k<=w.paths.length/\∃v:CV,OwnSB h' H.next b (.int .i64 w.hz) n1 v (.slice none 0 0 0) (.slice none 0 0 0) (.slice none 0 0 0) (.slice none 0 0 0) ⟨w.hz,w.names.stops,w.told.paths.take k,[],[],[],[]⟩/\h'.get b=some (.cells [.int .i64 w.hz,n1,v,.slice none 0 0 0,.slice none 0 0 0,.slice none 0 0 0,.slice none 0 0 0] false)) (λk=>w.paths.length-k) ?_ (s:=0)
  ⟨X,rfl,rfl,rfl,rfl,rfl,hT',Nat.zero_le _,_,O,gb⟩
 clear O gb X;rintro k tm h' ⟨X,w1,w2,w3,w4,w5,hT,hk,v,O,gb⟩;obtain⟨T,rfl⟩:=bX w1 w2 w3 w4 w5;clear w1 w2 w3 w4 w5;have nX:=X.next;have ltb:=O.lt;have lob:H.next<=b:=by obtain⟨css,R1,R2⟩:=O.r;exact(R2.x b (by simp)).1
 have Lb:LocE h' b 0 [.int .i64 w.hz,n1,v,.slice none 0 0 0,.slice none 0 0 0,.slice none 0 0 0,.slice none 0 0 0]:=⟨_,_,gb,ltb,rfl⟩;by_cases c1:k<w.paths.length
 ·obtain⟨ja,ea,hja⟩:=(wp _ (List.getElem_mem c1)).1.ex
  obtain⟨jb,eb,hjb⟩:=(wp _ (List.getElem_mem c1)).2.ex;have hlit:(Flat.enc w.paths[k]:List CV)=[.int .i64 (ja:Int),.int .i64 (jb:Int),.int .i64 w.paths[k].len]:=by rw[<-ea,<-eb];rfl
  repeat refine W.g ?_
  have ds:=aD ((XH.trans X).fr fr);repeat (first|refine aC ?_|refine W.e λr_ h_ ds_ s_=> ?_)
  refine aE (u2.ext X) (j:=k) (by omega) rfl rfl rfl rfl rfl rfl rfl λi0 o0 L0=> ?_;repeat (first|refine aC ?_|refine W.e λr_ h_ ds_ s_=> ?_)
  refine aE (u7.ext X) (j:=k) c1 rfl rfl rfl rfl rfl rfl rfl λi1 o1 L1=> ?_;rw[hlit]at L1;repeat (first|refine aC ?_|refine W.e λr_ h_ ds_ s_=> ?_)
  refine aE (u1.ext X) (j:=ja) hja rfl rfl rfl rfl rfl rfl rfl λi1' o1' L1'=> ?_;repeat (first|refine aC ?_|refine W.e λr_ h_ ds_ s_=> ?_)
  refine aE (u7.ext X) (j:=k) c1 rfl rfl rfl rfl rfl rfl rfl λi2 o2 L2=> ?_;rw[hlit]at L2;repeat (first|refine aC ?_|refine W.e λr_ h_ ds_ s_=> ?_)
  refine aE (u1.ext X) (j:=jb) hjb rfl rfl rfl rfl rfl rfl rfl λi2' o2' L2'=> ?_;repeat (first|refine aC ?_|refine W.e λr_ h_ ds_ s_=> ?_)
  refine aE (u7.ext X) (j:=k) c1 rfl rfl rfl rfl rfl rfl rfl λi3 o3 L3=> ?_;repeat (first|refine aC ?_|refine W.e λr_ h_ ds_ s_=> ?_)
  refine bB ds_ rfl rfl rfl rfl λq4 g4 ds4 x4 n4 gg4=> ?_;obtain⟨e4,he4⟩:∃e4:PathS,e4=w.paths[k].told w.names k:=⟨_,rfl⟩
  have gg4:g4.get h_.next=some (.cells (Flat.enc e4) false):=by
   rw[he4,show w.paths[k].told w.names k=(⟨w.names.paths[k],w.names.stops[ja],w.names.stops[jb],w.paths[k].len⟩:PathS)from by unfold PathW.told;rw[eX (by omega),ea,eb,eP hja,eP hjb]];exact gg4
  have XF:=ds4.x;have nXF:=XF.next
  have S4:SlG g4 4 (.slice (some (h_.next,0)) 1 1 0) [Flat.enc e4]:=by
   have:=SlG.one (by omega) gg4;rwa[show(Flat.enc e4).length=4 from rfl]at this
  refine dC (H:=H) (z:=4) (l2:=[Flat.enc e4]) ds4.hri (X.trans XF) (O.own_paths.1.ext XF) S4 rfl rfl rfl rfl rfl rfl rfl rfl rfl rfl rfl rfl rfl (by
   rw[List.length_map,List.length_take];show(_+1)*56<=_;omega) λq5 v' g5 hr5 X5 n5 k5 O5 _ i5=> ?_
  have i5:=i5 (by simp);have gb5:=(k5 b (by omega) (.inr O.own_paths.2)).trans ((XF.old b ltb).trans gb);have O6:=(O.ext XF).paths (h':=g5) (l:=w.told.paths.take (k+1)) (u:=v') n5 k5 (by rw[show w.told.paths.take (k+1)=w.told.paths.take k++[e4]from by rw[he4];exact cR c1,List.map_append];exact O5) (.inr ⟨_,i5,Nat.le_refl _⟩);obtain⟨pv,nv,cv,xv,ev⟩:=O5.form;have hcells:v'.cells=some [v']:=by rw[ev];rfl
  rw[ev];repeat refine aC ?_
  rw[<-ev];refine W.dst (vs:=[v']) (cs':=[.int .i64 w.hz,n1,v',.slice none 0 0 0,.slice none 0 0 0,.slice none 0 0 0,.slice none 0 0 0]) hr5 rfl rfl rfl rfl hcells rfl rfl gb5 rfl λq6 g6 hr6 s6'=> ?_;have gb6:g6.get b=some (.cells [.int .i64 w.hz,n1,v',.slice none 0 0 0,.slice none 0 0 0,.slice none 0 0 0,.slice none 0 0 0] false):=by rw[s6'.get,aG]
  have k6:∀k,k≠b->g6.get k=g5.get k:=λk hk=>by rw[s6'.get,aA,if_neg (Ne.symm hk)]
  have X6:Ext H g6:=(X5.put (by omega) (by omega) _).trans s6'.ext;have O7:=O6.put s6'.next k6;repeat refine aC ?_
  repeat refine W.g ?_
  exact⟨k+1,aI c1,X6,rfl,rfl,rfl,rfl,rfl,hT,c1,v',O7,gb6⟩
 repeat refine W.g ?_
 obtain⟨w0,hw0⟩:∃u,u=v:=⟨_,rfl⟩;rw[show w.told.paths.take k=w.told.paths from eU c1 hk,<-hw0]at O;rw[<-hw0]at gb;clear hw0 v Lb;refine aNq 1 2 3 4 6 λT hT'=> ?_;have hT':T.rest= .leaf:=hT'.trans hT;clear hT
 refine W.loop (σ:=Nat) (λk tm h'=>Ext H h'/\tm.look 1= .ptr (some (h.next,0))/\tm.look 2= .ptr (some (H1.next,0))/\tm.look 3= .ptr (some (H2.next,0))/\tm.look 4= .ptr (some (b,0))/\tm.look 6= .int .i64 (k:Int)/\tm.rest= .leaf/\k<=w.doors.length/\∃v:CV,OwnSB h' H.next b (.int .i64 w.hz) n1 w0 v (.slice none 0 0 0) (.slice none 0 0 0) (.slice none 0 0 0) ⟨w.hz,w.names.stops,w.told.paths,w.told.doors.take k,[],[],[]⟩/\h'.get b=some (.cells [.int .i64 w.hz,n1,w0,v,.slice none 0 0 0,.slice none 0 0 0,.slice none 0 0 0] false)) (λk=>w.doors.length-k) ?_ (s:=0)
  ⟨X,rfl,rfl,rfl,rfl,rfl,hT',Nat.zero_le _,_,O,gb⟩
 clear O gb X;rintro k tm h' ⟨X,w1,w2,w3,w4,w6,hT,hk,v,O,gb⟩;obtain⟨T,rfl⟩:=bX w1 w2 w3 w4 w6;clear w1 w2 w3 w4 w6;have nX:=X.next;have ltb:=O.lt;have lob:H.next<=b:=by obtain⟨css,R1,R2⟩:=O.r;exact(R2.x b (by simp)).1
 have Lb:LocE h' b 0 [.int .i64 w.hz,n1,w0,v,.slice none 0 0 0,.slice none 0 0 0,.slice none 0 0 0]:=⟨_,_,gb,ltb,rfl⟩;by_cases c1:k<w.doors.length
 ·obtain⟨ja,ea,hja⟩:=(wd _ (List.getElem_mem c1)).1.ex
  obtain⟨jb,eb,hjb⟩:=(wd _ (List.getElem_mem c1)).2.ex;have hlit:(Flat.enc w.doors[k]:List CV)=[.int .i64 (ja:Int),.int .i64 (jb:Int),.int .i64 w.doors[k].len,.int .i64 w.doors[k].times.frm,.int .i64 w.doors[k].times.evr,.int .i64 w.doors[k].times.len]:=by rw[<-ea,<-eb];rfl
  repeat refine W.g ?_
  have ds:=aD ((XH.trans X).fr fr);repeat (first|refine aC ?_|refine W.e λr_ h_ ds_ s_=> ?_)
  refine aE (u3.ext X) (j:=k) (by omega) rfl rfl rfl rfl rfl rfl rfl λi0 o0 L0=> ?_;repeat (first|refine aC ?_|refine W.e λr_ h_ ds_ s_=> ?_)
  refine aE (u8.ext X) (j:=k) c1 rfl rfl rfl rfl rfl rfl rfl λi1 o1 L1=> ?_;rw[hlit]at L1;repeat (first|refine aC ?_|refine W.e λr_ h_ ds_ s_=> ?_)
  refine aE (u1.ext X) (j:=ja) hja rfl rfl rfl rfl rfl rfl rfl λi1' o1' L1'=> ?_;repeat (first|refine aC ?_|refine W.e λr_ h_ ds_ s_=> ?_)
  refine aE (u8.ext X) (j:=k) c1 rfl rfl rfl rfl rfl rfl rfl λi2 o2 L2=> ?_;rw[hlit]at L2;repeat (first|refine aC ?_|refine W.e λr_ h_ ds_ s_=> ?_)
  refine aE (u1.ext X) (j:=jb) hjb rfl rfl rfl rfl rfl rfl rfl λi2' o2' L2'=> ?_;repeat (first|refine aC ?_|refine W.e λr_ h_ ds_ s_=> ?_)
  refine aE (u8.ext X) (j:=k) c1 rfl rfl rfl rfl rfl rfl rfl λi3 o3 L3=> ?_;repeat (first|refine aC ?_|refine W.e λr_ h_ ds_ s_=> ?_)
  refine aE (u8.ext X) (j:=k) c1 rfl rfl rfl rfl rfl rfl rfl λi4 o4 L4=> ?_;repeat (first|refine aC ?_|refine W.e λr_ h_ ds_ s_=> ?_)
  refine bB ds_ rfl rfl rfl rfl λq4 g4 ds4 x4 n4 gg4=> ?_;obtain⟨e4,he4⟩:∃e4:DoorS,e4=w.doors[k].told w.names k:=⟨_,rfl⟩
  have gg4:g4.get h_.next=some (.cells (Flat.enc e4) false):=by
   rw[he4,show w.doors[k].told w.names k=(⟨w.names.doors[k],w.names.stops[ja],w.names.stops[jb],w.doors[k].len,w.doors[k].times⟩:DoorS)from by unfold DoorW.told;rw[eX (by omega),ea,eb,eP hja,eP hjb]];exact gg4
  have XF:=ds4.x;have nXF:=XF.next
  have S4:SlG g4 7 (.slice (some (h_.next,0)) 1 1 0) [Flat.enc e4]:=by
   have:=SlG.one (by omega) gg4;rwa[show(Flat.enc e4).length=7 from rfl]at this
  refine dC (H:=H) (z:=7) (l2:=[Flat.enc e4]) ds4.hri (X.trans XF) (O.own_doors.1.ext XF) S4 rfl rfl rfl rfl rfl rfl rfl rfl rfl rfl rfl rfl rfl (by
   rw[List.length_map,List.length_take];show(_+1)*80<=_;omega) λq5 v' g5 hr5 X5 n5 k5 O5 _ i5=> ?_
  have i5:=i5 (by simp);have gb5:=(k5 b (by omega) (.inr O.own_doors.2)).trans ((XF.old b ltb).trans gb);have O6:=(O.ext XF).doors (h':=g5) (l:=w.told.doors.take (k+1)) (u:=v') n5 k5 (by rw[show w.told.doors.take (k+1)=w.told.doors.take k++[e4]from by rw[he4];exact cR c1,List.map_append];exact O5) (.inr ⟨_,i5,Nat.le_refl _⟩);obtain⟨pv,nv,cv,xv,ev⟩:=O5.form;have hcells:v'.cells=some [v']:=by rw[ev];rfl
  rw[ev];repeat refine aC ?_
  rw[<-ev];refine W.dst (vs:=[v']) (cs':=[.int .i64 w.hz,n1,w0,v',.slice none 0 0 0,.slice none 0 0 0,.slice none 0 0 0]) hr5 rfl rfl rfl rfl hcells rfl rfl gb5 rfl λq6 g6 hr6 s6'=> ?_;have gb6:g6.get b=some (.cells [.int .i64 w.hz,n1,w0,v',.slice none 0 0 0,.slice none 0 0 0,.slice none 0 0 0] false):=by rw[s6'.get,aG]
  have k6:∀k,k≠b->g6.get k=g5.get k:=λk hk=>by rw[s6'.get,aA,if_neg (Ne.symm hk)]
  have X6:Ext H g6:=(X5.put (by omega) (by omega) _).trans s6'.ext;have O7:=O6.put s6'.next k6;repeat refine aC ?_
  repeat refine W.g ?_
  exact⟨k+1,aI c1,X6,rfl,rfl,rfl,rfl,rfl,hT,c1,v',O7,gb6⟩
 repeat refine W.g ?_
 obtain⟨w1,hw1⟩:∃u,u=v:=⟨_,rfl⟩;rw[show w.told.doors.take k=w.told.doors from eU c1 hk,<-hw1]at O;rw[<-hw1]at gb;clear hw1 v Lb;refine aNq 1 2 3 4 7 λT hT'=> ?_;have hT':T.rest= .leaf:=hT'.trans hT;clear hT
 refine W.loop (σ:=Nat) (λk tm h'=>Ext H h'/\tm.look 1= .ptr (some (h.next,0))/\tm.look 2= .ptr (some (H1.next,0))/\tm.look 3= .ptr (some (H2.next,0))/\tm.look 4= .ptr (some (b,0))/\tm.look 7= .int .i64 (k:Int)/\tm.rest= .leaf/\k<=w.routes.length/\∃v:CV,OwnSB h' H.next b (.int .i64 w.hz) n1 w0 w1 v (.slice none 0 0 0) (.slice none 0 0 0) ⟨w.hz,w.names.stops,w.told.paths,w.told.doors,w.told.routes.take k,[],[]⟩/\h'.get b=some (.cells [.int .i64 w.hz,n1,w0,w1,v,.slice none 0 0 0,.slice none 0 0 0] false)) (λk=>w.routes.length-k) ?_ (s:=0)
  ⟨X,rfl,rfl,rfl,rfl,rfl,hT',Nat.zero_le _,_,O,gb⟩
 clear O gb X;rintro k tm h' ⟨X,w1,w2,w3,w4,w7,hT,hk,v,O,gb⟩;obtain⟨T,rfl⟩:=bX w1 w2 w3 w4 w7;clear w1 w2 w3 w4 w7;have nX:=X.next;have ltb:=O.lt;have lob:H.next<=b:=by obtain⟨css,R1,R2⟩:=O.r;exact(R2.x b (by simp)).1
 have Lb:LocE h' b 0 [.int .i64 w.hz,n1,w0,w1,v,.slice none 0 0 0,.slice none 0 0 0]:=⟨_,_,gb,ltb,rfl⟩;by_cases c1:k<w.routes.length
 ·have hrk:=frr _ (List.getElem_mem c1)
  have hst:=wr _ (List.getElem_mem c1);repeat refine W.g ?_
  have dv:DV (λc=>c<h'.next) h' [] [] []:=kU λb hb=>hb;try refine aP ?_
  refine iX (k:=3) dv (show H2.next<h'.next by omega) (LN.ext X) rfl rfl rfl rfl rfl rfl rfl λr0 hz dv sz Lz=> ?_;clear Lz;have nz:=sz.next;try refine aP ?_
  refine aE (u4.ext X) (j:=k) (by omega) rfl rfl rfl rfl rfl rfl rfl λi0 o0 L0=> ?_;have li0:=LocE.id L0;try refine aP ?_
  refine iX (k:=0) dv li0 (L0.ext sz.ext) rfl rfl rfl rfl rfl rfl rfl λr1 hy dv sy Lz=> ?_;clear Lz;have ny:=sy.next;have xy:=sz.ext.trans sy.ext;try refine aP ?_
  refine lU (v:= .slice (some (hy.next,0)) 0 0 0) dv rfl rfl rfl rfl λr2 ha dv xa na ga=> ?_;have ga:ha.get hy.next=some (.cells [] false):=ga;try refine aP ?_
  refine iX dv (show h.next<h'.next by omega) (LH.ext (X.trans (xy.trans xa))) rfl rfl rfl rfl rfl rfl rfl λr3 hb dv sb Lz=> ?_;clear Lz;try refine aP ?_
  refine dQ u9 c1 rfl rfl rfl rfl rfl rfl rfl λi1 o1 e1 L1 re=> ?_;have hi1:=Nat.lt_of_lt_of_le (LocE.id L1) nX;obtain⟨z1,z2,z3,rfl,y1,y2,y3⟩:=re;try refine aP ?_
  refine iX (k:=1) dv hi1 (L1.ext ((X.trans (xy.trans xa)).trans sb.ext)) rfl rfl rfl rfl rfl rfl rfl λr4 hc dv sc Lz=> ?_;clear Lz;have nb:=sb.next;have nc:=sc.next;have xc:=((xy.trans xa).trans sb.ext).trans sc.ext;have gc:hc.get hy.next=some (.cells [] false):=(sc.get _).trans ((sb.get _).trans ga);try refine aP ?_
  refine wU (H:=h') (z:=1) (l:=[]) (l2:=w.routes[k].rides.map Flat.enc) dv xc (.inr ⟨hy.next,0,false,rfl,by omega,by omega,gc,λe he=>(by cases he),.inl ⟨rfl,.inl rfl⟩⟩) ((aU Flat.iff y2).ext (X.trans xc)) (λc hc hm=>by have:c=hy.next:=(by simpa[idOf]using hm);omega) rfl rfl rfl rfl rfl rfl rfl rfl rfl rfl rfl rfl rfl (by
   rw[List.length_map];show(0+_)*8<=_;omega) λr5 a1 hd dv Xd bd nd O1 _=> ?_
  rw[List.nil_append]at O1;have id1:=OwnR.ids O1;have nXd:=Xd.next;try refine aP ?_
  refine lU (v:= .slice (some (hd.next,0)) 0 0 0) dv rfl rfl rfl rfl λr6 he dv xe ne ge=> ?_;have ge:he.get hd.next=some (.cells [] false):=ge;try refine aP ?_
  refine iX dv (show h.next<h'.next by omega) (LH.ext (X.trans (Xd.trans xe))) rfl rfl rfl rfl rfl rfl rfl λr7 hf dv sf Lz=> ?_;clear Lz;try refine aP ?_
  refine dQ u9 c1 rfl rfl rfl rfl rfl rfl rfl λi2 o2 e2 L2 re2=> ?_;have hi2:=Nat.lt_of_lt_of_le (LocE.id L2) nX;obtain⟨z4,z5,z6,rfl,y4,y5,y6⟩:=re2;try refine aP ?_
  refine iX (k:=2) dv hi2 (L2.ext ((X.trans (Xd.trans xe)).trans sf.ext)) rfl rfl rfl rfl rfl rfl rfl λr8 hg dv sg Lz=> ?_;clear Lz;have nf:=sf.next;have ng:=sg.next;have xg:=(xe.trans sf.ext).trans sg.ext;have gg:hg.get hd.next=some (.cells [] false):=(sg.get _).trans ((sf.get _).trans ge);try refine aP ?_
  refine wU (H:=hd) (z:=1) (l:=[]) (l2:=w.routes[k].stays.map Flat.enc) dv xg (.inr ⟨hd.next,0,false,rfl,Nat.le_refl _,by omega,gg,λe he=>(by cases he),.inl ⟨rfl,.inl rfl⟩⟩) ((aU Flat.iff y6).ext ((X.trans Xd).trans xg)) (λc hc hm=>by have:c=hd.next:=(by simpa[idOf]using hm);omega) rfl rfl rfl rfl rfl rfl rfl rfl rfl rfl rfl rfl rfl (by
   rw[List.length_map];show(0+_)*8<=_;omega) λr9 a2 hi dv Xi bi ni O2 _=> ?_
  rw[List.nil_append]at O2;have id2:=OwnR.ids O2;have nXi:=Xi.next;obtain⟨p1,m1',c1',y1',ev1⟩:=O1.form;obtain⟨p2,m2',c2',y2',ev2⟩:=O2.form;rw[ev1,ev2];try refine aP ?_
  refine lU (v:= .ptr (some (hi.next,0))) dv rfl rfl rfl rfl λra hj dv xj nj gj=> ?_;try refine aP ?_
  rw[<-ev1,<-ev2];obtain⟨c8,hc8⟩:∃c,c=hi.next:=⟨_,rfl⟩;rw[<-hc8]at gj ⊢;refine W.dst (vs:=[.str w.names.routes[k],.slice none 0 0 0,a1,a2]) (cs':=[.str w.names.routes[k],.slice none 0 0 0,a1,a2]) (λr hr=>(dv.d.r r hr).1) rfl rfl rfl rfl rfl rfl rfl gj rfl λq3 J hr3 s3'=> ?_;try refine aP ?_
  have gJ:J.get c8=some (.cells [.str w.names.routes[k],.slice none 0 0 0,a1,a2] false):=by rw[s3'.get,aG]
  have kJ:∀k,k≠c8->J.get k=hj.get k:=λk hk=>by rw[s3'.get,aA,if_neg (Ne.symm hk)]
  have nJ:J.next=hj.next:=s3'.next;have XJ:Ext h' J:=(((Xd.trans Xi).trans xj).put (by omega) (by omega) _).trans s3'.ext
  have OJ:OwnG J h'.next [(1,.slice none 0 0 0,[]),(1,a1,w.routes[k].rides.map Flat.enc),(1,a2,w.routes[k].stays.map Flat.enc)] [c8]:=by
   have g1:OwnG hj h'.next [(1,.slice none 0 0 0,[]),(1,a1,w.routes[k].rides.map Flat.enc),(1,a2,w.routes[k].stays.map Flat.enc)] [c8]:=by
    refine OwnG.box (h:=hi) ⟨λr hr=> ?_,?_,λk hk=>by cases hk⟩ xj (by omega) (by omega) (by omega)
    ·simp only[List.mem_cons,List.not_mem_nil,or_false]at hr
     rcases hr with rfl|rfl|rfl
     ·exact OwnR.nil
     ·exact O1.ext Xi
     ·exact O2.low (by omega)
    ·rw[show idsR [(1,.slice none 0 0 0,[]),(1,a1,w.routes[k].rides.map Flat.enc),(1,a2,w.routes[k].stays.map Flat.enc)]++[]=idOf a1++idOf a2 by simp[idsR,idOf]]
     exact List.nodup_append.2 ⟨bH _,bH _,λa ha c hc e=>by have:=(id1 a ha).2;have:=(id2 c hc).1;omega⟩
   exact(g1.put nJ kJ).1
  clear dv ga gc ge gg gj O1 O2 kJ s3' hr3 bd bi;refine W.q6 1 2 3 4 7 8 λT hT2=> ?_;have hT2:T.rest= .leaf:=hT2.trans hT;clear hT;repeat refine W.g ?_
  refine W.loop (σ:=Nat) (λj tm h2=>Ext h' h2/\tm.rest= .leaf/\tm.look 1= .ptr (some (h.next,0))/\tm.look 2= .ptr (some (H1.next,0))/\tm.look 3= .ptr (some (H2.next,0))/\tm.look 4= .ptr (some (b,0))/\tm.look 7= .int .i64 (k:Int)/\tm.look 8= .ptr (some (c8,0))/\tm.look 9= .int .i64 (j:Int)/\j<=w.routes[k].stops.length/\∃u:CV,OwnG h2 h'.next [(1,u,((w.routes[k].stops.take j).map (uR w.names.stops)).map Flat.enc),(1,a1,w.routes[k].rides.map Flat.enc),(1,a2,w.routes[k].stays.map Flat.enc)] [c8]/\h2.get c8=some (.cells [.str w.names.routes[k],u,a1,a2] false)) (λj=>w.routes[k].stops.length-j) ?_ (s:=0)
   ⟨XJ,hT2,rfl,rfl,rfl,rfl,rfl,rfl,rfl,Nat.zero_le _,_,OJ,gJ⟩
  clear OJ gJ;rintro j tm h2 ⟨X2,hTi,w1,w2,w3,w4,w7,w8,w9,hj2,u,OU,g8⟩;obtain⟨T,rfl⟩:=wV w1 w2 w3 w4 w7 w8 w9;clear w1 w2 w3 w4 w7 w8 w9;have nX2:=X2.next;have h8:=OU.x c8 (by simp);have L8:LocE h2 c8 0 [.str w.names.routes[k],u,a1,a2]:=⟨_,_,g8,h8.2,rfl⟩;by_cases d1:j<w.routes[k].stops.length
  ·obtain⟨js,es,hjs⟩:=(hst _ (List.getElem_mem d1)).ex
   repeat refine W.g ?_
   refine dI u9 c1 rfl rfl rfl rfl rfl rfl rfl λi3 o3 e3 L3 re3=> ?_;obtain⟨z7,z8,z9,rfl,y7,y8,y9⟩:=re3;have y7':=y7.ext (X.trans X2);have L3':=L3.ext (X.trans X2);repeat refine W.g ?_
   have ds:=aD ((XH.trans (X.trans X2)).fr fr);repeat (first|refine aC ?_|refine W.e λr_ h_ ds_ s_=> ?_)
   refine dQ u9 c1 rfl rfl rfl rfl rfl rfl rfl λi4 o4 e4 L4 re4=> ?_;obtain⟨za,zb,zc,rfl,ya,_,_⟩:=re4;have L4':=L4.ext (X.trans X2);repeat (first|refine aC ?_|refine W.e λr_ h_ ds_ s_=> ?_)
   refine aE (ya.ext (X.trans X2)) d1 rfl rfl rfl rfl rfl rfl rfl λi5 o5 L5=> ?_;have L5':LocE h2 i5 o5 [.int .i64 (js:Int)]:=by rw[<-es];exact L5
   clear L5;repeat refine W.e λr_ h_ ds_ s_=> ?_
   refine aE (u1.ext (X.trans X2)) (j:=js) hjs rfl rfl rfl rfl rfl rfl rfl λi6 o6 L6=> ?_;repeat refine W.e λr_ h_ ds_ s_=> ?_
   refine bB ds_ rfl rfl rfl rfl λq4 g4 ds4 x4 n4 gg4=> ?_
   have gg4:g4.get h_.next=some (.cells (Flat.enc (uR w.names.stops w.routes[k].stops[j])) false):=by
    rw[es,eP hjs];exact gg4
   have XF:=ds4.x;have nXF:=XF.next;have OR:OwnR h2 h'.next 1 u (((w.routes[k].stops.take j).map (uR w.names.stops)).map Flat.enc):=OU.o (1,u,((w.routes[k].stops.take j).map (uR w.names.stops)).map Flat.enc) (by simp);have vne:idOf u≠[c8]:=λe=>(List.nodup_append.1 OU.nd).2.2 c8 (by simp[idsR,e]) c8 (by simp) rfl
   refine dC (H:=h') (z:=1) (l2:=[Flat.enc (uR w.names.stops w.routes[k].stops[j])]) ds4.hri (X2.trans XF) (OR.ext XF) (SlG.one (by omega) gg4) rfl rfl rfl rfl rfl rfl rfl rfl rfl rfl rfl rfl rfl (by
    simp only[List.length_map,List.length_take,List.length_cons,List.length_nil];show _*16<=_;omega) λq5 u' g5 hr5 X5 n5 k5 O5 _ i5=> ?_
   have i5:=i5 (by simp);have OV:=(OwnG.turn (A:=[]) (show OwnG g4 h'.next ([]++(1,u,((w.routes[k].stops.take j).map (uR w.names.stops)).map Flat.enc)::_) [c8]from OU.ext XF) n5 k5 (l':=((w.routes[k].stops.take (j+1)).map (uR w.names.stops)).map Flat.enc) (by rw[iK d1,List.map_append];exact O5) (.inr ⟨_,i5,Nat.le_refl _⟩)).1;have g58:=(k5 c8 (by omega) (.inr vne)).trans ((XF.old c8 h8.2).trans g8);obtain⟨pv,nv,cv,xv,ev⟩:=O5.form;have hcells:u'.cells=some [u']:=by rw[ev];rfl
   rw[ev];repeat refine aC ?_
   rw[<-ev];refine W.dst (vs:=[u']) (cs':=[.str w.names.routes[k],u',a1,a2]) hr5 rfl rfl rfl rfl hcells rfl rfl g58 rfl λq6 g6 hr6 s6'=> ?_;have gb6:g6.get c8=some (.cells [.str w.names.routes[k],u',a1,a2] false):=by rw[s6'.get,aG]
   have k6:∀k,k≠c8->g6.get k=g5.get k:=λk hk=>by rw[s6'.get,aA,if_neg (Ne.symm hk)]
   have X6:Ext h' g6:=(X5.put (by omega) (by omega) _).trans s6'.ext;have O7:=(OV.put s6'.next k6).1;repeat refine aC ?_
   repeat refine W.g ?_
   exact⟨j+1,aI d1,X6,hTi,rfl,rfl,rfl,rfl,rfl,rfl,rfl,d1,u',O7,gb6⟩
  rw[show j=w.routes[k].stops.length by omega,List.take_length]at OU;have Lb2:=Lb.ext X2;have gb2:=(X2.old b ltb).trans gb;repeat refine W.g ?_
  refine dI u9 c1 rfl rfl rfl rfl rfl rfl rfl λi3 o3 e3 L3 re3=> ?_;obtain⟨z7,z8,z9,rfl,y7,y8,y9⟩:=re3;have y7':=y7.ext (X.trans X2);have L3':=L3.ext (X.trans X2);repeat (first|refine W.g ?_|refine W.n λh_ X_ n_ g_ S_=> ?_)
  have OE:OwnRS h2 h'.next [.str w.names.routes[k],u,a1,a2] (w.routes[k].told w.names k):=⟨u,a1,a2,by show _=[CV.str (w.names.routes.getD k []),_,_,_];rw[eX (by omega)],OU.o (1,u,(w.routes[k].stops.map (uR w.names.stops)).map Flat.enc) (by simp),OU.o (1,a1,w.routes[k].rides.map Flat.enc) (by simp),OU.o (1,a2,w.routes[k].stays.map Flat.enc) (by simp)⟩
  have NDe:(bV [.str w.names.routes[k],u,a1,a2]).Nodup:=by
   have nd:=(List.nodup_append.1 OU.nd).1;simpa[idsR,bV,idOf]using nd
  obtain⟨e0,css,R1,R2⟩:=O;have nob:idOf v≠[b]:=λe1=>(List.nodup_append.1 R2.nd).2.2 b (by simp[idsR,e1]) b (by simp) rfl;have iv:=OwnR.ids R1.1;have lcss:css.length=(w.told.routes.take k).length:=R1.2.1;have S_:SlG h_ 4 (.slice (some (h2.next,0)) 1 1 0) [[.str w.names.routes[k],u,a1,a2]]:=S_
  refine gT (H:=H) (z:=4) ((X.trans X2).trans X_) (R1.1.ext (X2.trans X_)) S_ (by simp) rfl rfl rfl rfl rfl rfl rfl rfl rfl rfl rfl rfl (by
   rw[lcss,List.length_take];show(_+1)*88<=_;omega) λv' h5 X5 O5 k5 n5 i5=> ?_
  have gb5:=(k5 b (by omega) nob).trans ((X_.old b (by omega)).trans gb2);obtain⟨pv,nv,cv,xv,ev⟩:=O5.form;have hcells:v'.cells=some [v']:=by rw[ev];rfl
  repeat refine W.g ?_
  refine aK (vs:=[v']) (cs':=[.int .i64 w.hz,n1,w0,w1,v',.slice none 0 0 0,.slice none 0 0 0]) rfl rfl rfl hcells rfl rfl gb5 rfl λM nM gM kM=> ?_;have O8:=OwnSB.route (h':=h5) (j:=h_.next) e0 (R1.ext (X2.trans X_)) (R2.ext (X2.trans X_)) (OE.ext X_) nX (λa ha=>(R2.lt a ha).2) NDe (by omega) (λc hc hor=>hor.elim (λhl=>k5 c hc λe=>by have:=(iv c (by rw[e];simp)).1;omega) (k5 c hc)) O5 i5 (Nat.le_refl _);rw[show w.told.routes.take k++[w.routes[k].told w.names k]=w.told.routes.take (k+1)from(cR c1).symm]at O8;have O9:=O8.put nM kM;have XM:Ext H M:=Ext.store X5 nM kM (by omega) (by omega);repeat refine W.g ?_
  exact⟨k+1,aI c1,XM,rfl,rfl,rfl,rfl,rfl,hTi,c1,v',O9,gM⟩
 repeat refine W.g ?_
 obtain⟨w2,hw2⟩:∃u,u=v:=⟨_,rfl⟩;rw[show w.told.routes.take k=w.told.routes from eU c1 hk,<-hw2]at O;rw[<-hw2]at gb;clear hw2 v Lb;refine aNq 1 2 3 4 10 λT hT'=> ?_;have hT':T.rest= .leaf:=hT'.trans hT;clear hT
 refine W.loop (σ:=Nat) (λk tm h'=>Ext H h'/\tm.look 1= .ptr (some (h.next,0))/\tm.look 2= .ptr (some (H1.next,0))/\tm.look 3= .ptr (some (H2.next,0))/\tm.look 4= .ptr (some (b,0))/\tm.look 10= .int .i64 (k:Int)/\tm.rest= .leaf/\k<=w.trips.length/\∃v:CV,OwnSB h' H.next b (.int .i64 w.hz) n1 w0 w1 w2 v (.slice none 0 0 0) ⟨w.hz,w.names.stops,w.told.paths,w.told.doors,w.told.routes,w.told.trips.take k,[]⟩/\h'.get b=some (.cells [.int .i64 w.hz,n1,w0,w1,w2,v,.slice none 0 0 0] false)) (λk=>w.trips.length-k) ?_ (s:=0)
  ⟨X,rfl,rfl,rfl,rfl,rfl,hT',Nat.zero_le _,_,O,gb⟩
 clear O gb X;rintro k tm h' ⟨X,w1,w2,w3,w4,w10,hT,hk,v,O,gb⟩;obtain⟨T,rfl⟩:=bX w1 w2 w3 w4 w10;clear w1 w2 w3 w4 w10;have nX:=X.next;have ltb:=O.lt;have lob:H.next<=b:=by obtain⟨css,R1,R2⟩:=O.r;exact(R2.x b (by simp)).1
 have Lb:LocE h' b 0 [.int .i64 w.hz,n1,w0,w1,w2,v,.slice none 0 0 0]:=⟨_,_,gb,ltb,rfl⟩;by_cases c1:k<w.trips.length
 ·obtain⟨ja,ea,hja⟩:=(wt _ (List.getElem_mem c1)).ex
  have hlit:(Flat.enc w.trips[k]:List CV)=[.int .i64 (ja:Int),.int .i64 w.trips[k].frm,.int .i64 w.trips[k].evr,.int .i64 w.trips[k].untl]:=by rw[<-ea];rfl
  repeat refine W.g ?_
  have ds:=aD ((XH.trans X).fr fr);repeat (first|refine aC ?_|refine W.e λr_ h_ ds_ s_=> ?_)
  refine aE (u5.ext X) (j:=k) (by omega) rfl rfl rfl rfl rfl rfl rfl λi0 o0 L0=> ?_;repeat (first|refine aC ?_|refine W.e λr_ h_ ds_ s_=> ?_)
  refine aE (u10.ext X) (j:=k) c1 rfl rfl rfl rfl rfl rfl rfl λi1 o1 L1=> ?_;rw[hlit]at L1;repeat (first|refine aC ?_|refine W.e λr_ h_ ds_ s_=> ?_)
  refine aE (u4.ext X) (j:=ja) hja rfl rfl rfl rfl rfl rfl rfl λi1' o1' L1'=> ?_;repeat (first|refine aC ?_|refine W.e λr_ h_ ds_ s_=> ?_)
  refine aE (u10.ext X) (j:=k) c1 rfl rfl rfl rfl rfl rfl rfl λi2 o2 L2=> ?_;repeat (first|refine aC ?_|refine W.e λr_ h_ ds_ s_=> ?_)
  refine aE (u10.ext X) (j:=k) c1 rfl rfl rfl rfl rfl rfl rfl λi3 o3 L3=> ?_;repeat (first|refine aC ?_|refine W.e λr_ h_ ds_ s_=> ?_)
  refine aE (u10.ext X) (j:=k) c1 rfl rfl rfl rfl rfl rfl rfl λi4 o4 L4=> ?_;repeat (first|refine aC ?_|refine W.e λr_ h_ ds_ s_=> ?_)
  refine bB ds_ rfl rfl rfl rfl λq4 g4 ds4 x4 n4 gg4=> ?_;obtain⟨e4,he4⟩:∃e4:TripS,e4=w.trips[k].told w.names k:=⟨_,rfl⟩
  have gg4:g4.get h_.next=some (.cells (Flat.enc e4) false):=by
   rw[he4,show w.trips[k].told w.names k=(⟨w.names.trips[k],w.names.routes[ja],w.trips[k].frm,w.trips[k].evr,w.trips[k].untl⟩:TripS)from by unfold TripW.told;rw[eX (by omega),ea,eP hja]];exact gg4
  have XF:=ds4.x;have nXF:=XF.next
  have S4:SlG g4 5 (.slice (some (h_.next,0)) 1 1 0) [Flat.enc e4]:=by
   have:=SlG.one (by omega) gg4;rwa[show(Flat.enc e4).length=5 from rfl]at this
  refine dC (H:=H) (z:=5) (l2:=[Flat.enc e4]) ds4.hri (X.trans XF) (O.own_trips.1.ext XF) S4 rfl rfl rfl rfl rfl rfl rfl rfl rfl rfl rfl rfl rfl (by
   rw[List.length_map,List.length_take];show(_+1)*56<=_;omega) λq5 v' g5 hr5 X5 n5 k5 O5 _ i5=> ?_
  have i5:=i5 (by simp);have gb5:=(k5 b (by omega) (.inr O.own_trips.2)).trans ((XF.old b ltb).trans gb);have O6:=(O.ext XF).trips (h':=g5) (l:=w.told.trips.take (k+1)) (u:=v') n5 k5 (by rw[show w.told.trips.take (k+1)=w.told.trips.take k++[e4]from by rw[he4];exact cR c1,List.map_append];exact O5) (.inr ⟨_,i5,Nat.le_refl _⟩);obtain⟨pv,nv,cv,xv,ev⟩:=O5.form;have hcells:v'.cells=some [v']:=by rw[ev];rfl
  rw[ev];repeat refine aC ?_
  rw[<-ev];refine W.dst (vs:=[v']) (cs':=[.int .i64 w.hz,n1,w0,w1,w2,v',.slice none 0 0 0]) hr5 rfl rfl rfl rfl hcells rfl rfl gb5 rfl λq6 g6 hr6 s6'=> ?_;have gb6:g6.get b=some (.cells [.int .i64 w.hz,n1,w0,w1,w2,v',.slice none 0 0 0] false):=by rw[s6'.get,aG]
  have k6:∀k,k≠b->g6.get k=g5.get k:=λk hk=>by rw[s6'.get,aA,if_neg (Ne.symm hk)]
  have X6:Ext H g6:=(X5.put (by omega) (by omega) _).trans s6'.ext;have O7:=O6.put s6'.next k6;repeat refine aC ?_
  repeat refine W.g ?_
  exact⟨k+1,aI c1,X6,rfl,rfl,rfl,rfl,rfl,hT,c1,v',O7,gb6⟩
 repeat refine W.g ?_
 obtain⟨w3,hw3⟩:∃u,u=v:=⟨_,rfl⟩;rw[show w.told.trips.take k=w.told.trips from eU c1 hk,<-hw3]at O;rw[<-hw3]at gb;clear hw3 v Lb;refine aNq 1 2 3 4 11 λT hT'=> ?_;have hT':T.rest= .leaf:=hT'.trans hT;clear hT
 refine W.loop (σ:=Nat) (λk tm h'=>Ext H h'/\tm.look 1= .ptr (some (h.next,0))/\tm.look 2= .ptr (some (H1.next,0))/\tm.look 3= .ptr (some (H2.next,0))/\tm.look 4= .ptr (some (b,0))/\tm.look 11= .int .i64 (k:Int)/\aFy tm.rest/\k<=w.hazards.length/\∃v:CV,OwnSB h' H.next b (.int .i64 w.hz) n1 w0 w1 w2 w3 v ⟨w.hz,w.names.stops,w.told.paths,w.told.doors,w.told.routes,w.told.trips,w.told.hazards.take k⟩/\h'.get b=some (.cells [.int .i64 w.hz,n1,w0,w1,w2,w3,v] false)) (λk=>w.hazards.length-k) ?_ (s:=0)
  ⟨X,rfl,rfl,rfl,rfl,rfl,(.inl hT'),Nat.zero_le _,_,O,gb⟩
 clear O gb X;rintro k tm h' ⟨X,w1,w2,w3,w4,w11,hT,hk,v,O,gb⟩;obtain⟨T,rfl⟩:=bX w1 w2 w3 w4 w11;clear w1 w2 w3 w4 w11;have hT:aFy T.rest:=hT;obtain⟨T0,T1,T2,T3,T4,T5,T6,T7,T8,T9,Ta,Tb,Tc,Td,Te,Tf,TR⟩:=T;have hT:aFy TR:=hT;rcases hT with rfl|⟨r0,r1,r2,r3,r4,r5,r6,r7,r8,r9,ra,rb,rc,rfl⟩<;>(
 have nX:=X.next;have ltb:=O.lt;have lob:H.next<=b:=by obtain⟨css,R1,R2⟩:=O.r;exact(R2.x b (by simp)).1
 have Lb:LocE h' b 0 [.int .i64 w.hz,n1,w0,w1,w2,w3,v]:=⟨_,_,gb,ltb,rfl⟩;by_cases c1:k<w.hazards.length
 ·have hon:=wh _ (List.getElem_mem c1)
  have v11:=u11.ext X;repeat refine W.g ?_
  refine cH λi_ o_ L_=> ?_;cases hst:w.hazards[k].stop
  ·rw[hst]at hon
   obtain⟨ja,ea,hja⟩:∃j:Nat,w.hazards[k].on=j/\j<w.names.paths.length:=inL.ex hon;have hlit:(Flat.enc w.hazards[k]:List CV)=[.bool false,.int .i64 (ja:Int),.int .i64 w.hazards[k].times.frm,.int .i64 w.hazards[k].times.evr,.int .i64 w.hazards[k].times.len]:=by rw[<-ea,<-hst];rfl
   rw[hlit]at L_;repeat refine W.g ?_
   have ds:=aD ((XH.trans X).fr fr);repeat (first|refine aC ?_|refine W.e λr_ h_ ds_ s_=> ?_)
   refine aE (u6.ext X) (j:=k) (by omega) rfl rfl rfl rfl rfl rfl rfl λi0 o0 L0=> ?_;repeat (first|refine aC ?_|refine W.e λr_ h_ ds_ s_=> ?_)
   refine aE (u11.ext X) (j:=k) c1 rfl rfl rfl rfl rfl rfl rfl λi1 o1 L1=> ?_;rw[hlit]at L1;repeat (first|refine aC ?_|refine W.e λr_ h_ ds_ s_=> ?_)
   refine aE (u2.ext X) (j:=ja) hja rfl rfl rfl rfl rfl rfl rfl λi2 o2 L2=> ?_;repeat (first|refine aC ?_|refine W.e λr_ h_ ds_ s_=> ?_)
   refine aE (u11.ext X) (j:=k) c1 rfl rfl rfl rfl rfl rfl rfl λi3 o3 L3=> ?_;repeat (first|refine aC ?_|refine W.e λr_ h_ ds_ s_=> ?_)
   refine bB ds_ rfl rfl rfl rfl λq4 g4 ds4 x4 n4 gg4=> ?_;obtain⟨e4,he4⟩:∃e4:HazS,e4=w.hazards[k].told w.names k:=⟨_,rfl⟩
   have gg4:g4.get h_.next=some (.cells (Flat.enc e4) false):=by
    rw[he4,show w.hazards[k].told w.names k=(⟨w.names.hazards[k],w.names.paths[ja],w.hazards[k].times⟩:HazS)from by unfold HazW.told;rw[eX (by omega),ea,hst];show(⟨_,uR w.names.paths (ja:Int),_⟩:HazS)=_;rw[eP hja]];exact gg4
   have XF:=ds4.x;have nXF:=XF.next
   have S4:SlG g4 5 (.slice (some (h_.next,0)) 1 1 0) [Flat.enc e4]:=by
    have:=SlG.one (by omega) gg4;rwa[show(Flat.enc e4).length=5 from rfl]at this
   refine dC (H:=H) (z:=5) (l2:=[Flat.enc e4]) ds4.hri (X.trans XF) (O.own_hazards.1.ext XF) S4 rfl rfl rfl rfl rfl rfl rfl rfl rfl rfl rfl rfl rfl (by
    rw[List.length_map,List.length_take];show(_+1)*56<=_;omega) λq5 v' g5 hr5 X5 n5 k5 O5 _ i5=> ?_
   have i5:=i5 (by simp);have gb5:=(k5 b (by omega) (.inr O.own_hazards.2)).trans ((XF.old b ltb).trans gb);have O6:=(O.ext XF).hazards (h':=g5) (l:=w.told.hazards.take (k+1)) (u:=v') n5 k5 (by rw[show w.told.hazards.take (k+1)=w.told.hazards.take k++[e4]from by rw[he4];exact cR c1,List.map_append];exact O5) (.inr ⟨_,i5,Nat.le_refl _⟩);obtain⟨pv,nv,cv,xv,ev⟩:=O5.form;have hcells:v'.cells=some [v']:=by rw[ev];rfl
   rw[ev];repeat refine aC ?_
   rw[<-ev];refine W.dst (vs:=[v']) (cs':=[.int .i64 w.hz,n1,w0,w1,w2,w3,v']) hr5 rfl rfl rfl rfl hcells rfl rfl gb5 rfl λq6 g6 hr6 s6'=> ?_;have gb6:g6.get b=some (.cells [.int .i64 w.hz,n1,w0,w1,w2,w3,v'] false):=by rw[s6'.get,aG]
   have k6:∀k,k≠b->g6.get k=g5.get k:=λk hk=>by rw[s6'.get,aA,if_neg (Ne.symm hk)]
   have X6:Ext H g6:=(X5.put (by omega) (by omega) _).trans s6'.ext;have O7:=O6.put s6'.next k6;repeat refine aC ?_
   repeat refine W.g ?_
   exact⟨k+1,aI c1,X6,rfl,rfl,rfl,rfl,rfl,.inr ⟨_,_,_,_,_,_,_,_,_,_,_,_,_,rfl⟩,c1,v',O7,gb6⟩
  ·rw[hst]at hon
   obtain⟨ja,ea,hja⟩:∃j:Nat,w.hazards[k].on=j/\j<w.names.stops.length:=inL.ex hon;have hlit:(Flat.enc w.hazards[k]:List CV)=[.bool true,.int .i64 (ja:Int),.int .i64 w.hazards[k].times.frm,.int .i64 w.hazards[k].times.evr,.int .i64 w.hazards[k].times.len]:=by rw[<-ea,<-hst];rfl
   rw[hlit]at L_;repeat refine W.g ?_
   have ds:=aD ((XH.trans X).fr fr);repeat (first|refine aC ?_|refine W.e λr_ h_ ds_ s_=> ?_)
   refine aE (u6.ext X) (j:=k) (by omega) rfl rfl rfl rfl rfl rfl rfl λi0 o0 L0=> ?_;repeat (first|refine aC ?_|refine W.e λr_ h_ ds_ s_=> ?_)
   refine aE (u11.ext X) (j:=k) c1 rfl rfl rfl rfl rfl rfl rfl λi1 o1 L1=> ?_;rw[hlit]at L1;repeat (first|refine aC ?_|refine W.e λr_ h_ ds_ s_=> ?_)
   refine aE (u1.ext X) (j:=ja) hja rfl rfl rfl rfl rfl rfl rfl λi2 o2 L2=> ?_;repeat (first|refine aC ?_|refine W.e λr_ h_ ds_ s_=> ?_)
   refine aE (u11.ext X) (j:=k) c1 rfl rfl rfl rfl rfl rfl rfl λi3 o3 L3=> ?_;repeat (first|refine aC ?_|refine W.e λr_ h_ ds_ s_=> ?_)
   refine bB ds_ rfl rfl rfl rfl λq4 g4 ds4 x4 n4 gg4=> ?_;obtain⟨e4,he4⟩:∃e4:HazS,e4=w.hazards[k].told w.names k:=⟨_,rfl⟩
   have gg4:g4.get h_.next=some (.cells (Flat.enc e4) false):=by
    rw[he4,show w.hazards[k].told w.names k=(⟨w.names.hazards[k],w.names.stops[ja],w.hazards[k].times⟩:HazS)from by unfold HazW.told;rw[eX (by omega),ea,hst];show(⟨_,uR w.names.stops (ja:Int),_⟩:HazS)=_;rw[eP hja]];exact gg4
   have XF:=ds4.x;have nXF:=XF.next
   have S4:SlG g4 5 (.slice (some (h_.next,0)) 1 1 0) [Flat.enc e4]:=by
    have:=SlG.one (by omega) gg4;rwa[show(Flat.enc e4).length=5 from rfl]at this
   refine dC (H:=H) (z:=5) (l2:=[Flat.enc e4]) ds4.hri (X.trans XF) (O.own_hazards.1.ext XF) S4 rfl rfl rfl rfl rfl rfl rfl rfl rfl rfl rfl rfl rfl (by
    rw[List.length_map,List.length_take];show(_+1)*56<=_;omega) λq5 v' g5 hr5 X5 n5 k5 O5 _ i5=> ?_
   have i5:=i5 (by simp);have gb5:=(k5 b (by omega) (.inr O.own_hazards.2)).trans ((XF.old b ltb).trans gb);have O6:=(O.ext XF).hazards (h':=g5) (l:=w.told.hazards.take (k+1)) (u:=v') n5 k5 (by rw[show w.told.hazards.take (k+1)=w.told.hazards.take k++[e4]from by rw[he4];exact cR c1,List.map_append];exact O5) (.inr ⟨_,i5,Nat.le_refl _⟩);obtain⟨pv,nv,cv,xv,ev⟩:=O5.form;have hcells:v'.cells=some [v']:=by rw[ev];rfl
   rw[ev];repeat refine aC ?_
   rw[<-ev];refine W.dst (vs:=[v']) (cs':=[.int .i64 w.hz,n1,w0,w1,w2,w3,v']) hr5 rfl rfl rfl rfl hcells rfl rfl gb5 rfl λq6 g6 hr6 s6'=> ?_;have gb6:g6.get b=some (.cells [.int .i64 w.hz,n1,w0,w1,w2,w3,v'] false):=by rw[s6'.get,aG]
   have k6:∀k,k≠b->g6.get k=g5.get k:=λk hk=>by rw[s6'.get,aA,if_neg (Ne.symm hk)]
   have X6:Ext H g6:=(X5.put (by omega) (by omega) _).trans s6'.ext;have O7:=O6.put s6'.next k6;repeat refine aC ?_
   repeat refine W.g ?_
   exact⟨k+1,aI c1,X6,rfl,rfl,rfl,rfl,rfl,.inr ⟨_,_,_,_,_,_,_,_,_,_,_,_,_,rfl⟩,c1,v',O7,gb6⟩
 repeat refine W.g ?_
 rw[show w.told.hazards.take k=w.told.hazards from eU c1 hk]at O;have nX:=X.next;have ltb:=O.lt;have lob:H.next<=b:=by obtain⟨css,R1,R2⟩:=O.r;exact(R2.x b (by simp)).1
 refine aK (vs:=[.int .i64 w.hz,n1,w0,w1,w2,w3,v]) (cs':=[.int .i64 w.hz,n1,w0,w1,w2,w3,v]) rfl rfl rfl rfl rfl rfl ((X.old _ (by omega)).trans gR) rfl λM nM gM kM=> ?_;repeat refine W.g ?_
 refine aJ rfl rfl gM rfl rfl ?_;exact q M _ (Ext.store (XH.trans X) nM kM (by omega) (by omega)) λM2 hn hk=>(((O.keep (h':=M) (by omega) λk h1 h2=>kM k (by omega)).keep hn λk h1 h2=>hk k (by omega) h2).rp))
end
end Go.Proofs.YtfheibkikpefkaaGreatDoor
