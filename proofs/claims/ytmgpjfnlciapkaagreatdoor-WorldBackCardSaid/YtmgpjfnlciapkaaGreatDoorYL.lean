/- A sheet with numbers in the place of names. No condition but that memory beyond the next number is empty. -/
import Derived.Test.YtmgpjfnlciapkaaGreatDoorXG
import Derived.Test.YtmgpjfnlciapkaaGreatDoorYJ
set_option linter.unusedVariables false
set_option linter.unusedSimpArgs false
namespace Go.Proofs.YtmgpjfnlciapkaaGreatDoor
open Go Go.CM Go.CM.Tt
noncomputable section
set_option maxHeartbeats 16000000
theorem OwnR.cellsEq {h:Heap} {lo z:Nat} {v:CV} {l:List (List CV)} (o:OwnR h lo z v l):v.cells=some [v]:=by
 obtain⟨p,n,c,x,rfl⟩:=o.form
 rfl
theorem OwnRoutes.form {h:Heap} {lo:Nat} {v:CV} {l:List RouteW} (o:OwnRoutes h lo v l):∃p n c x,v= .slice p n c x:=by
 obtain⟨css,h1,_⟩:=o
 exact h1.form
theorem numbered_w {h:Heap} {tm:Tm} {Q:R->Prop} {cs:List CV} {x:SheetD} (r:Rp.R h cs x) (fr:Fresh h) (few:x.few) (sm:x.slim)
  (q:∀h' e,Ext h h'->(∀M:Heap,h'.next<=M.next->(∀k,h.next<=k->k<h'.next->M.get k=h'.get k)->Rp.R M e x.num)->Q (.val (.agg e) h')):W E1 (.call (.fn 25 [] []) [.agg cs]) tm h Q:=by
 obtain⟨v1,v2,v3,v4,v5,v6,rfl,t1,t2,t3,t4,t5,t6⟩:=r
 obtain⟨f1,f2,f3,f4,f5,f6⟩:=few
 refine W.fn (s:=fnOf Tryz.f25) rfl rfl rfl rfl ?_
 repeat (refine W.seq ?_)
 refine W.region ?_
 refine W.box rfl rfl rfl λHa Xa na ga La=> ?_
 refine W.al rfl rfl rfl λH XH nH g2 L2=> ?_
 repeat (first|refine W.g ?_|refine W.m λh_ X_ n_ g_ L_=> ?_)
 rename_i h3 X3 n3 g3 L3
 obtain⟨w3,hw⟩:∃w3,w3=H.next:=⟨_,rfl⟩
 obtain⟨b4,hb⟩:∃b4,b4=h3.next:=⟨_,rfl⟩
 have Xh:Ext h H:=Xa.trans XH
 have L1:LocE H h.next 0 [.int .i64 x.hz,v1,v2,v3,v4,v5,v6]:=La.ext XH
 have e34:b4=w3+1:=by omega
 have gw0:h_.get w3=some (.cells [.int .i64 x.hz,.slice none 0 0 0,.slice none 0 0 0,.slice none 0 0 0,.slice none 0 0 0,.slice none 0 0 0,.slice none 0 0 0,.slice none 0 0 0,.slice none 0 0 0,.slice none 0 0 0,.slice none 0 0 0,.slice none 0 0 0] false):=(X_.old _ (by omega)).trans (by rw[hw];exact g3)
 have g40:h_.get b4=some (.cells [.ptr (some (w3,0+1))] false):=by rw[hb,hw];exact g_
 have X0:Ext H h_:=X3.trans X_
 have l0:b4<h_.next:=by omega
 have hwH:H.next<=w3:=by omega
 refine W.k4 1 2 3 4 λT=> ?_
 rw[<-hb,<-hw]
 clear g3 L3 g_ L_ hb X3 X_ n3 n_ La ga
 obtain⟨G0,hG0⟩:∃G0,G0=h_:=⟨_,rfl⟩
 rw[<-hG0]at gw0 g40 X0 l0 ⊢
 clear hG0
 have ds:=DX.start ((Xh.trans X0).fr fr)
 have L4:LocE G0 b4 0 [.ptr (some (w3,0+1))]:=⟨_,_,g40,l0,rfl⟩
 repeat (first|refine W.gd ?_|refine W.e λr_ h_ ds_ s_=> ?_)
 have Y:Ext h h_:=(Xh.trans X0).trans ds_.x
 have yn:=ds_.x.next
 refine W.dcallZ ds_ rfl rfl rfl rfl (clone_str (t1.ext Y) (by omega) λh1 n1 Y1 O1=>DZ.val Y1 λr1 h1' ds1 s1=> ?_)
 have O1:=(O1.low (lo':=w3+2) (by omega)).ext s1.ext
 obtain⟨p1,m1,c1,y1,ee⟩:=O1.form
 rw[ee]
 clear ds_ ds
 refine W.gd ?_
 rw[<-ee]
 have Z:=ds1.x
 have zn:=Z.next
 refine W.dst (vs:=[n1]) (cs':=[.int .i64 x.hz,n1,.slice none 0 0 0,.slice none 0 0 0,.slice none 0 0 0,.slice none 0 0 0,.slice none 0 0 0,.slice none 0 0 0,.slice none 0 0 0,.slice none 0 0 0,.slice none 0 0 0,.slice none 0 0 0]) ds1.hri rfl rfl rfl rfl (OwnR.cellsEq O1) rfl rfl ((Z.old w3 (by omega)).trans gw0) rfl λr2 G1 hr2 s2=> ?_
 refine W.gd ?_
 have gw1:G1.get w3=some (.cells [.int .i64 x.hz,n1,.slice none 0 0 0,.slice none 0 0 0,.slice none 0 0 0,.slice none 0 0 0,.slice none 0 0 0,.slice none 0 0 0,.slice none 0 0 0,.slice none 0 0 0,.slice none 0 0 0,.slice none 0 0 0] false):=by rw[s2.get,put_same]
 have g41:G1.get b4=some (.cells [.ptr (some (w3,0+1))] false):=by rw[s2.get,Heap.get_put,if_neg (by omega)];exact(Z.old b4 (by omega)).trans g40
 have X1:Ext H G1:=((X0.trans Z).put (by omega) (by omega) _).trans s2.ext
 have l1:b4<G1.next:=by rw[s2.next];show b4<h1'.next;omega
 have oth:∀{v:CV} {z:Nat} {l:List (List CV)},OwnR h1' (w3+2) z v l->OwnR G1 (w3+2) z v l:=λO=>O.other (by rw[s2.next];exact Nat.le_refl _) λk hk _ _=>by rw[s2.get,Heap.get_put,if_neg (by omega)]
 have O1:=oth O1
 clear oth Y L4 ds1 r1 gw0 g40 X0 l0
 refine W.k4 1 2 3 4 λT=> ?_
 refine W.g ?_
 have ds:=DX.start ((Xh.trans X1).fr fr)
 have L4:LocE G1 b4 0 [.ptr (some (w3,0+1))]:=⟨_,_,g41,l1,rfl⟩
 repeat (first|refine W.gd ?_|refine W.e λr_ h_ ds_ s_=> ?_)
 have Y:Ext h h_:=(Xh.trans X1).trans ds_.x
 have yn:=ds_.x.next
 refine W.dcallZ ds_ rfl rfl rfl rfl (all_pathS 85 [] [] (·.name) (t2.ext Y) (by omega) (λd _ tm h' Q X q=>name1_w d q) λh1 n2 Y1 O2=>DZ.val Y1 λr1 h1' ds1 s1=> ?_)
 have O2:=(O2.low (lo':=w3+2) (by omega)).ext s1.ext
 obtain⟨p2,m2,c2,y2,ee⟩:=O2.form
 rw[ee]
 clear ds_ ds
 refine W.gd ?_
 rw[<-ee]
 have Z:=ds1.x
 have zn:=Z.next
 refine W.dst (vs:=[n2]) (cs':=[.int .i64 x.hz,n1,n2,.slice none 0 0 0,.slice none 0 0 0,.slice none 0 0 0,.slice none 0 0 0,.slice none 0 0 0,.slice none 0 0 0,.slice none 0 0 0,.slice none 0 0 0,.slice none 0 0 0]) ds1.hri rfl rfl rfl rfl (OwnR.cellsEq O2) rfl rfl ((Z.old w3 (by omega)).trans gw1) rfl λr2 G2 hr2 s2=> ?_
 refine W.gd ?_
 have gw2:G2.get w3=some (.cells [.int .i64 x.hz,n1,n2,.slice none 0 0 0,.slice none 0 0 0,.slice none 0 0 0,.slice none 0 0 0,.slice none 0 0 0,.slice none 0 0 0,.slice none 0 0 0,.slice none 0 0 0,.slice none 0 0 0] false):=by rw[s2.get,put_same]
 have g42:G2.get b4=some (.cells [.ptr (some (w3,0+1))] false):=by rw[s2.get,Heap.get_put,if_neg (by omega)];exact(Z.old b4 (by omega)).trans g41
 have X2:Ext H G2:=((X1.trans Z).put (by omega) (by omega) _).trans s2.ext
 have l2:b4<G2.next:=by rw[s2.next];show b4<h1'.next;omega
 have oth:∀{v:CV} {z:Nat} {l:List (List CV)},OwnR h1' (w3+2) z v l->OwnR G2 (w3+2) z v l:=λO=>O.other (by rw[s2.next];exact Nat.le_refl _) λk hk _ _=>by rw[s2.get,Heap.get_put,if_neg (by omega)]
 have O1:=oth (O1.ext Z)
 have O2:=oth O2
 clear oth Y L4 ds1 r1 gw1 g41 X1 l1
 refine W.k4 1 2 3 4 λT=> ?_
 refine W.g ?_
 have ds:=DX.start ((Xh.trans X2).fr fr)
 have L4:LocE G2 b4 0 [.ptr (some (w3,0+1))]:=⟨_,_,g42,l2,rfl⟩
 repeat (first|refine W.gd ?_|refine W.e λr_ h_ ds_ s_=> ?_)
 have Y:Ext h h_:=(Xh.trans X2).trans ds_.x
 have yn:=ds_.x.next
 refine W.dcallZ ds_ rfl rfl rfl rfl (all_doorS 87 [] [] (·.name) (t3.ext Y) (by omega) (λd _ tm h' Q X q=>name2_w d q) λh1 n3 Y1 O3=>DZ.val Y1 λr1 h1' ds1 s1=> ?_)
 have O3:=(O3.low (lo':=w3+2) (by omega)).ext s1.ext
 obtain⟨p3,m3,c3,y3,ee⟩:=O3.form
 rw[ee]
 clear ds_ ds
 refine W.gd ?_
 rw[<-ee]
 have Z:=ds1.x
 have zn:=Z.next
 refine W.dst (vs:=[n3]) (cs':=[.int .i64 x.hz,n1,n2,n3,.slice none 0 0 0,.slice none 0 0 0,.slice none 0 0 0,.slice none 0 0 0,.slice none 0 0 0,.slice none 0 0 0,.slice none 0 0 0,.slice none 0 0 0]) ds1.hri rfl rfl rfl rfl (OwnR.cellsEq O3) rfl rfl ((Z.old w3 (by omega)).trans gw2) rfl λr2 G3 hr2 s2=> ?_
 refine W.gd ?_
 have gw3:G3.get w3=some (.cells [.int .i64 x.hz,n1,n2,n3,.slice none 0 0 0,.slice none 0 0 0,.slice none 0 0 0,.slice none 0 0 0,.slice none 0 0 0,.slice none 0 0 0,.slice none 0 0 0,.slice none 0 0 0] false):=by rw[s2.get,put_same]
 have g43:G3.get b4=some (.cells [.ptr (some (w3,0+1))] false):=by rw[s2.get,Heap.get_put,if_neg (by omega)];exact(Z.old b4 (by omega)).trans g42
 have X3:Ext H G3:=((X2.trans Z).put (by omega) (by omega) _).trans s2.ext
 have l3:b4<G3.next:=by rw[s2.next];show b4<h1'.next;omega
 have oth:∀{v:CV} {z:Nat} {l:List (List CV)},OwnR h1' (w3+2) z v l->OwnR G3 (w3+2) z v l:=λO=>O.other (by rw[s2.next];exact Nat.le_refl _) λk hk _ _=>by rw[s2.get,Heap.get_put,if_neg (by omega)]
 have O1:=oth (O1.ext Z)
 have O2:=oth (O2.ext Z)
 have O3:=oth O3
 clear oth Y L4 ds1 r1 gw2 g42 X2 l2
 refine W.k4 1 2 3 4 λT=> ?_
 refine W.g ?_
 have ds:=DX.start ((Xh.trans X3).fr fr)
 have L4:LocE G3 b4 0 [.ptr (some (w3,0+1))]:=⟨_,_,g43,l3,rfl⟩
 repeat (first|refine W.gd ?_|refine W.e λr_ h_ ds_ s_=> ?_)
 have Y:Ext h h_:=(Xh.trans X3).trans ds_.x
 have yn:=ds_.x.next
 refine W.dcallZ ds_ rfl rfl rfl rfl (all_routeS 89 [] [] (·.name) (t4.ext Y) (by omega) (λd _ e re tm h' Q X q=>name3_w (Rp.ext X re) q) λh1 n4 Y1 O4=>DZ.val Y1 λr1 h1' ds1 s1=> ?_)
 have O4:=(O4.low (lo':=w3+2) (by omega)).ext s1.ext
 obtain⟨p4,m4,c4,y4,ee⟩:=O4.form
 rw[ee]
 clear ds_ ds
 refine W.gd ?_
 rw[<-ee]
 have Z:=ds1.x
 have zn:=Z.next
 refine W.dst (vs:=[n4]) (cs':=[.int .i64 x.hz,n1,n2,n3,n4,.slice none 0 0 0,.slice none 0 0 0,.slice none 0 0 0,.slice none 0 0 0,.slice none 0 0 0,.slice none 0 0 0,.slice none 0 0 0]) ds1.hri rfl rfl rfl rfl (OwnR.cellsEq O4) rfl rfl ((Z.old w3 (by omega)).trans gw3) rfl λr2 G4 hr2 s2=> ?_
 refine W.gd ?_
 have gw4:G4.get w3=some (.cells [.int .i64 x.hz,n1,n2,n3,n4,.slice none 0 0 0,.slice none 0 0 0,.slice none 0 0 0,.slice none 0 0 0,.slice none 0 0 0,.slice none 0 0 0,.slice none 0 0 0] false):=by rw[s2.get,put_same]
 have g44:G4.get b4=some (.cells [.ptr (some (w3,0+1))] false):=by rw[s2.get,Heap.get_put,if_neg (by omega)];exact(Z.old b4 (by omega)).trans g43
 have X4:Ext H G4:=((X3.trans Z).put (by omega) (by omega) _).trans s2.ext
 have l4:b4<G4.next:=by rw[s2.next];show b4<h1'.next;omega
 have oth:∀{v:CV} {z:Nat} {l:List (List CV)},OwnR h1' (w3+2) z v l->OwnR G4 (w3+2) z v l:=λO=>O.other (by rw[s2.next];exact Nat.le_refl _) λk hk _ _=>by rw[s2.get,Heap.get_put,if_neg (by omega)]
 have O1:=oth (O1.ext Z)
 have O2:=oth (O2.ext Z)
 have O3:=oth (O3.ext Z)
 have O4:=oth O4
 clear oth Y L4 ds1 r1 gw3 g43 X3 l3
 refine W.k4 1 2 3 4 λT=> ?_
 refine W.g ?_
 have ds:=DX.start ((Xh.trans X4).fr fr)
 have L4:LocE G4 b4 0 [.ptr (some (w3,0+1))]:=⟨_,_,g44,l4,rfl⟩
 repeat (first|refine W.gd ?_|refine W.e λr_ h_ ds_ s_=> ?_)
 have Y:Ext h h_:=(Xh.trans X4).trans ds_.x
 have yn:=ds_.x.next
 refine W.dcallZ ds_ rfl rfl rfl rfl (all_tripS 91 [] [] (·.name) (t5.ext Y) (by omega) (λd _ tm h' Q X q=>name4_w d q) λh1 n5 Y1 O5=>DZ.val Y1 λr1 h1' ds1 s1=> ?_)
 have O5:=(O5.low (lo':=w3+2) (by omega)).ext s1.ext
 obtain⟨p5,m5,c5,y5,ee⟩:=O5.form
 rw[ee]
 clear ds_ ds
 refine W.gd ?_
 rw[<-ee]
 have Z:=ds1.x
 have zn:=Z.next
 refine W.dst (vs:=[n5]) (cs':=[.int .i64 x.hz,n1,n2,n3,n4,n5,.slice none 0 0 0,.slice none 0 0 0,.slice none 0 0 0,.slice none 0 0 0,.slice none 0 0 0,.slice none 0 0 0]) ds1.hri rfl rfl rfl rfl (OwnR.cellsEq O5) rfl rfl ((Z.old w3 (by omega)).trans gw4) rfl λr2 G5 hr2 s2=> ?_
 refine W.gd ?_
 have gw5:G5.get w3=some (.cells [.int .i64 x.hz,n1,n2,n3,n4,n5,.slice none 0 0 0,.slice none 0 0 0,.slice none 0 0 0,.slice none 0 0 0,.slice none 0 0 0,.slice none 0 0 0] false):=by rw[s2.get,put_same]
 have g45:G5.get b4=some (.cells [.ptr (some (w3,0+1))] false):=by rw[s2.get,Heap.get_put,if_neg (by omega)];exact(Z.old b4 (by omega)).trans g44
 have X5:Ext H G5:=((X4.trans Z).put (by omega) (by omega) _).trans s2.ext
 have l5:b4<G5.next:=by rw[s2.next];show b4<h1'.next;omega
 have oth:∀{v:CV} {z:Nat} {l:List (List CV)},OwnR h1' (w3+2) z v l->OwnR G5 (w3+2) z v l:=λO=>O.other (by rw[s2.next];exact Nat.le_refl _) λk hk _ _=>by rw[s2.get,Heap.get_put,if_neg (by omega)]
 have O1:=oth (O1.ext Z)
 have O2:=oth (O2.ext Z)
 have O3:=oth (O3.ext Z)
 have O4:=oth (O4.ext Z)
 have O5:=oth O5
 clear oth Y L4 ds1 r1 gw4 g44 X4 l4
 refine W.k4 1 2 3 4 λT=> ?_
 refine W.g ?_
 have ds:=DX.start ((Xh.trans X5).fr fr)
 have L4:LocE G5 b4 0 [.ptr (some (w3,0+1))]:=⟨_,_,g45,l5,rfl⟩
 repeat (first|refine W.gd ?_|refine W.e λr_ h_ ds_ s_=> ?_)
 have Y:Ext h h_:=(Xh.trans X5).trans ds_.x
 have yn:=ds_.x.next
 refine W.dcallZ ds_ rfl rfl rfl rfl (all_hazS 93 [] [] (·.name) (t6.ext Y) (by omega) (λd _ tm h' Q X q=>name5_w d q) λh1 n6 Y1 O6=>DZ.val Y1 λr1 h1' ds1 s1=> ?_)
 have O6:=(O6.low (lo':=w3+2) (by omega)).ext s1.ext
 obtain⟨p6,m6,c6,y6,ee⟩:=O6.form
 rw[ee]
 clear ds_ ds
 refine W.gd ?_
 rw[<-ee]
 have Z:=ds1.x
 have zn:=Z.next
 refine W.dst (vs:=[n6]) (cs':=[.int .i64 x.hz,n1,n2,n3,n4,n5,n6,.slice none 0 0 0,.slice none 0 0 0,.slice none 0 0 0,.slice none 0 0 0,.slice none 0 0 0]) ds1.hri rfl rfl rfl rfl (OwnR.cellsEq O6) rfl rfl ((Z.old w3 (by omega)).trans gw5) rfl λr2 G6 hr2 s2=> ?_
 refine W.gd ?_
 have gw6:G6.get w3=some (.cells [.int .i64 x.hz,n1,n2,n3,n4,n5,n6,.slice none 0 0 0,.slice none 0 0 0,.slice none 0 0 0,.slice none 0 0 0,.slice none 0 0 0] false):=by rw[s2.get,put_same]
 have g46:G6.get b4=some (.cells [.ptr (some (w3,0+1))] false):=by rw[s2.get,Heap.get_put,if_neg (by omega)];exact(Z.old b4 (by omega)).trans g45
 have X6:Ext H G6:=((X5.trans Z).put (by omega) (by omega) _).trans s2.ext
 have l6:b4<G6.next:=by rw[s2.next];show b4<h1'.next;omega
 have oth:∀{v:CV} {z:Nat} {l:List (List CV)},OwnR h1' (w3+2) z v l->OwnR G6 (w3+2) z v l:=λO=>O.other (by rw[s2.next];exact Nat.le_refl _) λk hk _ _=>by rw[s2.get,Heap.get_put,if_neg (by omega)]
 have O1:=oth (O1.ext Z)
 have O2:=oth (O2.ext Z)
 have O3:=oth (O3.ext Z)
 have O4:=oth (O4.ext Z)
 have O5:=oth (O5.ext Z)
 have O6:=oth O6
 clear oth Y L4 ds1 r1 gw5 g45 X5 l5
 refine W.k4 1 2 3 4 λT=> ?_
 repeat (first|refine W.g ?_|refine W.m λh_ X_ n_ g_ L_=> ?_)
 obtain⟨b5,hb5⟩:∃b5,b5=G6.next:=⟨_,rfl⟩
 have g56:h_.get b5=some (.cells [.fn 94 [] [.ptr (some (h.next,0))]] false):=by rw[hb5];exact g_
 have e5:w3+2<=b5:=by omega
 obtain⟨J0,hJ0⟩:∃J0,J0=h_:=⟨_,rfl⟩
 have gw6:=(X_.old w3 (by omega)).trans gw6
 have g46:=(X_.old b4 (by omega)).trans g46
 have X6:=X6.trans X_
 have l6:b4<h_.next:=by omega
 have k6:b5<h_.next:=by omega
 have O1:=O1.ext X_
 have O2:=O2.ext X_
 have O3:=O3.ext X_
 have O4:=O4.ext X_
 have O5:=O5.ext X_
 have O6:=O6.ext X_
 rw[<-hJ0]at g56 gw6 g46 X6 l6 k6 O1 O2 O3 O4 O5 O6 ⊢
 clear hJ0 g_ L_ n_ X_
 refine W.k7 1 2 3 4 5 48 49 λT=> ?_
 rw[<-hb5]
 have Y:Ext h J0:=Xh.trans X6
 have L1j:=L1.ext X6
 have L4:LocE J0 b4 0 [.ptr (some (w3,0+1))]:=⟨_,_,g46,l6,rfl⟩
 have L5:LocE J0 b5 0 [.fn 94 [] [.ptr (some (h.next,0))]]:=⟨_,_,g56,k6,rfl⟩
 have Ln:LocE J0 w3 (0+1) [n1,n2,n3,n4,n5,n6]:=LocE.sub (e:=[.int .i64 x.hz,n1,n2,n3,n4,n5,n6,.slice none 0 0 0,.slice none 0 0 0,.slice none 0 0 0,.slice none 0 0 0,.slice none 0 0 0]) (m:=6) ⟨_,_,gw6,by omega,rfl⟩ rfl
 refine W.call rfl rfl rfl (all_pathW 96 [] [.ptr (some (b5,0))] (·.num x.stops) (t2.ext Y) (by omega) (λd _ tm h' Q X q=>num7_w L1j L5 (t1.ext Y) X (X.fr (Y.fr fr)) d (by omega) q) λh1 n7 Y1 O7=> ?_)
 have yn:=Y1.next
 have O7:=O7.low (lo':=w3+2) (by omega)
 refine W.k6 1 2 3 4 5 50 λT=> ?_
 refine W.g ?_
 refine W.stn (vs:=[n7]) (cs':=[.int .i64 x.hz,n1,n2,n3,n4,n5,n6,n7,.slice none 0 0 0,.slice none 0 0 0,.slice none 0 0 0,.slice none 0 0 0]) rfl rfl rfl (OwnR.cellsEq O7) rfl rfl ((Y1.old w3 (by omega)).trans gw6) rfl λJ1 nx gw7 kx=> ?_
 have g47:=(kx b4 (by omega)).trans ((Y1.old b4 (by omega)).trans g46)
 have g57:=(kx b5 (by omega)).trans ((Y1.old b5 (by omega)).trans g56)
 have X7:Ext H J1:=Ext.store (X6.trans Y1) nx kx (by omega) (by omega)
 have l7:b4<J1.next:=by omega
 have k7:b5<J1.next:=by omega
 have oth:∀{v:CV} {z:Nat} {l:List (List CV)},OwnR h1 (w3+2) z v l->OwnR J1 (w3+2) z v l:=λO=>O.other (by rw[nx];exact Nat.le_refl _) λk hk _ _=>kx k (by omega)
 have O1:=oth (O1.ext Y1)
 have O2:=oth (O2.ext Y1)
 have O3:=oth (O3.ext Y1)
 have O4:=oth (O4.ext Y1)
 have O5:=oth (O5.ext Y1)
 have O6:=oth (O6.ext Y1)
 have O7:=oth O7
 clear oth Y L1j L4 L5 Ln gw6 g46 g56 X6 l6 k6 nx kx Y1 yn
 refine W.k5 1 2 3 4 5 λT=> ?_
 refine W.g ?_
 have Y:Ext h J1:=Xh.trans X7
 have L1j:=L1.ext X7
 have L4:LocE J1 b4 0 [.ptr (some (w3,0+1))]:=⟨_,_,g47,l7,rfl⟩
 have L5:LocE J1 b5 0 [.fn 94 [] [.ptr (some (h.next,0))]]:=⟨_,_,g57,k7,rfl⟩
 have Ln:LocE J1 w3 (0+1) [n1,n2,n3,n4,n5,n6]:=LocE.sub (e:=[.int .i64 x.hz,n1,n2,n3,n4,n5,n6,n7,.slice none 0 0 0,.slice none 0 0 0,.slice none 0 0 0,.slice none 0 0 0]) (m:=6) ⟨_,_,gw7,by omega,rfl⟩ rfl
 refine W.call rfl rfl rfl (all_doorW 98 [] [.ptr (some (b5,0))] (·.num x.stops) (t3.ext Y) (by omega) (λd _ tm h' Q X q=>num8_w L1j L5 (t1.ext Y) X (X.fr (Y.fr fr)) d (by omega) q) λh1 n8 Y1 O8=> ?_)
 have yn:=Y1.next
 have O8:=O8.low (lo':=w3+2) (by omega)
 refine W.k6 1 2 3 4 5 55 λT=> ?_
 refine W.g ?_
 refine W.stn (vs:=[n8]) (cs':=[.int .i64 x.hz,n1,n2,n3,n4,n5,n6,n7,n8,.slice none 0 0 0,.slice none 0 0 0,.slice none 0 0 0]) rfl rfl rfl (OwnR.cellsEq O8) rfl rfl ((Y1.old w3 (by omega)).trans gw7) rfl λJ2 nx gw8 kx=> ?_
 have g48:=(kx b4 (by omega)).trans ((Y1.old b4 (by omega)).trans g47)
 have g58:=(kx b5 (by omega)).trans ((Y1.old b5 (by omega)).trans g57)
 have X8:Ext H J2:=Ext.store (X7.trans Y1) nx kx (by omega) (by omega)
 have l8:b4<J2.next:=by omega
 have k8:b5<J2.next:=by omega
 have oth:∀{v:CV} {z:Nat} {l:List (List CV)},OwnR h1 (w3+2) z v l->OwnR J2 (w3+2) z v l:=λO=>O.other (by rw[nx];exact Nat.le_refl _) λk hk _ _=>kx k (by omega)
 have O1:=oth (O1.ext Y1)
 have O2:=oth (O2.ext Y1)
 have O3:=oth (O3.ext Y1)
 have O4:=oth (O4.ext Y1)
 have O5:=oth (O5.ext Y1)
 have O6:=oth (O6.ext Y1)
 have O7:=oth (O7.ext Y1)
 have O8:=oth O8
 clear oth Y L1j L4 L5 Ln gw7 g47 g57 X7 l7 k7 nx kx Y1 yn
 refine W.k5 1 2 3 4 5 λT=> ?_
 refine W.g ?_
 have Y:Ext h J2:=Xh.trans X8
 have L1j:=L1.ext X8
 have L4:LocE J2 b4 0 [.ptr (some (w3,0+1))]:=⟨_,_,g48,l8,rfl⟩
 have L5:LocE J2 b5 0 [.fn 94 [] [.ptr (some (h.next,0))]]:=⟨_,_,g58,k8,rfl⟩
 have Ln:LocE J2 w3 (0+1) [n1,n2,n3,n4,n5,n6]:=LocE.sub (e:=[.int .i64 x.hz,n1,n2,n3,n4,n5,n6,n7,n8,.slice none 0 0 0,.slice none 0 0 0,.slice none 0 0 0]) (m:=6) ⟨_,_,gw8,by omega,rfl⟩ rfl
 refine W.call rfl rfl rfl (all_routeW 100 [] [.ptr (some (b5,0))] (·.num x.stops) (t4.ext Y) (by omega) (λd hd e re tm h' Q X q=>num9_w L1j L5 (t1.ext Y) X (X.fr (Y.fr fr)) (Rp.ext X re) (by omega) (sm d hd) q) λh1 n9 Y1 O9=> ?_)
 have yn:=Y1.next
 have O9:=O9.low (lo':=w3+2) (by omega)
 refine W.k6 1 2 3 4 5 60 λT=> ?_
 refine W.g ?_
 refine W.stn (vs:=[n9]) (cs':=[.int .i64 x.hz,n1,n2,n3,n4,n5,n6,n7,n8,n9,.slice none 0 0 0,.slice none 0 0 0]) rfl rfl rfl (by obtain⟨p,n,c,x,e⟩:=O9.form;rw[e];rfl) rfl rfl ((Y1.old w3 (by omega)).trans gw8) rfl λJ3 nx gw9 kx=> ?_
 have g49:=(kx b4 (by omega)).trans ((Y1.old b4 (by omega)).trans g48)
 have g59:=(kx b5 (by omega)).trans ((Y1.old b5 (by omega)).trans g58)
 have X9:Ext H J3:=Ext.store (X8.trans Y1) nx kx (by omega) (by omega)
 have l9:b4<J3.next:=by omega
 have k9:b5<J3.next:=by omega
 have oth:∀{v:CV} {z:Nat} {l:List (List CV)},OwnR h1 (w3+2) z v l->OwnR J3 (w3+2) z v l:=λO=>O.other (by rw[nx];exact Nat.le_refl _) λk hk _ _=>kx k (by omega)
 have O1:=oth (O1.ext Y1)
 have O2:=oth (O2.ext Y1)
 have O3:=oth (O3.ext Y1)
 have O4:=oth (O4.ext Y1)
 have O5:=oth (O5.ext Y1)
 have O6:=oth (O6.ext Y1)
 have O7:=oth (O7.ext Y1)
 have O8:=oth (O8.ext Y1)
 have O9:=O9.other (h':=J3) (by rw[nx];exact Nat.le_refl _) λk hk _=>kx k (by omega)
 clear oth Y L1j L4 L5 Ln gw8 g48 g58 X8 l8 k8 nx kx Y1 yn
 refine W.k5 1 2 3 4 5 λT=> ?_
 refine W.g ?_
 have Y:Ext h J3:=Xh.trans X9
 have L1j:=L1.ext X9
 have L4:LocE J3 b4 0 [.ptr (some (w3,0+1))]:=⟨_,_,g49,l9,rfl⟩
 have L5:LocE J3 b5 0 [.fn 94 [] [.ptr (some (h.next,0))]]:=⟨_,_,g59,k9,rfl⟩
 have Ln:LocE J3 w3 (0+1) [n1,n2,n3,n4,n5,n6]:=LocE.sub (e:=[.int .i64 x.hz,n1,n2,n3,n4,n5,n6,n7,n8,n9,.slice none 0 0 0,.slice none 0 0 0]) (m:=6) ⟨_,_,gw9,by omega,rfl⟩ rfl
 refine W.call rfl rfl rfl (all_tripW 104 [] [.ptr (some (b4,0))] (·.num x.names.routes) (t5.ext Y) (by omega) (λd _ tm h' Q X q=>num10_w L4 Ln (l:=x.names.routes) O4.toSl X (X.fr (Y.fr fr)) d (by show(x.routes.map _).length<=_;rw[List.length_map];omega) q) λh1 n10 Y1 O10=> ?_)
 have yn:=Y1.next
 have O10:=O10.low (lo':=w3+2) (by omega)
 refine W.k6 1 2 3 4 5 65 λT=> ?_
 refine W.g ?_
 refine W.stn (vs:=[n10]) (cs':=[.int .i64 x.hz,n1,n2,n3,n4,n5,n6,n7,n8,n9,n10,.slice none 0 0 0]) rfl rfl rfl (OwnR.cellsEq O10) rfl rfl ((Y1.old w3 (by omega)).trans gw9) rfl λJ4 nx gw10 kx=> ?_
 have g410:=(kx b4 (by omega)).trans ((Y1.old b4 (by omega)).trans g49)
 have g510:=(kx b5 (by omega)).trans ((Y1.old b5 (by omega)).trans g59)
 have X10:Ext H J4:=Ext.store (X9.trans Y1) nx kx (by omega) (by omega)
 have l10:b4<J4.next:=by omega
 have k10:b5<J4.next:=by omega
 have oth:∀{v:CV} {z:Nat} {l:List (List CV)},OwnR h1 (w3+2) z v l->OwnR J4 (w3+2) z v l:=λO=>O.other (by rw[nx];exact Nat.le_refl _) λk hk _ _=>kx k (by omega)
 have O1:=oth (O1.ext Y1)
 have O2:=oth (O2.ext Y1)
 have O3:=oth (O3.ext Y1)
 have O4:=oth (O4.ext Y1)
 have O5:=oth (O5.ext Y1)
 have O6:=oth (O6.ext Y1)
 have O7:=oth (O7.ext Y1)
 have O8:=oth (O8.ext Y1)
 have O9:=(O9.ext Y1).other (h':=J4) (by rw[nx];exact Nat.le_refl _) λk hk _=>kx k (by omega)
 have O10:=oth O10
 clear oth Y L1j L4 L5 Ln gw9 g49 g59 X9 l9 k9 nx kx Y1 yn
 refine W.k5 1 2 3 4 5 λT=> ?_
 refine W.g ?_
 have Y:Ext h J4:=Xh.trans X10
 have L1j:=L1.ext X10
 have L4:LocE J4 b4 0 [.ptr (some (w3,0+1))]:=⟨_,_,g410,l10,rfl⟩
 have L5:LocE J4 b5 0 [.fn 94 [] [.ptr (some (h.next,0))]]:=⟨_,_,g510,k10,rfl⟩
 have Ln:LocE J4 w3 (0+1) [n1,n2,n3,n4,n5,n6]:=LocE.sub (e:=[.int .i64 x.hz,n1,n2,n3,n4,n5,n6,n7,n8,n9,n10,.slice none 0 0 0]) (m:=6) ⟨_,_,gw10,by omega,rfl⟩ rfl
 refine W.call rfl rfl rfl (all_hazW 106 [] [.ptr (some (b5,0)),.ptr (some (b4,0))] (·.num x.stops x.names.paths) (t6.ext Y) (by omega) (λd _ tm h' Q X q=>num11_w L1j L5 (t1.ext Y) L4 Ln (m:=x.names.paths) O2.toSl X (X.fr (Y.fr fr)) d (by omega) (by show(x.paths.map _).length<=_;rw[List.length_map];omega) q) λh1 n11 Y1 O11=> ?_)
 have yn:=Y1.next
 have O11:=O11.low (lo':=w3+2) (by omega)
 refine W.k6 1 2 3 4 5 70 λT=> ?_
 refine W.g ?_
 refine W.stn (vs:=[n11]) (cs':=[.int .i64 x.hz,n1,n2,n3,n4,n5,n6,n7,n8,n9,n10,n11]) rfl rfl rfl (OwnR.cellsEq O11) rfl rfl ((Y1.old w3 (by omega)).trans gw10) rfl λJ5 nx gw11 kx=> ?_
 have g411:=(kx b4 (by omega)).trans ((Y1.old b4 (by omega)).trans g410)
 have g511:=(kx b5 (by omega)).trans ((Y1.old b5 (by omega)).trans g510)
 have X11:Ext H J5:=Ext.store (X10.trans Y1) nx kx (by omega) (by omega)
 have l11:b4<J5.next:=by omega
 have k11:b5<J5.next:=by omega
 have oth:∀{v:CV} {z:Nat} {l:List (List CV)},OwnR h1 (w3+2) z v l->OwnR J5 (w3+2) z v l:=λO=>O.other (by rw[nx];exact Nat.le_refl _) λk hk _ _=>kx k (by omega)
 have O1:=oth (O1.ext Y1)
 have O2:=oth (O2.ext Y1)
 have O3:=oth (O3.ext Y1)
 have O4:=oth (O4.ext Y1)
 have O5:=oth (O5.ext Y1)
 have O6:=oth (O6.ext Y1)
 have O7:=oth (O7.ext Y1)
 have O8:=oth (O8.ext Y1)
 have O9:=(O9.ext Y1).other (h':=J5) (by rw[nx];exact Nat.le_refl _) λk hk _=>kx k (by omega)
 have O10:=oth (O10.ext Y1)
 have O11:=oth O11
 clear oth Y L1j L4 L5 Ln gw10 g410 g510 X10 l10 k10 nx kx Y1 yn
 refine W.k5 1 2 3 4 5 λT=> ?_
 refine W.g ?_
 refine W.ld rfl rfl rfl gw11 rfl rfl ?_
 have xn:=X11.next
 refine W.stn (vs:=[.int .i64 x.hz,n1,n2,n3,n4,n5,n6,n7,n8,n9,n10,n11]) (cs':=[.int .i64 x.hz,n1,n2,n3,n4,n5,n6,n7,n8,n9,n10,n11]) rfl rfl rfl rfl rfl rfl ((X11.old Ha.next (by omega)).trans g2) rfl λK nx gk kx=> ?_
 refine W.g ?_
 refine BodyQ.cell1 rfl rfl gk rfl rfl ?_
 have XK:Ext h K:=Ext.store (Xh.trans X11) nx kx (by omega) (by omega)
 have oth:∀{v:CV} {z:Nat} {l:List (List CV)},OwnR J5 (w3+2) z v l->OwnR K (w3+2) z v l:=λO=>O.other (by rw[nx];exact Nat.le_refl _) λk hk _ _=>kx k (by omega)
 have O9:=O9.other (h':=K) (by rw[nx];exact Nat.le_refl _) λk hk _=>kx k (by omega)
 exact q _ _ XK λM hm hk=>⟨n1,n2,n3,n4,n5,n6,n7,n8,n9,n10,n11,rfl,((oth O1).other hm λk a b _=>hk k (by omega) b).toSl,((oth O2).other hm λk a b _=>hk k (by omega) b).toSl,((oth O3).other hm λk a b _=>hk k (by omega) b).toSl,((oth O4).other hm λk a b _=>hk k (by omega) b).toSl,((oth O5).other hm λk a b _=>hk k (by omega) b).toSl,((oth O6).other hm λk a b _=>hk k (by omega) b).toSl,((oth O7).other hm λk a b _=>hk k (by omega) b).toSl,((oth O8).other hm λk a b _=>hk k (by omega) b).toSl,(O9.other hm λk a b=>hk k (by omega) b).toSl,((oth O10).other hm λk a b _=>hk k (by omega) b).toSl,((oth O11).other hm λk a b _=>hk k (by omega) b).toSl⟩
end
end Go.Proofs.YtmgpjfnlciapkaaGreatDoor
