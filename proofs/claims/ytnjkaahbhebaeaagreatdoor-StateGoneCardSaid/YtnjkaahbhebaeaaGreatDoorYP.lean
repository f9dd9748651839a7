/- Windows that overlap or touch put together. No condition but that memory beyond the next number is empty. -/
import Derived.Test.YtnjkaahbhebaeaaGreatDoorXU
import Derived.Test.YtnjkaahbhebaeaaGreatDoorYO
import Derived.Test.YtnjkaahbhebaeaaGreatDoorXZ
set_option linter.unusedVariables false
set_option linter.unusedSimpArgs false
set_option maxRecDepth 100000
namespace Go.Proofs.YtnjkaahbhebaeaaGreatDoor
open Go Go.CM Go.CM.Tt
noncomputable section
set_option maxHeartbeats 16000000
def mx (a b:Int):Int:=match intLe b a with
 |true=>a
 |false=>b
theorem mx_eq {a b:Int}:mx a b=if b<=a then a else b:=by
 unfold mx;rw[intLe_eq];by_cases h:b<=a
 ·rw[if_pos h,decide_eq_true h]
 ·rw[if_neg h,decide_eq_false h]
theorem winE_len {w:List (Int×Int)}:∀e∈w.map winE,e.length=2:=λe he=>by
 obtain⟨u,_,rfl⟩:=List.mem_map.1 he;rfl
structure JB (h H:Heap) (b y:Nat) (v:CV) (ws:List (Int×Int)):Prop where
 at':h.get b=some (.cells [v] false)
 lt:b<h.next
 lo:H.next<=b
 own:OwnG h H.next 2 v (ws.map winE)
 ne:idOf v≠[b]
 ny:idOf v≠[y]
 big:∀i,idOf v=[i]->i<h.next/\H.next<=i
theorem JB.other {h h' H:Heap} {b y:Nat} {v:CV} {ws:List (Int×Int)} (o:JB h H b y v ws) (hn:h.next<=h'.next) (hb:h'.get b=h.get b) (hk:∀i,idOf v=[i]->h'.get i=h.get i):JB h' H b y v ws:=by
 refine⟨hb.trans o.at',Nat.lt_of_lt_of_le o.lt hn,o.lo,?_,o.ne,o.ny,λi hi=>⟨Nat.lt_of_lt_of_le (o.big i hi).1 hn,(o.big i hi).2⟩⟩;rcases o.own with⟨h1,h2⟩|⟨i,rfl,h1,h2,h3,h4,h5⟩
 ·exact .inl ⟨h1,h2⟩
 ·exact .inr ⟨i,rfl,h1,by omega,(hk i rfl).trans h3,h4,h5⟩
theorem JB.sl {h H:Heap} {b y:Nat} {v:CV} {ws:List (Int×Int)} (o:JB h H b y v ws) (hv:ws=[]->v= .slice none 0 0 0):Sl h v ws:=by
 refine Sl.of_map Flat.iff ?_;rcases o.own with⟨h1,h2⟩|⟨i,rfl,h1,h2,h3,h4,h5⟩
 ·have hw:ws=[]:=by simpa using h2
  rw[hv hw,hw];exact .inl ⟨rfl,rfl⟩
 ·exact .inr (.inr ⟨i,0,_,2,_,false,rfl,h2,h3,λj e he=>⟨h4 e (List.mem_of_getElem? he),flat_cut h4 he⟩,Nat.le_refl _,.inr rfl⟩)
theorem drop_of {α:Type} {l:List α} {k:Nat} {u:α} (hu:l[k]? =some u):l.drop k=u::l.drop (k+1):=by
 have hk:=(List.getElem?_eq_some_iff.1 hu).1;rw[List.drop_eq_getElem_cons hk]
 congr 1
 rw[List.getElem?_eq_getElem hk]at hu;exact Option.some.inj hu
theorem joined_w {h:Heap} {tm:Tm} {Q:R->Prop} {b3 bt:Nat} {n:Nat} {t:Times} (fr:Fresh h) (L3:LocE h b3 0 [.int .i64 (n:Int)]) (Lt:LocE h bt 0 t.enc) (hn:n<=256) (b1:0<=t.frm/\t.frm<=1099511627776) (b2:0<=t.evr/\t.evr<=1099511627776) (b3':0<=t.len/\t.len<=1099511627776)
  (q:∀h' v,Ext h h'->Sl h' v (Wins.join ((List.range n).map (winAt t)))->Q (.val v h')):W E1 (.call (.fn 147 [] []) [.fn 227 [] [.ptr (some (b3,0)),.ptr (some (bt,0))]]) tm h Q:=by
 refine W.fn (s:=fnOf Tryz.f147) rfl rfl rfl rfl ?_;obtain⟨l,hl⟩:∃l,l=(List.range n).map (winAt t):=⟨_,rfl⟩;rw[<-hl]at q;have hll:l.length=n:=by rw[hl];simp
 have hlk:∀k,k<n->l[k]? =some (winAt t k):=λk hk=>by rw[hl,List.getElem?_map,List.getElem?_range hk];rfl
 repeat (first|refine W.g ?_|refine W.m λh_ X_ n_ g_ L_=> ?_)
 refine W.k2 2 5 λT=> ?_;refine W.rangeX rfl λB hB=> ?_;obtain⟨b,hb⟩:∃b,b=h.next:=⟨_,rfl⟩;obtain⟨y,hy⟩:∃y,y=h_.next:=⟨_,rfl⟩;have gb:h_.get b=some (.cells [.slice none 0 0 0] false):=by rw[hb];exact g_
 have XN:Ext h (h_.new B):=X_.trans (Ext.new _ _);rw[<-hy,<-hb];rw[<-hb]at hB;clear L_ g_;refine each_w (H:=h) (n:=n) (t:=t) y (λk h'=>∃v ws,JB h' h b y v ws/\h'.get y=some B/\y<h'.next/\Ext h h'/\(ws=[]->v= .slice none 0 0 0)/\ws.length<=k/\((k=0/\ws=[])\/∃done p,ws=done++[p]/\Wins.join l=done++Wins.joinP p (l.drop k))) L3 Lt hn b1 b2 b3' ?_ (λk h' ⟨_,_,_,_,_,X,_⟩=>X) ?_ ?_
 ·refine⟨_,[],⟨(Ext.new h_ B).old b (by omega) |>.trans gb,by show b<h_.next+1;omega,by omega,.inl ⟨.inl rfl,rfl⟩,(λe=>by cases e),(λe=>by cases e),(λi hi=>by cases hi)⟩,by rw[hy];exact new_same _ _,by show y<h_.next+1;omega,XN,λ_=>rfl,Nat.le_refl _,.inl ⟨rfl,rfl⟩⟩
 ·rintro k hk h' tm' Q' ⟨v,ws,jb,gy,ly,X,hv0,hwk,hst⟩ q2
  rw[hB]at gy;refine W.yieldX gy rfl ?_;repeat (first|refine W.g ?_|refine W.m λh_ X_ n_ g_ L_=> ?_)
  refine⟨_,_,_,_,_,(X_.old y ly).trans gy,λG nG gG kG=> ?_⟩;have hby:b≠y:=by omega
  have jbG:JB G h b y v ws:=jb.other (by omega) ((kG b hby).trans (X_.old b jb.lt)) λi hi=>(kG i (λe=>jb.ny (by rw[hi,e]))).trans (X_.old i (jb.big i hi).1);have Lw:LocE G h'.next 0 (winE (winAt t k)):=L_.of_get (kG _ (by omega)) (by omega);have Lb:LocE G b 0 [v]:=⟨_,_,jbG.at',jbG.lt,rfl⟩;have slG:=jbG.sl hv0;have XG:Ext h G:=⟨by have:=X.next;omega,λj hj=>(kG j (by omega)).trans ((X.trans X_).old j hj),λf j hj=>(kG j (by omega)).trans ((X.trans X_).fr f j (by omega))⟩;have hdr:l.drop k=winAt t k::l.drop (k+1):=drop_of (hlk k hk);have lyG:y<G.next:=by omega
  obtain⟨u,hu⟩:∃u,u=winAt t k:=⟨_,rfl⟩;rw[<-hu]at Lw hdr;clear jb gy X_ n_ g_ L_ gb XN X kG nG
  have fin:∀{tm:Tm} (J:Heap) (v':CV) (ws':List (Int×Int)),JB J h b y v' ws'->J.get y=G.get y->y<J.next->Ext h J->(ws'=[]->v'= .slice none 0 0 0)->ws'.length<=k+1->(∃done p,ws'=done++[p]/\Wins.join l=done++Wins.joinP p (l.drop (k+1)))->RoundQ y Q' (.code .normal tm J):=λ{tm} J v' ws' o gy2 ly2 X2 hv2 hl2 hs2=>by
   refine RoundQ.norm (gy2.trans gG) λJ2 n2 g2 k2=>q2 J2 ⟨v',ws',o.other (by omega) (k2 b hby) λi hi=>k2 i (λe=>o.ny (by rw[hi,e])),by rw[hB];exact g2,by omega,⟨by have:=X2.next;omega,λj hj=>(k2 j (by omega)).trans (X2.old j hj),λf j hj=>(k2 j (by omega)).trans (X2.fr f j (by omega))⟩,hv2,hl2,.inr hs2⟩
  repeat refine W.g ?_
  have ds:=DX.start (XG.fr fr);rcases hst with⟨hk0,rfl⟩|⟨done,p,rfl,hj⟩
  ·repeat refine W.gd ?_
   repeat (first|refine W.g ?_|refine W.n λh_ X_ n_ g_ S_=> ?_)
   have g7:h_.get G.next=some (.cells (winE u) false):=g_;have jbH:=jbG.other (h':=h_) (by omega) (X_.old b jbG.lt) λi hi=>X_.old i (jbG.big i hi).1;have gl:=jbG.lt;have xn:=XG.next
   refine W.ap1 (lo:=h.next) jbH.own (by omega) g7 rfl rfl rfl rfl rfl rfl rfl rfl rfl rfl rfl rfl rfl (by
    rw[List.length_map];show(_+1)*16<=_;omega) λv' h5 n5 O5 k5 ev g5 f5=> ?_
   subst ev;have gb5:=(k5 b (by omega) (.inr λn c x e=>jbG.ne (by rw[e];rfl))).trans jbH.at';refine W.stn (vs:=[.slice (some (h_.next,0)) ((([]).map winE).length+1) ((([]).map winE).length+1) 2]) (cs':=[.slice (some (h_.next,0)) ((([]).map winE).length+1) ((([]).map winE).length+1) 2]) rfl rfl rfl rfl rfl rfl gb5 rfl λJ nJ gJ kJ=> ?_;repeat refine W.g ?_
   have XJ:Ext h J:=⟨by omega,λj hj=>(kJ j (by omega)).trans ((k5 j (by omega) (.inr λn c x e=>by have:=(jbG.big j (by rw[e];rfl)).2;omega)).trans ((XG.trans X_).old j hj)),λf j hj=>(kJ j (by omega)).trans (f5 ((XG.trans X_).fr f) j (by omega))⟩;refine fin J _ (([])++[u]) ⟨gJ,by omega,by omega,.inr ⟨h_.next,by simp,by omega,by omega,(kJ _ (by omega)).trans (by rw[List.map_append];exact g5),winE_len,by simp⟩,(λe=>by have:h_.next=b:=(by simpa[idOf]using e);omega),(λe=>by have:h_.next=y:=(by simpa[idOf]using e);omega),λi hi=>by have:h_.next=i:=(by simpa[idOf]using hi);omega⟩ ((kJ y (by omega)).trans ((k5 y (by omega) (.inr λn c x e=>jbG.ny (by rw[e];rfl))).trans (X_.old y lyG))) (by omega) XJ (λe=>by simp at e) (by rw[List.length_append];exact Nat.succ_le_succ hwk) ⟨[],u,rfl,by rw[hk0,List.drop_zero]at hdr;rw[hdr,hk0];rfl⟩
  ·have hl1:(done++[p]).length=done.length+1:=by rw[List.length_append];rfl
   have hp:((done++[p]).map winE)[done.length]? =some (winE p):=by rw[List.getElem?_map,List.getElem?_append_right (Nat.le_refl _),Nat.sub_self];rfl
   rcases jbG.own with⟨_,hno⟩|⟨io,ev,l1,l2,l4,l5,_⟩
   ·simp at hno
   rw[List.length_map]at ev;subst ev;repeat (first|refine W.gd ?_|refine W.e λr_ h_ ds_ s_=> ?_)
   refine W.dix rfl rfl rfl rfl rfl rfl rfl (place_of (j:=done.length) (by omega) (by omega)) ?_;repeat refine W.gd ?_
   have ds2:=ds_;refine W.dldZ ds2 rfl rfl rfl l4 l2 rfl (v:= .int .i64 p.2) (flat_get l5 hp rfl) λr2 h2 ds3 s3=> ?_;clear ds_ ds2;have X3:=ds3.x;by_cases c2:u.1<=p.2
   ·repeat refine W.gd ?_
    repeat refine W.g ?_
    have ds5:=DX.start ((XG.trans X3).fr fr);clear ds ds3;repeat (first|refine W.gd ?_|refine W.e λr_ h_ ds_ s_=> ?_)
    refine W.dix rfl rfl rfl rfl rfl rfl rfl (place_of (j:=done.length) (by omega) (by omega)) ?_;repeat refine W.gd ?_
    have ds6:=ds_;refine W.dldZ ds6 rfl rfl rfl ((X3.old io l2).trans l4) (Nat.lt_of_lt_of_le l2 X3.next) rfl (v:= .int .i64 p.2) (flat_get l5 hp rfl) λr4 h4 ds7 s4=> ?_;clear ds_ ds6;repeat (first|refine W.gd ?_|refine W.e λr_ h_ ds_ s_=> ?_)
    refine W.dix rfl rfl rfl rfl rfl rfl rfl (place_of (j:=done.length) (by omega) (by omega)) ?_;repeat refine W.gd ?_
    have X4:=ds_.x;have XX:=X3.trans X4;refine W.dst (vs:=[.int .i64 (mx p.2 u.2)]) (cs':=(((done++[p]).map winE).set done.length ((winE p).set 1 (.int .i64 (mx p.2 u.2)))).flatten) ds_.hri rfl rfl rfl rfl rfl rfl rfl ((XX.old io l2).trans l4) (flat_setAt l5 (by decide) hp) λr5 J hr5 s5=> ?_;repeat refine W.gd ?_
    repeat refine W.g ?_
    have e5:((done++[p]).map winE).set done.length ((winE p).set 1 (.int .i64 (mx p.2 u.2)))=(done++[(p.1,if u.2<=p.2 then p.2 else u.2)]).map winE:=by
     rw[mx_eq,List.map_append,List.map_append,List.set_append_right _ _ (by rw[List.length_map];omega),List.length_map,Nat.sub_self];rfl
    have gJ:J.get io=some (.cells ((done++[(p.1,if u.2<=p.2 then p.2 else u.2)]).map winE).flatten false):=by
     rw[s5.get,put_same,e5]
    have kJ:∀k,k≠io->J.get k=G.get k\/G.next<=k:=λk hk=>by
     by_cases c:k<G.next
     ·left;rw[s5.get,Heap.get_put,if_neg (Ne.symm hk)];exact XX.old k c
     ·right;omega
    have nJ:G.next<=J.next:=by rw[s5.next];exact XX.next
    have XJ:Ext h J:=((XG.trans XX).put l1 (Nat.lt_of_lt_of_le l2 XX.next) _).trans s5.ext;have lb:=jbG.lt;have jne:io≠b:=λe=>jbG.ne (by rw[e];rfl);have jny:io≠y:=λe=>jbG.ny (by rw[e];rfl);have gbJ:J.get b=G.get b:=by rcases kJ b (Ne.symm jne)with e|e;exact e;omega
    have gyJ:J.get y=G.get y:=by rcases kJ y (Ne.symm jny)with e|e;exact e;omega
    have l1':(done++[(p.1,if u.2<=p.2 then p.2 else u.2)]).length=(done++[p]).length:=by rw[List.length_append,List.length_append];rfl
    exact fin J _ (done++[(p.1,if u.2<=p.2 then p.2 else u.2)]) ⟨gbJ.trans jbG.at',by omega,jbG.lo,.inr ⟨io,by rw[List.length_map,l1'],l1,by omega,gJ,winE_len,by simp⟩,jbG.ne,jbG.ny,λi hi=>⟨by have:=(jbG.big i hi).1;omega,(jbG.big i hi).2⟩⟩ gyJ (by omega) XJ (λe=>by simp at e) (by omega) ⟨done,_,rfl,by rw[hj,hdr];rw[show Wins.joinP p (u::l.drop (k+1))=if u.1<=p.2 then Wins.joinP (p.1,if u.2<=p.2 then p.2 else u.2) (l.drop (k+1))else p::Wins.joinP u (l.drop (k+1))from rfl,if_pos c2]⟩
   ·repeat refine W.gd ?_
    repeat (first|refine W.g ?_|refine W.n λh_ X_ n_ g_ S_=> ?_)
    have jb2:=jbG.other (h':=h2) X3.next (X3.old b jbG.lt) λi hi=>X3.old i (jbG.big i hi).1;have XG2:=XG.trans X3;have lyG2:y<h2.next:=Nat.lt_of_lt_of_le lyG X3.next;have g7:h_.get h2.next=some (.cells (winE u) false):=g_;have jbH:=jb2.other (h':=h_) (by omega) (X_.old b jb2.lt) λi hi=>X_.old i (jb2.big i hi).1;have gl:=jb2.lt;have xn:=XG2.next
    refine W.ap1 (lo:=h.next) jbH.own (by omega) g7 rfl rfl rfl rfl rfl rfl rfl rfl rfl rfl rfl rfl rfl (by
     rw[List.length_map];show(_+1)*16<=_;omega) λv' h5 n5 O5 k5 ev g5 f5=> ?_
    subst ev;have gb5:=(k5 b (by omega) (.inr λn c x e=>jb2.ne (by rw[e];rfl))).trans jbH.at';refine W.stn (vs:=[.slice (some (h_.next,0)) (((done++[p]).map winE).length+1) (((done++[p]).map winE).length+1) 2]) (cs':=[.slice (some (h_.next,0)) (((done++[p]).map winE).length+1) (((done++[p]).map winE).length+1) 2]) rfl rfl rfl rfl rfl rfl gb5 rfl λJ nJ gJ kJ=> ?_;repeat refine W.g ?_
    have XJ:Ext h J:=⟨by omega,λj hj=>(kJ j (by omega)).trans ((k5 j (by omega) (.inr λn c x e=>by have:=(jb2.big j (by rw[e];rfl)).2;omega)).trans ((XG2.trans X_).old j hj)),λf j hj=>(kJ j (by omega)).trans (f5 ((XG2.trans X_).fr f) j (by omega))⟩;refine fin J _ ((done++[p])++[u]) ⟨gJ,by omega,by omega,.inr ⟨h_.next,by simp,by omega,by omega,(kJ _ (by omega)).trans (by rw[List.map_append];exact g5),winE_len,by simp⟩,(λe=>by have:h_.next=b:=(by simpa[idOf]using e);omega),(λe=>by have:h_.next=y:=(by simpa[idOf]using e);omega),λi hi=>by have:h_.next=i:=(by simpa[idOf]using hi);omega⟩ ((kJ y (by omega)).trans ((k5 y (by omega) (.inr λn c x e=>jb2.ny (by rw[e];rfl))).trans ((X_.old y lyG2).trans (X3.old y lyG)))) (by omega) XJ (λe=>by simp at e) (by rw[List.length_append];exact Nat.succ_le_succ hwk) ⟨done++[p],u,rfl,by rw[hj,hdr,List.append_assoc];show done++Wins.joinP p (u::l.drop (k+1))=done++(p::Wins.joinP u (l.drop (k+1)));rw[show Wins.joinP p (u::l.drop (k+1))=if u.1<=p.2 then Wins.joinP (p.1,if u.2<=p.2 then p.2 else u.2) (l.drop (k+1))else p::Wins.joinP u (l.drop (k+1))from rfl,if_neg c2]⟩
 ·rintro h' ⟨v,ws,jb,gy,ly,X,hv0,hwk,hst⟩
  rw[hB]at gy;refine RangeQ.val gy rfl ?_;have hby:b≠y:=by omega
  have jd:JB (h'.del y) h b y v ws:=jb.other (Nat.le_refl _) (by rw[Heap.get_del,if_neg (Ne.symm hby)]) λi hi=>by rw[Heap.get_del,if_neg (λe=>jb.ny (by rw[hi,e]))]
  have Xd:Ext h (h'.del y):=X.del (by omega);obtain⟨K,hK⟩:∃K,K=h'.del y:=⟨_,rfl⟩;rw[<-hK]at jd Xd;rw[<-hK];have Lb:LocE K b 0 [v]:=⟨_,_,jd.at',jd.lt,rfl⟩;have sl:=jd.sl hv0;repeat refine W.g ?_
  refine W.stn (vs:=[v]) (cs':=[v]) rfl rfl rfl sl.cells rfl rfl jd.at' rfl λM nM gM kM=> ?_;repeat refine W.g ?_
  have je:JB M h b y v ws:=jd.other (by omega) (gM.trans jd.at'.symm) λi hi=>kM i (λe=>jd.ne (by rw[hi,e]));have XM:Ext h M:=Ext.store Xd nM kM (by omega) jd.lt
  have hj:Wins.join l=ws:=by
   rcases hst with⟨h0,rfl⟩|⟨done,p,rfl,hj⟩
   ·have:l=[]:=List.eq_nil_of_length_eq_zero (by omega)
    rw[this];rfl
   ·rw[hj,List.drop_of_length_le (by omega)];rfl
  refine BodyQ.cell1 rfl rfl gM rfl rfl ?_;exact q _ _ XM (by rw[hj];exact je.sl hv0)
end
end Go.Proofs.YtnjkaahbhebaeaaGreatDoor

namespace Go.Proofs.YtnjkaahbhebaeaaGreatDoor
open Go Go.CM Go.CM.Tt
noncomputable section
set_option maxHeartbeats 8000000
def winsT (t:Times) (hz:Int):List (Int×Int):=if t.err hz=0 then Wins.join ((List.range (countT t.frm t.evr hz).toNat).map (winAt t))else[]
theorem tick9_w {h:Heap} {tm:Tm} {Q:R->Prop} (t:Int) (q0:TickOk t->Q (.val (.int .i64 0) h)) (q9:¬TickOk t->Q (.val (.int .i64 9) h)):W E1 (.call (.fn 72 [] []) [.int .i64 t]) tm h Q:=by
 refine W.fn (s:=fnOf Tryz.f72) rfl rfl rfl rfl ?_;repeat refine W.g ?_
 refine W.call rfl rfl rfl (within_w 0 t 1099511627776 ?_);by_cases c:0<=t/\t<=1099511627776
 ·repeat refine W.g ?_
  exact q0 c
 ·repeat refine W.g ?_
  exact q9 c
theorem every_w {h:Heap} {tm:Tm} {Q:R->Prop} (t:Times) (n:Int) (q:∀h' b3 bt,Ext h h'->LocE h' b3 0 [.int .i64 n]->LocE h' bt 0 t.enc->Q (.val (.fn 227 [] [.ptr (some (b3,0)),.ptr (some (bt,0))]) h')):W E1 (.call (.fn 148 [] []) [.agg t.enc,.int .i64 n]) tm h Q:=by
 refine W.fn (s:=fnOf Tryz.f148) rfl rfl rfl rfl ?_;repeat (first|refine W.g ?_|refine W.m λh_ X_ n_ g_ L_=> ?_)
 rename_i ha Xa na ga La;exact q _ _ _ (Xa.trans X_) L_ (La.ext X_)
theorem wins_w {h:Heap} {tm:Tm} {Q:R->Prop} (t:Times) (hz:Int) (fr:Fresh h) (q:∀h' v,Ext h h'->Sl h' v (winsT t hz)->Q (.val (.tup [v,.int .i64 (t.err hz)]) h')):W E1 (.call (.fn 67 [] []) [.agg t.enc,.int .i64 hz]) tm h Q:=by
 refine W.fn (s:=fnOf Tryz.f67) rfl rfl rfl rfl ?_;repeat (refine W.seq ?_)
 refine W.region ?_;refine W.box rfl rfl rfl λH XH nH gH LH=> ?_;repeat refine W.g ?_
 refine W.call rfl rfl rfl (timesCheck_w t λh1 e X1 e1 e2=> ?_);by_cases ok:t.ok
 rotate_left
 ·have e2:=e2 ok
  subst e2;have er:t.err hz=2:=if_pos ok;repeat refine W.g ?_
  have:=q _ (.slice none 0 0 0) (XH.trans X1) (by unfold winsT;rw[er];exact Sl.nil);rw[er]at this;exact this
 have e1:=e1 ok;subst e1;refine W.k3 1 2 10 λT=> ?_;repeat refine W.g ?_
 refine W.call rfl rfl rfl (tick9_w hz (λtk=> ?_) λnt=> ?_)
 rotate_left
 ·have er:t.err hz=9:=by
    unfold Times.err;rw[if_neg (λg=>g ok),if_pos nt]
  repeat refine W.g ?_
  have:=q _ (.slice none 0 0 0) (XH.trans X1) (by unfold winsT;rw[er];exact Sl.nil);rw[er]at this;exact this
 refine W.k3 1 2 15 λT=> ?_;repeat refine W.g ?_
 obtain⟨o1,o2,o3,o4⟩:=ok
 have oe:TickOk t.evr:=by
  rcases o4 with g|g
  ·rw[g];exact⟨by omega,by omega⟩
  ·exact⟨by omega,g.2⟩
 refine W.call rfl rfl rfl (count_w t.frm t.evr hz o1 oe tk ?_);obtain⟨n,hn⟩:∃n,n=countT t.frm t.evr hz:=⟨_,rfl⟩;rw[<-hn]
 have n0:0<=n:=by
  rw[hn];unfold countT;split
  ·omega
  ·split
   ·omega
   ·have:=Int.ediv_nonneg (a:=hz-t.frm) (b:=t.evr) (by omega) oe.1
    omega
 by_cases c1:256<n
 ·have er:t.err hz=3:=by
    unfold Times.err;rw[if_neg (λg=>g ⟨o1,o2,o3,o4⟩),if_neg (λg=>g tk),if_pos (by rw[<-hn];exact c1)]
  repeat refine W.g ?_
  have:=q _ (.slice none 0 0 0) (XH.trans X1) (by unfold winsT;rw[er];exact Sl.nil);rw[er]at this;exact this
 have er:t.err hz=0:=by
  unfold Times.err;rw[if_neg (λg=>g ⟨o1,o2,o3,o4⟩),if_neg (λg=>g tk),if_neg (by rw[<-hn];exact c1)]
 refine W.k3 1 2 24 λT=> ?_;repeat refine W.g ?_
 refine W.call rfl rfl rfl (every_w t n λh2 b3 bt X2 L3 Lt=> ?_);repeat refine W.g ?_
 have Y2:=XH.trans (X1.trans X2);obtain⟨m,hm⟩:∃m:Nat,n=(m:Int):=⟨n.toNat,by omega⟩;rw[hm]at L3;refine W.call rfl rfl rfl (joined_w (Y2.fr fr) L3 Lt (by omega) o1 oe ⟨by omega,o3⟩ λh3 v X3 s=> ?_);repeat refine W.g ?_
 have:=q _ v (Y2.trans X3) (by
  unfold winsT;rw[if_pos er,<-hn,hm];exact s)
 rw[er]at this;exact this
end
end Go.Proofs.YtnjkaahbhebaeaaGreatDoor
