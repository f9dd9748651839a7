/- The document's answer: what is wrong with times. No condition but that memory beyond the next number is empty. -/
import Derived.Test.YtfheibkikpefkaaGreatDoorXU
import Derived.Test.YtfheibkikpefkaaGreatDoorYO
import Derived.Test.YtfheibkikpefkaaGreatDoorYP
import Derived.Test.YtfheibkikpefkaaGreatDoorXZ
set_option linter.unusedVariables false
set_option linter.unusedSimpArgs false
namespace Go.Proofs.YtfheibkikpefkaaGreatDoor
open Go Go.CM Go.CM.Tt
noncomputable section
set_option maxHeartbeats 8000000
theorem xB {h:Heap} {tm:Tm} {Q:R->Prop} (t:Times) (q:∀h' (e:Int),Ext h h'->(t.ok->e=0)->(¬t.ok->e=2)->Q (.val (.int .i64 e) h')):W E1 (.call (.fn 85 [] []) [.agg t.enc]) tm h Q:=by
 refine W.fn (s:=aB Tryz.f85) rfl rfl rfl rfl ?_;repeat (first|refine W.g ?_|refine W.m λh_ X_ n_ g_ L_=> ?_)
 refine W.call rfl rfl rfl (jE t.frm (λha=> ?_) λhn=> ?_)
 rotate_left
 ·repeat refine W.g ?_
  exact q _ 2 X_ (λg=>absurd g.1 hn) (λ_=>rfl)
 by_cases c1:t.len<1
 ·repeat refine W.g ?_
  exact q _ 2 X_ (λg=>by have:=g.2.1;omega) (λ_=>rfl)
 by_cases c2:1099511627776<t.len
 ·repeat refine W.g ?_
  exact q _ 2 X_ (λg=>by have:=g.2.2.1;omega) (λ_=>rfl)
 by_cases c3:t.evr=0
 ·repeat refine W.g ?_
  exact q _ 0 X_ (λ_=>rfl) (λg=>absurd ⟨ha,by omega,by omega,.inl c3⟩ g)
 by_cases c4:t.evr<t.len
 ·repeat refine W.g ?_
  exact q _ 2 X_ (λg=>by rcases g.2.2.2 with g|g;exact absurd g c3;omega) (λ_=>rfl)
 by_cases c5:1099511627776<t.evr
 ·repeat refine W.g ?_
  exact q _ 2 X_ (λg=>by rcases g.2.2.2 with g|g;exact absurd g c3;omega) (λ_=>rfl)
 repeat refine W.g ?_
 exact q _ 0 X_ (λ_=>rfl) (λg=>absurd ⟨ha,by omega,by omega,.inr ⟨by omega,by omega⟩⟩ g)
theorem aHy {h:Heap} {tm:Tm} {Q:R->Prop} {v:CV} {l:List (Int×Int)} (fr:Fresh h) (sl:Sl h v l) (hm:l.length<=1024)
  (q:∀h' v',Ext h h'->Q (.val v' h')):W E1 (.call (.fn 88 [] []) [v]) tm h Q:=by
 refine W.fn (s:=aB Tryz.f88) rfl rfl rfl rfl ?_;repeat refine W.g ?_
 refine W.loop (σ:=Nat) (λk tm h'=>Ext h h'/\tm.look 0=v/\tm.look 4= .int .i64 (k:Int)/\k<=l.length/\∃(vo:CV) (ws:List (Int×Int)),tm.look 3=vo/\ws.length<=k/\OwnR h' h.next 2 vo (ws.map Flat.enc)) (λk=>l.length-k) ?_ (s:=0)
  ⟨Ext.refl _,rfl,rfl,Nat.zero_le _,_,[],rfl,Nat.le_refl _,OwnR.nil⟩
 rintro k tm h' ⟨X,w0,w4,hk,vo,ws,w3,hw,O⟩;by_cases c1:k<l.length
 rotate_left
 ·skip
  obtain⟨T,rfl⟩:=cF w0 w3 w4;clear w0 w3 w4;repeat refine W.g ?_
  exact q _ _ X
 have sl':=sl.ext X;rcases List.eq_nil_or_concat ws with rfl|⟨done,p,rfl⟩
 ·obtain⟨pv,nv,cv,xv,e⟩:=O.form
  have hnv:nv=0:=by
   rcases O with⟨_,ev⟩|⟨i,x,ro,ev,_⟩
   ·rw[e]at ev;cases ev;rfl
   ·rw[e]at ev;cases ev;rfl
  subst hnv;cases e;obtain⟨T,rfl⟩:=cF w0 w3 w4;clear w0 w3 w4;repeat refine W.g ?_
  have ds:=aD (X.fr fr);repeat refine aC ?_
  repeat refine W.g ?_
  refine cH λi_ o_ L_=> ?_;repeat (first|refine W.g ?_|refine W.n λh_ X_ n_ g_ S_=> ?_)
  have S_:SlG _ 2 _ (([l[k]]:List (Int×Int)).map Flat.enc):=S_
  refine dK (H:=h) (z:=2) Ext.x (O.ext Ext.x) S_ rfl rfl rfl rfl rfl rfl rfl rfl rfl rfl rfl rfl (by
   simp only[List.length_map,List.length_cons,List.length_nil];show _*16<=_;omega) λv' h2 X2 O2=> ?_
  repeat refine W.g ?_
  exact⟨k+1,aI c1,X2,rfl,rfl,c1,_,[l[k]],rfl,by simp,O2⟩
 ·have hl1:(done++[p]).length=done.length+1:=by rw[List.length_append];rfl
  have hl2:((done++[p]).map (Flat.enc:Int×Int->List CV)).length=done.length+1:=by rw[List.length_map];exact hl1
  rw[List.concat_eq_append]at O hw;have hp:((done++[p]).map (Flat.enc:Int×Int->List CV))[done.length]? =some (winE p):=by rw[List.getElem?_map,List.getElem?_append_right (Nat.le_refl _),Nat.sub_self];rfl
  obtain⟨io,c,x,ev,lo,li,hid,gi,hz⟩:=O.at (j:=done.length) (by omega);rw[hl2]at ev;subst ev;have hj:Int.ofNat (done.length+1)=(done.length:Int)+1:=rfl;obtain⟨T,rfl⟩:=cF w0 w3 w4;clear w0 w3 w4;repeat refine W.g ?_
  have ds:=aD (X.fr fr);repeat refine aC ?_
  refine aE sl' c1 rfl rfl rfl rfl rfl rfl rfl λi1 o1 L1=> ?_;repeat (first|refine aC ?_|refine W.e λr_ h_ ds_ s_=> ?_)
  refine iY rfl rfl rfl rfl rfl rfl rfl (bE (j:=done.length) (by omega) (by omega)) ?_;repeat refine aC ?_
  have ds2:=ds_;refine lV ds2 rfl rfl rfl gi li rfl (v:= .int .i64 p.2) (kH hz hp rfl) λr2 h2 ds3 s3=> ?_;clear ds_ ds2;have X3:=ds3.x;by_cases c2:l[k].1<=p.2
  ·repeat refine aC ?_
   repeat refine W.g ?_
   have ds5:=aD ((X.trans X3).fr fr);clear ds ds3;repeat refine aC ?_
   refine iY rfl rfl rfl rfl rfl rfl rfl (bE (j:=done.length) (by omega) (by omega)) ?_;repeat refine aC ?_
   refine lV ds5 rfl rfl rfl ((X3.old io li).trans gi) (Nat.lt_of_lt_of_le li X3.next) rfl (v:= .int .i64 p.2) (kH hz hp rfl) λr4 h4 ds7 s4=> ?_;repeat refine aC ?_
   refine aE (sl'.ext X3) c1 rfl rfl rfl rfl rfl rfl rfl λi2 o2 L2=> ?_;repeat (first|refine aC ?_|refine W.e λr_ h_ ds_ s_=> ?_)
   refine iY rfl rfl rfl rfl rfl rfl rfl (bE (j:=done.length) (by omega) (by omega)) ?_;repeat refine aC ?_
   have X4:=ds_.x;have XX:=X3.trans X4;refine W.dst (vs:=[.int .i64 (mx p.2 l[k].2)]) (cs':=(((done++[p]).map Flat.enc).set done.length ((winE p).set 1 (.int .i64 (mx p.2 l[k].2)))).flatten) ds_.hri rfl rfl rfl rfl rfl rfl rfl ((XX.old io li).trans gi) (fB hz (by decide) hp) λr5 J hr5 s5=> ?_;repeat refine aC ?_
   repeat refine W.g ?_
   have e5:((done++[p]).map (Flat.enc:Int×Int->List CV)).set done.length ((winE p).set 1 (.int .i64 (mx p.2 l[k].2)))=(done++[(p.1,mx p.2 l[k].2)]).map Flat.enc:=by
    rw[List.map_append,List.map_append,List.set_append_right _ _ (by rw[List.length_map];omega),List.length_map,Nat.sub_self];rfl
   have O2:=(O.ext XX).set (h':=J) (j:=done.length) (i:=io) (e:=(winE p).set 1 (.int .i64 (mx p.2 l[k].2))) (by omega) rfl (by rw[s5.next];rfl) hid (by rw[s5.get,aG]);rw[e5]at O2;have XJ:Ext h J:=((X.trans XX).put lo (Nat.lt_of_lt_of_le li XX.next) _).trans s5.ext;exact⟨k+1,aI c1,XJ,rfl,rfl,c1,_,_,rfl,by rw[List.length_append]at hw ⊢;exact Nat.le_succ_of_le hw,O2⟩
  ·repeat refine aC ?_
   repeat refine W.g ?_
   have sl2:=sl'.ext X3;refine cH λi_ o_ L_=> ?_;repeat (first|refine W.g ?_|refine W.n λh_ X_ n_ g_ S_=> ?_)
   have S_:SlG _ 2 _ (([l[k]]:List (Int×Int)).map Flat.enc):=S_
   refine dK (H:=h) (z:=2) (X.trans (X3.trans X_)) (O.ext (X3.trans X_)) S_ rfl rfl rfl rfl rfl rfl rfl rfl rfl rfl rfl rfl (by
    rw[hl2];simp only[List.length_map,List.length_cons,List.length_nil];show _*16<=_;omega) λv' h2 X2 O2=> ?_
   repeat refine W.g ?_
   exact⟨k+1,aI c1,X2,rfl,rfl,c1,_,(done++[p])++[l[k]],rfl,by rw[List.length_append];exact Nat.succ_le_succ hw,by rw[List.map_append];exact O2⟩
theorem aOz {h:Heap} {tm:Tm} {Q:R->Prop} (t:Times) (hz:Int) (fr:Fresh h) (q:∀h' v,Ext h h'->Q (.val (.tup [v,.int .i64 (t.err hz)]) h')):W E1 (.call (.fn 33 [] []) [.agg t.enc,.int .i64 hz]) tm h Q:=by
 refine W.fn (s:=aB Tryz.f33) rfl rfl rfl rfl ?_;repeat (refine W.seq ?_)
 refine W.region ?_;refine W.box rfl rfl rfl λH XH nH gH LH=> ?_;repeat refine W.g ?_
 refine W.call rfl rfl rfl (xB t λh1 e X1 e1 e2=> ?_);by_cases ok:t.ok
 rotate_left
 ·have e2:=e2 ok
  subst e2;have er:t.err hz=2:=if_pos ok;rw[er]at q;repeat refine W.g ?_
  exact q _ _ (XH.trans X1)
 have e1:=e1 ok;subst e1;refine cD 1 2 12 λT=> ?_;repeat refine W.g ?_
 refine W.call rfl rfl rfl (jE hz (λtk=> ?_) λnt=> ?_)
 rotate_left
 ·have er:t.err hz=9:=by
    unfold Times.err;rw[if_neg (λg=>g ok),if_pos nt]
  rw[er]at q;repeat refine W.g ?_
  exact q _ _ (XH.trans X1)
 refine cD 1 2 16 λT=> ?_;repeat refine W.g ?_
 obtain⟨o1,o2,o3,o4⟩:=ok
 have oe:TickOk t.evr:=by
  rcases o4 with g|g
  ·rw[g];exact⟨by omega,by omega⟩
  ·exact⟨by omega,g.2⟩
 refine W.call rfl rfl rfl (vK t.frm t.evr hz ?_);rw[if_pos ⟨o1,oe,tk⟩];obtain⟨n,hn⟩:∃n,n=bD t.frm t.evr hz:=⟨_,rfl⟩;rw[<-hn]
 have n0:0<=n:=by
  rw[hn];unfold bD;split
  ·omega
  ·split
   ·omega
   ·have:=Int.ediv_nonneg (a:=hz-t.frm) (b:=t.evr) (by omega) oe.1
    omega
 by_cases c1:256<n
 ·have er:t.err hz=3:=by
    unfold Times.err;rw[if_neg (λg=>g ⟨o1,o2,o3,o4⟩),if_neg (λg=>g tk),if_pos (by rw[<-hn];exact c1)]
  rw[er]at q;repeat refine W.g ?_
  exact q _ _ (XH.trans X1)
 have er:t.err hz=0:=by
  unfold Times.err;rw[if_neg (λg=>g ⟨o1,o2,o3,o4⟩),if_neg (λg=>g tk),if_neg (by rw[<-hn];exact c1)]
 rw[er]at q;obtain⟨m,hm⟩:∃m:Nat,n=(m:Int):=⟨n.toNat,by omega⟩;clear hn;subst hm;refine cD 1 2 25 λT=> ?_;repeat refine W.g ?_
 have f1:=o1.1;have f2:=o1.2;have g1:=oe.1;have g2:=oe.2
 refine W.loop (σ:=Nat) (λk tm h'=>Ext h1 h'/\tm.look 2= .ptr (some (h.next,0))/\tm.look 7= .int .i64 (m:Int)/\tm.look 9= .int .i64 (k:Int)/\k<=m/\∃vo,tm.look 8=vo/\OwnR h' h1.next 2 vo (((List.range k).map (eE t)).map Flat.enc)) (λk=>m-k) ?_ (s:=0)
  ⟨Ext.refl _,rfl,rfl,rfl,Nat.zero_le _,_,rfl,OwnR.nil⟩
 rintro k tm h' ⟨X,w2,w7,w9,hk,vo,w8,O⟩;obtain⟨pv,nv,cv,xv,e⟩:=O.form;cases e;obtain⟨T,rfl⟩:=cE w2 w7 w8 w9;clear w2 w7 w8 w9;by_cases c2:k<m
 ·have p0:0<=(k:Int)*t.evr:=Int.mul_nonneg (by omega) g1
  have p1:(k:Int)*t.evr<=256*1099511627776:=Int.mul_le_mul (by omega) g2 g1 (by omega);have p2: -9223372036854775808<=(k:Int)*t.evr:=by omega
  have p3:(k:Int)*t.evr<=9223372036854775807:=by omega
  repeat (first|refine W.g ?_|refine W.n λh_ X_ n_ g_ S_=> ?_)
  have S_:SlG _ 2 _ (([eE t k]:List (Int×Int)).map Flat.enc):=S_
  refine dK (H:=h1) (z:=2) Ext.x (O.ext Ext.x) S_ rfl rfl rfl rfl rfl rfl rfl rfl rfl rfl rfl rfl (by
   simp only[List.length_map,List.length_cons,List.length_nil,List.length_range];show _*16<=_;omega) λv' h2 X2 O2=> ?_
  repeat refine W.g ?_
  exact⟨k+1,aI c2,X2,rfl,rfl,rfl,c2,_,rfl,by rw[List.range_succ,List.map_append,List.map_append];exact O2⟩
 ·have sl:=bZ Flat.iff O.sl
  repeat refine W.g ?_
  refine W.call rfl rfl rfl (aHy ((X1.trans X).fr (XH.fr fr)) sl (by rw[List.length_map,List.length_range];omega) λh3 v3 X3=> ?_);repeat refine W.g ?_
  exact q _ _ (XH.trans (X1.trans (X.trans X3)))
theorem aBp {h:Heap} {tm:Tm} {Q:R->Prop} (t:Times) (hz:Int) (fr:Fresh h) (q:∀h',Ext h h'->Q (.val (.int .i64 (t.err hz)) h')):W E1 (.call (.fn 138 [] []) [.agg t.enc,.int .i64 hz]) tm h Q:=by
 refine W.fn (s:=aB Tryz.f138) rfl rfl rfl rfl ?_;repeat (refine W.seq ?_)
 refine W.region ?_;refine W.box rfl rfl rfl λH XH nH gH LH=> ?_;repeat refine W.g ?_
 refine W.call rfl rfl rfl (aOz t hz (XH.fr fr) λh1 v X1=> ?_);repeat refine W.g ?_
 exact q _ (XH.trans X1)
end
end Go.Proofs.YtfheibkikpefkaaGreatDoor
