/- Is a route's ride too short, or does it stay where it is? No condition but that memory beyond the next number is empty. -/
import Derived.Test.YtfheibkikpefkaaGreatDoorXU
import Derived.Test.YtfheibkikpefkaaGreatDoorXP1
import Derived.Test.YtfheibkikpefkaaGreatDoorEC
import Derived.Test.YtfheibkikpefkaaGreatDoorYM
set_option linter.unusedVariables false
set_option linter.unusedSimpArgs false
namespace Go.Proofs.YtfheibkikpefkaaGreatDoor
open Go Go.CM Go.CM.Tt
noncomputable section
set_option maxHeartbeats 8000000
theorem routeChk_w {h:Heap} {tm:Tm} {Q:R->Prop} {cb:Nat} {w:WorldD} {tp:CV} (ck:Chk h cb w tp) (fr:Fresh h) (i:Nat) (hi:i<w.routes.length) (hl:w.routes[i].rides.length+1=w.routes[i].stops.length) (hs:w.routes[i].stops.length<=1000) (q:∀h',Ext h h'->Q (.val (.int .i64 (RouteW.err w.routes[i])) h')):W E1 (.call (.fn 216 [.ptr (some (cb,0))] []) [.int .i64 (i:Int)]) tm h Q:=by
 obtain⟨wb,cs,Lc,Lw,r⟩:=ck.c;obtain⟨v1,v2,v3,v4,v5,v6,v7,v8,v9,v10,v11,rfl,s1,s2,s3,s4,s5,s6,s7,s8,s9,s10,s11⟩:=r;refine W.fn (s:=fnOf Tryz.f216) rfl rfl rfl rfl ?_;obtain⟨r,hr⟩:∃r,r=w.routes[i]:=⟨_,rfl⟩;unfold RouteW.err at q;rw[<-hr]at hl hs q;repeat refine W.g ?_
 refine W.ixR s9 hi rfl rfl rfl rfl rfl rfl rfl λi_ o_ e L_ r_=> ?_;rw[<-hr]at r_;obtain⟨u1,u2,u3,rfl,t1,t2,t3⟩:=r_;repeat (first|refine W.g ?_|refine W.m λh_ X_ n_ g_ L_=> ?_)
 have X0:=X_;have L0:LocE h_ h.next 0 [u1,u2,u3]:=L_;obtain⟨H,hH⟩:∃H,H=h_:=⟨_,rfl⟩;rw[<-hH]at X0 L0;refine W.call rfl rfl rfl (containsI_w (-1) (t1.ext X_) (by omega) λb hb=> ?_);cases b
 rotate_left
 ·rw[if_pos (hb.1 rfl)]at q
  repeat refine W.g ?_
  exact q _ X_
 have hno:¬(-1:Int)∈r.stops:=λh=>by cases hb.2 h
 rw[if_neg hno]at q;refine W.k2 5 20 λT=> ?_;rw[<-hH];clear hH X_ n_ g_ L_;repeat refine W.g ?_
 refine W.loop (σ:=Nat) (λk tm h'=>Ext H h'/\tm.look 5= .ptr (some (h.next,0))/\tm.look 22=u2/\tm.look 23= .int .i64 (r.rides.length:Int)/\tm.look 24= .int .i64 (k:Int)/\k<=r.rides.length/\∀j,j<k->¬r.badAt j) (λk=>r.rides.length-k) ?_ (s:=0)
  ⟨Ext.refl _,rfl,rfl,rfl,rfl,Nat.zero_le _,λj hj=>by omega⟩
 rintro k tm h' ⟨X,w5,w22,w23,w24,hk,hn⟩;obtain⟨T,rfl⟩:=Tm.t4 w5 w22 w23 w24;clear w5 w22 w23 w24;by_cases c1:k<r.rides.length
 rotate_left
 ·repeat refine W.g ?_
  rw[if_neg (λ⟨j,hj,hb⟩=>hn j (by omega) hb)]at q;exact q _ (X0.trans X)
 have Xh:=X0.trans X;have g0:r.rides.getD k 0=r.rides[k]:=by simp[List.getD,List.getElem?_eq_getElem c1]
 have g1:r.stops.getD k 0=r.stops[k]:=by simp[List.getD,List.getElem?_eq_getElem (show k<r.stops.length by omega)]
 have g2:r.stops.getD (k+1) 0=r.stops[k+1]:=by simp[List.getD,List.getElem?_eq_getElem (show k+1<r.stops.length by omega)]
 repeat refine W.g ?_
 refine W.iz λi_ o_ L_=> ?_;repeat refine W.g ?_
 have ds:=DX.start (Xh.fr fr);by_cases c2:r.rides[k]<1
 ·repeat refine W.gd ?_
  repeat refine W.g ?_
  rw[if_pos ⟨k,c1,.inl (by rw[g0];exact c2)⟩]at q;exact q _ (Xh.trans ds.x)
 repeat (first|refine W.gd ?_|refine W.e λr_ h_ ds_ s_=> ?_)
 refine W.dixF (j:=k) t1 (by omega) rfl rfl rfl rfl rfl rfl rfl λi1 o1 L1=> ?_;repeat (first|refine W.gd ?_|refine W.e λr_ h_ ds_ s_=> ?_)
 refine W.dixF (j:=k+1) t1 (by omega) rfl rfl rfl rfl rfl rfl rfl λi2 o2 L2=> ?_;repeat (first|refine W.gd ?_|refine W.e λr_ h_ ds_ s_=> ?_)
 have X9:=ds_.x;by_cases c3:r.stops[k]=r.stops[k+1]
 ·repeat refine W.gd ?_
  repeat refine W.g ?_
  rw[if_pos ⟨k,c1,.inr (by rw[g1,g2];exact c3)⟩]at q;exact q _ (Xh.trans X9)
 ·repeat refine W.gd ?_
  repeat refine W.g ?_
  refine⟨k+1,lessN c1,X.trans X9,rfl,rfl,rfl,rfl,c1,λj hj hb=> ?_⟩;by_cases e:j=k
  ·subst e
   rcases hb with hb|hb
   ·rw[g0]at hb;exact c2 hb
   ·rw[g1,g2]at hb;exact c3 hb
  ·exact hn j (by omega) hb
end
end Go.Proofs.YtfheibkikpefkaaGreatDoor

namespace Go.Proofs.YtfheibkikpefkaaGreatDoor
open Go Go.CM Go.CM.Tt
noncomputable section
set_option maxHeartbeats 8000000
theorem kinds_w {h:Heap} {tm:Tm} {Q:R->Prop} {p o:Nat} (fr:Fresh h) (q:∀h' z,Ext h h'->h.next<=z->z<h'.next->LocE h' z 0 [.slice none 0 0 0]->Q (.val (.agg [.ptr (some (z,0)),.ptr (some (p,o+0)),.ptr (some (p,o+1)),.ptr (some (p,o+2)),.ptr (some (p,o+3)),.ptr (some (p,o+4)),.ptr (some (p,o+5))]) h')):W E1 (.call (.fn 211 [] []) [.ptr (some (p,o))]) tm h Q:=by
 refine W.fn (s:=fnOf Tryz.f211) rfl rfl rfl rfl ?_;repeat (first|refine W.g ?_|refine W.m λh_ X_ n_ g_ L_=> ?_|refine W.n λh_ X_ n_ g_ S_=> ?_|refine W.opn rfl rfl rfl ?_)
 have ds:=DX.start (X_.fr fr);refine W.dalZ ds rfl rfl rfl λr1 h1 ds1 x1 n1 g1=> ?_;repeat refine W.gd ?_
 refine W.dst (vs:=[.ptr (some (h_.next,0)),.ptr (some (p,o+0)),.ptr (some (p,o+1)),.ptr (some (p,o+2)),.ptr (some (p,o+3)),.ptr (some (p,o+4)),.ptr (some (p,o+5))]) (cs':=[.ptr (some (h_.next,0)),.ptr (some (p,o+0)),.ptr (some (p,o+1)),.ptr (some (p,o+2)),.ptr (some (p,o+3)),.ptr (some (p,o+4)),.ptr (some (p,o+5))]) ds1.hri rfl rfl rfl rfl rfl rfl rfl ((ds1.x.old h.next (by omega)).trans g_) rfl λr4 h4 hr4 s4=> ?_;have g4:h4.get h.next=some (.cells [.ptr (some (h_.next,0)),.ptr (some (p,o+0)),.ptr (some (p,o+1)),.ptr (some (p,o+2)),.ptr (some (p,o+3)),.ptr (some (p,o+4)),.ptr (some (p,o+5))] false):=by rw[s4.get,put_same]
 have Xf:Ext h h4:=((X_.trans x1).put (Nat.le_refl _) (by omega) _).trans s4.ext;repeat refine W.gd ?_
 repeat (first|refine W.g ?_|refine W.m λh_ X_ n_ g_ L_=> ?_|refine W.n λh_ X_ n_ g_ S_=> ?_|refine W.opn rfl rfl rfl ?_)
 refine BodyQ.cell1 rfl rfl g4 rfl rfl ?_;refine q _ h_.next Xf (by omega) (by rw[s4.next];show h_.next<h1.next;omega) ⟨_,_,(by rw[s4.get,Heap.get_put,if_neg (by omega)];exact g1),by rw[s4.next];show h_.next<h1.next;omega,rfl⟩
structure TabR (h:Heap) (lo tb:Nat) (P:Nat->Prop) (names:List Str):Prop where
 c:∃v mb es clock,h.get tb=some (.cells [v,.map (some mb)] false)/\tb<h.next/\OwnR h lo 1 v (names.map Flat.enc)/\h.get mb=some (.map es clock)/\mb<h.next/\es.map (·.key)=names.map CV.str/\lo<=tb/\lo<=mb/\tb≠mb/\idOf v≠[tb]/\idOf v≠[mb]/\∀k,P k->k<h.next/\k≠tb/\k≠mb/\idOf v≠[k]
theorem TabR.grow {h h':Heap} {lo tb:Nat} {P:Nat->Prop} {names:List Str} (t:TabR h lo tb P names) (x:Ext h h'):TabR h' lo tb (λk=>P k\/(h.next<=k/\k<h'.next)) names:=by
 obtain⟨v,mb,es,clock,gt,lt,O,gm,lm,ek,lo1,lo2,ne1,ne2,ne3,hp⟩:=t.c;refine⟨v,mb,es,clock,(x.old _ lt).trans gt,Nat.lt_of_lt_of_le lt x.next,O.ext x,(x.old _ lm).trans gm,Nat.lt_of_lt_of_le lm x.next,ek,lo1,lo2,ne1,ne2,ne3,λk hk=> ?_⟩;rcases hk with hk|⟨h1,h2⟩
 ·obtain⟨g1,g2⟩:=hp k hk
  exact⟨Nat.lt_of_lt_of_le g1 x.next,g2⟩
 ·refine⟨h2,by omega,by omega,λe=> ?_⟩
  have:=(O.idlt e).1;omega
theorem TabR.ext {h h':Heap} {lo tb:Nat} {P:Nat->Prop} {names:List Str} (t:TabR h lo tb P names) (x:Ext h h'):TabR h' lo tb P names:=by
 obtain⟨v,mb,es,clock,gt,lt,O,gm,lm,ek,lo1,lo2,ne1,ne2,ne3,hp⟩:=t.c;exact⟨v,mb,es,clock,(x.old _ lt).trans gt,Nat.lt_of_lt_of_le lt x.next,O.ext x,(x.old _ lm).trans gm,Nat.lt_of_lt_of_le lm x.next,ek,lo1,lo2,ne1,ne2,ne3,λk hk=>⟨Nat.lt_of_lt_of_le (hp k hk).1 x.next,(hp k hk).2⟩⟩
theorem new_w {h:Heap} {tm:Tm} {Q:R->Prop} (q:∀h' tb,Ext h h'->TabR h' h.next tb (λ_=>False) []->Q (.val (.tup [.ptr (some (tb,0)),.int .i64 0]) h')):W E1 (.call (.fn 210 [] []) [.slice none 0 0 0]) tm h Q:=by
 refine W.fn (s:=fnOf Tryz.f210) rfl rfl rfl rfl ?_;repeat (first|refine W.g ?_|refine W.m λh_ X_ n_ g_ L_=> ?_|refine W.n λh_ X_ n_ g_ S_=> ?_|refine W.opn rfl rfl rfl ?_)
 have g0:h_.get (h.next+1)=some (.cells [.slice none 0 0 0,.map (some h.next)] false):=g_;have n0:h_.next=h.next+2:=n_;have Xh:Ext h h_:=(Ext.new _ _).trans X_;have gm:h_.get h.next=some (.map [] 0):=(X_.old h.next (Nat.lt_succ_self _)).trans (new_same _ _);clear L_ g_ X_ n_;refine W.loop (σ:=Nat) (λk tm h'=>h'=h_/\tm.look 4= .ptr (some (h.next+1,0))/\tm.look 14= .int .i64 0/\tm.look 15= .int .i64 0) (λ_=>0) ?_ (s:=0) ⟨rfl,rfl,rfl,rfl⟩;rintro k tm h' ⟨rfl,w4,w14,w15⟩;obtain⟨T,rfl⟩:=Tm.t3 w4 w14 w15;clear w4 w14 w15;repeat (first|refine W.g ?_|refine W.m λh_ X_ n_ g_ L_=> ?_|refine W.n λh_ X_ n_ g_ S_=> ?_|refine W.opn rfl rfl rfl ?_)
 exact q _ _ Xh ⟨_,_,_,_,g0,by omega,OwnR.nil,gm,by omega,rfl,by omega,Nat.le_refl _,by omega,λe=>(by cases e),λe=>(by cases e),λ_ h=>h.elim⟩
end
end Go.Proofs.YtfheibkikpefkaaGreatDoor

noncomputable section
namespace Go.CM
theorem findKey_str {E:Env} {kt:TypeId} (hq:∀a b:Str,eqT E 20 kt (.str a) (.str b)=some (bytesEq a b)) {s:Str}:∀{es:List ME} {names:List Str} {i:Nat},es.map (·.key)=names.map CV.str->
  (s∈names->∃p,findKey E kt (.str s) es i=some (some p))/\(s∉names->findKey E kt (.str s) es i=some none)
 |[],[],i,_=>⟨λh=>(by cases h),λ_=>rfl⟩
 |[],a::names,i,h=>by simp at h
 |e::es,[],i,h=>by simp at h
 |e::es,a::names,i,h=>by
  have h1:e.key= .str a:=by simpa using(List.cons.inj h).1
  have h2:es.map (·.key)=names.map CV.str:=(List.cons.inj h).2;have ih:=findKey_str hq (s:=s) (es:=es) (names:=names) (i:=i+1) h2;unfold findKey;rw[h1,hq,bytesEq_eq];by_cases c:s=a
  ·rw[decide_eq_true c]
   exact⟨λ_=>⟨_,rfl⟩,λh=>absurd (by rw[c];simp) h⟩
  ·rw[decide_eq_false c]
   refine⟨λh=>ih.1 ?_,λh=>ih.2 λh2=>h (List.mem_cons_of_mem _ h2)⟩;rcases List.mem_cons.1 h with h|h
   ·exact absurd h c
   ·exact h
theorem findBorn_some {n:Nat}:∀{es:List ME} {j:Nat},(∃e∈es,e.born=n)->∃i,findBorn (Int.ofNat n) es j=some i
 |[],j,h=>by obtain⟨e,he,_⟩:=h;cases he
 |e::es,j,h=>by
  unfold findBorn;cases hb:intEq (Int.ofNat e.born) (Int.ofNat n)with
  |true=>exact⟨j,rfl⟩
  |false=>
   obtain⟨e',he,hn⟩:=h;rcases List.mem_cons.1 he with rfl|he
   ·rw[hn,intEq_eq]at hb
    simp at hb
   ·exact findBorn_some ⟨e',he,hn⟩
theorem setME_keys {f:ME->ME} (hf:∀e,(f e).key=e.key):∀(es:List ME) (i:Nat),(setME es f i).map (·.key)=es.map (·.key)
 |[],_=>rfl
 |e::es,0=>by show((f e)::es).map (·.key)=_;simp[hf]
 |e::es,i+1=>by show(e::setME es f i).map (·.key)=_;rw[List.map_cons,setME_keys hf es i];rfl
section
variable {E:Env} {tm:Tm} {h:Heap} {Q:R->Prop} {all rest:List Oper} {o:Oper} {bs:List Bits} {recs:List Rec} {i:Nat} {idx:List Nat}
theorem W.look {t:TypeId} {x y:Operand} {st:TyS} {kt et:TypeId} {es:List ME} {clock mb:Nat} {s:Str} {r:Option (Nat×CV)} {v:CV} (hgd:guardOn all tm o=some true) (hop:o.op= .lookup t x y true) (hx:cvOf E.globs tm x= .map (some mb)) (hy:cvOf E.globs tm y= .str s) (hg:h.get mb=some (.map es clock)) (hs:E.ty t=some st) (hk:st.kind= .map kt et) (hkey:keyOk E kt (.str s)=true) (hf:findKey E kt (.str s) es 0=some r) (hv:found E et true (some r)=some v)
  (w:W E (.ops all rest) (putTmp tm o.dst v) h Q):W E (.ops all (o::rest)) tm h Q:=by
 refine W.op hgd (v:=v) (h1:=h) ?_ w;unfold opAny;rw[hop];show withH h (oLookup E (E.ty t) (cvOf E.globs tm x) (cvOf E.globs tm y) true h)=_;rw[hx,hy,hs];unfold oLookup mapEs;simp only[hk,hkey,hg,hf,hv,withH]
theorem W.dment {t:TypeId} {x y:Operand} {st:TyS} {kt et:TypeId} {es:List ME} {clock mb:Nat} {s:Str} {z:CV} (hri:∀r∈recs,recIdx r∈idx) (hid:(idx.all λj=>bit j ((nth bs i).getD Bits.nil))=true) (hgd:guardOn all tm o=some true) (hop:o.op= .mapEntry t x y) (hx:cvOf E.globs tm x= .map (some mb)) (hy:cvOf E.globs tm y= .str s) (hg:h.get mb=some (.map es clock)) (hs:E.ty t=some st) (hk:st.kind= .map kt et) (hkey:keyOk E kt (.str s)=true) (hf:findKey E kt (.str s) es 0=some none) (hz:zeroV E et=some z)
  (w:∀recs' h',(∀r∈recs',recIdx r∈i::idx)->Same (h.put mb (.map (es++[⟨.str s,z,clock⟩]) (clock+1))) h'->W E (.draw bs all rest (i+1) recs') (putTmp tm o.dst (.tup [z,.int .i64 (Int.ofNat clock)])) h' Q):W E (.draw bs all (o::rest) i recs) tm h Q:=by
 refine W.dput (B1:= .map es clock) hri hid hgd (by unfold fpAny;rw[hop];show idOf (cvOf E.globs tm x)=[mb];rw[hx];rfl) (by rw[hop];rfl) hg (λh0 g0=> ?_) w;unfold opAny;rw[hop];show oMapEntry E (E.ty t) (cvOf E.globs tm x) (cvOf E.globs tm y) h0=_;rw[hx,hy,hs];unfold oMapEntry;simp only[hk,hkey,g0,hf,hz]
theorem W.dest {t:TypeId} {x y u:Operand} {es:List ME} {clock mb b:Nat} {kk:IntKind} {v:CV} (hri:∀r∈recs,recIdx r∈idx) (hid:(idx.all λj=>bit j ((nth bs i).getD Bits.nil))=true) (hgd:guardOn all tm o=some true) (hop:o.op= .entryStore t x y u) (hx:cvOf E.globs tm x= .map (some mb)) (hy:cvOf E.globs tm y= .int kk (Int.ofNat b)) (hu:cvOf E.globs tm u=v) (hg:h.get mb=some (.map es clock)) (hb:∃e∈es,e.born=b)
  (w:∀recs' h' es',(∀r∈recs',recIdx r∈i::idx)->es'.map (·.key)=es.map (·.key)->Same (h.put mb (.map es' clock)) h'->W E (.draw bs all rest (i+1) recs') (putTmp tm o.dst .undef) h' Q):W E (.draw bs all (o::rest) i recs) tm h Q:=by
 obtain⟨j,hj⟩:=findBorn_some (j:=0) hb;refine W.dput (B1:= .map es clock) (B2:= .map (setME es (λe=>⟨e.key,v,e.born⟩) j) clock) hri hid hgd (by unfold fpAny;rw[hop];show idOf (cvOf E.globs tm x)=[mb];rw[hx];rfl) (by rw[hop];rfl) hg (λh0 g0=> ?_) λrecs' h' h1 h2=>w recs' h' (setME es (λe=>⟨e.key,v,e.born⟩) j) h1 (setME_keys (f:=λe=>⟨e.key,v,e.born⟩) (λe=>rfl) es j) h2;unfold opAny;rw[hop];show oEntryStore (cvOf E.globs tm x) (cvOf E.globs tm y) (cvOf E.globs tm u) h0=_;rw[hx,hy,hu];unfold oEntryStore;simp only[g0,hj]
end
end Go.CM

namespace Go.Proofs.YtfheibkikpefkaaGreatDoor
open Go Go.CM Go.CM.Tt
noncomputable section
set_option maxHeartbeats 16000000
theorem add_w {H h:Heap} {tm:Tm} {Q:R->Prop} {tb:Nat} {P:Nat->Prop} {names:List Str} {s:Str} (X:Ext H h) (rh:RH h) (tr:TabR h H.next tb P names) (ok:NameOk s) (hm:names.length<4096)
  (q:∀h',Ext H h'->(∀k,P k->h'.get k=h.get k)->s∈names->TabR h' H.next tb P names->Q (.val (.tup [.int .i64 0,.int .i64 6]) h'))
  (q2:∀h' (n:Int),Ext H h'->h.next<=h'.next->(∀k,P k->h'.get k=h.get k)->s∉names->TabR h' H.next tb P (names++[s])->Q (.val (.tup [.int .i64 n,.int .i64 0]) h')):W E1 (.call (.fn 212 [] []) [.ptr (some (tb,0)),.str s]) tm h Q:=by
 obtain⟨v,mb,es,clock,gt,lt,O,gm,lm,ek,lo1,lo2,ne1,ne2,ne3,hp5⟩:=tr.c;obtain⟨pv,nv,cv,xv,ev⟩:=O.form;cases ev;have fk:=λ(hq:∀a b:Str,eqT E1 20 _ (.str a) (.str b)=some (bytesEq a b))=>findKey_str (E:=E1) (kt:=9) hq (s:=s) (i:=0) ek;have fk:=fk (λ_ _=>rfl);have Lt:LocE h tb 0 [.slice pv nv cv xv,.map (some mb)]:=⟨_,_,gt,lt,rfl⟩;refine W.fn (s:=fnOf Tryz.f212) rfl rfl rfl rfl ?_;repeat refine W.g ?_
 by_cases c:s∈names
 ·obtain⟨p,hp⟩:=fk.1 c
  refine W.look rfl rfl rfl rfl gm rfl rfl rfl hp rfl ?_;refine W.k3 0 1 17 λT=> ?_;repeat refine W.g ?_
  refine W.call rfl rfl rfl (name_w s rh λh1 b X1 hb=> ?_);have hb:=hb.2 ok;subst hb;repeat refine W.g ?_
  exact q _ (X.trans X1) (λk hk=>X1.old k (hp5 k hk).1) c (tr.ext X1)
 have hp:=fk.2 c;refine W.look rfl rfl rfl rfl gm rfl rfl rfl hp rfl ?_;refine W.k3 0 1 17 λT=> ?_;repeat refine W.g ?_
 refine W.call rfl rfl rfl (name_w s rh λh1 b X1 hb=> ?_);have hb:=hb.2 ok;subst hb;have O1:=O.ext X1;have sl:Sl h1 (.slice pv nv cv xv) names:=O1.toSl;repeat refine W.g ?_
 have gt1:=(X1.old tb lt).trans gt;have gm1:=(X1.old mb lm).trans gm;have lt1:=Nat.lt_of_lt_of_le lt X1.next;have lm1:=Nat.lt_of_lt_of_le lm X1.next;have XH:=X.trans X1;have L1:LocE h1 tb 0 [.slice pv nv cv xv,.map (some mb)]:=⟨_,_,gt1,lt1,rfl⟩;have dv:DV (λc=>c=tb\/c=mb\/P c) h1 [] [] []:=DV.start (λb hb=>by rcases hb with rfl|rfl|hb;exact lt1;exact lm1;exact Nat.lt_of_lt_of_le (hp5 b hb).1 X1.next)
 clear Lt gt gm fk;try refine W.dv ?_
 refine W.ldV (k:=1) dv (.inl rfl) L1 rfl rfl rfl rfl rfl rfl rfl λr1 a1 dv s1 L1=> ?_;try refine W.dv ?_
 refine W.ldV (k:=0) dv (.inl rfl) L1 rfl rfl rfl rfl rfl rfl rfl λr2 a2 dv s2 L1=> ?_;try refine W.dv ?_
 refine W.newV dv rfl rfl rfl rfl λr3 a3 dv x3 n3 g3=> ?_;have g3:a3.get a2.next=some (.cells (Flat.enc s) false):=g3;have L3:=L1.ext x3;have e2:a2.next=h1.next:=s2.next.trans s1.next;have X3:Ext h1 a3:=(s1.ext.trans s2.ext).trans x3;try refine W.dv ?_
 refine W.apV (H:=H) (z:=1) (l2:=[Flat.enc s]) dv (XH.trans X3) (O1.ext X3) (SlG.one (by show a2.next<a3.next;omega) g3) (λb hb=> ?_) rfl rfl rfl rfl rfl rfl rfl rfl rfl rfl rfl rfl rfl (by
  simp only[List.length_map,List.length_cons,List.length_nil];show _*16<=_;omega) λr4 v4 a4 dv X4 b4 n4 O4 i4=> ?_
 ·have hlt:b<a2.next:=by
    rcases hb with rfl|rfl|hb
    ·omega
    ·omega
    ·have:=(hp5 b hb).1;have:=X1.next;omega
  have hne:idOf (CV.slice pv nv cv xv)≠[b]:=by rcases hb with rfl|rfl|hb;exact ne2;exact ne3;exact(hp5 b hb).2.2.2
  intro hm;rcases List.mem_append.1 hm with hm|hm
  ·rcases O1.notIn (b:=h1.next) (Nat.le_refl _)with e|⟨i,e,_,_⟩
   ·rw[e]at hm;cases hm
   ·rw[e]at hm
    have:b=i:=by simpa using hm
    exact hne (by rw[e,this])
  ·have hm:b∈[a2.next]:=hm
   have:b=a2.next:=by simpa using hm
   omega
 have i4t:=i4 tb (by omega) ne2;have i4m:=i4 mb (by omega) ne3;obtain⟨p4,m4,c4,y4,ee⟩:=O4.form;cases ee;try refine W.dv ?_
 refine W.ldV (k:=0) dv (.inl rfl) (L3.of_get (b4 tb (.inl rfl)) n4) rfl rfl rfl rfl rfl rfl rfl λr5 a5 dv s5 L5=> ?_;try refine W.dv ?_
 have gt5:a5.get tb=some (.cells [.slice pv nv cv xv,.map (some mb)] false):=(s5.get tb).trans ((b4 tb (.inl rfl)).trans ((X3.old tb lt1).trans gt1));have gm5:a5.get mb=some (.map es clock):=(s5.get mb).trans ((b4 mb (.inr (.inl rfl))).trans ((X3.old mb lm1).trans gm1));have n35:h1.next<=a5.next:=by have:=s5.next;have:=X3.next;omega
 refine W.dst (vs:=[.slice p4 m4 c4 y4]) (cs':=[.slice p4 m4 c4 y4,.map (some mb)]) (λr hr=>(dv.d.r r hr).1) rfl rfl rfl rfl rfl rfl rfl gt5 rfl λr6 a6 hr6 s6=> ?_;try refine W.dv ?_
 have gm6:a6.get mb=some (.map es clock):=by rw[s6.get,Heap.get_put,if_neg ne1];exact gm5
 refine W.dment hr6 rfl rfl rfl rfl rfl gm6 rfl rfl rfl hp rfl λr7 a7 hr7 s7=> ?_;try refine W.dv ?_
 have gm7:a7.get mb=some (.map (es++[⟨.str s,.int .i64 0,clock⟩]) (clock+1)):=by rw[s7.get,put_same]
 refine W.dest (b:=clock) hr7 rfl rfl rfl rfl rfl rfl gm7 ⟨⟨.str s,.int .i64 0,clock⟩,List.mem_append_right _ (by simp),rfl⟩ λr8 a8 es' hr8 hk8 s8=> ?_;try refine W.dv ?_
 have gt8:a8.get tb=some (.cells [.slice p4 m4 c4 y4,.map (some mb)] false):=by rw[s8.get,Heap.get_put,if_neg (Ne.symm ne1),s7.get,Heap.get_put,if_neg (Ne.symm ne1),s6.get,put_same]
 have gm8:a8.get mb=some (.map es' (clock+1)):=by rw[s8.get,put_same]
 have n8:a8.next=a5.next:=by rw[s8.next];show a7.next=_;rw[s7.next];show a6.next=_;rw[s6.next];rfl
 have k8:∀k,k≠tb->k≠mb->a8.get k=a5.get k:=λk h1 h2=>by rw[s8.get,Heap.get_put,if_neg (Ne.symm h2),s7.get,Heap.get_put,if_neg (Ne.symm h2),s6.get,Heap.get_put,if_neg (Ne.symm h1)]
 have X5:Ext H a5:=X4.trans s5.ext
 have X8:Ext H a8:=⟨by rw[n8];exact X5.next,λk hk=>(k8 k (by omega) (by omega)).trans (X5.old k hk),λf k hk=>by
  rw[n8]at hk;exact(k8 k (by omega) (by omega)).trans (X5.fr f k hk)⟩
 have O8:=(O4.ext s5.ext).other (h':=a8) (by rw[n8];exact Nat.le_refl _) λk _ _ hk=>k8 k (λe=>i4t (by rw[hk,e])) (λe=>i4m (by rw[hk,e]))
 have ek8:es'.map (·.key)=(names++[s]).map CV.str:=by
  rw[hk8,List.map_append,List.map_append,ek];rfl
 have L8:LocE a8 tb 0 [.slice p4 m4 c4 y4,.map (some mb)]:=⟨_,_,gt8,by omega,rfl⟩;have O8:OwnR a8 H.next 1 (.slice p4 m4 c4 y4) ((names++[s]).map Flat.enc):=by rw[map_app];exact O8
 have sl8:Sl a8 (.slice p4 m4 c4 y4) (names++[s]):=O8.toSl;have hlen:(names++[s]).length=names.length+1:=by simp
 clear L1 L3 L5 sl;repeat refine W.g ?_
 refine q2 _ _ X8 (by have:=X1.next;omega) (λk hk=> ?_) c ⟨_,mb,es',clock+1,gt8,by omega,O8,gm8,by omega,ek8,lo1,lo2,ne1,i4t,i4m,λk hk=> ?_⟩
 ·obtain⟨p1,p2,p3,p4⟩:=hp5 k hk
  have hk1:k<h1.next:=Nat.lt_of_lt_of_le p1 X1.next;exact(k8 k p2 p3).trans ((s5.get k).trans ((b4 k (.inr (.inr hk))).trans ((X3.old k hk1).trans (X1.old k p1))))
 ·obtain⟨p1,p2,p3,p4⟩:=hp5 k hk
  have:=X1.next;have:=X3.next;exact⟨by omega,p2,p3,i4 k (by omega) p4⟩
end
end Go.Proofs.YtfheibkikpefkaaGreatDoor

noncomputable section
namespace Go.CM
theorem W.ixv {E:Env} {tm:Tm} {h:Heap} {Q:R->Prop} {all rest:List Oper} {o:Oper} {t e:TypeId} {x y:Operand} {cs:List CV} {s es:TyS} {kk:IntKind} {j n:Nat} {m:Int} {v:CV} (hgd:guardOn all tm o=some true) (hop:o.op= .index t x y) (hx:cvOf E.globs tm x= .agg cs) (hy:cvOf E.globs tm y= .int kk m) (hs:E.ty t=some s) (hk:s.kind= .array n e) (hes:E.ty e=some es) (hz:es.size=1) (hag:es.agg=false) (hn:place m n=some j) (hv:nth cs j=some v)
  (w:W E (.ops all rest) (putTmp tm o.dst v) h Q):W E (.ops all (o::rest)) tm h Q:=by
 refine W.op hgd (v:=v) (h1:=h) ?_ w;unfold opAny;rw[hop];show oIndex E (E.ty t) (cvOf E.globs tm x) (cvOf E.globs tm y) h=_;rw[hx,hy,hs];unfold oIndex
 have hp:CM.part cs (j*es.size) es.size es.agg=some v:=by
  rw[hag,hz,Nat.mul_one];exact hv
 simp only[hk,hn,hes,hp,withH]
end Go.CM

noncomputable section
namespace Go.CM
theorem W.ixp {E:Env} {tm:Tm} {h:Heap} {Q:R->Prop} {all rest:List Oper} {o:Oper} {t e:TypeId} {x y:Operand} {s:TyS} {kk:IntKind} {i off j n:Nat} {m:Int} (hgd:guardOn all tm o=some true) (hop:o.op= .indexAddr t x y) (hx:cvOf E.globs tm x= .ptr (some (i,off))) (hy:cvOf E.globs tm y= .int kk m) (hs:E.ty t=some s) (hk:s.kind= .array n e) (hz:sizeOf? E e=some 1) (hn:place m n=some j)
  (w:W E (.ops all rest) (putTmp tm o.dst (.ptr (some (i,off+j)))) h Q):W E (.ops all (o::rest)) tm h Q:=by
 refine W.op hgd (v:= .ptr (some (i,off+j))) (h1:=h) ?_ w;unfold opAny;rw[hop];show oIndexAddr E (E.ty t) (cvOf E.globs tm x) (cvOf E.globs tm y) h=_;rw[hx,hy,hs];unfold oIndexAddr;simp only[hk,hz,hn,addrAt,Nat.mul_one]
end Go.CM

namespace Go.Proofs.YtfheibkikpefkaaGreatDoor
open Go Go.CM Go.CM.Tt
noncomputable section
set_option maxHeartbeats 16000000
theorem wrong_w {h:Heap} {tm:Tm} {Q:R->Prop} {wb:Nat} {cs:List CV} {w:WorldD} (rh:RH h) (fr:Fresh h) (Lw:LocE h wb 0 cs) (r:Rp.R h cs w) (okN:∀l∈w.names.lists,∀s∈l,NameOk s) (few:(w.names.lists.flatten).length<4096) (ln:w.names.paths.length=w.paths.length/\w.names.doors.length=w.doors.length/\w.names.routes.length=w.routes.length/\w.names.trips.length=w.trips.length/\w.names.hazards.length=w.hazards.length) (rt:∀r∈w.routes,r.rides.length+1=r.stops.length/\r.stops.length<=1000)
  (q:∀h',Ext h h'->Q (.val (.agg w.wrong.enc) h')):W E1 (.call (.fn 158 [] []) [.ptr (some (wb,0))]) tm h Q:=by
 have r0:=r;obtain⟨v1,v2,v3,v4,v5,v6,v7,v8,v9,v10,v11,rfl,s1,s2,s3,s4,s5,s6,s7,s8,s9,s10,s11⟩:=r;refine W.fn (s:=fnOf Tryz.f158) rfl rfl rfl rfl ?_;repeat (refine W.seq ?_)
 refine W.region ?_;refine W.al rfl rfl rfl λHa Xa na ga La=> ?_;repeat (first|refine W.g ?_|refine W.m λh_ X_ n_ g_ L_=> ?_)
 have Lc0:LocE h_ Ha.next 0 [.ptr none,.ptr (some (wb,0))]:=L_;have gc0:h_.get Ha.next=some (.cells [.ptr none,.ptr (some (wb,0))] false):=g_;obtain⟨Hb,hHb⟩:∃Hb,Hb=h_:=⟨_,rfl⟩;rw[<-hHb]at Lc0 gc0 X_ n_;have Xb:=Xa.trans X_;refine W.call rfl rfl rfl (new_w λh1 tb X1 tr=> ?_);rw[<-hHb]at X1 tr;refine W.k5 0 2 3 19 20 λT=> ?_;clear hHb L_ g_;repeat refine W.g ?_
 refine W.stn (vs:=[.ptr (some (tb,0))]) (cs':=[.ptr (some (tb,0)),.ptr (some (wb,0))]) rfl rfl rfl rfl rfl rfl ((X1.old _ (by omega)).trans gc0) rfl λG1 nG gG kG=> ?_;obtain⟨Hc,hHc⟩:∃Hc,Hc=Hb.put Ha.next (.cells [.ptr (some (tb,0)),.ptr (some (wb,0))] false):=⟨_,rfl⟩;have nc:Hc.next=Hb.next:=by rw[hHc];rfl
 have gcc:Hc.get Ha.next=some (.cells [.ptr (some (tb,0)),.ptr (some (wb,0))] false):=by rw[hHc,put_same]
 have kc:∀k,k≠Ha.next->Hc.get k=Hb.get k:=λk hk=>by rw[hHc,Heap.get_put,if_neg (Ne.symm hk)]
 have XC:Ext Hc G1:=⟨by rw[nc,nG];exact X1.next,λk hk=>by
  rw[nc]at hk;by_cases e:k=Ha.next
  ·rw[e,gcc];exact gG
  ·rw[kG k e,kc k e];exact X1.old k hk,λf k hk=>by
  have hn:=X1.next;rw[kG k (by omega)];refine X1.fr (λj hj=> ?_) k (by rw[<-nG];exact hk);rw[<-kc j (by omega)];exact f j (by omega)⟩
 have Xhc:Ext h Hc:=⟨by rw[nc];exact Xb.next,λk hk=>(kc k (by omega)).trans (Xb.old k hk),λf k hk=>(kc k (by omega)).trans (Xb.fr f k (by omega))⟩
 have tr1:TabR G1 Hc.next tb (λ_=>False) []:=by
  obtain⟨v,mb,es,clock,gt,lt,O,gm,lm,ek,lo1,lo2,ne1,ne2,ne3,hp⟩:=tr.c;rw[nc];exact⟨v,mb,es,clock,(kG _ (by omega)).trans gt,by omega,O.other (by rw[nG];exact Nat.le_refl _) λk hk _ _=>kG k (by omega),(kG _ (by omega)).trans gm,by omega,ek,lo1,lo2,ne1,ne2,ne3,λ_ h=>h.elim⟩
 have Lcc:LocE Hc Ha.next 0 [.ptr (some (tb,0)),.ptr (some (wb,0))]:=⟨_,_,gcc,by omega,rfl⟩;have g2c:Hc.get h.next=some (.cells [.int .i64 0,.int .i64 0,.int .i64 0] false):=(kc _ (by omega)).trans ((X_.old _ (by omega)).trans ga);have ncb:h.next<Ha.next:=by omega
 clear hHc kc gcc gG kG tr X1 gc0 Lc0 nG Xb X_ ga La;refine W.k3 2 3 0 λT=> ?_;repeat refine W.g ?_
 have Xg:=Xhc.trans XC;refine W.call rfl rfl rfl (kinds_w (Xg.fr fr) λh2 z X2 z1 z2 Lz=> ?_);refine W.k3 2 3 29 λT=> ?_;repeat (first|refine W.g ?_|refine W.m λh_ X_ n_ g_ L_=> ?_)
 have tr2:=tr1.grow (X2.trans X_);obtain⟨P,hP⟩:∃P:Nat->Prop,P=λk=>False\/(G1.next<=k/\k<h_.next):=⟨_,rfl⟩;rw[<-hP]at tr2;obtain⟨ps,hps⟩:∃ps:List CV,ps=[.ptr (some (z,0)),.ptr (some (wb,0+1+0)),.ptr (some (wb,0+1+1)),.ptr (some (wb,0+1+2)),.ptr (some (wb,0+1+3)),.ptr (some (wb,0+1+4)),.ptr (some (wb,0+1+5))]:=⟨_,rfl⟩;have ga4:h_.get h2.next=some (.cells ps false):=by rw[hps];exact g_
 obtain⟨lists,hlists⟩:∃lists,lists=w.names.lists:=⟨_,rfl⟩
 have fam:∀k,k<7->∃p o v,nth ps k=some (.ptr (some (p,o)))/\∀J,Ext Hc J->(∀c,P c->J.get c=h_.get c)->h_.next<=J.next->LocE J p o [v]/\Sl J v (lists.getD k []):=by
  intro k hk;rw[hps,hlists];have Lz2:=Lz.ext X_;rcases k with _|_|_|_|_|_|_|k
  ·exact⟨z,0,_,rfl,λJ XJ PJ nJ=>⟨Lz2.of_get (PJ z (by rw[hP];exact .inr ⟨z1,Nat.lt_of_lt_of_le z2 X_.next⟩)) nJ,Sl.nil⟩⟩
  ·exact⟨wb,0+1+0,v1,rfl,λJ XJ _ _=>⟨LocE.sub (k:=1) (m:=1) (Lw.ext (Xhc.trans XJ)) rfl,s1.ext (Xhc.trans XJ)⟩⟩
  ·exact⟨wb,0+1+1,v2,rfl,λJ XJ _ _=>⟨LocE.sub (k:=2) (m:=1) (Lw.ext (Xhc.trans XJ)) rfl,s2.ext (Xhc.trans XJ)⟩⟩
  ·exact⟨wb,0+1+2,v3,rfl,λJ XJ _ _=>⟨LocE.sub (k:=3) (m:=1) (Lw.ext (Xhc.trans XJ)) rfl,s3.ext (Xhc.trans XJ)⟩⟩
  ·exact⟨wb,0+1+3,v4,rfl,λJ XJ _ _=>⟨LocE.sub (k:=4) (m:=1) (Lw.ext (Xhc.trans XJ)) rfl,s4.ext (Xhc.trans XJ)⟩⟩
  ·exact⟨wb,0+1+4,v5,rfl,λJ XJ _ _=>⟨LocE.sub (k:=5) (m:=1) (Lw.ext (Xhc.trans XJ)) rfl,s5.ext (Xhc.trans XJ)⟩⟩
  ·exact⟨wb,0+1+5,v6,rfl,λJ XJ _ _=>⟨LocE.sub (k:=6) (m:=1) (Lw.ext (Xhc.trans XJ)) rfl,s6.ext (Xhc.trans XJ)⟩⟩
  ·omega
 have XK:Ext Hc h_:=XC.trans (X2.trans X_);have rhc:=rh.ext Xhc;have pa:P h2.next:=by rw[hP];exact .inr ⟨X2.next,by omega⟩
 have pl:∀c,P c->c<h_.next:=λc hc=>by rw[hP]at hc;exact hc.elim (λf=>f.elim) (·.2)
 refine W.k5 2 3 4 30 31 λT=> ?_;obtain⟨K,hK⟩:∃K,K=h_:=⟨_,rfl⟩;rw[<-hK]at ga4 fam XK tr2 n_ pl;rw[<-hK];have nK:h2.next<K.next:=by omega
 clear hK g_ L_ X_ n_ Lz
 refine W.loop (σ:=Nat) (λk tm h'=>(tm.look 2= .ptr (some (h.next,0))/\tm.look 3= .ptr (some (Ha.next,0))/\tm.look 4= .ptr (some (h2.next,0))/\tm.look 30= .agg ps/\tm.look 31= .int .i64 (k:Int))/\k<=7/\Ext Hc h'/\(∀c,P c->h'.get c=K.get c)/\K.next<=h'.next/\TabR h' Hc.next tb P (lists.take k).flatten/\∀n l,n<k->lists[n]? =some l->Tt.Clean ((lists.take n).flatten) l l.length) (λk=>7-k) ?_ (s:=0)
  ⟨⟨rfl,rfl,rfl,by rw[hps];rfl,rfl⟩,Nat.zero_le _,XK,λ_ _=>rfl,Nat.le_refl _,tr2,λn l hn=>by omega⟩
 rintro k tm h' ⟨⟨w2,w3,w4,w30,w31⟩,hk,X,PX,nX,tr,hcl⟩;obtain⟨T,rfl⟩:=Tm.t5 w2 w3 w4 w30 w31;clear w2 w3 w4 w30 w31;by_cases c1:k<7
 ·obtain⟨p,o,v,hpk,hv⟩:=fam k c1
  obtain⟨Lv,sv⟩:=hv h' X PX nX;obtain⟨l,hl⟩:∃l,l=lists.getD k []:=⟨_,rfl⟩;rw[<-hl]at sv;have hlk:lists[k]? =some l:=by rw[hl,hlists];rcases k with _|_|_|_|_|_|_|k<;>first|rfl|omega
  repeat refine W.g ?_
  refine W.ixv rfl rfl rfl rfl rfl rfl rfl rfl rfl (place_of (j:=k) rfl c1) hpk ?_;repeat refine W.g ?_
  have hlen:l.length<4096/\∀i,i<=l.length->((lists.take k).flatten++l.take i).length<4096:=by
   have e:lists=lists.take k++(l::lists.drop (k+1)):=by
    have hlt:=(List.getElem?_eq_some_iff.1 hlk).1
    conv=>lhs;rw[<-List.take_append_drop k lists,List.drop_eq_getElem_cons hlt]
    rw[List.getElem?_eq_getElem hlt]at hlk;rw[Option.some.inj hlk]
   have hf:(lists.take k).flatten.length+l.length<=lists.flatten.length:=by
    conv=>rhs;rw[e,List.flatten_append,List.length_append,List.flatten_cons,List.length_append]
    omega
   rw[<-hlists]at few;refine⟨by omega,λi hi=> ?_⟩;rw[List.length_append,List.length_take];omega
  have okl:∀s∈l,NameOk s:=okN l (by rw[<-hlists];exact List.mem_of_getElem? hlk)
  refine W.loop (σ:=Nat) (λi tm h'=>(tm.look 2= .ptr (some (h.next,0))/\tm.look 3= .ptr (some (Ha.next,0))/\tm.look 4= .ptr (some (h2.next,0))/\tm.look 5= .int .i64 (k:Int)/\tm.look 30= .agg ps/\tm.look 31= .int .i64 (k:Int)/\tm.look 37=v/\tm.look 38= .int .i64 (l.length:Int)/\tm.look 39= .int .i64 (i:Int))/\i<=l.length/\Ext Hc h'/\(∀c,P c->h'.get c=K.get c)/\K.next<=h'.next/\TabR h' Hc.next tb P ((lists.take k).flatten++l.take i)/\Tt.Clean ((lists.take k).flatten) l i) (λi=>l.length-i) ?_ (s:=0)
   ⟨⟨rfl,rfl,rfl,rfl,rfl,rfl,rfl,rfl,rfl⟩,Nat.zero_le _,X,PX,nX,by rw[List.take_zero,List.append_nil];exact tr,λm a hm=>by omega⟩
  clear X PX nX tr Lv sv;rintro i tm h' ⟨⟨w2,w3,w4,w5,w30,w31,w37,w38,w39⟩,hi,X,PX,nX,tr,hci⟩;obtain⟨T,rfl⟩:=Tm.t9 w2 w3 w4 w5 w30 w31 w37 w38 w39;clear w2 w3 w4 w5 w30 w31 w37 w38 w39;obtain⟨Lv,sv⟩:=hv h' X PX nX;rw[<-hl]at sv;by_cases c2:i<l.length
  ·repeat refine W.g ?_
   refine W.iz λi_ o_ L_=> ?_;repeat refine W.g ?_
   refine W.call rfl rfl rfl (add_w X (rhc.ext X) tr (okl _ (List.getElem_mem c2)) (hlen.2 i hi) (λh5 X5 P5 hin _=> ?_) λh5 n5 X5 nh5 P5 hni tr5=> ?_)
   ·have hw:w.wrong=⟨6,(k:Int),(i:Int)⟩:=by
      unfold WorldD.wrong;rw[<-hlists,dups_some (L:=lists) (seen:=[]) (k:=0) (n:=k) (l:=l) (j:=i) (a:=l[i]) (λn' l' hn hl'=>by simpa using hcl n' l' hn hl') hlk (by simpa using hci) (List.getElem?_eq_getElem c2) (by simpa using hin)];simp
    rw[hw]at q;repeat refine W.g ?_
    refine W.stn (vs:=[.int .i64 6,.int .i64 (k:Int),.int .i64 (i:Int)]) (cs':=[.int .i64 6,.int .i64 (k:Int),.int .i64 (i:Int)]) rfl rfl rfl rfl rfl rfl ((X5.old h.next (by omega)).trans g2c) rfl λM nM gM kM=> ?_;have xn5:=X5.next;have XM:Ext h M:=Ext.store (Xhc.trans X5) nM kM (Nat.le_refl _) (by omega);repeat refine W.g ?_
    refine BodyQ.cell1 rfl rfl gM rfl rfl ?_;exact q _ XM
   ·repeat refine W.g ?_
    have hcs:Tt.Clean ((lists.take k).flatten) l (i+1):=λm a hm ha=>by
     by_cases e:m=i
     ·subst e
      rw[List.getElem?_eq_getElem c2]at ha;cases ha;exact hni
     ·exact hci m a (by omega) ha
    exact⟨i+1,lessN c2,⟨rfl,rfl,rfl,rfl,rfl,rfl,rfl,rfl,rfl⟩,c2,X5,λc hc=>(P5 c hc).trans (PX c hc),Nat.le_trans nX nh5,by rw[List.take_add_one,List.getElem?_eq_getElem c2,<-List.append_assoc];exact tr5,hcs⟩
  ·repeat refine W.g ?_
   have hie:i=l.length:=by omega
   rw[hie,List.take_length]at tr;refine⟨k+1,by show 7-(k+1)<7-k;omega,⟨rfl,rfl,rfl,rfl,rfl⟩,c1,X,PX,nX,?_,λn l' hn hl'=> ?_⟩
   ·rw[List.take_add_one,hlk,List.flatten_append]
    simpa using tr
   ·by_cases e:n=k
    ·subst e
     rw[hlk]at hl';cases hl';rw[<-hie];exact hci
    ·exact hcl n l' (by omega) hl'
 ·repeat refine W.g ?_
  have hk7:k=7:=by omega
  have hd:dups [] w.names.lists 0=none:=dups_no λn l hl=>by
   rw[<-hlists]at hl ⊢
   have hn:n<7:=by
    have:=(List.getElem?_eq_some_iff.1 hl).1;rw[hlists]at this;exact this
   simpa using hcl n l (by omega) hl
  obtain⟨fs,hfs⟩:∃fs:List CV,fs=[.fn 213 [.ptr (some (Ha.next,0))] [],.fn 213 [.ptr (some (Ha.next,0))] [],.fn 214 [.ptr (some (Ha.next,0))] [],.fn 215 [.ptr (some (Ha.next,0))] [],.fn 216 [.ptr (some (Ha.next,0))] [],.fn 217 [.ptr (some (Ha.next,0))] [],.fn 218 [.ptr (some (Ha.next,0))] []]:=⟨_,rfl⟩
  have famF:∀n,n<7->∃f le,nth fs n=some f/\w.errs[n]? =some le/\le.length=(lists.getD n []).length/\∀(J:Heap) (T:Tm) (Q':R->Prop) (i:Nat) (x:Int),Ext Hc J->le[i]? =some x->(∀J',Ext J J'->Q' (.val (.int .i64 x) J'))->W E1 (.call f [.int .i64 (i:Int)]) T J Q':=by
   intro n hn;have ck:∀J,Ext Hc J->Chk J Ha.next w (.ptr (some (tb,0))):=λJ XJ=>⟨wb,_,Lcc.ext XJ,Lw.ext (Xhc.trans XJ),Rp.ext (Xhc.trans XJ) r0⟩;have frc:=Xhc.fr fr;rw[hfs,hlists];rcases n with _|_|_|_|_|_|_|n
   ·exact⟨_,_,rfl,rfl,rfl,λJ T Q' i x XJ hx q'=>by simp at hx⟩
   ·exact⟨_,_,rfl,rfl,by rw[List.length_map];rfl,λJ T Q' i x XJ hx q'=>by
     rw[List.getElem?_map]at hx;cases hy:w.names.stops[i]? with
     |none=>rw[hy]at hx;cases hx
     |some y=>rw[hy]at hx;cases hx;exact fineChk_w _ _ (q' J (Ext.refl J))⟩
   ·exact⟨_,_,rfl,rfl,by rw[List.length_map];exact ln.1.symm,λJ T Q' i x XJ hx q'=>by
     have hi:i<w.paths.length:=by have:=(List.getElem?_eq_some_iff.1 hx).1;rwa[List.length_map]at this
     rw[List.getElem?_map,List.getElem?_eq_getElem hi]at hx;cases hx;exact pathChk_w (ck J XJ) i hi q'⟩
   ·exact⟨_,_,rfl,rfl,by rw[List.length_map];exact ln.2.1.symm,λJ T Q' i x XJ hx q'=>by
     have hi:i<w.doors.length:=by have:=(List.getElem?_eq_some_iff.1 hx).1;rwa[List.length_map]at this
     rw[List.getElem?_map,List.getElem?_eq_getElem hi]at hx;cases hx;exact doorChk_w (ck J XJ) (XJ.fr frc) i hi q'⟩
   ·exact⟨_,_,rfl,rfl,by rw[List.length_map];exact ln.2.2.1.symm,λJ T Q' i x XJ hx q'=>by
     have hi:i<w.routes.length:=by have:=(List.getElem?_eq_some_iff.1 hx).1;rwa[List.length_map]at this
     rw[List.getElem?_map,List.getElem?_eq_getElem hi]at hx;cases hx;exact routeChk_w (ck J XJ) (XJ.fr frc) i hi (rt _ (List.getElem_mem hi)).1 (rt _ (List.getElem_mem hi)).2 q'⟩
   ·exact⟨_,_,rfl,rfl,by rw[List.length_map];exact ln.2.2.2.1.symm,λJ T Q' i x XJ hx q'=>by
     have hi:i<w.trips.length:=by have:=(List.getElem?_eq_some_iff.1 hx).1;rwa[List.length_map]at this
     rw[List.getElem?_map,List.getElem?_eq_getElem hi]at hx;cases hx;exact tripChk_w (ck J XJ) i hi q'⟩
   ·exact⟨_,_,rfl,rfl,by rw[List.length_map];exact ln.2.2.2.2.symm,λJ T Q' i x XJ hx q'=>by
     have hi:i<w.hazards.length:=by have:=(List.getElem?_eq_some_iff.1 hx).1;rwa[List.length_map]at this
     rw[List.getElem?_map,List.getElem?_eq_getElem hi]at hx;cases hx;exact hazChk_w (ck J XJ) (XJ.fr frc) i hi q'⟩
   ·omega
  refine W.k4 2 4 76 77 λT=> ?_;have g0:Hc.get h.next=some (.cells [.int .i64 0,.int .i64 0,.int .i64 0] false):=g2c
  refine W.loop (σ:=Nat) (λk tm h'=>(tm.look 2= .ptr (some (h.next,0))/\tm.look 4= .ptr (some (h2.next,0))/\tm.look 76= .agg fs/\tm.look 77= .int .i64 (k:Int))/\k<=7/\Ext Hc h'/\(∀c,P c->h'.get c=K.get c)/\K.next<=h'.next/\∀(n:Nat) (l:List Int),n<k->w.errs[n]? =some l->∀x∈l,x=0) (λk=>7-k) ?_ (s:=0)
   ⟨⟨rfl,rfl,by rw[hfs];rfl,rfl⟩,Nat.zero_le _,X,PX,nX,λn l hn=>by omega⟩
  clear X PX nX tr hcl hk c1 hk7;rintro k tm h' ⟨⟨w2,w4,w76,w77⟩,hk,X,PX,nX,hcl⟩;obtain⟨T,rfl⟩:=Tm.t4 w2 w4 w76 w77;clear w2 w4 w76 w77;by_cases c1:k<7
  ·obtain⟨p,o,v,hpk,hv⟩:=fam k c1
   obtain⟨f,le,hfk,hle,hln,hf⟩:=famF k c1;repeat refine W.g ?_
   refine W.ixv rfl rfl rfl rfl rfl rfl rfl rfl rfl (place_of (j:=k) rfl c1) hfk ?_;repeat refine W.g ?_
   refine W.ixp (j:=k) rfl rfl rfl rfl rfl rfl rfl (place_of (j:=k) rfl c1) ?_;obtain⟨Lv,sv⟩:=hv h' X PX nX;have Lps:LocE h' h2.next 0 ps:=⟨_,_,(PX _ pa).trans ga4,by omega,by rw[cut_eq,if_pos (by omega)];simp⟩;refine W.ldk (k:=k) Lps (Ext.refl _) rfl rfl rfl rfl rfl rfl (by first|exact hpk|(rw[<-nth_eq];exact hpk)) rfl ?_;repeat refine W.g ?_
   refine W.loop (σ:=Nat) (λi tm h'=>(tm.look 2= .ptr (some (h.next,0))/\tm.look 4= .ptr (some (h2.next,0))/\tm.look 11= .int .i64 (k:Int)/\tm.look 12=f/\tm.look 76= .agg fs/\tm.look 77= .int .i64 (k:Int)/\tm.look 86= .int .i64 ((lists.getD k []).length:Int)/\tm.look 87= .int .i64 (i:Int))/\i<=(lists.getD k []).length/\Ext Hc h'/\(∀c,P c->h'.get c=K.get c)/\K.next<=h'.next/\∀(m:Nat) (b:Int),m<i->le[m]? =some b->b=0) (λi=>(lists.getD k []).length-i) ?_ (s:=0)
    ⟨⟨rfl,rfl,rfl,rfl,rfl,rfl,rfl,rfl⟩,Nat.zero_le _,X,PX,nX,λm b hm=>by omega⟩
   have hlm:(lists.getD k []).length<4096:=by
    have hlk:lists[k]? =some (lists.getD k []):=by rw[hlists];rcases k with _|_|_|_|_|_|_|k<;>first|rfl|omega
    have hm:=len_le_flatten (List.mem_of_getElem? hlk);rw[<-hlists]at few;omega
   clear X PX nX Lv sv Lps;rintro i tm h' ⟨⟨w2,w4,w11,w12,w76,w77,w86,w87⟩,hi,X,PX,nX,hci⟩;obtain⟨T,rfl⟩:=Tm.t8 w2 w4 w11 w12 w76 w77 w86 w87;clear w2 w4 w11 w12 w76 w77 w86 w87;obtain⟨n,hnn⟩:∃n,n=(lists.getD k []).length:=⟨_,rfl⟩;rw[<-hnn]at hi hlm hln ⊢;by_cases c2:i<n
   ·obtain⟨x,hx⟩:∃x,le[i]? =some x:=⟨_,List.getElem?_eq_getElem (by omega)⟩
    repeat refine W.g ?_
    refine W.call rfl rfl rfl (hf h' _ _ i x X hx λJ X5=> ?_);by_cases c3:x=0
    ·repeat refine W.g ?_
     exact⟨i+1,lessN c2,⟨rfl,rfl,rfl,rfl,rfl,rfl,rfl,rfl⟩,c2,X.trans X5,λc hc=>(X5.old c (Nat.lt_of_lt_of_le (pl c hc) nX)).trans (PX c hc),Nat.le_trans nX X5.next,λm b hm hb=>by
      by_cases e:m=i
      ·rw[e,hx]at hb;cases hb;exact c3
      ·exact hci m b (by omega) hb⟩
    ·have hw:w.wrong=⟨x,(k:Int),(i:Int)⟩:=wrong_err hd hcl hle hci hx c3
     rw[hw]at q;repeat refine W.g ?_
     refine W.stn (vs:=[.int .i64 x,.int .i64 (k:Int),.int .i64 (i:Int)]) (cs':=[.int .i64 x,.int .i64 (k:Int),.int .i64 (i:Int)]) rfl rfl rfl rfl rfl rfl (((X.trans X5).old h.next (by omega)).trans g0) rfl λM nM gM kM=> ?_;have xn5:=(X.trans X5).next;have XM:Ext h M:=Ext.store (Xhc.trans (X.trans X5)) nM kM (Nat.le_refl _) (by omega);repeat refine W.g ?_
     refine BodyQ.cell1 rfl rfl gM rfl rfl ?_;exact q _ XM
   ·repeat refine W.g ?_
    exact⟨k+1,by show 7-(k+1)<7-k;omega,⟨rfl,rfl,rfl,rfl⟩,c1,X,PX,nX,λm l hm hl x hx=>by
     by_cases e:m=k
     ·subst e
      rw[hle]at hl;cases hl;obtain⟨j,hj,rfl⟩:=List.getElem_of_mem hx;exact hci j _ (by omega) (List.getElem?_eq_getElem hj)
     ·exact hcl m l (by omega) hl x hx⟩
  ·repeat refine W.g ?_
   have hw:w.wrong=Wrong0:=wrong_none hd λn l hl=>hcl n l (by
    have:=(List.getElem?_eq_some_iff.1 hl).1;have h7:w.errs.length=7:=rfl;omega) hl
   rw[hw]at q;have g9:h'.get h.next=some (.cells [.int .i64 0,.int .i64 0,.int .i64 0] false):=(X.old h.next (by omega)).trans g0;have hnH:=Xhc.next;refine W.stn (vs:=[.int .i64 0,.int .i64 0,.int .i64 0]) (cs':=[.int .i64 0,.int .i64 0,.int .i64 0]) rfl rfl rfl rfl rfl rfl g9 rfl λM nM gM kM=> ?_;repeat refine W.g ?_
   refine BodyQ.cell1 rfl rfl gM rfl rfl ?_;exact q _ (Ext.store (Xhc.trans X) nM kM (Nat.le_refl _) (by have:=X.next;omega))
end
end Go.Proofs.YtfheibkikpefkaaGreatDoor
