/- What is looked at in a world: ways, paths, routes, trips. No condition. -/
import Derived.Test.YtfheibkikpefkaaGreatDoorXU
import Derived.Test.YtfheibkikpefkaaGreatDoorYL
import Derived.KernelRfl
import Derived.Test.YtfheibkikpefkaaGreatDoorYA
import Derived.Test.YtfheibkikpefkaaGreatDoorYF
set_option linter.unusedVariables false
set_option linter.unusedSimpArgs false
namespace Go.Proofs.YtfheibkikpefkaaGreatDoor
open Go Go.CM Go.CM.Tt
noncomputable section
set_option maxHeartbeats 8000000
theorem way_w {h:Heap} {tm:Tm} {Q:R->Prop} (a b n:Int) (q:Q (.val (.int .i64 (wayErr a b n)) h)):W E1 (.call (.fn 233 [] []) [.int .i64 a,.int .i64 b,.int .i64 n]) tm h Q:=by
 refine W.fn (s:=fnOf Tryz.f233) rfl rfl rfl rfl ?_;unfold wayErr at q;by_cases c1:a<0\/b<0
 ·rw[if_pos c1]at q
  repeat refine W.g ?_
  exact q
 rw[if_neg c1]at q;by_cases c2:a=b
 ·rw[if_pos (.inl c2)]at q
  repeat refine W.g ?_
  exact q
 by_cases c3:n<1
 ·rw[if_pos (.inr c3)]at q
  repeat refine W.g ?_
  exact q
 rw[if_neg (λh=>h.elim c2 c3)]at q;repeat refine W.g ?_
 exact q
structure Chk (h:Heap) (cb:Nat) (w:WorldD) (tp:CV):Prop where
 c:∃wb cs,LocE h cb 0 [tp,.ptr (some (wb,0))]/\LocE h wb 0 cs/\Rp.R h cs w
theorem Chk.ext {h h':Heap} {cb:Nat} {w:WorldD} {tp:CV} (o:Chk h cb w tp) (x:Ext h h'):Chk h' cb w tp:=by
 obtain⟨wb,cs,h1,h2,h3⟩:=o.c;exact⟨wb,cs,h1.ext x,h2.ext x,Rp.ext x h3⟩
theorem pathChk_w {h:Heap} {tm:Tm} {Q:R->Prop} {cb:Nat} {w:WorldD} {tp:CV} (ck:Chk h cb w tp) (i:Nat) (hi:i<w.paths.length) (q:∀h',Ext h h'->Q (.val (.int .i64 (PathW.err w.paths[i])) h')):W E1 (.call (.fn 214 [.ptr (some (cb,0))] []) [.int .i64 (i:Int)]) tm h Q:=by
 obtain⟨wb,cs,Lc,Lw,r⟩:=ck.c;obtain⟨v1,v2,v3,v4,v5,v6,v7,v8,v9,v10,v11,rfl,s1,s2,s3,s4,s5,s6,s7,s8,s9,s10,s11⟩:=r;refine W.fn (s:=fnOf Tryz.f214) rfl rfl rfl rfl ?_;repeat refine W.g ?_
 refine W.iz λi_ o_ L_=> ?_;repeat (first|refine W.g ?_|refine W.m λh_ X_ n_ g_ L_=> ?_)
 refine W.call rfl rfl rfl (way_w _ _ _ ?_);repeat refine W.g ?_
 exact q _ X_
theorem tripChk_w {h:Heap} {tm:Tm} {Q:R->Prop} {cb:Nat} {w:WorldD} {tp:CV} (ck:Chk h cb w tp) (i:Nat) (hi:i<w.trips.length) (q:∀h',Ext h h'->Q (.val (.int .i64 (TripW.err w.trips[i])) h')):W E1 (.call (.fn 217 [.ptr (some (cb,0))] []) [.int .i64 (i:Int)]) tm h Q:=by
 obtain⟨wb,cs,Lc,Lw,r⟩:=ck.c;obtain⟨v1,v2,v3,v4,v5,v6,v7,v8,v9,v10,v11,rfl,s1,s2,s3,s4,s5,s6,s7,s8,s9,s10,s11⟩:=r;refine W.fn (s:=fnOf Tryz.f217) rfl rfl rfl rfl ?_;repeat refine W.g ?_
 refine W.iz λi_ o_ L_=> ?_;unfold TripW.err at q;by_cases c1:w.trips[i].route<0
 ·rw[if_pos c1]at q
  repeat (first|refine W.g ?_|refine W.m λh_ X_ n_ g_ L_=> ?_)
  exact q _ X_
 rw[if_neg c1]at q;by_cases c2:w.trips[i].untl<w.trips[i].frm
 ·rw[if_pos c2]at q
  repeat (first|refine W.g ?_|refine W.m λh_ X_ n_ g_ L_=> ?_)
  exact q _ X_
 rw[if_neg c2]at q;repeat (first|refine W.g ?_|refine W.m λh_ X_ n_ g_ L_=> ?_)
 exact q _ X_
theorem fineChk_w {h:Heap} {tm:Tm} {Q:R->Prop} (c:CV) (i:Int) (q:Q (.val (.int .i64 0) h)):W E1 (.call (.fn 213 [c] []) [.int .i64 i]) tm h Q:=by
 refine W.fn (s:=fnOf Tryz.f213) rfl rfl rfl rfl ?_;repeat refine W.g ?_
 exact q
end
end Go.Proofs.YtfheibkikpefkaaGreatDoor

namespace Go.Proofs.YtfheibkikpefkaaGreatDoor
open Go Go.CM Go.CM.Tt
noncomputable section
set_option maxHeartbeats 8000000
theorem timesCheck_w {h:Heap} {tm:Tm} {Q:R->Prop} (t:Times) (q:∀h' (e:Int),Ext h h'->(t.ok->e=0)->(¬t.ok->e=2)->Q (.val (.int .i64 e) h')):W E1 (.call (.fn 116 [] []) [.agg t.enc]) tm h Q:=by
 refine W.fn (s:=fnOf Tryz.f116) rfl rfl rfl rfl ?_;repeat (first|refine W.g ?_|refine W.m λh_ X_ n_ g_ L_=> ?_)
 refine W.call rfl rfl rfl (tick_w t.frm λe he=> ?_);by_cases c0:e=0
 rotate_left
 ·repeat refine W.g ?_
  exact q _ 2 X_ (λg=>absurd (he.2 g.1) c0) (λ_=>rfl)
 by_cases c1:t.len<1
 ·repeat refine W.g ?_
  exact q _ 2 X_ (λg=>by have:=g.2.1;omega) (λ_=>rfl)
 by_cases c2:1099511627776<t.len
 ·repeat refine W.g ?_
  exact q _ 2 X_ (λg=>by have:=g.2.2.1;omega) (λ_=>rfl)
 by_cases c3:t.evr=0
 ·repeat refine W.g ?_
  exact q _ 0 X_ (λ_=>rfl) (λg=>absurd ⟨he.1 c0,by omega,by omega,.inl c3⟩ g)
 by_cases c4:t.evr<t.len
 ·repeat refine W.g ?_
  exact q _ 2 X_ (λg=>by rcases g.2.2.2 with g|g;exact absurd g c3;omega) (λ_=>rfl)
 by_cases c5:1099511627776<t.evr
 ·repeat refine W.g ?_
  exact q _ 2 X_ (λg=>by rcases g.2.2.2 with g|g;exact absurd g c3;omega) (λ_=>rfl)
 repeat refine W.g ?_
 exact q _ 0 X_ (λ_=>rfl) (λg=>absurd ⟨he.1 c0,by omega,by omega,.inr ⟨by omega,by omega⟩⟩ g)
theorem count_w {h:Heap} {tm:Tm} {Q:R->Prop} (f e u:Int) (hf:TickOk f) (he:TickOk e) (hu:TickOk u) (q:Q (.val (.int .i64 (countT f e u)) h)):W E1 (.call (.fn 106 [] []) [.int .i64 f,.int .i64 e,.int .i64 u]) tm h Q:=by
 refine W.fn (s:=fnOf Tryz.f106) rfl rfl rfl rfl ?_;have f0:=hf.1;have f1:=hf.2;have e0:=he.1;have u1:=hu.2;unfold countT at q;repeat refine W.g ?_
 refine W.call rfl rfl rfl (tick_w f λa ha=> ?_);have a0:=ha.2 hf;subst a0;repeat refine W.g ?_
 refine W.call rfl rfl rfl (tick_w e λb hb=> ?_);have b0:=hb.2 he;subst b0;repeat refine W.g ?_
 refine W.call rfl rfl rfl (tick_w u λc hc=> ?_);have c0:=hc.2 hu;subst c0;repeat refine W.g ?_
 by_cases c1:u<f
 ·rw[if_pos c1]at q
  repeat refine W.g ?_
  exact q
 rw[if_neg c1]at q;by_cases c2:e=0
 ·rw[if_pos c2]at q
  repeat refine W.g ?_
  exact q
 rw[if_neg c2]at q;repeat refine W.g ?_
 have h1:(u-f)/e<=u-f:=Int.ediv_le_self e (by omega);have h2:0<=(u-f)/e:=Int.ediv_nonneg (by omega) e0;refine W.quo (a:=u-f) (b:=e) (by omega) (by omega) (by omega) rfl rfl rfl rfl ?_;repeat refine W.g ?_
 exact q
end
end Go.Proofs.YtfheibkikpefkaaGreatDoor

namespace Go.CM.Wins
def next:List (Int×Int)->Int->Option Int
 |[],_=>none
 |w::r,x=>if w.2<=x then next r x else some (if x<=w.1 then w.1 else x)
end Go.CM.Wins

namespace Go.CM.Wins
def joinP:Int×Int->List (Int×Int)->List (Int×Int)
 |p,[]=>[p]
 |p,w::r=>if w.1<=p.2 then joinP (p.1,if w.2<=p.2 then p.2 else w.2) r else p::joinP w r
def join:List (Int×Int)->List (Int×Int)
 |[]=>[]
 |w::r=>joinP w r
end Go.CM.Wins

namespace Go.CM
noncomputable section
theorem op_mul {α:Type} {a b:Int} {h:α} (hl: -9223372036854775808<=a*b) (hu:a*b<=9223372036854775807):some (CV.int .i64 (IntKind.i64.wrap (a*b)),h)=some (CV.int .i64 (a*b),h):=by
 rw[show IntKind.i64.wrap (a*b)=a*b from IntWalk.i64_in _ (by omega)]
def winE (w:Int×Int):List CV:=[.int .i64 w.1,.int .i64 w.2]
instance:Rp (Int×Int):=⟨2,λ_ cs w=>cs=winE w,λ_ h=>h,λh=>by rw[h];rfl⟩
instance:Flat (Int×Int):=⟨winE,λ_ _ _=>Iff.rfl⟩
end
end Go.CM
namespace Go.Proofs.YtfheibkikpefkaaGreatDoor
open Go Go.CM Go.CM.Tt
noncomputable section
set_option maxHeartbeats 8000000
def winAt (t:Times) (k:Nat):Int×Int:=(t.frm+(k:Int)*t.evr,t.frm+(k:Int)*t.evr+t.len)
theorem each_w {H h:Heap} {tm:Tm} {Q:R->Prop} {b3 bt:Nat} {n:Nat} {t:Times} (y:Nat) (I:Nat->Heap->Prop) (L3:LocE H b3 0 [.int .i64 (n:Int)]) (Lt:LocE H bt 0 t.enc) (hn:n<=256) (b1:0<=t.frm/\t.frm<=1099511627776) (b2:0<=t.evr/\t.evr<=1099511627776) (b3':0<=t.len/\t.len<=1099511627776)
  (h0:I 0 h) (hX:∀k h',I k h'->Ext H h')
  (hy:∀k:Nat,k<n->∀(h':Heap) (tm:Tm) (Q:R->Prop),I k h'->(∀h2,I (k+1) h2->Q (.val (.bool true) h2))->W E1 (.call (.yield y) [.agg (winE (winAt t k))]) tm h' Q)
  (q:∀h',I n h'->Q (.val (.tup []) h')):W E1 (.call (.fn 166 [] [.ptr (some (b3,0)),.ptr (some (bt,0))]) [.yield y]) tm h Q:=by
 refine W.fn (s:=fnOf Tryz.f166) rfl rfl rfl rfl ?_;have X0:=hX 0 h h0;repeat refine W.g ?_
 refine W.loop (σ:=Nat) (λk tm h'=>I k h'/\tm.look 0= .yield y/\tm.look 1= .ptr (some (b3,0))/\tm.look 2= .ptr (some (bt,0))/\tm.look 6= .int .i64 (n:Int)/\tm.look 7= .int .i64 (k:Int)/\k<=n) (λk=>n-k) ?_ (s:=0)
  ⟨h0,rfl,rfl,rfl,rfl,rfl,Nat.zero_le _⟩
 rintro k tm h' ⟨hI,w0,w1,w2,w6,w7,hk⟩;obtain⟨T,rfl⟩:=Tm.t5 w0 w1 w2 w6 w7;clear w0 w1 w2 w6 w7;have X1:=hX k h' hI;by_cases c1:k<n
 ·have m0:0<=(k:Int)*t.evr:=Int.mul_nonneg (by omega) b2.1
  have m3:(k:Int)*t.evr<=256*1099511627776:=Int.mul_le_mul (by omega) b2.2 b2.1 (by omega);have m1: -9223372036854775808<=(k:Int)*t.evr:=by omega
  have m2:(k:Int)*t.evr<=9223372036854775807:=by omega
  repeat refine W.g ?_
  refine W.call rfl rfl rfl (hy k c1 h' _ _ hI λh2 hI2=> ?_);repeat refine W.g ?_
  exact⟨k+1,lessN c1,hI2,rfl,rfl,rfl,rfl,rfl,c1⟩
 ·repeat refine W.g ?_
  rw[show k=n by omega]at hI;exact q _ hI
end
end Go.Proofs.YtfheibkikpefkaaGreatDoor

namespace Go.CM.Tt
def Clean (seen l:List Str) (n:Nat):Prop:=∀m a,m<n->l[m]? =some a->a∉seen++l.take m
theorem dupIn_no:∀{l seen:List Str} {i:Nat},Clean seen l l.length->dupIn seen l i=none
 |[],_,_,_=>rfl
 |a::l,seen,i,h=>by
  have h0:a∉seen:=by simpa using h 0 a (by simp) rfl
  have ih:=dupIn_no (l:=l) (seen:=seen++[a]) (i:=i+1) λm b hm hb=>by
   have:=h (m+1) b (by simpa using hm) (by simpa using hb);simpa[List.append_assoc]using this
  unfold dupIn;rw[if_neg h0,ih]
theorem dupIn_some:∀{l seen:List Str} {i j:Nat} {a:Str},Clean seen l j->l[j]? =some a->a∈seen++l.take j->dupIn seen l i=some (i+j)
 |[],_,_,_,_,_,h,_=>by simp at h
 |b::l,seen,i,0,a,_,h,hm=>by
  have:b=a:=by simpa using h
  unfold dupIn;rw[if_pos (by rw[this];simpa using hm)];rfl
 |b::l,seen,i,j+1,a,hc,h,hm=>by
  have h0:b∉seen:=by simpa using hc 0 b (by omega) rfl
  have ih:=dupIn_some (l:=l) (seen:=seen++[b]) (i:=i+1) (j:=j) (a:=a) (λm c hm hc'=>by
   have:=hc (m+1) c (by omega) (by simpa using hc');simpa[List.append_assoc]using this) (by simpa using h) (by simpa[List.append_assoc]using hm)
  unfold dupIn;rw[if_neg h0,ih]
  congr 1
  omega
theorem dups_no:∀{L:List (List Str)} {seen:List Str} {k:Int},(∀n l,L[n]? =some l->Clean (seen++(L.take n).flatten) l l.length)->dups seen L k=none
 |[],_,_,_=>rfl
 |l::L,seen,k,h=>by
  have h0:=h 0 l rfl
  have ih:=dups_no (L:=L) (seen:=seen++l) (k:=k+1) λn m hm=>by
   have:=h (n+1) m (by simpa using hm);simpa[List.append_assoc]using this
  unfold dups;rw[dupIn_no (by simpa using h0)];exact ih
theorem dups_some:∀{L:List (List Str)} {seen:List Str} {k:Int} {n:Nat} {l:List Str} {j:Nat} {a:Str},(∀n' l',n'<n->L[n']? =some l'->Clean (seen++(L.take n').flatten) l' l'.length)->L[n]? =some l->Clean (seen++(L.take n).flatten) l j->l[j]? =some a->a∈(seen++(L.take n).flatten)++l.take j->dups seen L k=some ⟨6,k+n,j⟩
 |[],_,_,_,_,_,_,_,h,_,_,_=>by simp at h
 |l0::L,seen,k,0,l,j,a,_,h,hc,ha,hm=>by
  have:l0=l:=by simpa using h
  subst this;unfold dups;rw[dupIn_some (i:=0) (j:=j) (by simpa using hc) ha (by simpa using hm)];simp
 |l0::L,seen,k,n+1,l,j,a,hp,h,hc,ha,hm=>by
  have h0:=hp 0 l0 (by omega) rfl
  have ih:=dups_some (L:=L) (seen:=seen++l0) (k:=k+1) (n:=n) (l:=l) (j:=j) (a:=a) (λn' l' hn' hl'=>by
   have:=hp (n'+1) l' (by omega) (by simpa using hl');simpa[List.append_assoc]using this) (by simpa using h) (by simpa[List.append_assoc]using hc) ha (by simpa[List.append_assoc]using hm)
  unfold dups;rw[dupIn_no (by simpa using h0)];simp only;rw[ih]
  congr 2
  omega
theorem firstErr_no {α:Type} {f:α->Int}:∀{l:List α} {i:Nat},(∀a∈l,f a=0)->firstErr f l i=none
 |[],_,_=>rfl
 |a::l,i,h=>by
  unfold firstErr;rw[if_pos (h a (by simp))];exact firstErr_no λb hb=>h b (List.mem_cons_of_mem _ hb)
theorem firstErr_none {α:Type} {f:α->Int}:∀{l:List α} {i:Nat},firstErr f l i=none->∀a∈l,f a=0
 |[],_,_,a,h=>by cases h
 |b::l,i,h,a,ha=>by
  unfold firstErr at h;split at h
  ·rename_i hb
   rcases List.mem_cons.1 ha with rfl|ha
   ·exact hb
   ·exact firstErr_none h a ha
  ·cases h
theorem firstErr_some {α:Type} {f:α->Int}:∀{l:List α} {i j:Nat} {a:α},(∀m b,m<j->l[m]? =some b->f b=0)->l[j]? =some a->f a≠0->firstErr f l i=some (f a,i+j)
 |[],_,_,_,_,h,_=>by simp at h
 |b::l,i,0,a,_,h,hf=>by
  have:b=a:=by simpa using h
  subst this;unfold firstErr;rw[if_neg hf];rfl
 |b::l,i,j+1,a,hc,h,hf=>by
  have h0:=hc 0 b (by omega) rfl;have ih:=firstErr_some (l:=l) (i:=i+1) (j:=j) (a:=a) (λm c hm hc'=>hc (m+1) c (by omega) (by simpa using hc')) (by simpa using h) hf;unfold firstErr;rw[if_pos h0,ih]
  congr 2
  omega
end Go.CM.Tt

namespace Go.CM.Tt
theorem firstErr_map {α:Type} (f:α->Int):∀(l:List α) (i:Nat),firstErr f l i=firstErr id (l.map f) i
 |[],_=>rfl
 |a::l,i=>by
  rw[List.map_cons];unfold firstErr;rw[firstErr_map f l (i+1)];rfl
theorem len_le_flatten {α:Type}:∀{L:List (List α)} {l:List α},l∈L->l.length<=L.flatten.length
 |[],_,h=>by cases h
 |a::L,l,h=>by
  rw[List.flatten_cons,List.length_append];rcases List.mem_cons.1 h with rfl|h
  ·omega
  ·have:=len_le_flatten h
   omega
noncomputable def WorldD.errs (w:WorldD):List (List Int):=[[],w.names.stops.map λ_=>0,w.paths.map PathW.err,w.doors.map (DoorW.err w.hz),w.routes.map RouteW.err,w.trips.map TripW.err,w.hazards.map (HazW.err w.hz)]
theorem wrong_err {w:WorldD} (hd:dups [] w.names.lists 0=none) {k j:Nat} {l:List Int} {e:Int} (hp:∀n l',n<k->w.errs[n]? =some l'->∀x∈l',x=0) (hl:w.errs[k]? =some l) (hj:∀m b,m<j->l[m]? =some b->b=0) (he:l[j]? =some e) (h0:e≠0):w.wrong=⟨e,k,j⟩:=by
 have hs:firstErr id l 0=some (e,j):=by
  have:=firstErr_some (f:=id) (i:=0) hj he h0;simpa using this
 have no:∀n l',n<k->w.errs[n]? =some l'->firstErr id l' 0=none:=λn l' hn hl'=>firstErr_no (hp n l' hn hl');unfold WorldD.wrong;rw[hd,firstErr_map PathW.err,firstErr_map (DoorW.err w.hz),firstErr_map RouteW.err,firstErr_map TripW.err,firstErr_map (HazW.err w.hz)];have hk:k<7:=(List.getElem?_eq_some_iff.1 hl).1;unfold WorldD.errs at hl no;rcases k with _|_|_|_|_|_|_|k
 ·cases hl;simp at he
 ·cases hl
  rw[List.getElem?_map]at he;cases hx:w.names.stops[j]? with
  |none=>rw[hx]at he;cases he
  |some x=>rw[hx]at he;exact absurd (Option.some.inj he).symm h0
 ·cases hl
  rw[hs];rfl
 ·have n2:=no 2 _ (by omega) rfl
  cases hl;rw[n2,hs];rfl
 ·have n2:=no 2 _ (by omega) rfl
  have n3:=no 3 _ (by omega) rfl;cases hl;rw[n2,n3,hs];rfl
 ·have n2:=no 2 _ (by omega) rfl
  have n3:=no 3 _ (by omega) rfl;have n4:=no 4 _ (by omega) rfl;cases hl;rw[n2,n3,n4,hs];rfl
 ·have n2:=no 2 _ (by omega) rfl
  have n3:=no 3 _ (by omega) rfl;have n4:=no 4 _ (by omega) rfl;have n5:=no 5 _ (by omega) rfl;cases hl;rw[n2,n3,n4,n5,hs];rfl
 ·omega
theorem wrong_none {w:WorldD} (hd:dups [] w.names.lists 0=none) (hp:∀(n:Nat) (l':List Int),w.errs[n]? =some l'->∀x∈l',x=0):w.wrong=Wrong0:=by
 have no:∀(n:Nat) (l':List Int),w.errs[n]? =some l'->firstErr id l' 0=none:=λn l' hl'=>firstErr_no (hp n l' hl');unfold WorldD.wrong;rw[hd,firstErr_map PathW.err,firstErr_map (DoorW.err w.hz),firstErr_map RouteW.err,firstErr_map TripW.err,firstErr_map (HazW.err w.hz)];rw[no 2 _ rfl,no 3 _ rfl,no 4 _ rfl,no 5 _ rfl,no 6 _ rfl];rfl
end Go.CM.Tt

noncomputable section
namespace Go.CM.Tt
def SheetD.Ok (x:SheetD):Prop:=x.few/\(∀s∈x.all,NameOk s)/\(∀n∈x.nums,TickOk n)/\∀r∈x.routes,r.ok
theorem nn {p:Prop} (h:p):¬¬p:=λg=>g h
theorem SheetD.err_zero {x:SheetD}:x.err=0↔x.Ok:=by
 unfold SheetD.err SheetD.Ok;by_cases c1:x.few
 ·by_cases c2:∀s∈x.all,NameOk s
  ·by_cases c3:∀n∈x.nums,TickOk n
   ·by_cases c4:∀r∈x.routes,r.ok
    ·rw[if_neg (nn c1),if_neg (nn c2),if_neg (nn c3),if_neg (nn c4)]
     exact Iff.intro (λ_=>⟨c1,c2,c3,c4⟩) (λ_=>rfl)
    ·rw[if_neg (nn c1),if_neg (nn c2),if_neg (nn c3),if_pos c4]
     exact Iff.intro (λh=>by cases h) (λh=>absurd h.2.2.2 c4)
   ·rw[if_neg (nn c1),if_neg (nn c2),if_pos c3]
    exact Iff.intro (λh=>by cases h) (λh=>absurd h.2.2.1 c3)
  ·rw[if_neg (nn c1),if_pos c2]
   exact Iff.intro (λh=>by cases h) (λh=>absurd h.2.1 c2)
 ·rw[if_pos c1]
  exact Iff.intro (λh=>by cases h) (λh=>absurd h.1 c1)
theorem dupIn_nodup:∀{l seen:List Str} {i:Nat},dupIn seen l i=none->seen.Nodup->(seen++l).Nodup
 |[],seen,_,_,h=>by simpa using h
 |a::l,seen,i,h,hs=>by
  unfold dupIn at h;by_cases c:a∈seen
  ·rw[if_pos c]at h;cases h
  ·rw[if_neg c]at h
   have:=dupIn_nodup h (List.nodup_append.2 ⟨hs,by simp,λx hx y hy e=>by
    rw[List.mem_singleton]at hy;exact c (by rw[<-hy,<-e];exact hx)⟩)
   simpa[List.append_assoc]using this
theorem dups_nodup:∀{L:List (List Str)} {seen:List Str} {k:Int},dups seen L k=none->seen.Nodup->(seen++L.flatten).Nodup
 |[],seen,_,_,h=>by simpa using h
 |l::L,seen,k,h,hs=>by
  unfold dups at h;cases c:dupIn seen l 0 with
  |some i=>rw[c]at h;cases h
  |none=>
   rw[c]at h;have:=dups_nodup h (dupIn_nodup c hs);simpa[List.append_assoc]using this
theorem clean_nodup {seen p r:List Str} (h:(seen++p).Nodup):Clean seen (p++r) p.length:=by
 intro m a hm ha hin;rw[List.getElem?_append_left hm]at ha;rw[List.take_append_of_le_length (by omega)]at hin;have e:seen++p=(seen++p.take m)++p.drop m:=by rw[List.append_assoc,List.take_append_drop]
 rw[e]at h
 have hd:a∈p.drop m:=by
  have e2:(p.drop m)[0]? =some a:=by rw[List.getElem?_drop,Nat.add_zero];exact ha
  exact List.mem_of_getElem? e2
 exact(List.nodup_append.1 h).2.2 a hin a hd rfl
theorem flatten_take {L:List (List Str)} {n:Nat} {l:List Str} (h:L.flatten.Nodup) (hl:L[n]? =some l):((L.take n).flatten++l).Nodup:=by
 have hlt:=(List.getElem?_eq_some_iff.1 hl).1
 have e:L=L.take n++(l::L.drop (n+1)):=by
  conv=>lhs;rw[<-List.take_append_drop n L,List.drop_eq_getElem_cons hlt]
  rw[List.getElem?_eq_getElem hlt]at hl;rw[Option.some.inj hl]
 rw[e,List.flatten_append,List.flatten_cons,<-List.append_assoc]at h;exact(List.nodup_append.1 h).1
theorem dups_err:∀{L:List (List Str)} {seen:List Str} {k:Int} {d:WrongD},dups seen L k=some d->d.err=6
 |[],_,_,_,h=>by cases h
 |l::L,seen,k,d,h=>by
  unfold dups at h;cases c:dupIn seen l 0 with
  |some i=>rw[c]at h;cases h;rfl
  |none=>rw[c]at h;exact dups_err h
theorem firstErr_err {α:Type} {f:α->Int}:∀{l:List α} {i:Nat} {e:Int} {j:Nat},firstErr f l i=some (e,j)->e≠0
 |[],_,_,_,h=>by cases h
 |a::l,i,e,j,h=>by
  unfold firstErr at h;by_cases c:f a=0
  ·rw[if_pos c]at h;exact firstErr_err h
  ·rw[if_neg c]at h;cases h;exact c
structure SheetD.Fit (x:SheetD):Prop where
 ok:x.Ok
 nd:x.names.lists.flatten.Nodup
 paths:∀p∈x.paths,(p.num x.stops).err=0
 doors:∀p∈x.doors,(p.num x.stops).err x.hz=0
 routes:∀p∈x.routes,(p.num x.stops).err=0
 trips:∀p∈x.trips,(p.num x.names.routes).err=0
 hazards:∀p∈x.hazards,(p.num x.stops x.names.paths).err x.hz=0
theorem fit_of_make {x:SheetD} (h:x.make.2.err=0):x.Fit:=by
 unfold SheetD.make at h;by_cases c:x.err=0
 ·rw[if_pos c]at h
  have hw:x.num.wrong.err=0:=by
   by_cases d:x.num.wrong.err=0
   ·exact d
   ·rw[if_neg d]at h;exact h
  have ok:=SheetD.err_zero.1 c;unfold WorldD.wrong at hw;cases h0:dups [] x.num.names.lists 0 with
  |some d=>rw[h0]at hw;have:=dups_err h0;rw[Option.getD_some]at hw;omega
  |none=>
  have key:∀{α:Type} {g:α->Int} {l:List α} {k:Int} {w:WrongD},((atKind k (firstErr g l 0)).getD w).err=0->(∀a∈l,g a=0)/\w.err=0:=λ{α g l k w} h=>by
   cases e:firstErr g l 0 with
   |some ej=>
    obtain⟨e1,j1⟩:=ej;rw[e]at h;exact absurd h (firstErr_err e)
   |none=>rw[e]at h;exact⟨firstErr_none e,h⟩
  rw[h0,Option.getD_none]at hw;obtain⟨k2,hw⟩:=key hw;obtain⟨k3,hw⟩:=key hw;obtain⟨k4,hw⟩:=key hw;obtain⟨k5,hw⟩:=key hw;obtain⟨k6,hw⟩:=key hw;have hnd:=dups_nodup h0 (by simp);rw[List.nil_append]at hnd;exact⟨ok,hnd,λp hp=>k2 _ (List.mem_map.2 ⟨p,hp,rfl⟩),λp hp=>k3 _ (List.mem_map.2 ⟨p,hp,rfl⟩),λp hp=>k4 _ (List.mem_map.2 ⟨p,hp,rfl⟩),λp hp=>k5 _ (List.mem_map.2 ⟨p,hp,rfl⟩),λp hp=>k6 _ (List.mem_map.2 ⟨p,hp,rfl⟩)⟩
 ·rw[if_neg c]at h
  exact absurd h c
def cut {α:Type} (l:List α) (k:Nat):List α:=l.take k++l.drop (k+1)
theorem twice {L:List (List Str)} (h:L.flatten.Nodup) {M:List (List Str)} {n:Nat} {l:List Str} {a:Str} (hl:L[n]? =some l) (hm:∀m,m<n->M[m]? =L[m]?) (hn:M[n]? =some (l++[a])) (ha:a∈l):dups [] M 0=some ⟨6,n,l.length⟩:=by
 have et:∀m,m<=n->M.take m=L.take m:=λm h=>by
  refine List.ext_getElem? λi=> ?_;rw[List.getElem?_take,List.getElem?_take];by_cases c:i<m
  ·rw[if_pos c,if_pos c];exact hm i (by omega)
  ·rw[if_neg c,if_neg c]
 have:=dups_some (L:=M) (seen:=[]) (k:=0) (n:=n) (l:=l++[a]) (j:=l.length) (a:=a) (λn' l' hn' hl'=>by
  have c:=clean_nodup (r:=[]) (flatten_take h ((hm n' hn').symm.trans hl'));rw[List.append_nil]at c;rw[List.nil_append,et n' (by omega)];exact c) hn (by rw[List.nil_append,et n (Nat.le_refl _)];exact clean_nodup (flatten_take h hl)) (by rw[List.getElem?_append_right (Nat.le_refl _),Nat.sub_self];rfl) (List.mem_append_right _ (by rw[List.take_append_of_le_length (Nat.le_refl _),List.take_length];exact ha))
 rw[this,Int.zero_add]
theorem SheetD.Ok.numNames {x:SheetD} (o:x.Ok):∀l∈x.num.names.lists,∀s∈l,NameOk s:=by
 intro l hl s hs;refine o.2.1 s ?_;unfold SheetD.all;simp only[List.mem_append]
 have hm:∀{α:Type} {g:α->Str} {f:α->List Str} {l:List α},(∀a,g a∈f a)->s∈l.map g->s∈l.flatMap f:=λh hs=>by
  obtain⟨a,ha,rfl⟩:=List.mem_map.1 hs;exact List.mem_flatMap.2 ⟨a,ha,h a⟩
 simp only[NamesD.lists,SheetD.num,SheetD.names,List.mem_cons,List.not_mem_nil,or_false]at hl;rcases hl with rfl|rfl|rfl|rfl|rfl|rfl|rfl
 ·cases hs
 ·exact .inl (.inl (.inl (.inl (.inl hs))))
 ·exact .inl (.inl (.inl (.inl (.inr (hm (λa=>by simp) hs)))))
 ·exact .inl (.inl (.inl (.inr (hm (λa=>by simp) hs))))
 ·exact .inl (.inl (.inr (hm (λa=>by simp) hs)))
 ·exact .inl (.inr (hm (λa=>by simp) hs))
 ·exact .inr (hm (λa=>by simp) hs)
theorem SheetD.Ok.numFew {x:SheetD} (o:x.Ok):(x.num.names.lists.flatten).length<4096:=by
 obtain⟨f1,f2,f3,f4,f5,f6⟩:=o.1;simp only[NamesD.lists,SheetD.num,SheetD.names,List.flatten_cons,List.flatten_nil,List.length_append,List.length_map,List.length_nil];omega
theorem SheetD.numLens (x:SheetD):x.num.names.paths.length=x.num.paths.length/\x.num.names.doors.length=x.num.doors.length/\x.num.names.routes.length=x.num.routes.length/\x.num.names.trips.length=x.num.trips.length/\x.num.names.hazards.length=x.num.hazards.length:=by
 refine⟨?_,?_,?_,?_,?_⟩<;>simp[SheetD.num,SheetD.names]
theorem SheetD.Ok.numRoutes {x:SheetD} (o:x.Ok):∀r∈x.num.routes,r.rides.length+1=r.stops.length/\r.stops.length<=1000:=by
 intro r hr;obtain⟨a,ha,rfl⟩:=List.mem_map.1 hr;obtain⟨h1,h2,h3,h4⟩:=o.2.2.2 a ha;simp only[RouteS.num,List.length_map];omega
end Go.CM.Tt

noncomputable section
namespace Go.CM.Tt
def inL (n:Int) (l:List Str):Prop:=0<=n/\n<l.length
def WorldD.whole (w:WorldD):Prop:=
 (w.names.paths.length=w.paths.length/\w.names.doors.length=w.doors.length/\w.names.routes.length=w.routes.length/\w.names.trips.length=w.trips.length/\w.names.hazards.length=w.hazards.length)/\
 (∀p∈w.paths,inL p.a w.names.stops/\inL p.b w.names.stops)/\(∀d∈w.doors,inL d.a w.names.stops/\inL d.b w.names.stops)/\(∀r∈w.routes,∀s∈r.stops,inL s w.names.stops)/\
 (∀t∈w.trips,inL t.route w.names.routes)/\(∀h∈w.hazards,inL h.on (if h.stop then w.names.stops else w.names.paths))
def atL (l:List Str) (n:Int):Str:=l.getD n.toNat []
def PathW.told (n:NamesD) (i:Nat) (p:PathW):PathS:=⟨n.paths.getD i [],atL n.stops p.a,atL n.stops p.b,p.len⟩
def DoorW.told (n:NamesD) (i:Nat) (d:DoorW):DoorS:=⟨n.doors.getD i [],atL n.stops d.a,atL n.stops d.b,d.len,d.times⟩
def RouteW.told (n:NamesD) (i:Nat) (r:RouteW):RouteS:=⟨n.routes.getD i [],r.stops.map (atL n.stops),r.rides,r.stays⟩
def TripW.told (n:NamesD) (i:Nat) (t:TripW):TripS:=⟨n.trips.getD i [],atL n.routes t.route,t.frm,t.evr,t.untl⟩
def HazW.told (n:NamesD) (i:Nat) (h:HazW):HazS:=⟨n.hazards.getD i [],atL (if h.stop then n.stops else n.paths) h.on,h.times⟩
def WorldD.told (w:WorldD):SheetD:=⟨w.hz,w.names.stops,w.paths.mapIdx (λi p=>p.told w.names i),w.doors.mapIdx (λi p=>p.told w.names i),w.routes.mapIdx (λi p=>p.told w.names i),w.trips.mapIdx (λi p=>p.told w.names i),w.hazards.mapIdx (λi p=>p.told w.names i)⟩
open Classical in
def WorldD.check (w:WorldD):WrongD:=if w.whole then w.told.make.2 else⟨2,0,0⟩
open Classical in
theorem atL_at {l:List Str} {j:Nat} (h:j<l.length):atL l (j:Int)=l[j]:=by
 unfold atL;rw[Int.toNat_natCast,List.getD_eq_getElem?_getD,List.getElem?_eq_getElem h];rfl
theorem getD_at {l:List Str} {j:Nat} (h:j<l.length):l.getD j []=l[j]:=by
 rw[List.getD_eq_getElem?_getD,List.getElem?_eq_getElem h];rfl
theorem hazNum_eq {x:SheetD} {p:HazS}:p.num x.stops x.names.paths=if 0<=place x.stops p.on then⟨true,place x.stops p.on,p.times⟩else⟨false,place x.names.paths p.on,p.times⟩:=rfl
end Go.CM.Tt

namespace Go.Proofs.YtfheibkikpefkaaGreatDoor
open Go Go.CM Go.CM.Tt
noncomputable section
set_option maxHeartbeats 8000000
theorem rtick_w {h:Heap} {tm:Tm} {Q:R->Prop} (t:Int) (q0:TickOk t->Q (.val (.int .i64 0) h)) (q9:¬TickOk t->Q (.val (.int .i64 9) h)):W E1 (.call (.fn 86 [] []) [.int .i64 t]) tm h Q:=by
 refine W.fn (s:=fnOf Tryz.f86) rfl rfl rfl rfl ?_;by_cases c1:t<0
 ·repeat refine W.g ?_
  exact q9 λg=>by have:=g.1;omega
 by_cases c2:1099511627776<t
 ·repeat refine W.g ?_
  exact q9 λg=>by have:=g.2;omega
 repeat refine W.g ?_
 exact q0 ⟨by omega,by omega⟩
open Classical in
theorem rcount_w {h:Heap} {tm:Tm} {Q:R->Prop} (f e u:Int) (q:Q (.val (.int .i64 (if TickOk f/\TickOk e/\TickOk u then countT f e u else 0)) h)):W E1 (.call (.fn 87 [] []) [.int .i64 f,.int .i64 e,.int .i64 u]) tm h Q:=by
 refine W.fn (s:=fnOf Tryz.f87) rfl rfl rfl rfl ?_;repeat refine W.g ?_
 refine W.call rfl rfl rfl (rtick_w f (λhf=> ?_) (λhf=> ?_))
 rotate_left
 ·rw[if_neg λg=>hf g.1]at q
  repeat refine W.g ?_
  exact q
 repeat refine W.g ?_
 refine W.call rfl rfl rfl (rtick_w e (λhe=> ?_) (λhe=> ?_))
 rotate_left
 ·rw[if_neg λg=>he g.2.1]at q
  repeat refine W.g ?_
  exact q
 repeat refine W.g ?_
 refine W.call rfl rfl rfl (rtick_w u (λhu=> ?_) (λhu=> ?_))
 rotate_left
 ·rw[if_neg λg=>hu g.2.2]at q
  repeat refine W.g ?_
  exact q
 rw[if_pos ⟨hf,he,hu⟩]at q;unfold countT at q;have f0:=hf.1;have f1:=hf.2;have e0:=he.1;have u1:=hu.2;by_cases c1:u<f
 ·rw[if_pos c1]at q
  repeat refine W.g ?_
  exact q
 rw[if_neg c1]at q;by_cases c2:e=0
 ·rw[if_pos c2]at q
  repeat refine W.g ?_
  exact q
 rw[if_neg c2]at q;have d0:0<=(u-f)/e:=Int.ediv_nonneg (by omega) (by omega);have d1:(u-f)/e<=u-f:=Int.ediv_le_self _ (by omega);repeat refine W.g ?_
 refine W.quo (a:=u-f) (b:=e) (by omega) (by omega) (by omega) rfl rfl rfl rfl ?_;repeat refine W.g ?_
 exact q
theorem letter_w {h:Heap} {tm:Tm} {Q:R->Prop} (c:Int) (q:∀b:Bool,(b=true↔97<=c/\c<=122)->Q (.val (.bool b) h)):W E1 (.call (.fn 222 [] []) [.int .u8 c]) tm h Q:=by
 refine W.fn (s:=fnOf Tryz.f222) rfl rfl rfl rfl ?_;by_cases c1:97<=c
 ·by_cases c2:c<=122
  ·repeat refine W.g ?_
   exact q true (Iff.intro (λ_=>⟨c1,c2⟩) (λ_=>rfl))
  ·repeat refine W.g ?_
   exact q false (Iff.intro (λh=>by cases h) (λh=>absurd h.2 c2))
 ·repeat refine W.g ?_
  exact q false (Iff.intro (λh=>by cases h) (λh=>absurd h.1 c1))
theorem digit_w {h:Heap} {tm:Tm} {Q:R->Prop} (c:Int) (q:∀b:Bool,(b=true↔48<=c/\c<=57)->Q (.val (.bool b) h)):W E1 (.call (.fn 236 [] []) [.int .u8 c]) tm h Q:=by
 refine W.fn (s:=fnOf Tryz.f236) rfl rfl rfl rfl ?_;by_cases c1:48<=c
 ·by_cases c2:c<=57
  ·repeat refine W.g ?_
   exact q true (Iff.intro (λ_=>⟨c1,c2⟩) (λ_=>rfl))
  ·repeat refine W.g ?_
   exact q false (Iff.intro (λh=>by cases h) (λh=>absurd h.2 c2))
 ·repeat refine W.g ?_
  exact q false (Iff.intro (λh=>by cases h) (λh=>absurd h.1 c1))
theorem more_w {h:Heap} {tm:Tm} {Q:R->Prop} (c:Int) (q:∀b:Bool,(b=true↔classI c≠0)->Q (.val (.bool b) h)):W E1 (.call (.fn 223 [] []) [.int .u8 c]) tm h Q:=by
 refine W.fn (s:=fnOf Tryz.f223) rfl rfl rfl rfl ?_;unfold classI at q;repeat refine W.g ?_
 refine W.call rfl rfl rfl (letter_w c λb hb=> ?_);cases b
 rotate_left
 ·repeat refine W.g ?_
  exact q true (Iff.intro (λ_=>by rw[if_pos (hb.1 rfl)];decide) (λ_=>rfl))
 have n1:¬(97<=c/\c<=122):=λg=>by cases hb.2 g
 rw[if_neg n1]at q;repeat refine W.g ?_
 refine W.call rfl rfl rfl (digit_w c λb hb=> ?_);cases b
 rotate_left
 ·repeat refine W.g ?_
  exact q true (Iff.intro (λ_=>by rw[if_pos (hb.1 rfl)];decide) (λ_=>rfl))
 have n2:¬(48<=c/\c<=57):=λg=>by cases hb.2 g
 rw[if_neg n2]at q;by_cases c1:c=45
 ·repeat refine W.g ?_
  exact q true (Iff.intro (λ_=>by rw[if_pos (.inl c1)];decide) (λ_=>rfl))
 by_cases c2:c=95
 ·repeat refine W.g ?_
  exact q true (Iff.intro (λ_=>by rw[if_pos (.inr c2)];decide) (λ_=>rfl))
 repeat refine W.g ?_
 exact q false (Iff.intro (λh=>by cases h) (λh=>absurd (if_neg (λg=>g.elim c1 c2)) h))
def WordOk (s:Str):Prop:=s≠[]/\s.length<=24/\(∀c,s[0]? =some c->classB c.toNat=1)/\∀c∈s,classB c.toNat≠0
theorem nameOk_word {s:Str}:NameOk s↔WordOk s/\s∉reserved:=Iff.intro (λ⟨a,b,c,d,e⟩=>⟨⟨a,b,c,e⟩,d⟩) (λ⟨⟨a,b,c,e⟩,d⟩=>⟨a,b,c,d,e⟩)
theorem class_one {c:Nat}:classB c=1↔(97<=(c:Int)/\(c:Int)<=122):=by
 unfold classB;by_cases c1:97<=c/\c<=122
 ·rw[if_pos c1];exact Iff.intro (λ_=>by omega) (λ_=>rfl)
 ·rw[if_neg c1]
  refine Iff.intro (λh=> ?_) (λh=>by omega);split at h
  ·cases h
  ·split at h<;>cases h
theorem word_w {h:Heap} {tm:Tm} {Q:R->Prop} (s:Str) (q:∀b:Bool,(b=true↔WordOk s)->Q (.val (.bool b) h)):W E1 (.call (.fn 168 [] []) [.str s]) tm h Q:=by
 refine W.fn (s:=fnOf Tryz.f168) rfl rfl rfl rfl ?_;by_cases c0:s=[]
 ·subst c0
  repeat refine W.g ?_
  exact q false (Iff.intro (λh=>by cases h) (λh=>absurd rfl h.1))
 have hpos:0<s.length:=List.length_pos_iff.2 c0;by_cases c1:24<s.length
 ·repeat refine W.g ?_
  exact q false (Iff.intro (λh=>by cases h) (λh=>by have:=h.2.1;omega))
 repeat refine W.g ?_
 refine W.ixs (j:=0) (List.getElem?_eq_getElem hpos) rfl rfl rfl rfl rfl rfl rfl ?_;refine W.call rfl rfl rfl (letter_w _ λb hb=> ?_);rw[<-class_one]at hb;cases b
 ·repeat refine W.g ?_
  exact q false (Iff.intro (λh=>by cases h) (λh=>by cases hb.2 (h.2.2.1 _ (List.getElem?_eq_getElem hpos))))
 repeat refine W.g ?_
 refine W.loop (σ:=Nat) (λk tm h'=>h'=h/\tm.look 0= .str s/\tm.look 3= .int .i64 (k:Int)/\k<=s.length/\∀j c,j<k->s[j]? =some c->classB c.toNat≠0) (λk=>s.length-k) ?_ (s:=0)
  ⟨rfl,rfl,rfl,Nat.zero_le _,λj c hj=>by omega⟩
 rintro k tm h' ⟨rfl,w0,w3,hk,hn⟩;obtain⟨T,rfl⟩:=Tm.t2 w0 w3;clear w0 w3;by_cases c2:k<s.length
 ·repeat refine W.g ?_
  refine W.ixs (j:=k) (List.getElem?_eq_getElem c2) rfl rfl rfl rfl rfl rfl rfl ?_;refine W.call rfl rfl rfl (more_w _ λb hb=> ?_);rw[classI_nat]at hb;cases b
  ·repeat refine W.g ?_
   exact q false (Iff.intro (λh=>by cases h) (λh=>by cases hb.2 (h.2.2.2 _ (List.getElem_mem c2))))
  ·repeat refine W.g ?_
   refine⟨k+1,lessN c2,rfl,rfl,rfl,c2,λj c hj hc=> ?_⟩;by_cases e:j=k
   ·subst e
    rw[List.getElem?_eq_getElem c2]at hc;cases hc;exact hb.1 rfl
   ·exact hn j c (by omega) hc
 ·repeat refine W.g ?_
  exact q true (Iff.intro (λ_=>⟨c0,by omega,λc hc=>by rw[List.getElem?_eq_getElem hpos]at hc;cases hc;exact hb.1 rfl,λc hc=>by
   obtain⟨j,hj⟩:=List.getElem?_of_mem hc;have:=(List.getElem?_eq_some_iff.1 hj).1;exact hn j c (by omega) hj⟩) (λ_=>rfl))
theorem rreserved_w {h:Heap} {tm:Tm} {Q:R->Prop} (s:Str) (q:∀h' (b:Bool),Ext h h'->(b=true↔s∈reserved)->Q (.val (.bool b) h')):W E1 (.call (.fn 169 [] []) [.str s]) tm h Q:=by
 refine W.fn (s:=fnOf Tryz.f169) rfl rfl rfl rfl ?_;repeat (first|refine W.g ?_|refine W.n λh_ X_ n_ g_ S_=> ?_)
 have S_:SlG h_ 1 (.slice (some (h.next,0)) 15 15 0) (reserved.map Flat.enc):=S_;have sl:Sl h_ (.slice (some (h.next,0)) 15 15 0) reserved:=Sl.of_map Flat.iff S_;have hl:reserved.length=15:=rfl;generalize hr:reserved=l at sl q hl;clear S_ g_ n_
 refine W.loop (σ:=Nat) (λk tm h'=>h'=h_/\tm.look 0= .str s/\tm.look 3= .slice (some (h.next,0)) 15 15 0/\tm.look 4= .int .i64 (k:Int)/\k<=l.length/\∀j,j<k->∀a,l[j]? =some a->a≠s) (λk=>l.length-k) ?_ (s:=0)
  ⟨rfl,rfl,rfl,rfl,Nat.zero_le _,λj hj=>by omega⟩
 rintro k tm h' ⟨rfl,w0,w3,w4,hk,hn⟩;obtain⟨T,rfl⟩:=Tm.t3 w0 w3 w4;clear w0 w3 w4;by_cases c1:k<l.length
 ·repeat refine W.g ?_
  refine W.iz λi_ o_ L_=> ?_;by_cases c2:l[k]=s
  ·repeat refine W.g ?_
   exact q _ true X_ (Iff.intro (λ_=>by rw[<-c2];exact List.getElem_mem c1) (λ_=>rfl))
  ·repeat refine W.g ?_
   refine⟨k+1,lessN c1,rfl,rfl,rfl,rfl,c1,λj hj a ha=> ?_⟩;by_cases e:j=k
   ·subst e
    rw[List.getElem?_eq_getElem c1]at ha;cases ha;exact c2
   ·exact hn j (by omega) a ha
 ·repeat refine W.g ?_
  exact q _ false X_ (Iff.intro (λh=>by cases h) (λh=>by
   obtain⟨j,hj⟩:=List.getElem?_of_mem h;have:=(List.getElem?_eq_some_iff.1 hj).1;exact absurd rfl (hn j (by omega) _ hj)))
theorem rname_w {h:Heap} {tm:Tm} {Q:R->Prop} (s:Str) (q:∀h' (b:Bool),Ext h h'->(b=true↔NameOk s)->Q (.val (.bool b) h')):W E1 (.call (.fn 132 [] []) [.str s]) tm h Q:=by
 refine W.fn (s:=fnOf Tryz.f132) rfl rfl rfl rfl ?_;rw[nameOk_word]at q;repeat refine W.g ?_
 refine W.call rfl rfl rfl (word_w s λb hb=> ?_);cases b
 ·repeat refine W.g ?_
  exact q _ false (Ext.refl _) (Iff.intro (λh=>by cases h) (λh=>by cases hb.2 h.1))
 repeat refine W.g ?_
 refine W.call rfl rfl rfl (rreserved_w s λH c X hc=> ?_);cases c
 ·repeat refine W.g ?_
  exact q _ true X (Iff.intro (λ_=>⟨hb.1 rfl,λg=>by cases hc.2 g⟩) (λ_=>rfl))
 ·repeat refine W.g ?_
  exact q _ false X (Iff.intro (λh=>by cases h) (λh=>absurd (hc.1 rfl) h.2))
theorem rplace_w {h:Heap} {tm:Tm} {Q:R->Prop} {v:CV} {l:List Str} (s:Str) (sl:Sl h v l) (hm:l.length<=1099511627776)
  (q:Q (.val (.int .i64 (place l s)) h)):W E1 (.call (.fn 135 [] []) [v,.str s]) tm h Q:=by
 refine W.fn (s:=fnOf Tryz.f135) rfl rfl rfl rfl ?_;repeat refine W.g ?_
 refine W.loop (σ:=Nat) (λk tm h'=>h'=h/\tm.look 0=v/\tm.look 1= .str s/\tm.look 5= .int .i64 (k:Int)/\k<=l.length/\∀j,j<k->∀a,l[j]? =some a->a≠s) (λk=>l.length-k) ?_ (s:=0)
  ⟨rfl,rfl,rfl,rfl,Nat.zero_le _,λj hj=>by omega⟩
 rintro k tm h' ⟨rfl,w0,w1,w5,hk,hn⟩;obtain⟨T,rfl⟩:=Tm.t3 w0 w1 w5;clear w0 w1 w5;by_cases c1:k<l.length
 ·repeat refine W.g ?_
  refine W.iz λi_ o_ L_=> ?_;by_cases c2:l[k]=s
  ·repeat refine W.g ?_
   rw[place_some (l:=l) (s:=s) (k:=k) (by rw[List.getElem?_eq_getElem c1,<-c2]) hn]at q;exact q
  ·repeat refine W.g ?_
   refine⟨k+1,lessN c1,rfl,rfl,rfl,rfl,c1,λj hj a ha=> ?_⟩;by_cases e:j=k
   ·subst e
    rw[List.getElem?_eq_getElem c1]at ha;cases ha;exact c2
   ·exact hn j (by omega) a ha
 ·repeat refine W.g ?_
  rw[place_none (l:=l) (s:=s) λj a ha=>hn j (by have:=(List.getElem?_eq_some_iff.1 ha).1;omega) a ha]at q;exact q
theorem rin_w {h:Heap} {tm:Tm} {Q:R->Prop} {v:CV} {l:List Str} (sl:Sl h v l) (n:Int) (q:∀b:Bool,(b=true↔inL n l)->Q (.val (.bool b) h)):W E1 (.call (.fn 100 [] []) [.int .i64 n,v]) tm h Q:=by
 refine W.fn (s:=fnOf Tryz.f100) rfl rfl rfl rfl ?_;by_cases c1:0<=n
 ·by_cases c2:n<(l.length:Int)
  ·repeat refine W.g ?_
   exact q true (Iff.intro (λ_=>⟨c1,c2⟩) (λ_=>rfl))
  ·repeat refine W.g ?_
   exact q false (Iff.intro (λh=>by cases h) (λh=>absurd h.2 c2))
 ·repeat refine W.g ?_
  exact q false (Iff.intro (λh=>by cases h) (λh=>absurd h.1 c1))
theorem rwrong_w {h:Heap} {tm:Tm} {Q:R->Prop} (e k i:Int) (q:∀h',Ext h h'->Q (.val (.agg [.int .i64 e,.int .i64 k,.int .i64 i]) h')):W E1 (.call (.fn 51 [] []) [.int .i64 e,.int .i64 k,.int .i64 i]) tm h Q:=by
 refine W.fn (s:=fnOf Tryz.f51) rfl rfl rfl rfl ?_;repeat (first|refine W.g ?_|refine W.m λh_ X_ n_ g_ L_=> ?_)
 have g0:h_.get h.next=some (.cells [.int .i64 0,.int .i64 0,.int .i64 0] false):=g_;refine W.stn (vs:=[.int .i64 e,.int .i64 k,.int .i64 i]) (cs':=[.int .i64 e,.int .i64 k,.int .i64 i]) rfl rfl rfl rfl rfl rfl g0 rfl λM nM gM kM=> ?_;repeat refine W.g ?_
 refine BodyQ.cell1 rfl rfl gM rfl rfl ?_;exact q M (Ext.store X_ nM kM (by omega) (by omega))
theorem rway_w {h:Heap} {tm:Tm} {Q:R->Prop} (a b n:Int) (q:Q (.val (.int .i64 (wayErr a b n)) h)):W E1 (.call (.fn 137 [] []) [.int .i64 a,.int .i64 b,.int .i64 n]) tm h Q:=by
 refine W.fn (s:=fnOf Tryz.f137) rfl rfl rfl rfl ?_;unfold wayErr at q;by_cases c1:a<0
 ·rw[if_pos (.inl c1)]at q
  repeat refine W.g ?_
  exact q
 by_cases c2:b<0
 ·rw[if_pos (.inr c2)]at q
  repeat refine W.g ?_
  exact q
 rw[if_neg (λg=>g.elim c1 c2)]at q;by_cases c3:a=b
 ·rw[if_pos (.inl c3)]at q
  repeat refine W.g ?_
  exact q
 by_cases c4:n<1
 ·rw[if_pos (.inr c4)]at q
  repeat refine W.g ?_
  exact q
 rw[if_neg (λg=>g.elim c3 c4)]at q;repeat refine W.g ?_
 exact q
end
end Go.Proofs.YtfheibkikpefkaaGreatDoor
