/- What is looked at in a world: ways, paths, routes, trips. No condition. -/
import Derived.Test.YtmgpjfnlciapkaaGreatDoorXG
import Derived.Test.YtmgpjfnlciapkaaGreatDoorYL
import Derived.Test.YtmgpjfnlciapkaaGreatDoorXU
import Derived.KernelRfl
import Derived.Test.YtmgpjfnlciapkaaGreatDoorXNb
set_option linter.unusedVariables false
set_option linter.unusedSimpArgs false
namespace Go.Proofs.YtmgpjfnlciapkaaGreatDoor
open Go Go.CM Go.CM.Tt
noncomputable section
set_option maxHeartbeats 8000000
theorem way_w {h:Heap} {tm:Tm} {Q:R->Prop} (a b n:Int) (q:Q (.val (.int .i64 (wayErr a b n)) h)):W E1 (.call (.fn 149 [] []) [.int .i64 a,.int .i64 b,.int .i64 n]) tm h Q:=by
 refine W.fn (s:=fnOf Tryz.f149) rfl rfl rfl rfl ?_
 unfold wayErr at q
 by_cases c1:a<0\/b<0
 ·rw[if_pos c1]at q
  refine W.g ?_
  exact q
 rw[if_neg c1]at q
 by_cases c2:a=b
 ·rw[if_pos (.inl c2)]at q
  refine W.g ?_
  exact q
 by_cases c3:n<1
 ·rw[if_pos (.inr c3)]at q
  refine W.g ?_
  exact q
 rw[if_neg (λh=>h.elim c2 c3)]at q
 refine W.g ?_
 exact q
structure Chk (h:Heap) (cb:Nat) (w:WorldD) (tp:CV):Prop where
 c:∃wb cs,LocE h cb 0 [tp,.ptr (some (wb,0))]/\LocE h wb 0 cs/\Rp.R h cs w
theorem Chk.ext {h h':Heap} {cb:Nat} {w:WorldD} {tp:CV} (o:Chk h cb w tp) (x:Ext h h'):Chk h' cb w tp:=by
 obtain⟨wb,cs,h1,h2,h3⟩:=o.c
 exact⟨wb,cs,h1.ext x,h2.ext x,Rp.ext x h3⟩
theorem pathChk_w {h:Heap} {tm:Tm} {Q:R->Prop} {cb:Nat} {w:WorldD} {tp:CV} (ck:Chk h cb w tp) (i:Nat) (hi:i<w.paths.length) (q:∀h',Ext h h'->Q (.val (.int .i64 (PathW.err w.paths[i])) h')):W E1 (.call (.fn 110 [.ptr (some (cb,0))] []) [.int .i64 (i:Int)]) tm h Q:=by
 obtain⟨wb,cs,Lc,Lw,r⟩:=ck.c
 obtain⟨v1,v2,v3,v4,v5,v6,v7,v8,v9,v10,v11,rfl,s1,s2,s3,s4,s5,s6,s7,s8,s9,s10,s11⟩:=r
 refine W.fn (s:=fnOf Tryz.f110) rfl rfl rfl rfl ?_
 refine W.g ?_
 refine W.iz λi_ o_ L_=> ?_
 repeat (first|refine W.g ?_|refine W.m λh_ X_ n_ g_ L_=> ?_)
 refine W.call rfl rfl rfl (way_w _ _ _ ?_)
 refine W.g ?_
 exact q _ X_
theorem tripChk_w {h:Heap} {tm:Tm} {Q:R->Prop} {cb:Nat} {w:WorldD} {tp:CV} (ck:Chk h cb w tp) (i:Nat) (hi:i<w.trips.length) (q:∀h',Ext h h'->Q (.val (.int .i64 (TripW.err w.trips[i])) h')):W E1 (.call (.fn 113 [.ptr (some (cb,0))] []) [.int .i64 (i:Int)]) tm h Q:=by
 obtain⟨wb,cs,Lc,Lw,r⟩:=ck.c
 obtain⟨v1,v2,v3,v4,v5,v6,v7,v8,v9,v10,v11,rfl,s1,s2,s3,s4,s5,s6,s7,s8,s9,s10,s11⟩:=r
 refine W.fn (s:=fnOf Tryz.f113) rfl rfl rfl rfl ?_
 refine W.g ?_
 refine W.iz λi_ o_ L_=> ?_
 unfold TripW.err at q
 by_cases c1:w.trips[i].route<0
 ·rw[if_pos c1]at q
  repeat (first|refine W.g ?_|refine W.m λh_ X_ n_ g_ L_=> ?_)
  exact q _ X_
 rw[if_neg c1]at q
 by_cases c2:w.trips[i].untl<w.trips[i].frm
 ·rw[if_pos c2]at q
  repeat (first|refine W.g ?_|refine W.m λh_ X_ n_ g_ L_=> ?_)
  exact q _ X_
 rw[if_neg c2]at q
 repeat (first|refine W.g ?_|refine W.m λh_ X_ n_ g_ L_=> ?_)
 exact q _ X_
theorem fineChk_w {h:Heap} {tm:Tm} {Q:R->Prop} (c:CV) (i:Int) (q:Q (.val (.int .i64 0) h)):W E1 (.call (.fn 109 [c] []) [.int .i64 i]) tm h Q:=by
 refine W.fn (s:=fnOf Tryz.f109) rfl rfl rfl rfl ?_
 refine W.g ?_
 exact q
end
end Go.Proofs.YtmgpjfnlciapkaaGreatDoor

namespace Go.Proofs.YtmgpjfnlciapkaaGreatDoor
open Go Go.CM Go.CM.Tt
noncomputable section
set_option maxHeartbeats 8000000
theorem timesCheck_w {h:Heap} {tm:Tm} {Q:R->Prop} (t:Times) (q:∀h' (e:Int),Ext h h'->(t.ok->e=0)->(¬t.ok->e=2)->Q (.val (.int .i64 e) h')):W E1 (.call (.fn 172 [] []) [.agg t.enc]) tm h Q:=by
 refine W.fn (s:=fnOf Tryz.f172) rfl rfl rfl rfl ?_
 repeat (first|refine W.g ?_|refine W.m λh_ X_ n_ g_ L_=> ?_)
 refine W.call rfl rfl rfl (tick_w t.frm λe he=> ?_)
 by_cases c0:e=0
 rotate_left
 ·refine W.g ?_
  exact q _ 2 X_ (λg=>absurd (he.2 g.1) c0) (λ_=>rfl)
 by_cases c1:t.len<1
 ·refine W.g ?_
  exact q _ 2 X_ (λg=>by have:=g.2.1;omega) (λ_=>rfl)
 by_cases c2:1099511627776<t.len
 ·refine W.g ?_
  exact q _ 2 X_ (λg=>by have:=g.2.2.1;omega) (λ_=>rfl)
 by_cases c3:t.evr=0
 ·refine W.g ?_
  exact q _ 0 X_ (λ_=>rfl) (λg=>absurd ⟨he.1 c0,by omega,by omega,.inl c3⟩ g)
 by_cases c4:t.evr<t.len
 ·refine W.g ?_
  exact q _ 2 X_ (λg=>by rcases g.2.2.2 with g|g;exact absurd g c3;omega) (λ_=>rfl)
 by_cases c5:1099511627776<t.evr
 ·refine W.g ?_
  exact q _ 2 X_ (λg=>by rcases g.2.2.2 with g|g;exact absurd g c3;omega) (λ_=>rfl)
 refine W.g ?_
 exact q _ 0 X_ (λ_=>rfl) (λg=>absurd ⟨he.1 c0,by omega,by omega,.inr ⟨by omega,by omega⟩⟩ g)
theorem count_w {h:Heap} {tm:Tm} {Q:R->Prop} (f e u:Int) (hf:TickOk f) (he:TickOk e) (hu:TickOk u) (q:Q (.val (.int .i64 (countT f e u)) h)):W E1 (.call (.fn 173 [] []) [.int .i64 f,.int .i64 e,.int .i64 u]) tm h Q:=by
 refine W.fn (s:=fnOf Tryz.f173) rfl rfl rfl rfl ?_
 have f0:=hf.1
 have f1:=hf.2
 have e0:=he.1
 have u1:=hu.2
 unfold countT at q
 refine W.g ?_
 refine W.call rfl rfl rfl (tick_w f λa ha=> ?_)
 have a0:=ha.2 hf
 subst a0
 refine W.g ?_
 refine W.call rfl rfl rfl (tick_w e λb hb=> ?_)
 have b0:=hb.2 he
 subst b0
 refine W.g ?_
 refine W.call rfl rfl rfl (tick_w u λc hc=> ?_)
 have c0:=hc.2 hu
 subst c0
 refine W.g ?_
 by_cases c1:u<f
 ·rw[if_pos c1]at q
  refine W.g ?_
  exact q
 rw[if_neg c1]at q
 by_cases c2:e=0
 ·rw[if_pos c2]at q
  refine W.g ?_
  exact q
 rw[if_neg c2]at q
 refine W.g ?_
 have h1:(u-f)/e<=u-f:=Int.ediv_le_self e (by omega)
 have h2:0<=(u-f)/e:=Int.ediv_nonneg (by omega) e0
 refine W.quo (a:=u-f) (b:=e) (by omega) (by omega) (by omega) rfl rfl rfl rfl ?_
 refine W.g ?_
 exact q
end
end Go.Proofs.YtmgpjfnlciapkaaGreatDoor

namespace Go.CM.Wins
def next:List (Int×Int)->Int->Option Int
 |[],_=>none
 |w::r,x=>if w.2<=x then next r x else some (if x<=w.1 then w.1 else x)
end Go.CM.Wins

namespace Go.CM.Wins
def joinP:Int×Int->List (Int×Int)->List (Int×Int)
 |p,[]=>[p]
 |p,w::r=>if w.1<=p.2 then joinP (p.1,if w.2<=p.2 then p.2 else w.2) r else p::joinP w r
def join:List (Int×Int)->List (Int×Int)
 |[]=>[]
 |w::r=>joinP w r
end Go.CM.Wins

namespace Go.CM
noncomputable section
theorem op_mul {α:Type} {a b:Int} {h:α} (hl: -9223372036854775808<=a*b) (hu:a*b<=9223372036854775807):some (CV.int .i64 (IntKind.i64.wrap (a*b)),h)=some (CV.int .i64 (a*b),h):=by
 rw[show IntKind.i64.wrap (a*b)=a*b from IntWalk.i64_in _ (by omega)]
def winE (w:Int×Int):List CV:=[.int .i64 w.1,.int .i64 w.2]
instance:Rp (Int×Int):=⟨2,λ_ cs w=>cs=winE w,λ_ h=>h,λh=>by rw[h];rfl⟩
instance:Flat (Int×Int):=⟨winE,λ_ _ _=>Iff.rfl⟩
end
end Go.CM
namespace Go.Proofs.YtmgpjfnlciapkaaGreatDoor
open Go Go.CM Go.CM.Tt
noncomputable section
set_option maxHeartbeats 8000000
def winAt (t:Times) (k:Nat):Int×Int:=(t.frm+(k:Int)*t.evr,t.frm+(k:Int)*t.evr+t.len)
theorem each_w {H h:Heap} {tm:Tm} {Q:R->Prop} {b3 bt:Nat} {n:Nat} {t:Times} (y:Nat) (I:Nat->Heap->Prop) (L3:LocE H b3 0 [.int .i64 (n:Int)]) (Lt:LocE H bt 0 t.enc) (hn:n<=256) (b1:0<=t.frm/\t.frm<=1099511627776) (b2:0<=t.evr/\t.evr<=1099511627776) (b3':0<=t.len/\t.len<=1099511627776)
  (h0:I 0 h) (hX:∀k h',I k h'->Ext H h')
  (hy:∀k:Nat,k<n->∀(h':Heap) (tm:Tm) (Q:R->Prop),I k h'->(∀h2,I (k+1) h2->Q (.val (.bool true) h2))->W E1 (.call (.yield y) [.agg (winE (winAt t k))]) tm h' Q)
  (q:∀h',I n h'->Q (.val (.tup []) h')):W E1 (.call (.fn 178 [] [.ptr (some (b3,0)),.ptr (some (bt,0))]) [.yield y]) tm h Q:=by
 refine W.fn (s:=fnOf Tryz.f178) rfl rfl rfl rfl ?_
 have X0:=hX 0 h h0
 refine W.g ?_
 refine W.loop (σ:=Nat) (λk tm h'=>I k h'/\tm.look 0= .yield y/\tm.look 1= .ptr (some (b3,0))/\tm.look 2= .ptr (some (bt,0))/\tm.look 6= .int .i64 (n:Int)/\tm.look 7= .int .i64 (k:Int)/\k<=n) (λk=>n-k) ?_ (s:=0)
  ⟨h0,rfl,rfl,rfl,rfl,rfl,Nat.zero_le _⟩
 rintro k tm h' ⟨hI,w0,w1,w2,w6,w7,hk⟩
 obtain⟨T,rfl⟩:=Tm.t5 w0 w1 w2 w6 w7
 clear w0 w1 w2 w6 w7
 have X1:=hX k h' hI
 by_cases c1:k<n
 ·have m0:0<=(k:Int)*t.evr:=Int.mul_nonneg (by omega) b2.1
  have m3:(k:Int)*t.evr<=256*1099511627776:=Int.mul_le_mul (by omega) b2.2 b2.1 (by omega)
  have m1: -9223372036854775808<=(k:Int)*t.evr:=by omega
  have m2:(k:Int)*t.evr<=9223372036854775807:=by omega
  refine W.g ?_
  refine W.call rfl rfl rfl (hy k c1 h' _ _ hI λh2 hI2=> ?_)
  refine W.g ?_
  exact⟨k+1,lessN c1,hI2,rfl,rfl,rfl,rfl,rfl,c1⟩
 ·refine W.g ?_
  rw[show k=n by omega]at hI
  exact q _ hI
end
end Go.Proofs.YtmgpjfnlciapkaaGreatDoor

noncomputable section
namespace Go.CM
abbrev Tag:=Nat×Nat
section
variable {h h':Heap} {own own':Nat->Tag} {lo z:Nat} {t t':Tag} {v:CV} {l:List (List CV)}
theorem flat_set {f:Nat} {x:CV}:∀{l:List (List CV)} {k:Nat} {e:List CV},(∀e∈l,e.length=z)->f<z->l[k]? =some e->l.flatten.set (k*z+f) x=(l.set k (e.set f x)).flatten
 |[],k,e,_,_,h=>by simp at h
 |a::l,0,e,hz,hf,h=>by
  simp at h
  subst h
  have:=hz a (by simp)
  rw[Nat.zero_mul,Nat.zero_add,List.flatten_cons,List.set_append_left _ _ (by omega)]
  rfl
 |a::l,k+1,e,hz,hf,h=>by
  have ih:=flat_set (l:=l) (k:=k) (e:=e) (x:=x) (λx hx=>hz x (List.mem_cons_of_mem _ hx)) hf (by simpa using h)
  have:=hz a (by simp)
  rw[Nat.succ_mul,List.flatten_cons,List.set_append_right _ _ (by omega),show k*z+z+f-a.length=k*z+f by omega,ih]
  rfl
theorem setAt_one {cs:List CV} {x:CV} {o:Nat} (h:o<cs.length):setAt cs [x] o=some (cs.set o x):=by
 rw[setAt_eq,if_pos (by simp only[List.length_cons,List.length_nil];omega)]
 congr 1
 rw[List.set_eq_take_append_cons_drop,if_pos h]
 simp
theorem flat_len2 {k:Nat} {e:List CV} {f:Nat} (hz:∀e∈l,e.length=z) (hf:f<z) (hk:l[k]? =some e):k*z+f<l.flatten.length:=by
 rw[flat_len hz]
 have hk:=(List.getElem?_eq_some_iff.1 hk).1
 have:(k+1)*z<=l.length*z:=Nat.mul_le_mul_right _ hk
 rw[Nat.succ_mul]at this
 omega
theorem flat_setAt {k:Nat} {e:List CV} {f:Nat} {x:CV} (hz:∀e∈l,e.length=z) (hf:f<z) (hk:l[k]? =some e):setAt l.flatten [x] (0+k*z+f)=some (l.set k (e.set f x)).flatten:=by
 rw[Nat.zero_add,setAt_one (flat_len2 hz hf hk),flat_set hz hf hk]
theorem flat_get {k:Nat} {e:List CV} {f:Nat} {x:CV} (hz:∀e∈l,e.length=z) (hk:l[k]? =some e) (hx:e[f]? =some x):nth l.flatten (0+k*z+f)=some x:=cut_nth (flat_cut hz hk) hx
end
section
variable {E:Env} {tm:Tm} {h:Heap} {own:Nat->Tag} {Q:R->Prop} {all rest:List Oper} {o:Oper}
end
end Go.CM
