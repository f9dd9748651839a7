/- What is looked at in a world: ways, paths, routes, trips. No condition. -/
import Derived.Test.YtnjkaahbhebaeaaGreatDoorXU
import Derived.Test.YtnjkaahbhebaeaaGreatDoorYL
set_option linter.unusedVariables false
set_option linter.unusedSimpArgs false
set_option maxRecDepth 100000
namespace Go.Proofs.YtnjkaahbhebaeaaGreatDoor
open Go Go.CM Go.CM.Tt
noncomputable section
set_option maxHeartbeats 8000000
theorem way_w {h:Heap} {tm:Tm} {Q:R->Prop} (a b n:Int) (q:Q (.val (.int .i64 (wayErr a b n)) h)):W E1 (.call (.fn 308 [] []) [.int .i64 a,.int .i64 b,.int .i64 n]) tm h Q:=by
 refine W.fn (s:=fnOf Tryz.f308) rfl rfl rfl rfl ?_;unfold wayErr at q;by_cases c1:a<0\/b<0
 ·rw[if_pos c1]at q
  repeat refine W.g ?_
  exact q
 rw[if_neg c1]at q;by_cases c2:a=b
 ·rw[if_pos (.inl c2)]at q
  repeat refine W.g ?_
  exact q
 by_cases c3:n<1
 ·rw[if_pos (.inr c3)]at q
  repeat refine W.g ?_
  exact q
 rw[if_neg (λh=>h.elim c2 c3)]at q;repeat refine W.g ?_
 exact q
structure Chk (h:Heap) (cb:Nat) (w:WorldD) (tp:CV):Prop where
 c:∃wb cs,LocE h cb 0 [tp,.ptr (some (wb,0))]/\LocE h wb 0 cs/\Rp.R h cs w
theorem Chk.ext {h h':Heap} {cb:Nat} {w:WorldD} {tp:CV} (o:Chk h cb w tp) (x:Ext h h'):Chk h' cb w tp:=by
 obtain⟨wb,cs,h1,h2,h3⟩:=o.c;exact⟨wb,cs,h1.ext x,h2.ext x,Rp.ext x h3⟩
theorem pathChk_w {h:Heap} {tm:Tm} {Q:R->Prop} {cb:Nat} {w:WorldD} {tp:CV} (ck:Chk h cb w tp) (i:Nat) (hi:i<w.paths.length) (q:∀h',Ext h h'->Q (.val (.int .i64 (PathW.err w.paths[i])) h')):W E1 (.call (.fn 284 [.ptr (some (cb,0))] []) [.int .i64 (i:Int)]) tm h Q:=by
 obtain⟨wb,cs,Lc,Lw,r⟩:=ck.c;obtain⟨v1,v2,v3,v4,v5,v6,v7,v8,v9,v10,v11,rfl,s1,s2,s3,s4,s5,s6,s7,s8,s9,s10,s11⟩:=r;refine W.fn (s:=fnOf Tryz.f284) rfl rfl rfl rfl ?_;repeat refine W.g ?_
 refine W.iz λi_ o_ L_=> ?_;repeat (first|refine W.g ?_|refine W.m λh_ X_ n_ g_ L_=> ?_)
 refine W.call rfl rfl rfl (way_w _ _ _ ?_);repeat refine W.g ?_
 exact q _ X_
theorem tripChk_w {h:Heap} {tm:Tm} {Q:R->Prop} {cb:Nat} {w:WorldD} {tp:CV} (ck:Chk h cb w tp) (i:Nat) (hi:i<w.trips.length) (q:∀h',Ext h h'->Q (.val (.int .i64 (TripW.err w.trips[i])) h')):W E1 (.call (.fn 287 [.ptr (some (cb,0))] []) [.int .i64 (i:Int)]) tm h Q:=by
 obtain⟨wb,cs,Lc,Lw,r⟩:=ck.c;obtain⟨v1,v2,v3,v4,v5,v6,v7,v8,v9,v10,v11,rfl,s1,s2,s3,s4,s5,s6,s7,s8,s9,s10,s11⟩:=r;refine W.fn (s:=fnOf Tryz.f287) rfl rfl rfl rfl ?_;repeat refine W.g ?_
 refine W.iz λi_ o_ L_=> ?_;unfold TripW.err at q;by_cases c1:w.trips[i].route<0
 ·rw[if_pos c1]at q
  repeat (first|refine W.g ?_|refine W.m λh_ X_ n_ g_ L_=> ?_)
  exact q _ X_
 rw[if_neg c1]at q;by_cases c2:w.trips[i].untl<w.trips[i].frm
 ·rw[if_pos c2]at q
  repeat (first|refine W.g ?_|refine W.m λh_ X_ n_ g_ L_=> ?_)
  exact q _ X_
 rw[if_neg c2]at q;repeat (first|refine W.g ?_|refine W.m λh_ X_ n_ g_ L_=> ?_)
 exact q _ X_
theorem fineChk_w {h:Heap} {tm:Tm} {Q:R->Prop} (c:CV) (i:Int) (q:Q (.val (.int .i64 0) h)):W E1 (.call (.fn 283 [c] []) [.int .i64 i]) tm h Q:=by
 refine W.fn (s:=fnOf Tryz.f283) rfl rfl rfl rfl ?_;repeat refine W.g ?_
 exact q
end
end Go.Proofs.YtnjkaahbhebaeaaGreatDoor

namespace Go.Proofs.YtnjkaahbhebaeaaGreatDoor
open Go Go.CM Go.CM.Tt
noncomputable section
set_option maxHeartbeats 8000000
theorem timesCheck_w {h:Heap} {tm:Tm} {Q:R->Prop} (t:Times) (q:∀h' (e:Int),Ext h h'->(t.ok->e=0)->(¬t.ok->e=2)->Q (.val (.int .i64 e) h')):W E1 (.call (.fn 145 [] []) [.agg t.enc]) tm h Q:=by
 refine W.fn (s:=fnOf Tryz.f145) rfl rfl rfl rfl ?_;repeat (first|refine W.g ?_|refine W.m λh_ X_ n_ g_ L_=> ?_)
 refine W.call rfl rfl rfl (tick_w t.frm λe he=> ?_);by_cases c0:e=0
 rotate_left
 ·repeat refine W.g ?_
  exact q _ 2 X_ (λg=>absurd (he.2 g.1) c0) (λ_=>rfl)
 by_cases c1:t.len<1
 ·repeat refine W.g ?_
  exact q _ 2 X_ (λg=>by have:=g.2.1;omega) (λ_=>rfl)
 by_cases c2:1099511627776<t.len
 ·repeat refine W.g ?_
  exact q _ 2 X_ (λg=>by have:=g.2.2.1;omega) (λ_=>rfl)
 by_cases c3:t.evr=0
 ·repeat refine W.g ?_
  exact q _ 0 X_ (λ_=>rfl) (λg=>absurd ⟨he.1 c0,by omega,by omega,.inl c3⟩ g)
 by_cases c4:t.evr<t.len
 ·repeat refine W.g ?_
  exact q _ 2 X_ (λg=>by rcases g.2.2.2 with g|g;exact absurd g c3;omega) (λ_=>rfl)
 by_cases c5:1099511627776<t.evr
 ·repeat refine W.g ?_
  exact q _ 2 X_ (λg=>by rcases g.2.2.2 with g|g;exact absurd g c3;omega) (λ_=>rfl)
 repeat refine W.g ?_
 exact q _ 0 X_ (λ_=>rfl) (λg=>absurd ⟨he.1 c0,by omega,by omega,.inr ⟨by omega,by omega⟩⟩ g)
theorem count_w {h:Heap} {tm:Tm} {Q:R->Prop} (f e u:Int) (hf:TickOk f) (he:TickOk e) (hu:TickOk u) (q:Q (.val (.int .i64 (countT f e u)) h)):W E1 (.call (.fn 146 [] []) [.int .i64 f,.int .i64 e,.int .i64 u]) tm h Q:=by
 refine W.fn (s:=fnOf Tryz.f146) rfl rfl rfl rfl ?_;have f0:=hf.1;have f1:=hf.2;have e0:=he.1;have u1:=hu.2;unfold countT at q;repeat refine W.g ?_
 refine W.call rfl rfl rfl (tick_w f λa ha=> ?_);have a0:=ha.2 hf;subst a0;repeat refine W.g ?_
 refine W.call rfl rfl rfl (tick_w e λb hb=> ?_);have b0:=hb.2 he;subst b0;repeat refine W.g ?_
 refine W.call rfl rfl rfl (tick_w u λc hc=> ?_);have c0:=hc.2 hu;subst c0;repeat refine W.g ?_
 by_cases c1:u<f
 ·rw[if_pos c1]at q
  repeat refine W.g ?_
  exact q
 rw[if_neg c1]at q;by_cases c2:e=0
 ·rw[if_pos c2]at q
  repeat refine W.g ?_
  exact q
 rw[if_neg c2]at q;repeat refine W.g ?_
 have h1:(u-f)/e<=u-f:=Int.ediv_le_self e (by omega);have h2:0<=(u-f)/e:=Int.ediv_nonneg (by omega) e0;refine W.quo (a:=u-f) (b:=e) (by omega) (by omega) (by omega) rfl rfl rfl rfl ?_;repeat refine W.g ?_
 exact q
end
end Go.Proofs.YtnjkaahbhebaeaaGreatDoor
