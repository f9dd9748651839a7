/- Worlds of the same content are the same. No condition but that memory beyond the next number is empty. -/
import Derived.Test.YtmgpjfnlciapkaaGreatDoorXU
import Derived.Test.YtmgpjfnlciapkaaGreatDoorYA
import Derived.Test.YtmgpjfnlciapkaaGreatDoorZYa
import Derived.Test.YtmgpjfnlciapkaaGreatDoorYW
set_option linter.unusedVariables false
set_option linter.unusedSimpArgs false
namespace Go.Proofs.YtmgpjfnlciapkaaGreatDoor
open Go Go.CM Go.CM.Tt
noncomputable section
set_option maxHeartbeats 16000000
theorem int_refl (a:Int):intEq a a=true:=by rw[intEq_eq];simp
theorem eqT_i {d:Nat} {t:Nat} {a:Int} (ht:E1.ty t=some ⟨.int .i64,1,8,[.int .i64 0],false,false,[]⟩):eqT E1 (d+1) t (.int .i64 a) (.int .i64 a)=some true:=by
 show(match E1.ty t with|some s=>eqK E1 (eqT E1 d) s (.int .i64 a) (.int .i64 a)|none=>none)=some true
 rw[ht];show some (intEq a a)=some true;rw[int_refl]
theorem eqT_b {d:Nat} {t:Nat} {a:Bool} (ht:E1.ty t=some ⟨.bool,1,1,[.bool false],false,false,[]⟩):eqT E1 (d+1) t (.bool a) (.bool a)=some true:=by
 show(match E1.ty t with|some s=>eqK E1 (eqT E1 d) s (.bool a) (.bool a)|none=>none)=some true
 rw[ht];show some (a==a)=some true;simp
theorem eqF {rec:TypeId->CV->CV->Option Bool} {t off:Nat} {r:List (TypeId×Nat)} {xs:List CV} {s:TyS} {v:CV} (ht:E1.ty t=some s) (hp:CM.part xs off s.size s.agg=some v) (hv:rec t v v=some true) (hr:eqFields E1 rec r xs xs=some true):eqFields E1 rec ((t,off)::r) xs xs=some true:=by
 show(match E1.ty t with
  |none=>none
  |some s=>match CM.part xs off s.size s.agg with
   |none=>none
   |some x=>match CM.part xs off s.size s.agg with
    |none=>none
    |some y=>match rec t x y with
     |some true=>eqFields E1 rec r xs xs
     |some false=>some false
     |none=>none)=some true
 rw[ht];simp only[hp,hv,hr]
theorem eqS {d:Nat} {t:Nat} {xs:List CV} {fs:List (TypeId×Nat)} {z b:Nat} {zz:List CV} {ms:List (String×Option (Nat×Bool))} (ht:E1.ty t=some ⟨.struct fs,z,b,zz,true,true,ms⟩) (hf:eqFields E1 (eqT E1 d) fs xs xs=some true):eqT E1 (d+1) t (.agg xs) (.agg xs)=some true:=by
 show(match E1.ty t with|some s=>eqK E1 (eqT E1 d) s (.agg xs) (.agg xs)|none=>none)=some true
 rw[ht];exact hf
theorem ne_path {d:PathW} {h:Heap}:withH h ((eqT E1 20 54 (.agg d.enc) (.agg d.enc)).map λb=> .bool (!b))=some (.bool false,h):=by
 rw[show eqT E1 20 54 (.agg d.enc) (.agg d.enc)=some true from eqS rfl (eqF rfl rfl (eqT_i rfl) (eqF rfl rfl (eqT_i rfl) (eqF rfl rfl (eqT_i rfl) rfl)))];rfl
theorem ne_door {d:DoorW} {h:Heap}:withH h ((eqT E1 20 96 (.agg d.enc) (.agg d.enc)).map λb=> .bool (!b))=some (.bool false,h):=by
 rw[show eqT E1 20 96 (.agg d.enc) (.agg d.enc)=some true from eqS rfl (eqF rfl rfl (eqT_i rfl) (eqF rfl rfl (eqT_i rfl) (eqF rfl rfl (eqT_i rfl) (eqF rfl rfl ((eqS rfl (eqF rfl rfl (eqT_i rfl) (eqF rfl rfl (eqT_i rfl) (eqF rfl rfl (eqT_i rfl) rfl))))) rfl))))];rfl
theorem ne_trip {d:TripW} {h:Heap}:withH h ((eqT E1 20 65 (.agg d.enc) (.agg d.enc)).map λb=> .bool (!b))=some (.bool false,h):=by
 rw[show eqT E1 20 65 (.agg d.enc) (.agg d.enc)=some true from eqS rfl (eqF rfl rfl (eqT_i rfl) (eqF rfl rfl (eqT_i rfl) (eqF rfl rfl (eqT_i rfl) (eqF rfl rfl (eqT_i rfl) rfl))))];rfl
theorem ne_haz {d:HazW} {h:Heap}:withH h ((eqT E1 20 100 (.agg d.enc) (.agg d.enc)).map λb=> .bool (!b))=some (.bool false,h):=by
 rw[show eqT E1 20 100 (.agg d.enc) (.agg d.enc)=some true from eqS rfl (eqF rfl rfl (eqT_b rfl) (eqF rfl rfl (eqT_i rfl) (eqF rfl rfl ((eqS rfl (eqF rfl rfl (eqT_i rfl) (eqF rfl rfl (eqT_i rfl) (eqF rfl rfl (eqT_i rfl) rfl))))) rfl)))];rfl
theorem same_str {h:Heap} {tm:Tm} {Q:R->Prop} {v w:CV} {l:List Str} (fr:Fresh h) (s1:Sl h v l) (s2:Sl h w l) (hm:l.length<=1099511627776) (q:∀h',Ext h h'->Q (.val (.bool true) h')):W E1 (.call (.fn 41 [] []) [v,w]) tm h Q:=by
 refine W.fn (s:=fnOf Tryz.f41) rfl rfl rfl rfl ?_;repeat refine W.g ?_
 refine W.loop (σ:=Nat) (λk tm h'=>Ext h h'/\tm.look 0=v/\tm.look 1=w/\tm.look 5= .int .i64 (k:Int)/\k<=l.length) (λk=>l.length-k) ?_ (s:=0) ⟨Ext.refl _,rfl,rfl,rfl,Nat.zero_le _⟩;rintro k tm h' ⟨X,w0,w1,w5,hk⟩;obtain⟨T,rfl⟩:=Tm.t3 w0 w1 w5;clear w0 w1 w5;by_cases c1:k<l.length
 ·repeat refine W.g ?_
  have ds:=DX.start (X.fr fr);try refine W.dv ?_
  refine W.dixF s1 c1 rfl rfl rfl rfl rfl rfl rfl λi1 o1 L1=> ?_;repeat (first|refine W.gd ?_|refine W.e λr_ h_ ds_ s_=> ?_)
  clear ds;have X1:=ds_.x;refine W.dixF s2 c1 rfl rfl rfl rfl rfl rfl rfl λi2 o2 L2=> ?_;repeat (first|refine W.gd ?_|refine W.e λr_ h_ ds_ s_=> ?_)
  have X2:=ds_.x;rw[show bytesEq l[k] l[k]=true by rw[bytesEq_eq];simp];repeat refine W.g ?_
  exact⟨k+1,lessN c1,X.trans X2,rfl,rfl,rfl,c1⟩
 ·repeat refine W.g ?_
  exact q _ X
theorem same_int {h:Heap} {tm:Tm} {Q:R->Prop} {v w:CV} {l:List Int} (fr:Fresh h) (s1:Sl h v l) (s2:Sl h w l) (hm:l.length<=1099511627776) (q:∀h',Ext h h'->Q (.val (.bool true) h')):W E1 (.call (.fn 47 [] []) [v,w]) tm h Q:=by
 refine W.fn (s:=fnOf Tryz.f47) rfl rfl rfl rfl ?_;repeat refine W.g ?_
 refine W.loop (σ:=Nat) (λk tm h'=>Ext h h'/\tm.look 0=v/\tm.look 1=w/\tm.look 5= .int .i64 (k:Int)/\k<=l.length) (λk=>l.length-k) ?_ (s:=0) ⟨Ext.refl _,rfl,rfl,rfl,Nat.zero_le _⟩;rintro k tm h' ⟨X,w0,w1,w5,hk⟩;obtain⟨T,rfl⟩:=Tm.t3 w0 w1 w5;clear w0 w1 w5;by_cases c1:k<l.length
 ·repeat refine W.g ?_
  have ds:=DX.start (X.fr fr);try refine W.dv ?_
  refine W.dixF s1 c1 rfl rfl rfl rfl rfl rfl rfl λi1 o1 L1=> ?_;repeat (first|refine W.gd ?_|refine W.e λr_ h_ ds_ s_=> ?_)
  clear ds;have X1:=ds_.x;refine W.dixF s2 c1 rfl rfl rfl rfl rfl rfl rfl λi2 o2 L2=> ?_;repeat (first|refine W.gd ?_|refine W.e λr_ h_ ds_ s_=> ?_)
  have X2:=ds_.x;repeat refine W.g ?_
  exact⟨k+1,lessN c1,X.trans X2,rfl,rfl,rfl,c1⟩
 ·repeat refine W.g ?_
  exact q _ X
theorem same_nt {h:Heap} {tm:Tm} {Q:R->Prop} {v w:CV} {l:List Int} (fr:Fresh h) (s1:Sl h v l) (s2:Sl h w l) (hm:l.length<=1099511627776) (q:∀h',Ext h h'->Q (.val (.bool true) h')):W E1 (.call (.fn 46 [] []) [v,w]) tm h Q:=by
 refine W.fn (s:=fnOf Tryz.f46) rfl rfl rfl rfl ?_;repeat refine W.g ?_
 refine W.loop (σ:=Nat) (λk tm h'=>Ext h h'/\tm.look 0=v/\tm.look 1=w/\tm.look 5= .int .i64 (k:Int)/\k<=l.length) (λk=>l.length-k) ?_ (s:=0) ⟨Ext.refl _,rfl,rfl,rfl,Nat.zero_le _⟩;rintro k tm h' ⟨X,w0,w1,w5,hk⟩;obtain⟨T,rfl⟩:=Tm.t3 w0 w1 w5;clear w0 w1 w5;by_cases c1:k<l.length
 ·repeat refine W.g ?_
  have ds:=DX.start (X.fr fr);try refine W.dv ?_
  refine W.dixF s1 c1 rfl rfl rfl rfl rfl rfl rfl λi1 o1 L1=> ?_;repeat (first|refine W.gd ?_|refine W.e λr_ h_ ds_ s_=> ?_)
  clear ds;have X1:=ds_.x;refine W.dixF s2 c1 rfl rfl rfl rfl rfl rfl rfl λi2 o2 L2=> ?_;repeat (first|refine W.gd ?_|refine W.e λr_ h_ ds_ s_=> ?_)
  have X2:=ds_.x;repeat refine W.g ?_
  exact⟨k+1,lessN c1,X.trans X2,rfl,rfl,rfl,c1⟩
 ·repeat refine W.g ?_
  exact q _ X
theorem same_path {h:Heap} {tm:Tm} {Q:R->Prop} {v w:CV} {l:List PathW} (fr:Fresh h) (s1:Sl h v l) (s2:Sl h w l) (hm:l.length<=1099511627776) (q:∀h',Ext h h'->Q (.val (.bool true) h')):W E1 (.call (.fn 42 [] []) [v,w]) tm h Q:=by
 refine W.fn (s:=fnOf Tryz.f42) rfl rfl rfl rfl ?_;repeat refine W.g ?_
 refine W.loop (σ:=Nat) (λk tm h'=>Ext h h'/\tm.look 0=v/\tm.look 1=w/\tm.look 5= .int .i64 (k:Int)/\k<=l.length) (λk=>l.length-k) ?_ (s:=0) ⟨Ext.refl _,rfl,rfl,rfl,Nat.zero_le _⟩;rintro k tm h' ⟨X,w0,w1,w5,hk⟩;obtain⟨T,rfl⟩:=Tm.t3 w0 w1 w5;clear w0 w1 w5;by_cases c1:k<l.length
 ·repeat refine W.g ?_
  have ds:=DX.start (X.fr fr);try refine W.dv ?_
  refine W.dixF s1 c1 rfl rfl rfl rfl rfl rfl rfl λi1 o1 L1=> ?_;repeat (first|refine W.gd ?_|refine W.e λr_ h_ ds_ s_=> ?_)
  clear ds;have X1:=ds_.x;refine W.dixF s2 c1 rfl rfl rfl rfl rfl rfl rfl λi2 o2 L2=> ?_;repeat refine W.e λr_ h_ ds_ s_=> ?_
  have X2:=ds_.x;refine W.dopn rfl rfl (ne_path (d:=l[k])) rfl ?_;repeat refine W.gd ?_
  repeat refine W.g ?_
  exact⟨k+1,lessN c1,X.trans X2,rfl,rfl,rfl,c1⟩
 ·repeat refine W.g ?_
  exact q _ X
theorem same_door {h:Heap} {tm:Tm} {Q:R->Prop} {v w:CV} {l:List DoorW} (fr:Fresh h) (s1:Sl h v l) (s2:Sl h w l) (hm:l.length<=1099511627776) (q:∀h',Ext h h'->Q (.val (.bool true) h')):W E1 (.call (.fn 43 [] []) [v,w]) tm h Q:=by
 refine W.fn (s:=fnOf Tryz.f43) rfl rfl rfl rfl ?_;repeat refine W.g ?_
 refine W.loop (σ:=Nat) (λk tm h'=>Ext h h'/\tm.look 0=v/\tm.look 1=w/\tm.look 5= .int .i64 (k:Int)/\k<=l.length) (λk=>l.length-k) ?_ (s:=0) ⟨Ext.refl _,rfl,rfl,rfl,Nat.zero_le _⟩;rintro k tm h' ⟨X,w0,w1,w5,hk⟩;obtain⟨T,rfl⟩:=Tm.t3 w0 w1 w5;clear w0 w1 w5;by_cases c1:k<l.length
 ·repeat refine W.g ?_
  have ds:=DX.start (X.fr fr);try refine W.dv ?_
  refine W.dixF s1 c1 rfl rfl rfl rfl rfl rfl rfl λi1 o1 L1=> ?_;repeat (first|refine W.gd ?_|refine W.e λr_ h_ ds_ s_=> ?_)
  clear ds;have X1:=ds_.x;refine W.dixF s2 c1 rfl rfl rfl rfl rfl rfl rfl λi2 o2 L2=> ?_;repeat refine W.e λr_ h_ ds_ s_=> ?_
  have X2:=ds_.x;refine W.dopn rfl rfl (ne_door (d:=l[k])) rfl ?_;repeat refine W.gd ?_
  repeat refine W.g ?_
  exact⟨k+1,lessN c1,X.trans X2,rfl,rfl,rfl,c1⟩
 ·repeat refine W.g ?_
  exact q _ X
theorem same_trip {h:Heap} {tm:Tm} {Q:R->Prop} {v w:CV} {l:List TripW} (fr:Fresh h) (s1:Sl h v l) (s2:Sl h w l) (hm:l.length<=1099511627776) (q:∀h',Ext h h'->Q (.val (.bool true) h')):W E1 (.call (.fn 44 [] []) [v,w]) tm h Q:=by
 refine W.fn (s:=fnOf Tryz.f44) rfl rfl rfl rfl ?_;repeat refine W.g ?_
 refine W.loop (σ:=Nat) (λk tm h'=>Ext h h'/\tm.look 0=v/\tm.look 1=w/\tm.look 5= .int .i64 (k:Int)/\k<=l.length) (λk=>l.length-k) ?_ (s:=0) ⟨Ext.refl _,rfl,rfl,rfl,Nat.zero_le _⟩;rintro k tm h' ⟨X,w0,w1,w5,hk⟩;obtain⟨T,rfl⟩:=Tm.t3 w0 w1 w5;clear w0 w1 w5;by_cases c1:k<l.length
 ·repeat refine W.g ?_
  have ds:=DX.start (X.fr fr);try refine W.dv ?_
  refine W.dixF s1 c1 rfl rfl rfl rfl rfl rfl rfl λi1 o1 L1=> ?_;repeat (first|refine W.gd ?_|refine W.e λr_ h_ ds_ s_=> ?_)
  clear ds;have X1:=ds_.x;refine W.dixF s2 c1 rfl rfl rfl rfl rfl rfl rfl λi2 o2 L2=> ?_;repeat refine W.e λr_ h_ ds_ s_=> ?_
  have X2:=ds_.x;refine W.dopn rfl rfl (ne_trip (d:=l[k])) rfl ?_;repeat refine W.gd ?_
  repeat refine W.g ?_
  exact⟨k+1,lessN c1,X.trans X2,rfl,rfl,rfl,c1⟩
 ·repeat refine W.g ?_
  exact q _ X
theorem same_haz {h:Heap} {tm:Tm} {Q:R->Prop} {v w:CV} {l:List HazW} (fr:Fresh h) (s1:Sl h v l) (s2:Sl h w l) (hm:l.length<=1099511627776) (q:∀h',Ext h h'->Q (.val (.bool true) h')):W E1 (.call (.fn 45 [] []) [v,w]) tm h Q:=by
 refine W.fn (s:=fnOf Tryz.f45) rfl rfl rfl rfl ?_;repeat refine W.g ?_
 refine W.loop (σ:=Nat) (λk tm h'=>Ext h h'/\tm.look 0=v/\tm.look 1=w/\tm.look 5= .int .i64 (k:Int)/\k<=l.length) (λk=>l.length-k) ?_ (s:=0) ⟨Ext.refl _,rfl,rfl,rfl,Nat.zero_le _⟩;rintro k tm h' ⟨X,w0,w1,w5,hk⟩;obtain⟨T,rfl⟩:=Tm.t3 w0 w1 w5;clear w0 w1 w5;by_cases c1:k<l.length
 ·repeat refine W.g ?_
  have ds:=DX.start (X.fr fr);try refine W.dv ?_
  refine W.dixF s1 c1 rfl rfl rfl rfl rfl rfl rfl λi1 o1 L1=> ?_;repeat (first|refine W.gd ?_|refine W.e λr_ h_ ds_ s_=> ?_)
  clear ds;have X1:=ds_.x;refine W.dixF s2 c1 rfl rfl rfl rfl rfl rfl rfl λi2 o2 L2=> ?_;repeat refine W.e λr_ h_ ds_ s_=> ?_
  have X2:=ds_.x;refine W.dopn rfl rfl (ne_haz (d:=l[k])) rfl ?_;repeat refine W.gd ?_
  repeat refine W.g ?_
  exact⟨k+1,lessN c1,X.trans X2,rfl,rfl,rfl,c1⟩
 ·repeat refine W.g ?_
  exact q _ X
end
end Go.Proofs.YtmgpjfnlciapkaaGreatDoor

namespace Go.Proofs.YtmgpjfnlciapkaaGreatDoor
open Go Go.CM Go.CM.Tt
noncomputable section
set_option maxHeartbeats 16000000
set_option maxRecDepth 100000
theorem eqT_s {d:Nat} {t:Nat} {a:Str} (ht:E1.ty t=some ⟨.string,1,16,[.str []],false,false,[]⟩):eqT E1 (d+1) t (.str a) (.str a)=some true:=by
 show(match E1.ty t with|some s=>eqK E1 (eqT E1 d) s (.str a) (.str a)|none=>none)=some true
 rw[ht];show some (bytesEq a a)=some true;rw[bytesEq_eq];simp
theorem ne_pathS {d:PathS} {h:Heap}:withH h ((eqT E1 20 52 (.agg d.enc) (.agg d.enc)).map λb=> .bool (!b))=some (.bool false,h):=by
 rw[show eqT E1 20 52 (.agg d.enc) (.agg d.enc)=some true from eqS rfl (eqF rfl rfl (eqT_s rfl) (eqF rfl rfl (eqT_s rfl) (eqF rfl rfl (eqT_s rfl) (eqF rfl rfl (eqT_i rfl) rfl))))];rfl
theorem ne_doorS {d:DoorS} {h:Heap}:withH h ((eqT E1 20 89 (.agg d.enc) (.agg d.enc)).map λb=> .bool (!b))=some (.bool false,h):=by
 rw[show eqT E1 20 89 (.agg d.enc) (.agg d.enc)=some true from eqS rfl (eqF rfl rfl (eqT_s rfl) (eqF rfl rfl (eqT_s rfl) (eqF rfl rfl (eqT_s rfl) (eqF rfl rfl (eqT_i rfl) (eqF rfl rfl ((eqS rfl (eqF rfl rfl (eqT_i rfl) (eqF rfl rfl (eqT_i rfl) (eqF rfl rfl (eqT_i rfl) rfl))))) rfl)))))];rfl
theorem ne_tripS {d:TripS} {h:Heap}:withH h ((eqT E1 20 63 (.agg d.enc) (.agg d.enc)).map λb=> .bool (!b))=some (.bool false,h):=by
 rw[show eqT E1 20 63 (.agg d.enc) (.agg d.enc)=some true from eqS rfl (eqF rfl rfl (eqT_s rfl) (eqF rfl rfl (eqT_s rfl) (eqF rfl rfl (eqT_i rfl) (eqF rfl rfl (eqT_i rfl) (eqF rfl rfl (eqT_i rfl) rfl)))))];rfl
theorem ne_hazS {d:HazS} {h:Heap}:withH h ((eqT E1 20 73 (.agg d.enc) (.agg d.enc)).map λb=> .bool (!b))=some (.bool false,h):=by
 rw[show eqT E1 20 73 (.agg d.enc) (.agg d.enc)=some true from eqS rfl (eqF rfl rfl (eqT_s rfl) (eqF rfl rfl (eqT_s rfl) (eqF rfl rfl ((eqS rfl (eqF rfl rfl (eqT_i rfl) (eqF rfl rfl (eqT_i rfl) (eqF rfl rfl (eqT_i rfl) rfl))))) rfl)))];rfl
theorem same_pathS {h:Heap} {tm:Tm} {Q:R->Prop} {v w:CV} {l:List PathS} (fr:Fresh h) (s1:Sl h v l) (s2:Sl h w l) (hm:l.length<=1099511627776) (q:∀h',Ext h h'->Q (.val (.bool true) h')):W E1 (.call (.fn 57 [] []) [v,w]) tm h Q:=by
 refine W.fn (s:=fnOf Tryz.f57) rfl rfl rfl rfl ?_;repeat refine W.g ?_
 refine W.loop (σ:=Nat) (λk tm h'=>Ext h h'/\tm.look 0=v/\tm.look 1=w/\tm.look 5= .int .i64 (k:Int)/\k<=l.length) (λk=>l.length-k) ?_ (s:=0) ⟨Ext.refl _,rfl,rfl,rfl,Nat.zero_le _⟩;rintro k tm h' ⟨X,w0,w1,w5,hk⟩;obtain⟨T,rfl⟩:=Tm.t3 w0 w1 w5;clear w0 w1 w5;by_cases c1:k<l.length
 ·repeat refine W.g ?_
  have ds:=DX.start (X.fr fr);try refine W.dv ?_
  refine W.dixF s1 c1 rfl rfl rfl rfl rfl rfl rfl λi1 o1 L1=> ?_;repeat (first|refine W.gd ?_|refine W.e λr_ h_ ds_ s_=> ?_)
  clear ds;have X1:=ds_.x;refine W.dixF s2 c1 rfl rfl rfl rfl rfl rfl rfl λi2 o2 L2=> ?_;repeat refine W.e λr_ h_ ds_ s_=> ?_
  have X2:=ds_.x;refine W.dopn rfl rfl (ne_pathS (d:=l[k])) rfl ?_;repeat refine W.gd ?_
  repeat refine W.g ?_
  exact⟨k+1,lessN c1,X.trans X2,rfl,rfl,rfl,c1⟩
 ·repeat refine W.g ?_
  exact q _ X
theorem same_doorS {h:Heap} {tm:Tm} {Q:R->Prop} {v w:CV} {l:List DoorS} (fr:Fresh h) (s1:Sl h v l) (s2:Sl h w l) (hm:l.length<=1099511627776) (q:∀h',Ext h h'->Q (.val (.bool true) h')):W E1 (.call (.fn 58 [] []) [v,w]) tm h Q:=by
 refine W.fn (s:=fnOf Tryz.f58) rfl rfl rfl rfl ?_;repeat refine W.g ?_
 refine W.loop (σ:=Nat) (λk tm h'=>Ext h h'/\tm.look 0=v/\tm.look 1=w/\tm.look 5= .int .i64 (k:Int)/\k<=l.length) (λk=>l.length-k) ?_ (s:=0) ⟨Ext.refl _,rfl,rfl,rfl,Nat.zero_le _⟩;rintro k tm h' ⟨X,w0,w1,w5,hk⟩;obtain⟨T,rfl⟩:=Tm.t3 w0 w1 w5;clear w0 w1 w5;by_cases c1:k<l.length
 ·repeat refine W.g ?_
  have ds:=DX.start (X.fr fr);try refine W.dv ?_
  refine W.dixF s1 c1 rfl rfl rfl rfl rfl rfl rfl λi1 o1 L1=> ?_;repeat (first|refine W.gd ?_|refine W.e λr_ h_ ds_ s_=> ?_)
  clear ds;have X1:=ds_.x;refine W.dixF s2 c1 rfl rfl rfl rfl rfl rfl rfl λi2 o2 L2=> ?_;repeat refine W.e λr_ h_ ds_ s_=> ?_
  have X2:=ds_.x;refine W.dopn rfl rfl (ne_doorS (d:=l[k])) rfl ?_;repeat refine W.gd ?_
  repeat refine W.g ?_
  exact⟨k+1,lessN c1,X.trans X2,rfl,rfl,rfl,c1⟩
 ·repeat refine W.g ?_
  exact q _ X
theorem same_tripS {h:Heap} {tm:Tm} {Q:R->Prop} {v w:CV} {l:List TripS} (fr:Fresh h) (s1:Sl h v l) (s2:Sl h w l) (hm:l.length<=1099511627776) (q:∀h',Ext h h'->Q (.val (.bool true) h')):W E1 (.call (.fn 59 [] []) [v,w]) tm h Q:=by
 refine W.fn (s:=fnOf Tryz.f59) rfl rfl rfl rfl ?_;repeat refine W.g ?_
 refine W.loop (σ:=Nat) (λk tm h'=>Ext h h'/\tm.look 0=v/\tm.look 1=w/\tm.look 5= .int .i64 (k:Int)/\k<=l.length) (λk=>l.length-k) ?_ (s:=0) ⟨Ext.refl _,rfl,rfl,rfl,Nat.zero_le _⟩;rintro k tm h' ⟨X,w0,w1,w5,hk⟩;obtain⟨T,rfl⟩:=Tm.t3 w0 w1 w5;clear w0 w1 w5;by_cases c1:k<l.length
 ·repeat refine W.g ?_
  have ds:=DX.start (X.fr fr);try refine W.dv ?_
  refine W.dixF s1 c1 rfl rfl rfl rfl rfl rfl rfl λi1 o1 L1=> ?_;repeat (first|refine W.gd ?_|refine W.e λr_ h_ ds_ s_=> ?_)
  clear ds;have X1:=ds_.x;refine W.dixF s2 c1 rfl rfl rfl rfl rfl rfl rfl λi2 o2 L2=> ?_;repeat refine W.e λr_ h_ ds_ s_=> ?_
  have X2:=ds_.x;refine W.dopn rfl rfl (ne_tripS (d:=l[k])) rfl ?_;repeat refine W.gd ?_
  repeat refine W.g ?_
  exact⟨k+1,lessN c1,X.trans X2,rfl,rfl,rfl,c1⟩
 ·repeat refine W.g ?_
  exact q _ X
theorem same_hazS {h:Heap} {tm:Tm} {Q:R->Prop} {v w:CV} {l:List HazS} (fr:Fresh h) (s1:Sl h v l) (s2:Sl h w l) (hm:l.length<=1099511627776) (q:∀h',Ext h h'->Q (.val (.bool true) h')):W E1 (.call (.fn 60 [] []) [v,w]) tm h Q:=by
 refine W.fn (s:=fnOf Tryz.f60) rfl rfl rfl rfl ?_;repeat refine W.g ?_
 refine W.loop (σ:=Nat) (λk tm h'=>Ext h h'/\tm.look 0=v/\tm.look 1=w/\tm.look 5= .int .i64 (k:Int)/\k<=l.length) (λk=>l.length-k) ?_ (s:=0) ⟨Ext.refl _,rfl,rfl,rfl,Nat.zero_le _⟩;rintro k tm h' ⟨X,w0,w1,w5,hk⟩;obtain⟨T,rfl⟩:=Tm.t3 w0 w1 w5;clear w0 w1 w5;by_cases c1:k<l.length
 ·repeat refine W.g ?_
  have ds:=DX.start (X.fr fr);try refine W.dv ?_
  refine W.dixF s1 c1 rfl rfl rfl rfl rfl rfl rfl λi1 o1 L1=> ?_;repeat (first|refine W.gd ?_|refine W.e λr_ h_ ds_ s_=> ?_)
  clear ds;have X1:=ds_.x;refine W.dixF s2 c1 rfl rfl rfl rfl rfl rfl rfl λi2 o2 L2=> ?_;repeat refine W.e λr_ h_ ds_ s_=> ?_
  have X2:=ds_.x;refine W.dopn rfl rfl (ne_hazS (d:=l[k])) rfl ?_;repeat refine W.gd ?_
  repeat refine W.g ?_
  exact⟨k+1,lessN c1,X.trans X2,rfl,rfl,rfl,c1⟩
 ·repeat refine W.g ?_
  exact q _ X
theorem routeEq_w {h:Heap} {tm:Tm} {Q:R->Prop} {ca cb:List CV} {d:RouteS} (fr:Fresh h) (ra:Rp.R h ca d) (rb:Rp.R h cb d) (sh:d.stops.length<=1099511627776/\d.rides.length<=1099511627776/\d.stays.length<=1099511627776) (q:∀h',Ext h h'->Q (.val (.bool true) h')):W E1 (.call (.fn 61 [] []) [.agg ca,.agg cb]) tm h Q:=by
 obtain⟨a1,a2,a3,rfl,p1,p2,p3⟩:=ra;obtain⟨b1,b2,b3,rfl,q1,q2,q3⟩:=rb;obtain⟨m1,m2,m3⟩:=sh;have hnn:d.name=d.name:=rfl;refine W.fn (s:=fnOf Tryz.f61) rfl rfl rfl rfl ?_;repeat (refine W.seq ?_)
 refine W.region ?_;refine W.box rfl rfl rfl λH1 X1 n1 g1 L1=> ?_;refine W.box rfl rfl rfl λH2 X2 n2 g2 L2=> ?_;have L1:=L1.ext X2;have Y2:=X1.trans X2;repeat refine W.g ?_
 refine W.call rfl rfl rfl (same_str (Y2.fr fr) (p1.ext Y2) (q1.ext Y2) m1 λG1 V1=> ?_);have U1:=Y2.trans V1;have L1:=L1.ext V1;have L2:=L2.ext V1;refine W.k4 2 3 10 15 λT=> ?_;repeat refine W.g ?_
 refine W.call rfl rfl rfl (same_int (U1.fr fr) (p2.ext U1) (q2.ext U1) m2 λG2 V2=> ?_);have U2:=U1.trans V2;have L1:=L1.ext V2;have L2:=L2.ext V2;refine W.k4 2 3 17 22 λT=> ?_;repeat refine W.g ?_
 refine W.call rfl rfl rfl (same_int (U2.fr fr) (p3.ext U2) (q3.ext U2) m3 λG3 V3=> ?_);have U3:=U2.trans V3;refine W.k2 24 29 λT=> ?_;repeat refine W.g ?_
 exact q _ U3
def _root_.Go.CM.Tt.SheetD.short (x:SheetD):Prop:=x.stops.length<=1099511627776/\x.paths.length<=1099511627776/\x.doors.length<=1099511627776/\x.routes.length<=1099511627776/\x.trips.length<=1099511627776/\x.hazards.length<=1099511627776/\∀r∈x.routes,r.stops.length<=1099511627776/\r.rides.length<=1099511627776/\r.stays.length<=1099511627776
theorem sheetEq_w {h:Heap} {tm:Tm} {Q:R->Prop} {ca cb:List CV} {x:SheetD} (fr:Fresh h) (ra:Rp.R h ca x) (rb:Rp.R h cb x) (sh:x.short) (q:∀h',Ext h h'->Q (.val (.bool true) h')):W E1 (.call (.fn 18 [] []) [.agg ca,.agg cb]) tm h Q:=by
 obtain⟨a1,a2,a3,a4,a5,a6,rfl,p1,p2,p3,p4,p5,p6⟩:=ra;obtain⟨b1,b2,b3,b4,b5,b6,rfl,q1,q2,q3,q4,q5,q6⟩:=rb;obtain⟨m1,m2,m3,m4,m5,m6,mr⟩:=sh;refine W.fn (s:=fnOf Tryz.f18) rfl rfl rfl rfl ?_;repeat (refine W.seq ?_)
 refine W.region ?_;refine W.box rfl rfl rfl λH1 X1 n1 g1 L1=> ?_;refine W.box rfl rfl rfl λH2 X2 n2 g2 L2=> ?_;have L1:=L1.ext X2;have Y2:=X1.trans X2;repeat refine W.g ?_
 refine W.call rfl rfl rfl (same_str (Y2.fr fr) (p1.ext Y2) (q1.ext Y2) m1 λG0 V0=> ?_);have U0:=Y2.trans V0;have L1:=L1.ext V0;have L2:=L2.ext V0;refine W.k4 2 3 11 16 λT=> ?_;repeat refine W.g ?_
 refine W.call rfl rfl rfl (same_pathS (U0.fr fr) (p2.ext U0) (q2.ext U0) m2 λG1 V1=> ?_);have U1:=U0.trans V1;have L1:=L1.ext V1;have L2:=L2.ext V1;refine W.k4 2 3 19 24 λT=> ?_;repeat refine W.g ?_
 refine W.call rfl rfl rfl (same_doorS (U1.fr fr) (p3.ext U1) (q3.ext U1) m3 λG2 V2=> ?_);have U2:=U1.trans V2;have L1:=L1.ext V2;have L2:=L2.ext V2;refine W.k4 2 3 27 32 λT=> ?_;repeat refine W.g ?_
 refine W.call rfl rfl rfl (same_tripS (U2.fr fr) (p5.ext U2) (q5.ext U2) m5 λG3 V3=> ?_);have U3:=U2.trans V3;have L1:=L1.ext V3;have L2:=L2.ext V3;refine W.k4 2 3 35 40 λT=> ?_;repeat refine W.g ?_
 refine W.call rfl rfl rfl (same_hazS (U3.fr fr) (p6.ext U3) (q6.ext U3) m6 λG4 V4=> ?_);have U4:=U3.trans V4;have L1:=L1.ext V4;have L2:=L2.ext V4;refine W.k4 2 3 43 48 λT=> ?_;repeat refine W.g ?_
 have fr':=U4.fr fr;obtain⟨K,hK⟩:∃K,K=G4:=⟨_,rfl⟩;have p4:=p4.ext U4;have q4:=q4.ext U4;rw[<-hK]at L1 L2 fr' U4 p4 q4 ⊢;refine W.k3 2 3 5 λT=> ?_;refine W.loop (σ:=Nat) (λk tm h'=>Ext K h'/\tm.look 2= .ptr (some (h.next,0))/\tm.look 3= .ptr (some (H1.next,0))/\tm.look 5= .int .i64 (k:Int)/\k<=x.routes.length) (λk=>x.routes.length-k) ?_ (s:=0) ⟨Ext.refl _,rfl,rfl,rfl,Nat.zero_le _⟩;rintro k tm h' ⟨X,w2,w3,w5,hk⟩;obtain⟨T,rfl⟩:=Tm.t3 w2 w3 w5;clear w2 w3 w5;by_cases c1:k<x.routes.length
 ·repeat refine W.g ?_
  have ds:=DX.start (X.fr fr');repeat (first|refine W.gd ?_|refine W.e λr_ h_ ds_ s_=> ?_)
  refine W.dixR p4 c1 rfl rfl rfl rfl rfl rfl rfl λi1 o1 e1 Le1 re1=> ?_;have hl1:=Rp.len re1;repeat (first|refine W.gd ?_|refine W.e λr_ h_ ds_ s_=> ?_)
  clear ds;refine W.dixR q4 c1 rfl rfl rfl rfl rfl rfl rfl λi2 o2 e2 Le2 re2=> ?_;have hl2:=Rp.len re2;repeat refine W.e λr_ h_ ds_ s_=> ?_
  have xx:=ds_.x;have Z:=X.trans xx;refine W.dcallZ ds_ rfl rfl rfl rfl (routeEq_w (Z.fr fr') (Rp.ext Z re1) (Rp.ext Z re2) (mr _ (List.getElem_mem c1)) λh1 Y1=>DZ.val Y1 λr1 h1' ds1 s1'=> ?_);repeat refine W.gd ?_
  repeat refine W.g ?_
  exact⟨k+1,lessN c1,X.trans ds1.x,rfl,rfl,rfl,c1⟩
 ·repeat refine W.g ?_
  exact q _ (U4.trans X)
end
end Go.Proofs.YtmgpjfnlciapkaaGreatDoor

namespace Go.Proofs.YtmgpjfnlciapkaaGreatDoor
open Go Go.CM Go.CM.Tt
noncomputable section
set_option maxHeartbeats 16000000
set_option maxRecDepth 100000
theorem world_w {h:Heap} {tm:Tm} {Q:R->Prop} {ca cb:List CV} {w:WorldD} (fr:Fresh h) (ra:Rp.R h ca w) (rb:Rp.R h cb w) (sh:w.short) (q:∀h',Ext h h'->Q (.val (.bool true) h')):W E1 (.call (.fn 12 [] []) [.agg ca,.agg cb]) tm h Q:=by
 obtain⟨a1,a2,a3,a4,a5,a6,a7,a8,a9,a10,a11,rfl,p1,p2,p3,p4,p5,p6,p7,p8,p9,p10,p11⟩:=ra;obtain⟨b1,b2,b3,b4,b5,b6,b7,b8,b9,b10,b11,rfl,q1,q2,q3,q4,q5,q6,q7,q8,q9,q10,q11⟩:=rb;obtain⟨m1,m2,m3,m4,m5,m6,m7,m8,m9,m10,m11,mr⟩:=sh;refine W.fn (s:=fnOf Tryz.f12) rfl rfl rfl rfl ?_;repeat (refine W.seq ?_)
 refine W.region ?_;refine W.box rfl rfl rfl λH1 X1 n1 g1 L1=> ?_;refine W.box rfl rfl rfl λH2 X2 n2 g2 L2=> ?_;have L1:=L1.ext X2;have Y2:=X1.trans X2;repeat refine W.g ?_
 have ds:=DX.start (Y2.fr fr);repeat (first|refine W.gd ?_|refine W.e λr_ h_ ds_ s_=> ?_)
 refine W.dalZ ds_ rfl rfl rfl λr3 H3 ds3 x3 n3 g3=> ?_;refine W.dalZ ds3 rfl rfl rfl λr4 H4 ds4 x4 n4 g4=> ?_;have xx:=ds_.x;have nxx:=xx.next;refine W.dstZ (vs:=[a1,a2,a3,a4,a5,a6]) (cs':=[a1,a2,a3,a4,a5,a6]) ds4 (by omega) rfl rfl rfl rfl rfl rfl rfl ((x4.old _ (by omega)).trans g3) rfl λr5 H5 hr5 s5=> ?_;have n5:H5.next=H4.next:=s5.next;have k5:∀k,k≠h_.next->H5.get k=H4.get k:=λk hk=>by rw[s5.get,Heap.get_put,if_neg (Ne.symm hk)]
 have g5:H5.get h_.next=some (.cells [a1,a2,a3,a4,a5,a6] false):=by rw[s5.get,put_same]
 refine W.dst (vs:=[b1,b2,b3,b4,b5,b6]) (cs':=[b1,b2,b3,b4,b5,b6]) hr5 rfl rfl rfl rfl rfl rfl rfl ((k5 _ (by omega)).trans g4) rfl λr6 H6 hr6 s6=> ?_;repeat refine W.gd ?_
 have n6:H6.next=H5.next:=s6.next;have k6:∀k,k≠H3.next->H6.get k=H5.get k:=λk hk=>by rw[s6.get,Heap.get_put,if_neg (Ne.symm hk)]
 have g6:H6.get H3.next=some (.cells [b1,b2,b3,b4,b5,b6] false):=by rw[s6.get,put_same]
 have g5:=(k6 h_.next (by omega)).trans g5;have Y6:Ext H2 H6:=Ext.store (Ext.store ((xx.trans x3).trans x4) n5 k5 (by omega) (by omega)) n6 k6 (by omega) (by omega);have L5:LocE H6 h_.next 0 [a1,a2,a3,a4,a5,a6]:=⟨_,_,g5,by omega,rfl⟩;have L6:LocE H6 H3.next 0 [b1,b2,b3,b4,b5,b6]:=⟨_,_,g6,by omega,rfl⟩;have Z6:=Y2.trans Y6;have L1:=L1.ext Y6;have L2:=L2.ext Y6;clear ds ds_ ds3 ds4 hr5 hr6 s5 s6 k5 k6 n5 n6 g1 g2 g3 g4 g5 g6 x3 x4 xx s_ Y6;refine W.k4 2 3 5 6 λT=> ?_;repeat refine W.g ?_
 refine W.call rfl rfl rfl (same_str (Z6.fr fr) (p1.ext Z6) (q1.ext Z6) m1 λG1 V1=> ?_);have U1:=Z6.trans V1;refine W.k5 2 3 5 6 18 λT=> ?_;have T1:=V1;repeat refine W.g ?_
 refine W.call rfl rfl rfl (same_str (U1.fr fr) (p2.ext U1) (q2.ext U1) m2 λG2 V2=> ?_);have U2:=U1.trans V2;refine W.k6 2 3 5 6 20 25 λT=> ?_;have T2:=T1.trans V2;repeat refine W.g ?_
 refine W.call rfl rfl rfl (same_str (U2.fr fr) (p3.ext U2) (q3.ext U2) m3 λG3 V3=> ?_);have U3:=U2.trans V3;refine W.k6 2 3 5 6 28 33 λT=> ?_;have T3:=T2.trans V3;repeat refine W.g ?_
 refine W.call rfl rfl rfl (same_str (U3.fr fr) (p4.ext U3) (q4.ext U3) m4 λG4 V4=> ?_);have U4:=U3.trans V4;refine W.k6 2 3 5 6 36 41 λT=> ?_;have T4:=T3.trans V4;repeat refine W.g ?_
 refine W.call rfl rfl rfl (same_str (U4.fr fr) (p5.ext U4) (q5.ext U4) m5 λG5 V5=> ?_);have U5:=U4.trans V5;refine W.k6 2 3 5 6 44 49 λT=> ?_;have T5:=T4.trans V5;repeat refine W.g ?_
 refine W.call rfl rfl rfl (same_str (U5.fr fr) (p6.ext U5) (q6.ext U5) m6 λG6 V6=> ?_);have U6:=U5.trans V6;refine W.k6 2 3 5 6 52 57 λT=> ?_;have T6:=T5.trans V6;repeat refine W.g ?_
 refine W.call rfl rfl rfl (same_path (U6.fr fr) (p7.ext U6) (q7.ext U6) m7 λG7 V7=> ?_);have U7:=U6.trans V7;refine W.k4 2 3 65 70 λT=> ?_;have S7:=V7;repeat refine W.g ?_
 refine W.call rfl rfl rfl (same_door (U7.fr fr) (p8.ext U7) (q8.ext U7) m8 λG8 V8=> ?_);have U8:=U7.trans V8;refine W.k4 2 3 73 78 λT=> ?_;have S8:=S7.trans V8;repeat refine W.g ?_
 refine W.call rfl rfl rfl (same_trip (U8.fr fr) (p10.ext U8) (q10.ext U8) m10 λG10 V10=> ?_);have U10:=U8.trans V10;refine W.k4 2 3 81 86 λT=> ?_;have S10:=S8.trans V10;repeat refine W.g ?_
 refine W.call rfl rfl rfl (same_haz (U10.fr fr) (p11.ext U10) (q11.ext U10) m11 λG11 V11=> ?_);have U11:=U10.trans V11;refine W.k4 2 3 89 94 λT=> ?_;have S11:=S10.trans V11;repeat refine W.g ?_
 have ZZ:=T6.trans S11;have L1:=L1.ext ZZ;have L2:=L2.ext ZZ;have p9:=p9.ext U11;have q9:=q9.ext U11;have fr':=U11.fr fr;obtain⟨K,hK⟩:∃K,K=G11:=⟨_,rfl⟩;rw[<-hK]at L1 L2 p9 q9 fr' U11 ⊢;refine W.k3 2 3 7 λT=> ?_;refine W.loop (σ:=Nat) (λk tm h'=>Ext K h'/\tm.look 2= .ptr (some (h.next,0))/\tm.look 3= .ptr (some (H1.next,0))/\tm.look 7= .int .i64 (k:Int)/\k<=w.routes.length) (λk=>w.routes.length-k) ?_ (s:=0) ⟨Ext.refl _,rfl,rfl,rfl,Nat.zero_le _⟩;rintro k tm h' ⟨X,w2,w3,w7,hk⟩;obtain⟨T,rfl⟩:=Tm.t3 w2 w3 w7;clear w2 w3 w7;by_cases c1:k<w.routes.length
 ·repeat refine W.g ?_
  have ds:=DX.start (X.fr fr');repeat (first|refine W.gd ?_|refine W.e λr_ h_ ds_ s_=> ?_)
  refine W.dixR p9 c1 rfl rfl rfl rfl rfl rfl rfl λi1 o1 e1 Le1 re1=> ?_;have hl1:=Rp.len re1;repeat (first|refine W.gd ?_|refine W.e λr_ h_ ds_ s_=> ?_)
  clear ds;refine W.dixR q9 c1 rfl rfl rfl rfl rfl rfl rfl λi2 o2 e2 Le2 re2=> ?_;have hl2:=Rp.len re2;repeat refine W.e λr_ h_ ds_ s_=> ?_
  have xx:=ds_.x;have nxx:=xx.next;obtain⟨c1',c2',c3',rfl,pa1,pa2,pa3⟩:=re1;obtain⟨d1',d2',d3',rfl,qa1,qa2,qa3⟩:=re2;refine W.dalZ ds_ rfl rfl rfl λr3 J3 ds3 x3 n3 g3=> ?_;refine W.dalZ ds3 rfl rfl rfl λr4 J4 ds4 x4 n4 g4=> ?_;refine W.dstZ (vs:=[c1',c2',c3']) (cs':=[c1',c2',c3']) ds4 (by omega) rfl rfl rfl rfl rfl rfl rfl ((x4.old _ (by omega)).trans g3) rfl λr5 J5 hr5 s5=> ?_;have n5:J5.next=J4.next:=s5.next;have k5:∀k,k≠h_.next->J5.get k=J4.get k:=λk hk=>by rw[s5.get,Heap.get_put,if_neg (Ne.symm hk)]
  have g5:J5.get h_.next=some (.cells [c1',c2',c3'] false):=by rw[s5.get,put_same]
  refine W.dst (vs:=[d1',d2',d3']) (cs':=[d1',d2',d3']) hr5 rfl rfl rfl rfl rfl rfl rfl ((k5 _ (by omega)).trans g4) rfl λr6 J6 hr6 s6=> ?_;repeat refine W.gd ?_
  have n6:J6.next=J5.next:=s6.next;have k6:∀k,k≠J3.next->J6.get k=J5.get k:=λk hk=>by rw[s6.get,Heap.get_put,if_neg (Ne.symm hk)]
  have g6:J6.get J3.next=some (.cells [d1',d2',d3'] false):=by rw[s6.get,put_same]
  have g5:=(k6 h_.next (by omega)).trans g5;have Y6:Ext h' J6:=Ext.store (Ext.store ((xx.trans x3).trans x4) n5 k5 (by omega) (by omega)) n6 k6 (by omega) (by omega);have La:LocE J6 h_.next 0 [c1',c2',c3']:=⟨_,_,g5,by omega,rfl⟩;have Lb:LocE J6 J3.next 0 [d1',d2',d3']:=⟨_,_,g6,by omega,rfl⟩;have Z:=X.trans Y6;have mm:=mr _ (List.getElem_mem c1);clear ds_ ds3 ds4 hr5 hr6 s5 s6 k5 k6 g3 g4 g5 g6 xx x3 x4 Le1 Le2;refine W.k5 2 3 7 8 9 λT=> ?_;repeat refine W.g ?_
  refine W.call rfl rfl rfl (same_nt (Z.fr fr') (pa1.ext Z) (qa1.ext Z) mm.1 λJ7 W7=> ?_);have Z7:=Z.trans W7;refine W.k6 2 3 7 8 9 127 λT=> ?_;repeat refine W.g ?_
  refine W.call rfl rfl rfl (same_int (Z7.fr fr') (pa2.ext Z7) (qa2.ext Z7) mm.2.1 λJ8 W8=> ?_);have Z8:=Z7.trans W8;have W8':=W7.trans W8;refine W.k7 2 3 7 8 9 129 134 λT=> ?_;repeat refine W.g ?_
  refine W.call rfl rfl rfl (same_int (Z8.fr fr') (pa3.ext Z8) (qa3.ext Z8) mm.2.2 λJ9 W9=> ?_);refine W.k5 2 3 7 137 142 λT=> ?_;repeat refine W.g ?_
  exact⟨k+1,lessN c1,Z8.trans W9,rfl,rfl,rfl,c1⟩
 ·repeat refine W.g ?_
  exact q _ (U11.trans X)
end
end Go.Proofs.YtmgpjfnlciapkaaGreatDoor
