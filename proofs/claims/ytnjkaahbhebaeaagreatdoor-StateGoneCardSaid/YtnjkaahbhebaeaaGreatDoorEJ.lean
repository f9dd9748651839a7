/- Times looked at: by the program. No condition but that memory beyond the next number is empty and the run is not endless. -/
import Derived.Test.YtnjkaahbhebaeaaGreatDoorXU
import Derived.Test.YtnjkaahbhebaeaaGreatDoorEG
import Derived.Test.YtnjkaahbhebaeaaGreatDoorZB
import Derived.Test.YtnjkaahbhebaeaaGreatDoorXZ
import Derived.Test.YtnjkaahbhebaeaaGreatDoorEH
set_option linter.unusedVariables false
set_option linter.unusedSimpArgs false
set_option maxRecDepth 100000
namespace Go.Proofs.YtnjkaahbhebaeaaGreatDoor
open Go Go.CM Go.CM.Tt
noncomputable section
set_option maxHeartbeats 16000000
theorem getI {l:List Int} {k:Nat} (h:k<l.length):l.getD k 0=l[k]:=by simp[List.getD_eq_getElem?_getD,h]
theorem times_w {h:Heap} {tm:Tm} {Q:R->Prop} {cs:List CV} {r:RunD} (rr:Rp.R h cs r) (fr:Fresh h) (hm:r.arr.length<=1099511627776) (q:∀h' (b:Bool),Ext h h'->(b=true↔r.timesOk)->Q (.val (.bool b) h')):W E1 (.call (.fn 239 [] []) [.agg cs]) tm h Q:=by
 have r0:=rr;obtain⟨vA,vD,rfl,s1,s2⟩:=rr;refine W.fn (s:=fnOf Tryz.f239) rfl rfl rfl rfl ?_;repeat (refine W.seq ?_)
 refine W.region ?_;refine W.box rfl rfl rfl λH1 X1 n1 g1 L1=> ?_;have no:∀{M:Heap},Ext h M->¬r.timesOk->Q (.val (.bool false) M):=λX hh=>q _ false X (Iff.intro (λh=>by cases h) (λh=>absurd h hh));have frK:=X1.fr fr;repeat (first|refine W.g ?_|refine W.m λh_ X_ n_ g_ L_=> ?_|refine W.n λh_ X_ n_ g_ S_=> ?_)
 have ds:=DX.start frK;by_cases c1:r.arr.length<2
 ·repeat (first|refine W.gd ?_|refine W.e λr_ h_ ds_ s_=> ?_)
  repeat (first|refine W.g ?_|refine W.m λh_ X_ n_ g_ L_=> ?_|refine W.n λh_ X_ n_ g_ S_=> ?_)
  exact no X1 (λhh=>by have:=hh.1;omega)
 obtain⟨n,hn⟩:∃n,r.arr.length=n+1:=⟨r.arr.length-1,by omega⟩;have hn1:r.arr.length-1=n:=by omega
 repeat (first|refine W.gd ?_|refine W.e λr_ h_ ds_ s_=> ?_)
 refine W.dlnS s2 rfl rfl rfl rfl rfl rfl rfl ?_;by_cases c2:¬r.dep.length=r.arr.length
 ·repeat (first|refine W.gd ?_|refine W.e λr_ h_ ds_ s_=> ?_)
  repeat (first|refine W.g ?_|refine W.m λh_ X_ n_ g_ L_=> ?_|refine W.n λh_ X_ n_ g_ S_=> ?_)
  exact no (X1.trans ds_.x) (λhh=>c2 hh.2.1)
 repeat (first|refine W.gd ?_|refine W.e λr_ h_ ds_ s_=> ?_)
 refine W.dixI s1 (j:=0) (by omega) λiM1 oM1 M1=> ?_;repeat (first|refine W.gd ?_|refine W.e λr_ h_ ds_ s_=> ?_)
 refine W.dixI s2 (j:=0) (by omega) λiM2 oM2 M2=> ?_;by_cases c3:¬r.arr.getD 0 0=r.dep.getD 0 0
 ·repeat (first|refine W.gd ?_|refine W.e λr_ h_ ds_ s_=> ?_)
  repeat (first|refine W.g ?_|refine W.m λh_ X_ n_ g_ L_=> ?_|refine W.n λh_ X_ n_ g_ S_=> ?_)
  exact no (X1.trans ds_.x) (λhh=>c3 hh.2.2.1)
 repeat (first|refine W.gd ?_|refine W.e λr_ h_ ds_ s_=> ?_)
 rw[show((r.arr.length:Int)-1)=(n:Int) by omega];refine W.dixI s2 (j:=n) (by omega) λiM3 oM3 M3=> ?_;repeat (first|refine W.gd ?_|refine W.e λr_ h_ ds_ s_=> ?_)
 refine W.dcallZ ds_ rfl rfl rfl rfl (end_w (t0:=r.trip) (n0:=r.no) (arr:=r.arr) (dep:=r.dep) (n:=n) hn (by omega) (Rp.ext (X1.trans ds_.x) r0) λh1 Y1=>DZ.val Y1 λq1 N1 ds1 t1=> ?_);refine W.k6 1 2 3 28 34 36 λT=> ?_;clear ds_ M1 M2 M3;by_cases c4:¬r.dep.getD n 0=r.arr.getD n 0
 ·repeat (first|refine W.gd ?_|refine W.e λr_ h_ ds_ s_=> ?_)
  repeat (first|refine W.g ?_|refine W.m λh_ X_ n_ g_ L_=> ?_|refine W.n λh_ X_ n_ g_ S_=> ?_)
  exact no (X1.trans ds1.x) (λhh=>c4 (by have:=hh.2.2.2.1;rwa[hn1]at this))
 repeat (first|refine W.gd ?_|refine W.e λr_ h_ ds_ s_=> ?_)
 refine W.dixI s1 (j:=0) (by omega) λiM1 oM1 M1=> ?_;by_cases c5:r.arr.getD 0 0<0
 ·repeat (first|refine W.gd ?_|refine W.e λr_ h_ ds_ s_=> ?_)
  repeat (first|refine W.g ?_|refine W.m λh_ X_ n_ g_ L_=> ?_|refine W.n λh_ X_ n_ g_ S_=> ?_)
  exact no (X1.trans ds_.x) (λhh=>by have:=hh.2.2.2.2.1;omega)
 repeat (first|refine W.gd ?_|refine W.e λr_ h_ ds_ s_=> ?_)
 refine W.dcallZ ds_ rfl rfl rfl rfl (end_w (t0:=r.trip) (n0:=r.no) (arr:=r.arr) (dep:=r.dep) (n:=n) hn (by omega) (Rp.ext (X1.trans ds_.x) r0) λh1 Y1=>DZ.val Y1 λq2 N2 ds2 t2=> ?_);refine W.k5 1 2 3 46 48 λT=> ?_;clear ds_ M1;by_cases c6:1099511627776<r.arr.getD n 0
 ·repeat (first|refine W.gd ?_|refine W.e λr_ h_ ds_ s_=> ?_)
  repeat (first|refine W.g ?_|refine W.m λh_ X_ n_ g_ L_=> ?_|refine W.n λh_ X_ n_ g_ S_=> ?_)
  exact no (X1.trans ds2.x) (λhh=>by have:=hh.2.2.2.2.2.1;rw[hn1]at this;omega)
 repeat (first|refine W.gd ?_|refine W.e λr_ h_ ds_ s_=> ?_)
 repeat (first|refine W.g ?_|refine W.m λh_ X_ n_ g_ L_=> ?_|refine W.n λh_ X_ n_ g_ S_=> ?_)
 have XN:=X1.trans ds2.x;have L1:=L1.ext ds2.x;refine W.k3 1 3 4 λT=> ?_
 refine W.loop (σ:=Nat) (λk tm h'=>Ext N2 h'/\tm.look 1= .ptr (some (h.next,0))/\tm.look 3= .int .i64 (r.arr.length:Int)/\tm.look 4= .int .i64 (k:Int)/\1<=k/\k<=r.arr.length/\∀j,j+1<k->r.dep.getD j 0<r.arr.getD (j+1) 0/\r.arr.getD (j+1) 0<=r.dep.getD (j+1) 0) (λk=>r.arr.length-k) ?_ (s:=1)
  ⟨Ext.refl _,rfl,rfl,rfl,Nat.le_refl _,by omega,λj hj=>by omega⟩
 rintro k tm h' ⟨X,w1,w3,w4,k1,k2,hk⟩;obtain⟨T,rfl⟩:=Tm.t3 w1 w3 w4;clear w1 w3 w4;have XX:Ext h h':=XN.trans X;by_cases e1:k<r.arr.length
 ·repeat (first|refine W.g ?_|refine W.m λh_ X_ n_ g_ L_=> ?_|refine W.n λh_ X_ n_ g_ S_=> ?_)
  have ds:=DX.start (XX.fr fr);repeat (first|refine W.gd ?_|refine W.e λr_ h_ ds_ s_=> ?_)
  refine W.dixI s1 (j:=k) (by omega) λiP1 oP1 P1=> ?_;repeat (first|refine W.gd ?_|refine W.e λr_ h_ ds_ s_=> ?_)
  rw[show((k:Int)-1)=((k-1:Nat):Int) by omega];refine W.dixI s2 (j:=(k-1)) (by omega) λiP2 oP2 P2=> ?_;by_cases d1:r.arr.getD k 0<=r.dep.getD (k-1) 0
  ·repeat (first|refine W.gd ?_|refine W.e λr_ h_ ds_ s_=> ?_)
   repeat (first|refine W.g ?_|refine W.m λh_ X_ n_ g_ L_=> ?_|refine W.n λh_ X_ n_ g_ S_=> ?_)
   exact no (XX.trans ds_.x) (λhh=>by
    have:=(hh.2.2.2.2.2.2 (k-1) (by omega)).1;rw[show k-1+1=k by omega]at this;omega)
  repeat (first|refine W.gd ?_|refine W.e λr_ h_ ds_ s_=> ?_)
  refine W.dixI s2 (j:=k) (by omega) λiP3 oP3 P3=> ?_;repeat (first|refine W.gd ?_|refine W.e λr_ h_ ds_ s_=> ?_)
  refine W.dixI s1 (j:=k) (by omega) λiP4 oP4 P4=> ?_;by_cases d2:r.dep.getD k 0<r.arr.getD k 0
  ·repeat (first|refine W.gd ?_|refine W.e λr_ h_ ds_ s_=> ?_)
   repeat (first|refine W.g ?_|refine W.m λh_ X_ n_ g_ L_=> ?_|refine W.n λh_ X_ n_ g_ S_=> ?_)
   exact no (XX.trans ds_.x) (λhh=>by
    have:=(hh.2.2.2.2.2.2 (k-1) (by omega)).2;rw[show k-1+1=k by omega]at this;omega)
  repeat (first|refine W.gd ?_|refine W.e λr_ h_ ds_ s_=> ?_)
  repeat (first|refine W.g ?_|refine W.m λh_ X_ n_ g_ L_=> ?_|refine W.n λh_ X_ n_ g_ S_=> ?_)
  refine⟨k+1,lessN e1,X.trans ds_.x,rfl,rfl,rfl,by omega,e1,λj hj=> ?_⟩;by_cases ej:j+1=k
  ·obtain rfl:j=k-1:=by omega
   rw[show k-1+1=k by omega];exact⟨by omega,by omega⟩
  ·exact hk j (by omega)
 ·repeat (first|refine W.g ?_|refine W.m λh_ X_ n_ g_ L_=> ?_|refine W.n λh_ X_ n_ g_ S_=> ?_)
  exact q _ true XX (Iff.intro (λ_=>⟨by omega,Decidable.not_not.1 c2,Decidable.not_not.1 c3,by rw[hn1];exact Decidable.not_not.1 c4,by omega,by rw[hn1];omega,λj hj=>hk j (by omega)⟩) (λ_=>rfl))
end
end Go.Proofs.YtnjkaahbhebaeaaGreatDoor

namespace Go.Proofs.YtnjkaahbhebaeaaGreatDoor
open Go Go.CM Go.CM.Tt
noncomputable section
set_option maxHeartbeats 16000000
def _root_.Go.CM.Tt.WorldD.total (w:WorldD):Nat->Int
 |0=>0
 |k+1=>w.total k+w.cntAt k
theorem cntAt_bound {w:WorldD} (f:w.Fine) {j:Nat} (hj:j<w.trips.length):0<=w.cntAt j/\w.cntAt j<=1099511627777:=by
 obtain⟨t,r,jr,T⟩:=f.at hj;unfold WorldD.cntAt;rw[T.at_,T.of_];refine⟨WorldD.cnt_ge T.v.1,?_⟩;by_cases c:w.cnt t r<=countT t.frm t.evr t.untl
 ·have:=countT_big T.f T.v T.u
  omega
 ·exfalso
  have g:=countT_ge (f:=t.frm) (u:=t.untl) T.v.1;have:=(WorldD.has_iff (w:=w) (r:=r) T.v.1 g).2 (by omega);have:=this.2.1;omega
theorem total_bound {w:WorldD} (f:w.Fine):∀k:Nat,k<=w.trips.length->0<=w.total k/\w.total k<=k*1099511627777
 |0,_=>⟨Int.le_refl _,Int.le_refl _⟩
 |k+1,hk=>by
  have:=total_bound f k (by omega);have:=cntAt_bound f (j:=k) (by omega);unfold WorldD.total;omega
end
end Go.Proofs.YtnjkaahbhebaeaaGreatDoor
