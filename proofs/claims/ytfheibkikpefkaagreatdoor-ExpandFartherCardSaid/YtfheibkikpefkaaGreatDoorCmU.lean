/- Drawn regions: what a listed set says, and one operation more. No condition. -/
import Derived.Test.YtfheibkikpefkaaGreatDoorCmS
set_option linter.unusedVariables false
set_option linter.unusedSimpArgs false
noncomputable section
namespace Go.CM
def dstOf (all:List Oper) (j:Nat):Option Nat:=match all[j]? with
 |some o=>o.dst
 |none=>none
structure Drawn (P:Program) (E:Env) (all:List Oper) (ev:Nat->Ev) (tm:Nat->Tm) (hp:Nat->Heap):Prop where
 fact:∀j o,all[j]? =some o->Fact P E all o (tm j) (hp j) (ev j) (tm (j+1)) (hp (j+1))
 pair:∀j o,all[j]? =some o->∀j',j'<j->j'∈(((aheads all [])[j]?).getD Bits.nil)\/Apart (ev j') (ev j)
 ok:drawOk all=true
structure Rdy (all:List Oper) (L:Nat->Bool) (i:Nat):Prop where
 un:L i=false
 pre:∀j∈(((aheads all [])[i]?).getD Bits.nil),L j=true
 post:∀j,L j=true->i∉(((aheads all [])[j]?).getD Bits.nil)
def add (L:Nat->Bool) (i:Nat):Nat->Bool:=λj=>decide (j=i)||L j
theorem add_same (L:Nat->Bool) (i:Nat):add L i i=true:=by simp[add]
theorem add_other (L:Nat->Bool) {i j:Nat} (h:j≠i):add L i j=L j:=by simp[add,h]
def HS (ev:Nat->Ev) (h0:Heap) (N:Nat) (L:Nat->Bool) (k:Nat):Option Blk×Nat:=
 last L (λj=>(ev j).T k) (λj=>((ev j).d'.get k,(ev j).d'.next)) (h0.get k,h0.next) N
def TS (ev:Nat->Ev) (all:List Oper) (tmps0:Tm) (h0:Heap) (L:Nat->Bool) (t:Nat):Option CV×Nat:=
 last L (λj=>dstOf all j=some t) (λj=>(some (ev j).v,(ev j).d'.next)) (tmps0.get t,h0.next) all.length
theorem last_fst {α β:Type} {S:Nat->Bool} {T:Nat->Prop} {v:Nat->α×β} {b:α×β}:∀n,(last S T v b n).1=last S T (λj=>(v j).1) b.1 n
 |0=>rfl
 |n+1=>by
  simp only[last];split
  ·rfl
  ·exact last_fst n
section
variable {P:Program} {E:Env} {all:List Oper} {ev:Nat->Ev} {tm:Nat->Tm} {hp:Nat->Heap} {L:Nat->Bool} {i:Nat} {o:Oper}
theorem Drawn.next_le (D:Drawn P E all ev tm hp) {i:Nat}:∀{j:Nat},i<=j->j<=all.length->(hp i).next<=(hp j).next
 |0,h,_=>by have:i=0:=by omega
            subst this;exact Nat.le_refl _
 |j+1,h,hj=>by
  by_cases e:i=j+1
  ·subst e;exact Nat.le_refl _
  ·exact Nat.le_trans (D.next_le (j:=j) (by omega) (by omega)) (D.fact j all[j] (List.getElem?_eq_getElem (by omega))).le
theorem Drawn.lo (D:Drawn P E all ev tm hp) (h:i<all.length):(ev i).d.next=(hp i).next:=(D.fact i all[i] (List.getElem?_eq_getElem h)).next
theorem Drawn.hi (D:Drawn P E all ev tm hp) (h:i<all.length):(ev i).d'.next=(hp (i+1)).next:=(D.fact i all[i] (List.getElem?_eq_getElem h)).next'.symm
theorem lt_of {o:Oper} (h:all[i]? =some o):i<all.length:=(List.getElem?_eq_some_iff.1 h).1
theorem Drawn.tmp_pair (D:Drawn P E all ev tm hp) {j i:Nat} {x y:Oper} (hx:all[j]? =some x) (hy:all[i]? =some y) (h:j<i):
  j∈(((aheads all [])[i]?).getD Bits.nil)\/((∀t,x.dst=some t->t∉looksAt all y)/\(∀t,y.dst=some t->t∉looksAt all x)/\(∀t,x.dst=some t->y.dst≠some t)):=by
 have ok:=D.ok;unfold drawOk at ok;rw[Bool.and_eq_true]at ok;have h1:=tmpsOk_spec all 0 ok.2 i y hy;rw[Nat.zero_add]at h1;have h2:=tmpPairs_spec all 0 i h1 j x h hx;rw[Nat.zero_add]at h2;refine h2.imp id λh3=> ?_;unfold tmpPair at h3;rw[Bool.and_eq_true,Bool.and_eq_true,noMem_iff,noMem_iff,neDst_iff]at h3;exact⟨h3.1.1,h3.1.2,h3.2⟩
theorem Drawn.heap_at (D:Drawn P E all ev tm hp) {h0:Heap} (ho:all[i]? =some o) (R:Rdy all L i) {k:Nat} (hk:(ev i).d.get k≠none):HS ev h0 all.length L k=HS ev h0 all.length (λj=>decide (j<i)) k:=by
 refine last_congr λj hj hT=> ?_;rcases Nat.lt_trichotomy j i with h|h|h
 ·rcases D.pair i o ho j h with hh|hh
  ·rw[R.pre j hh];simp[h]
  ·exact absurd (hh.l k hT) hk
 ·subst h;rw[R.un];simp
 ·rcases D.pair j all[j] (List.getElem?_eq_getElem hj) i h with hh|hh
  ·cases hl:L j with
   |true=>exact absurd hh (R.post j hl)
   |false=>simp;omega
  ·exact absurd (hh.r k hT) hk
theorem Drawn.heap_val (D:Drawn P E all ev tm hp) (hi:i<=all.length) (k:Nat):(HS ev (hp 0) all.length (λj=>decide (j<i)) k).1=(hp i).get k:=by
 unfold HS;rw[last_fst];exact last_chain (X:=λj=>(hp j).get k) (N:=all.length) rfl (λj hj=>(D.fact j all[j] (List.getElem?_eq_getElem hj)).get k) (Nat.le_refl _) hi
theorem Drawn.heap_lev (D:Drawn P E all ev tm hp) (hi:i<=all.length) (k:Nat):(HS ev (hp 0) all.length (λj=>decide (j<i)) k).2<=(hp i).next:=by
 refine last_prop (p:=λx:_×Nat=>x.2<=(hp i).next) (D.next_le (Nat.zero_le _) hi) λj hj hs _=> ?_;simp only[decide_eq_true_eq]at hs;show(ev j).d'.next<=_;rw[D.hi hj];exact D.next_le (by omega) hi
theorem Drawn.heap_put (D:Drawn P E all ev tm hp) {h0:Heap} (ho:all[i]? =some o) (R:Rdy all L i) {k:Nat} (hT:(ev i).T k):HS ev h0 all.length (add L i) k=((ev i).d'.get k,(ev i).d'.next):=by
 refine last_at (v:=λj=>((ev j).d'.get k,(ev j).d'.next)) (add_same L i) hT (lt_of ho) λj h1 h2 hs hT2=> ?_;rw[add_other L (by omega)]at hs;rcases D.pair j all[j] (List.getElem?_eq_getElem h2) i h1 with hh|hh
 ·exact R.post j hs hh
 ·exact hh.n k hT hT2
theorem heap_same {h0:Heap} {N:Nat} {k:Nat} (hT:¬(ev i).T k):HS ev h0 N (add L i) k=HS ev h0 N L k:=by
 refine last_congr λj _ hj=> ?_;by_cases e:j=i
 ·subst e;exact absurd hj hT
 ·exact add_other L e
theorem dstOf_eq {j:Nat} {x:Oper} (h:all[j]? =some x):dstOf all j=x.dst:=by unfold dstOf;rw[h]
theorem Drawn.tmp_at (D:Drawn P E all ev tm hp) {h0:Heap} {t0:Tm} (ho:all[i]? =some o) (R:Rdy all L i) {t:Nat} (ht:t∈looksAt all o):TS ev all t0 h0 L t=TS ev all t0 h0 (λj=>decide (j<i)) t:=by
 refine last_congr λj hj hT=> ?_;have hx:=List.getElem?_eq_getElem hj;rw[dstOf_eq hx]at hT;rcases Nat.lt_trichotomy j i with h|h|h
 ·rcases D.tmp_pair hx ho h with hh|hh
  ·rw[R.pre j hh];simp[h]
  ·exact absurd ht (hh.1 t hT)
 ·subst h;rw[R.un];simp
 ·rcases D.tmp_pair ho hx h with hh|hh
  ·cases hl:L j with
   |true=>exact absurd hh (R.post j hl)
   |false=>simp;omega
  ·exact absurd ht (hh.2.1 t hT)
theorem Drawn.tmp_val (D:Drawn P E all ev tm hp) {h0:Heap} (hi:i<=all.length) (t:Nat):(TS ev all (tm 0) h0 (λj=>decide (j<i)) t).1=(tm i).get t:=by
 unfold TS;rw[last_fst];refine last_chain (X:=λj=>(tm j).get t) (N:=all.length) rfl (λj hj=> ?_) (Nat.le_refl _) hi;have hx:=List.getElem?_eq_getElem hj;rw[dstOf_eq hx];have:=(D.fact j all[j] hx).tmps;rw[this];generalize all[j].dst=dj;cases dj with
 |none=>exact⟨(λh=>by cases h),λ_=>rfl⟩
 |some d=>
  simp only[putTmp,Tm.get_set,Option.some.injEq];exact⟨(λh=>by rw[if_pos h]),(λh=>by rw[if_neg h])⟩
theorem Drawn.tmp_lev (D:Drawn P E all ev tm hp) {t0:Tm} (hi:i<=all.length) (t:Nat):(TS ev all t0 (hp 0) (λj=>decide (j<i)) t).2<=(hp i).next:=by
 refine last_prop (p:=λx:_×Nat=>x.2<=(hp i).next) (D.next_le (Nat.zero_le _) hi) λj hj hs _=> ?_;simp only[decide_eq_true_eq]at hs;show(ev j).d'.next<=_;rw[D.hi hj];exact D.next_le (by omega) hi
theorem Drawn.tmp_put (D:Drawn P E all ev tm hp) {h0:Heap} {t0:Tm} (ho:all[i]? =some o) (R:Rdy all L i) {t:Nat} (ht:o.dst=some t):TS ev all t0 h0 (add L i) t=(some (ev i).v,(ev i).d'.next):=by
 refine last_at (v:=λj=>(some (ev j).v,(ev j).d'.next)) (add_same L i) ((dstOf_eq ho).trans ht) (lt_of ho) λj h1 h2 hs hT2=> ?_;rw[add_other L (by omega)]at hs;have hx:=List.getElem?_eq_getElem h2;rw[dstOf_eq hx]at hT2;rcases D.tmp_pair ho hx h1 with hh|hh
 ·exact R.post j hs hh
 ·exact hh.2.2 t ht hT2
theorem tmp_same {h0:Heap} {t0:Tm} (ho:all[i]? =some o) {t:Nat} (ht:o.dst≠some t):TS ev all t0 h0 (add L i) t=TS ev all t0 h0 L t:=by
 refine last_congr λj _ hj=> ?_;by_cases e:j=i
 ·subst e;rw[dstOf_eq ho]at hj;exact absurd hj ht
 ·exact add_other L e
structure Inv (n:Nat) (ds:List Deferred) (all:List Oper) (ev:Nat->Ev) (tmps0:Tm) (h0:Heap) (ρ0:Rho) (w0:World) (L:Nat->Bool) (ρ:Rho) (a:Act) (w:World):Prop where
 ext:∀i,i<h0.next->ρ i=ρ0 i/\ρ.room i=ρ0.room i
 blk:∀k b,(HS ev h0 all.length L k).1=some b->∃c d,restr ρ (HS ev h0 all.length L k).2 k=some (c,d)/\BlkRel (restr ρ (HS ev h0 all.length L k).2) w c d (ρ.room k) b
 inj:∀i j k d e b c,(HS ev h0 all.length L i).1=some b->(HS ev h0 all.length L j).1=some c->(b.ro=false\/c.ro=false)->ρ i=some (k,d)->ρ j=some (k,e)->i=j
 lt:∀i k d,ρ i=some (k,d)->k<w.heap.size
 dom:∀k,h0.next<=k->ρ k≠none->∃j,j<all.length/\L j=true/\(ev j).d.next<=k/\k<(ev j).d'.next
 keep:Keep (LiveW ρ0 h0) w0 w
 ownW:∀b,(∃k d c,(HS ev h0 all.length L k).1=some c/\c.ro=false/\ρ k=some (b,d))->w0.heap.size<=b\/LiveW ρ0 h0 b
 own:∀b,(∃k d,(HS ev h0 all.length L k).1≠none/\ρ k=some (b,d))->w0.heap.size<=b\/Live ρ0 h0 b
 size:a.tmps.size=n
 defers:a.defers=ds
 tmp:∀t,VR (restr ρ (TS ev all tmps0 h0 L t).2) ((TS ev all tmps0 h0 L t).1.getD .undef) (a.tmps.getD t undef)
variable {n:Nat} {ds:List Deferred} {ρ0 ρ:Rho} {w0 w:World} {a:Act}
theorem Drawn.heap_d (D:Drawn P E all ev tm hp) (ho:all[i]? =some o) (R:Rdy all L i) {k:Nat} {b:Blk} (hb:(ev i).d.get k=some b):
  (HS ev (hp 0) all.length L k).1=some b/\(HS ev (hp 0) all.length L k).2<=(hp i).next:=by
 rw[D.heap_at ho R (by rw[hb];simp)];refine⟨?_,D.heap_lev (by have:=lt_of ho;omega) k⟩;rw[D.heap_val (by have:=lt_of ho;omega) k];exact(D.fact i o ho).sub k b hb
theorem Drawn.hr (D:Drawn P E all ev tm hp) (ho:all[i]? =some o) (R:Rdy all L i) (I:Inv n ds all ev (tm 0) (hp 0) ρ0 w0 L ρ a w):HR (restr ρ (hp i).next) (ev i).d w:=by
 refine⟨λk b hb=> ?_,λx y k d e bx cy hx hy hn h1 h2=> ?_,λk hk=> ?_,λx k d hx=>I.lt x k d (restr_some hx).2⟩
 ·obtain⟨h1,h2⟩:=D.heap_d ho R hb
  obtain⟨c,d,h3,h4⟩:=I.blk k b h1;exact⟨c,d,(restr_le ρ h2 _ _ h3).1,h4.later (restr_le ρ h2) rfl⟩
 ·exact I.inj x y k d e bx cy (D.heap_d ho R hx).1 (D.heap_d ho R hy).1 hn (restr_some h1).2 (restr_some h2).2
 ·rw[(D.fact i o ho).next]at hk
  exact restr_ge hk
theorem Drawn.operand (D:Drawn P E all ev tm hp) (ho:all[i]? =some o) (R:Rdy all L i) (I:Inv n ds all ev (tm 0) (hp 0) ρ0 w0 L ρ a w) {t:Nat} (ht:t∈looksAt all o):VR (restr ρ (hp i).next) (((tm i).get t).getD .undef) (a.tmps.getD t undef):=by
 have h:=I.tmp t;have hi:=lt_of ho;rw[D.tmp_at ho R ht,D.tmp_val (by omega)]at h;exact h.mono (restr_le ρ (D.tmp_lev (by omega) t))
theorem Drawn.gr (D:Drawn P E all ev tm hp) (ho:all[i]? =some o) (I:Inv n ds all ev (tm 0) (hp 0) ρ0 w0 L ρ a w) (g:GR E ρ0 (hp 0)):GR E (restr ρ (hp i).next) (ev i).d:=by
 have hi:=lt_of ho;have hle:=D.next_le (Nat.zero_le i) (by omega);refine⟨λx hx=> ?_,by rw[(D.fact i o ho).next];exact Nat.le_trans g.next hle⟩;have:=g.next;rw[restr_lt (by omega),(I.ext x (by omega)).1];exact g.glob x hx
theorem Drawn.step (D:Drawn P E all ev tm hp) (ho:all[i]? =some o) (R:Rdy all L i) (hd:∀d,o.dst=some d->d<n) (I:Inv n ds all ev (tm 0) (hp 0) ρ0 w0 L ρ a w) {ρ':Rho} {x:Value} {w':World}
  (j:J (restr ρ (hp i).next) (ev i).d w ρ' (ev i).d' w') (hv:VR ρ' (ev i).v x):∃ρ2,Inv n ds all ev (tm 0) (hp 0) ρ0 w0 (add L i) ρ2 (a.put o.dst x) w':=by
 have hi:=lt_of ho;have hlo:=D.lo hi;have hhi:=D.hi hi;have hle:(hp i).next<=(hp (i+1)).next:=D.next_le (by omega) (by omega);have hbase:(hp 0).next<=(hp i).next:=D.next_le (Nat.zero_le i) (by omega)
 have unused:∀k,(hp i).next<=k->k<(hp (i+1)).next->ρ k=none:=by
  intro k h1 h2;rcases Classical.em (ρ k=none)with h|h
  ·exact h
  ·exfalso
   obtain⟨y,y1,y2,y3,y4⟩:=I.dom k (by omega) h;rw[D.lo y1]at y3;rw[D.hi y1]at y4;rcases Nat.lt_trichotomy y i with hh|hh|hh
   ·have:=D.next_le (i:=y+1) (j:=i) (by omega) (by omega)
    omega
   ·subst hh;rw[R.un]at y2;cases y2
   ·have:=D.next_le (i:=i+1) (j:=y) (by omega) (by omega)
    omega
 let ρ2:Rho:=⟨λk=>if(hp i).next<=k/\k<(hp (i+1)).next then ρ' k else ρ k,λk=>if(hp i).next<=k/\k<(hp (i+1)).next then ρ'.room k else ρ.room k⟩
 have in2:∀k,(hp i).next<=k->k<(hp (i+1)).next->ρ2 k=ρ' k/\ρ2.room k=ρ'.room k:=λk h1 h2=>⟨if_pos ⟨h1,h2⟩,if_pos ⟨h1,h2⟩⟩;have out2:∀k,¬((hp i).next<=k/\k<(hp (i+1)).next)->ρ2 k=ρ k/\ρ2.room k=ρ.room k:=λk h=>⟨if_neg h,if_neg h⟩
 have s2:Sub ρ ρ2:=by
  intro k p hk;have:¬((hp i).next<=k/\k<(hp (i+1)).next):=λhh=>by rw[unused k hh.1 hh.2]at hk;cases hk
  rw[(out2 k this).1,(out2 k this).2];exact⟨hk,rfl⟩
 have s3:Sub ρ' (restr ρ2 (hp (i+1)).next):=by
  intro k p hk
  have hlt:k<(hp (i+1)).next:=by
   rcases Nat.lt_or_ge k (hp (i+1)).next with h|h
   ·exact h
   ·rw[j.hr.fresh k (by rw[hhi];exact h)]at hk;cases hk
  rw[restr_lt hlt];show ρ2 k=some p/\ρ2.room k=ρ'.room k;by_cases h:(hp i).next<=k
  ·rw[(in2 k h hlt).1,(in2 k h hlt).2]
   exact⟨hk,rfl⟩
  ·have e:=j.ext k (by rw[hlo];omega)
   rw[restr_lt (by omega)]at e;rw[(out2 k (λhh=>h hh.1)).1,(out2 k (λhh=>h hh.1)).2];exact⟨by rw[<-e.1];exact hk,e.2.symm⟩
 have s4:Sub (restr ρ (hp i).next) ρ':=J.sub (D.hr ho R I) j
 have dlive:∀k,(ev i).d.get k≠none->(HS ev (hp 0) all.length L k).1≠none:=by
  intro k hk;obtain⟨b,hb⟩:=Option.ne_none_iff_exists'.1 hk;rw[(D.heap_d ho R hb).1];simp
 have dk:∀k,(ev i).d.get k≠none->k<(hp i).next:=by
  intro k hk;obtain⟨b,hb⟩:=Option.ne_none_iff_exists'.1 hk;obtain⟨c,d,h1,_⟩:=(D.hr ho R I).blk k b hb;exact(restr_some h1).1
 have live:∀c,Live (restr ρ (hp i).next) (ev i).d c->∃k d,(ev i).d.get k≠none/\(HS ev (hp 0) all.length L k).1≠none/\ρ k=some (c,d):=by
  rintro c ⟨k,d,h1,h2⟩;exact⟨k,d,h1,dlive k h1,(restr_some h2).2⟩
 have liveW:∀c,LiveW (restr ρ (hp i).next) (ev i).d c->∃k d cc,(ev i).d.get k=some cc/\cc.ro=false/\(HS ev (hp 0) all.length L k).1=some cc/\ρ k=some (c,d):=by
  rintro c ⟨k,d,cc,h1,h2,h3⟩;exact⟨k,d,cc,h1,h2,(D.heap_d ho R h1).1,(restr_some h3).2⟩
 have val1:∀k,(ev i).d'.get k≠none->(HS ev (hp 0) all.length (add L i) k).1=(ev i).d'.get k:=by
  intro k hk;by_cases hT:(ev i).T k
  ·rw[D.heap_put ho R hT]
  ·rw[heap_same hT]
   have e:(ev i).d'.get k=(ev i).d.get k:=Classical.not_not.1 hT;rw[e]at hk ⊢;obtain⟨b,hb⟩:=Option.ne_none_iff_exists'.1 hk;rw[(D.heap_d ho R hb).1,hb]
 have both:∀k,(HS ev (hp 0) all.length (add L i) k).1≠none->((ev i).d'.get k≠none/\k<(hp (i+1)).next/\∃p,ρ' k=some p/\ρ2 k=some p)\/(¬(ev i).T k/\(ev i).d.get k=none/\(HS ev (hp 0) all.length L k).1≠none/\ρ2 k=ρ k/\ρ k≠none):=by
  intro k hk;by_cases h:(ev i).d'.get k=none
  ·right
   have hT:¬(ev i).T k:=by
    intro hT;rw[D.heap_put ho R hT]at hk;exact hk h
   rw[heap_same hT]at hk;have hd0:(ev i).d.get k=none:=by rw[<-Classical.not_not.1 hT];exact h
   refine⟨hT,hd0,hk,?_⟩;obtain⟨b,hb⟩:=Option.ne_none_iff_exists'.1 hk;obtain⟨c,d,h1,_⟩:=I.blk k b hb;have h1:=(restr_some h1).2;rw[(s2 k _ h1).1,h1];exact⟨rfl,by simp⟩
  ·left
   obtain⟨b,hb⟩:=Option.ne_none_iff_exists'.1 h;obtain⟨c,d,h1,_⟩:=j.hr.blk k b hb;have:=restr_some (s3 k _ h1).1;exact⟨h,this.1,(c,d),h1,this.2⟩
 refine⟨ρ2,⟨λk hk=> ?_,λk b hb=> ?_,λk1 k2 c d e b1 b2 h1 h2 hn g1 g2=> ?_,λk c d hk=> ?_,λk hk hne=> ?_,?_,λc hc=> ?_,λc hc=> ?_,?_,?_,λt=> ?_⟩⟩
 ·rw[(out2 k (by omega)).1,(out2 k (by omega)).2]
  exact I.ext k hk
 ·by_cases hT:(ev i).T k
  ·rw[D.heap_put ho R hT]at hb ⊢
   simp only at hb ⊢;obtain⟨c,d,h1,h2⟩:=j.hr.blk k b hb;rw[hhi];have h3:=s3 k _ h1;refine⟨c,d,h3.1,?_⟩;have h4:ρ2.room k=ρ'.room k:=h3.2;rw[h4];exact h2.later s3 rfl
  ·rw[heap_same hT]at hb ⊢
   obtain⟨c,d,h1,h2⟩:=I.blk k b hb;refine⟨c,d,(restr_mono s2 _ _ _ h1).1,?_⟩;have hroom:ρ2.room k=ρ.room k:=(s2 k _ (restr_some h1).2).2;rw[hroom];by_cases hdk:(ev i).d.get k=none
   ·
    have hsame:w'.heap[c]? =w.heap[c]? :=by
     refine j.keep.same c (I.lt k c d (restr_some h1).2) λhl=> ?_;obtain⟨k2,d2,cc,g1,gro,g2,g3⟩:=liveW c hl;have:=I.inj k k2 c d d2 b cc hb g2 (.inr gro) (restr_some h1).2 g3;subst this;rw[hdk]at g1;cases g1
    exact h2.later (restr_mono s2 _) hsame
   ·obtain⟨b',hb'⟩:=Option.ne_none_iff_exists'.1 hdk
    have hbb:=(D.heap_d ho R hb').1;rw[hb]at hbb;cases hbb;have hlev:=(D.heap_d ho R hb').2;have hd':(ev i).d'.get k=some b:=by rw[Classical.not_not.1 hT];exact hb'
    obtain⟨c',d',g1,g2⟩:=j.hr.blk k b hd';have hk':=s4 k _ (restr_le ρ hlev _ _ h1).1;rw[hk'.1]at g1;cases g1;rw[hk'.2]at g2;have h5:BlkRel (restr ρ (HS ev (hp 0) all.length L k).2) w' c d (ρ.room k) b:=h2.down (Sub.trans (restr_le ρ hlev) s4) g2;exact h5.later (restr_mono s2 _) rfl
 ·have cross:∀k1 k2 d e b1 b2,(HS ev (hp 0) all.length (add L i) k1).1=some b1->(HS ev (hp 0) all.length (add L i) k2).1=some b2->(b1.ro=false\/b2.ro=false)->
     ((ev i).d'.get k1≠none/\k1<(hp (i+1)).next/\∃p,ρ' k1=some p/\ρ2 k1=some p)->(¬(ev i).T k2/\(ev i).d.get k2=none/\(HS ev (hp 0) all.length L k2).1≠none/\ρ2 k2=ρ k2/\ρ k2≠none)->ρ2 k1=some (c,d)->ρ2 k2=some (c,e)->False:=by
    rintro k1 k2 d e b1 b2 hb1 hb2 hn ⟨h1,_,p,hp1,hp2⟩ ⟨y1,y2,y3,y4,y5⟩ g1 g2;rw[hp2]at g1;cases g1;rw[y4]at g2;rw[val1 k1 h1]at hb1;rw[heap_same y1]at hb2;rcases hn with hn|hn
    ·rcases j.ownW c ⟨k1,d,b1,hb1,hn,hp1⟩with h|h
     ·have:=I.lt k2 c e g2;omega
     ·obtain⟨k3,d3,cc,z1,z0,z2,z3⟩:=liveW c h
      have:=I.inj k3 k2 c d3 e cc b2 z2 hb2 (.inl z0) z3 g2;subst this;rw[y2]at z1;cases z1
    ·rcases j.own c ⟨k1,d,h1,hp1⟩with h|h
     ·have:=I.lt k2 c e g2;omega
     ·obtain⟨k3,d3,z1,z2,z3⟩:=live c h
      obtain⟨b3,z2⟩:=Option.ne_none_iff_exists'.1 z2;have:=I.inj k3 k2 c d3 e b3 b2 z2 hb2 (.inr hn) z3 g2;subst this;exact z1 y2
  rcases both k1 (by rw[h1];simp)with a1|a1<;>rcases both k2 (by rw[h2];simp)with a2|a2
  ·obtain⟨x1,_,p,hp1,hp2⟩:=a1
   obtain⟨y1,_,q,hq1,hq2⟩:=a2;rw[hp2]at g1;cases g1;rw[hq2]at g2;cases g2;rw[val1 k1 x1]at h1;rw[val1 k2 y1]at h2;exact j.hr.inj k1 k2 c d e b1 b2 h1 h2 hn hp1 hq1
  ·exact(cross k1 k2 d e b1 b2 h1 h2 hn a1 a2 g1 g2).elim
  ·exact(cross k2 k1 e d b2 b1 h2 h1 hn.symm a2 a1 g2 g1).elim
  ·rw[a1.2.2.2.1]at g1
   rw[a2.2.2.2.1]at g2;rw[heap_same a1.1]at h1;rw[heap_same a2.1]at h2;exact I.inj k1 k2 c d e b1 b2 h1 h2 hn g1 g2
 ·by_cases h:(hp i).next<=k/\k<(hp (i+1)).next
  ·rw[(in2 k h.1 h.2).1]at hk
   exact j.hr.lt k c d hk
  ·rw[(out2 k h).1]at hk
   exact Nat.lt_of_lt_of_le (I.lt k c d hk) j.keep.size
 ·by_cases h:(hp i).next<=k/\k<(hp (i+1)).next
  ·exact⟨i,hi,add_same L i,by rw[hlo];exact h.1,by rw[hhi];exact h.2⟩
  ·rw[(out2 k h).1]at hne
   obtain⟨y,y1,y2,y3⟩:=I.dom k hk hne;refine⟨y,y1,?_,y3⟩;simp[add,y2]
 ·refine⟨j.keep.os.trans I.keep.os,j.keep.out.trans I.keep.out,Nat.le_trans I.keep.size j.keep.size,λc hc hl=> ?_⟩
  rw[j.keep.same c (Nat.lt_of_lt_of_le hc I.keep.size) ?_,I.keep.same c hc hl];intro hl2;obtain⟨k,d,cc,_,g1,g2,g3⟩:=liveW c hl2;rcases I.ownW c ⟨k,d,cc,g2,g1,g3⟩with h|h
  ·omega
  ·exact hl h
 ·obtain⟨k,d,cc,h1,h0,h2⟩:=hc
  by_cases hT:(ev i).T k
  ·rw[D.heap_put ho R hT]at h1
   simp only at h1;obtain⟨c',d',g1,_⟩:=j.hr.blk k cc h1;have h3:=(restr_some (s3 k _ g1).1).2;rw[h3]at h2;cases h2;rcases j.ownW c ⟨k,d,cc,h1,h0,g1⟩with h|h
   ·exact .inl (Nat.le_trans I.keep.size h)
   ·obtain⟨k3,d3,cc3,_,z1,z2,z3⟩:=liveW c h
    exact I.ownW c ⟨k3,d3,cc3,z2,z1,z3⟩
  ·rw[heap_same hT]at h1
   obtain⟨c',d',g1,_⟩:=I.blk k cc h1;have g1:=(restr_some g1).2;have h3:=(s2 k _ g1).1;have h2:ρ2 k=some (c,d):=h2;rw[h3]at h2;cases h2;exact I.ownW c ⟨k,d,cc,h1,h0,g1⟩
 ·obtain⟨k,d,h1,h2⟩:=hc
  rcases both k h1 with a1|a1
  ·obtain⟨x1,_,p,hp1,hp2⟩:=a1
   rw[hp2]at h2;cases h2;rcases j.own c ⟨k,d,x1,hp1⟩with h|h
   ·exact .inl (Nat.le_trans I.keep.size h)
   ·obtain⟨k3,d3,_,z2,z3⟩:=live c h
    exact I.own c ⟨k3,d3,z2,z3⟩
  ·rw[a1.2.2.2.1]at h2
   exact I.own c ⟨k,d,a1.2.2.1,h2⟩
 ·rw[<-I.size]
  cases o.dst<;>simp[Act.put]
 ·rw[<-I.defers]
  cases o.dst<;>rfl
 ·by_cases ht:o.dst=some t
  ·rw[D.tmp_put ho R ht]
   have hlt:t<a.tmps.size:=by rw[I.size];exact hd t ht
   have e:(a.put o.dst x).tmps.getD t undef=x:=by rw[ht];simp[Act.put,hlt]
   rw[e];simp only[Option.getD_some];rw[hhi];exact hv.mono s3
  ·rw[tmp_same ho ht]
   have e:(a.put o.dst x).tmps.getD t undef=a.tmps.getD t undef:=by
    cases hdst:o.dst with
    |none=>rfl
    |some d=>
     have:d≠t:=λe=>ht (by rw[hdst,e]);simp[Act.put,this]
   rw[e];exact(I.tmp t).mono (restr_mono s2 _)
end
end Go.CM
