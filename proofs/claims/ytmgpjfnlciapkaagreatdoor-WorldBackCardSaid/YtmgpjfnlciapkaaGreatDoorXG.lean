/- The drivers of the walks as theorems: what is left over is the premise, the way there fills itself. No condition, no program. (Printed by gen_xg.py.) -/
import Derived.Test.YtmgpjfnlciapkaaGreatDoorXU
import Derived.Test.YtmgpjfnlciapkaaGreatDoorXT
set_option linter.unusedVariables false
set_option linter.unusedSimpArgs false
noncomputable section
namespace Go.CM
structure Hold (q:Prop):Prop where
 h:q
section
variable {E:Env} {t:Task} {tm:Tm} {h h1:Heap} {Q:R->Prop} {all rest:List Oper} {o:Oper} {v:CV}
theorem W.opk {a0 a1 a2 a3 a4 a5 a6 a7 a8 a9 a10 a11 a12 a13 a14 a15:NA} {a16:Tree CV} (hg:guardOn all tm o=some true) (ho:opAny E o tm h=some (v,h)) (ht:putTmp tm o.dst v=(Tm.mk a0 a1 a2 a3 a4 a5 a6 a7 a8 a9 a10 a11 a12 a13 a14 a15 a16)) (w:W E (.ops all rest) (Tm.mk a0 a1 a2 a3 a4 a5 a6 a7 a8 a9 a10 a11 a12 a13 a14 a15 a16) h Q):W E (.ops all (o::rest)) tm h Q:=W.opn hg ho ht w
theorem W.dv {p q:Prop} (w:q) (k:Hold q->p:=by intro w;(repeat1' (first|refine W.doffn rfl rfl ?_|refine W.dopn rfl rfl op_lss rfl ?_|refine W.dopn rfl rfl op_leq rfl ?_|refine W.dopn rfl rfl op_eql rfl ?_|refine W.dopn rfl rfl op_neq rfl ?_|refine W.dopn rfl rfl (op_sub (by omega) (by omega)) rfl ?_|refine W.dopn rfl rfl (op_add (by omega) (by omega)) rfl ?_|refine W.dopn (v:= .int _ _) rfl rfl rfl rfl ?_|refine W.dopn (v:= .ptr _) rfl rfl rfl rfl ?_|refine W.dopn (v:= .bool _) rfl rfl rfl rfl ?_|refine W.dopn (v:= .slice _ _ _ _) rfl rfl rfl rfl ?_|refine W.dopn (v:= .agg _) rfl rfl rfl rfl ?_|refine W.dopn (v:= .tup _) rfl rfl rfl rfl ?_|refine W.dopn rfl rfl rfl rfl ?_|refine W.dnil ?_));exact w.h):p:=k ⟨w⟩
theorem W.g {p q:Prop} (w:q) (k:Hold q->p:=by intro w;(repeat1' (first|(with_reducible first|refine W.seq ?_|refine W.block ?_|refine W.region ?_|refine W.draws ?_|refine W.skip ?_|refine W.exit ?_|refine W.ret ?_|refine SeqQ.normal ?_|refine SeqQ.exit ?_|refine SeqQ.ret ?_|refine BlockQ.exit ?_|refine BlockQ.normal ?_|refine BlockQ.ret ?_|refine BlockQ.other rfl ?_|refine LoopQ.exit ?_|refine CallQ.val ?_|refine CutQ.normal ?_|refine LoopQ.ret ?_)|refine W.offn rfl rfl ?_|refine W.mn rfl rfl rfl rfl rfl ?_|refine W.mxx rfl rfl rfl rfl rfl ?_|refine W.lnS (by assumption) rfl rfl rfl rfl rfl rfl rfl rfl ?_|refine W.lns rfl rfl rfl rfl rfl rfl rfl rfl ?_|refine W.opk rfl op_seq rfl ?_|refine W.opk rfl op_sne rfl ?_|refine W.opk rfl op_lss rfl ?_|refine W.opk rfl op_leq rfl ?_|refine W.opk rfl op_eql rfl ?_|refine W.opk rfl op_neq rfl ?_|refine W.opk rfl (op_sub (by omega) (by omega)) rfl ?_|refine W.opk rfl (op_add (by omega) (by omega)) rfl ?_|refine W.opk rfl (op_mul (by assumption) (by assumption)) rfl ?_|refine W.opk (v:= .int _ _) rfl rfl rfl ?_|refine W.opk (v:= .ptr _) rfl rfl rfl ?_|refine W.opk (v:= .bool _) rfl rfl rfl ?_|refine W.opk (v:= .slice _ _ _ _) rfl rfl rfl ?_|refine W.opk (v:= .agg _) rfl rfl rfl ?_|refine W.opk (v:= .tup _) rfl rfl rfl ?_|refine W.opk rfl rfl rfl ?_|refine W.nil ?_|refine W.ldk (by assumption) (by(repeat (first|assumption|exact Ext.refl _|refine Ext.trans ?_ (by assumption)));first|done|fail) rfl rfl rfl rfl rfl rfl rfl rfl ?_|refine W.ldw (by assumption) (by(repeat (first|assumption|exact Ext.refl _|refine Ext.trans ?_ (by assumption)));first|done|fail) rfl rfl rfl rfl (by first|rfl|assumption) rfl rfl ?_|refine W.ldp (by assumption) (by(repeat (first|assumption|exact Ext.refl _|refine Ext.trans ?_ (by assumption)));first|done|fail) rfl rfl rfl rfl rfl rfl rfl ?_|refine W.ld0 (by assumption) (by(repeat (first|assumption|exact Ext.refl _|refine Ext.trans ?_ (by assumption)));first|done|fail) rfl rfl rfl rfl rfl rfl rfl rfl ?_|refine W.cond (x:=true) rfl (λ_=> ?_) (λhc=>by cases hc)|refine W.cond (x:=false) rfl (λhc=>by cases hc) (λ_=> ?_)|rw[decide_eq_true (by first|assumption|omega)]|rw[decide_eq_false (by first|assumption|omega)]));exact w.h):p:=k ⟨w⟩
theorem W.gd {p q:Prop} (w:q) (k:Hold q->p:=by intro w;(repeat1' (first|refine W.doffn rfl rfl ?_|refine W.dopn rfl rfl op_lss rfl ?_|refine W.dopn rfl rfl op_leq rfl ?_|refine W.dopn rfl rfl op_eql rfl ?_|refine W.dopn rfl rfl op_neq rfl ?_|refine W.dopn rfl rfl (op_sub (by omega) (by omega)) rfl ?_|refine W.dopn rfl rfl (op_add (by omega) (by omega)) rfl ?_|refine W.dopn (v:= .int _ _) rfl rfl rfl rfl ?_|refine W.dopn (v:= .ptr _) rfl rfl rfl rfl ?_|refine W.dopn (v:= .bool _) rfl rfl rfl rfl ?_|refine W.dopn (v:= .slice _ _ _ _) rfl rfl rfl rfl ?_|refine W.dopn (v:= .agg _) rfl rfl rfl rfl ?_|refine W.dopn (v:= .tup _) rfl rfl rfl rfl ?_|refine W.dopn rfl rfl rfl rfl ?_|refine W.dnil ?_|rw[decide_eq_true (by first|assumption|omega)]|rw[decide_eq_false (by first|assumption|omega)]));exact w.h):p:=k ⟨w⟩
theorem W.m {p:Prop} {p1 p2 p3 p4 q:Heap->Prop} (w:∀h,p1 h->p2 h->p3 h->p4 h->q h) (k:Hold (∀h,p1 h->p2 h->p3 h->p4 h->q h)->p:=by intro w;first|exact W.var rfl rfl rfl rfl rfl rfl rfl rfl rfl (by first|rfl|assumption) rfl w.h|exact W.box rfl rfl rfl w.h|exact W.al rfl rfl rfl w.h):p:=k ⟨w⟩
theorem W.n {p:Prop} {p1 p2 p3 p4 q:Heap->Prop} (w:∀h,p1 h->p2 h->p3 h->p4 h->q h) (k:Hold (∀h,p1 h->p2 h->p3 h->p4 h->q h)->p:=by intro w;first|exact W.bs1 rfl rfl rfl rfl w.h|exact W.bsS rfl rfl rfl w.h):p:=k ⟨w⟩
theorem W.e {p:Prop} {p1 p2 q:List Rec->Heap->Prop} (w:∀r h,p1 r h->p2 r h->q r h) (k:Hold (∀r h,p1 r h->p2 r h->q r h)->p:=by intro w;first|exact W.dlw (by assumption) (by assumption) (by(repeat (first|assumption|exact Ext.refl _|refine Ext.trans ?_ (by assumption)));first|done|fail) rfl rfl rfl rfl (by first|rfl|assumption) rfl w.h|exact W.dl0 (by assumption) (by assumption) (by(repeat (first|assumption|exact Ext.refl _|refine Ext.trans ?_ (by assumption)));first|done|fail) rfl rfl rfl rfl rfl rfl rfl w.h|exact W.dlk (by assumption) (by assumption) (by(repeat (first|assumption|exact Ext.refl _|refine Ext.trans ?_ (by assumption)));first|done|fail) rfl rfl rfl rfl rfl rfl rfl w.h|exact W.dlp (by assumption) (by assumption) (by(repeat (first|assumption|exact Ext.refl _|refine Ext.trans ?_ (by assumption)));first|done|fail) rfl rfl rfl rfl rfl rfl w.h):p:=k ⟨w⟩
theorem W.iz {p:Prop} {q:Nat->Nat->Prop} {p1:Nat->Nat->Prop} (w:∀i o,p1 i o->q i o) (k:Hold (∀i o,p1 i o->q i o)->p:=by intro w;exact W.ixF (by assumption) (by first|assumption|omega) rfl rfl rfl rfl rfl rfl rfl w.h):p:=k ⟨w⟩
theorem Ext.x {a b:Heap} (x:Ext a b:=by(repeat (first|assumption|exact Ext.refl _|refine Ext.trans ?_ (by assumption)));first|done|fail):Ext a b:=x
theorem W.k2 (i0 i1:Nat) {v0 v1:CV} (w:∀T:Tm,W E t ((T.set i0 (some v0)).set i1 (some v1)) h Q) (e0:tm.look i0=v0:=by conv=>lhs;whnf) (e1:tm.look i1=v1:=by conv=>lhs;whnf) (e:((tm.set i0 (some v0)).set i1 (some v1))=tm:=by rfl):W E t tm h Q:=Eq.subst (motive:=λx=>W E t x h Q) e (w tm)
theorem Tm.t2 {i0 i1:Nat} {v0 v1:CV} (w0:tm.look i0=v0) (w1:tm.look i1=v1) (e:tm=((tm.set i0 (some (tm.look i0))).set i1 (some (tm.look i1))):=by rfl):∃T:Tm,tm=((T.set i0 (some v0)).set i1 (some v1)):=⟨tm,e.trans (by rw[w0,w1])⟩
theorem W.k3 (i0 i1 i2:Nat) {v0 v1 v2:CV} (w:∀T:Tm,W E t (((T.set i0 (some v0)).set i1 (some v1)).set i2 (some v2)) h Q) (e0:tm.look i0=v0:=by conv=>lhs;whnf) (e1:tm.look i1=v1:=by conv=>lhs;whnf) (e2:tm.look i2=v2:=by conv=>lhs;whnf) (e:(((tm.set i0 (some v0)).set i1 (some v1)).set i2 (some v2))=tm:=by rfl):W E t tm h Q:=Eq.subst (motive:=λx=>W E t x h Q) e (w tm)
theorem Tm.t3 {i0 i1 i2:Nat} {v0 v1 v2:CV} (w0:tm.look i0=v0) (w1:tm.look i1=v1) (w2:tm.look i2=v2) (e:tm=(((tm.set i0 (some (tm.look i0))).set i1 (some (tm.look i1))).set i2 (some (tm.look i2))):=by rfl):∃T:Tm,tm=(((T.set i0 (some v0)).set i1 (some v1)).set i2 (some v2)):=⟨tm,e.trans (by rw[w0,w1,w2])⟩
theorem W.k4 (i0 i1 i2 i3:Nat) {v0 v1 v2 v3:CV} (w:∀T:Tm,W E t ((((T.set i0 (some v0)).set i1 (some v1)).set i2 (some v2)).set i3 (some v3)) h Q) (e0:tm.look i0=v0:=by conv=>lhs;whnf) (e1:tm.look i1=v1:=by conv=>lhs;whnf) (e2:tm.look i2=v2:=by conv=>lhs;whnf) (e3:tm.look i3=v3:=by conv=>lhs;whnf) (e:((((tm.set i0 (some v0)).set i1 (some v1)).set i2 (some v2)).set i3 (some v3))=tm:=by rfl):W E t tm h Q:=Eq.subst (motive:=λx=>W E t x h Q) e (w tm)
theorem Tm.t4 {i0 i1 i2 i3:Nat} {v0 v1 v2 v3:CV} (w0:tm.look i0=v0) (w1:tm.look i1=v1) (w2:tm.look i2=v2) (w3:tm.look i3=v3) (e:tm=((((tm.set i0 (some (tm.look i0))).set i1 (some (tm.look i1))).set i2 (some (tm.look i2))).set i3 (some (tm.look i3))):=by rfl):∃T:Tm,tm=((((T.set i0 (some v0)).set i1 (some v1)).set i2 (some v2)).set i3 (some v3)):=⟨tm,e.trans (by rw[w0,w1,w2,w3])⟩
theorem W.k5 (i0 i1 i2 i3 i4:Nat) {v0 v1 v2 v3 v4:CV} (w:∀T:Tm,W E t (((((T.set i0 (some v0)).set i1 (some v1)).set i2 (some v2)).set i3 (some v3)).set i4 (some v4)) h Q) (e0:tm.look i0=v0:=by conv=>lhs;whnf) (e1:tm.look i1=v1:=by conv=>lhs;whnf) (e2:tm.look i2=v2:=by conv=>lhs;whnf) (e3:tm.look i3=v3:=by conv=>lhs;whnf) (e4:tm.look i4=v4:=by conv=>lhs;whnf) (e:(((((tm.set i0 (some v0)).set i1 (some v1)).set i2 (some v2)).set i3 (some v3)).set i4 (some v4))=tm:=by rfl):W E t tm h Q:=Eq.subst (motive:=λx=>W E t x h Q) e (w tm)
theorem Tm.t5 {i0 i1 i2 i3 i4:Nat} {v0 v1 v2 v3 v4:CV} (w0:tm.look i0=v0) (w1:tm.look i1=v1) (w2:tm.look i2=v2) (w3:tm.look i3=v3) (w4:tm.look i4=v4) (e:tm=(((((tm.set i0 (some (tm.look i0))).set i1 (some (tm.look i1))).set i2 (some (tm.look i2))).set i3 (some (tm.look i3))).set i4 (some (tm.look i4))):=by rfl):∃T:Tm,tm=(((((T.set i0 (some v0)).set i1 (some v1)).set i2 (some v2)).set i3 (some v3)).set i4 (some v4)):=⟨tm,e.trans (by rw[w0,w1,w2,w3,w4])⟩
theorem W.k6 (i0 i1 i2 i3 i4 i5:Nat) {v0 v1 v2 v3 v4 v5:CV} (w:∀T:Tm,W E t ((((((T.set i0 (some v0)).set i1 (some v1)).set i2 (some v2)).set i3 (some v3)).set i4 (some v4)).set i5 (some v5)) h Q) (e0:tm.look i0=v0:=by conv=>lhs;whnf) (e1:tm.look i1=v1:=by conv=>lhs;whnf) (e2:tm.look i2=v2:=by conv=>lhs;whnf) (e3:tm.look i3=v3:=by conv=>lhs;whnf) (e4:tm.look i4=v4:=by conv=>lhs;whnf) (e5:tm.look i5=v5:=by conv=>lhs;whnf) (e:((((((tm.set i0 (some v0)).set i1 (some v1)).set i2 (some v2)).set i3 (some v3)).set i4 (some v4)).set i5 (some v5))=tm:=by rfl):W E t tm h Q:=Eq.subst (motive:=λx=>W E t x h Q) e (w tm)
theorem Tm.t6 {i0 i1 i2 i3 i4 i5:Nat} {v0 v1 v2 v3 v4 v5:CV} (w0:tm.look i0=v0) (w1:tm.look i1=v1) (w2:tm.look i2=v2) (w3:tm.look i3=v3) (w4:tm.look i4=v4) (w5:tm.look i5=v5) (e:tm=((((((tm.set i0 (some (tm.look i0))).set i1 (some (tm.look i1))).set i2 (some (tm.look i2))).set i3 (some (tm.look i3))).set i4 (some (tm.look i4))).set i5 (some (tm.look i5))):=by rfl):∃T:Tm,tm=((((((T.set i0 (some v0)).set i1 (some v1)).set i2 (some v2)).set i3 (some v3)).set i4 (some v4)).set i5 (some v5)):=⟨tm,e.trans (by rw[w0,w1,w2,w3,w4,w5])⟩
theorem W.k7 (i0 i1 i2 i3 i4 i5 i6:Nat) {v0 v1 v2 v3 v4 v5 v6:CV} (w:∀T:Tm,W E t (((((((T.set i0 (some v0)).set i1 (some v1)).set i2 (some v2)).set i3 (some v3)).set i4 (some v4)).set i5 (some v5)).set i6 (some v6)) h Q) (e0:tm.look i0=v0:=by conv=>lhs;whnf) (e1:tm.look i1=v1:=by conv=>lhs;whnf) (e2:tm.look i2=v2:=by conv=>lhs;whnf) (e3:tm.look i3=v3:=by conv=>lhs;whnf) (e4:tm.look i4=v4:=by conv=>lhs;whnf) (e5:tm.look i5=v5:=by conv=>lhs;whnf) (e6:tm.look i6=v6:=by conv=>lhs;whnf) (e:(((((((tm.set i0 (some v0)).set i1 (some v1)).set i2 (some v2)).set i3 (some v3)).set i4 (some v4)).set i5 (some v5)).set i6 (some v6))=tm:=by rfl):W E t tm h Q:=Eq.subst (motive:=λx=>W E t x h Q) e (w tm)
theorem Tm.t7 {i0 i1 i2 i3 i4 i5 i6:Nat} {v0 v1 v2 v3 v4 v5 v6:CV} (w0:tm.look i0=v0) (w1:tm.look i1=v1) (w2:tm.look i2=v2) (w3:tm.look i3=v3) (w4:tm.look i4=v4) (w5:tm.look i5=v5) (w6:tm.look i6=v6) (e:tm=(((((((tm.set i0 (some (tm.look i0))).set i1 (some (tm.look i1))).set i2 (some (tm.look i2))).set i3 (some (tm.look i3))).set i4 (some (tm.look i4))).set i5 (some (tm.look i5))).set i6 (some (tm.look i6))):=by rfl):∃T:Tm,tm=(((((((T.set i0 (some v0)).set i1 (some v1)).set i2 (some v2)).set i3 (some v3)).set i4 (some v4)).set i5 (some v5)).set i6 (some v6)):=⟨tm,e.trans (by rw[w0,w1,w2,w3,w4,w5,w6])⟩
theorem W.k8 (i0 i1 i2 i3 i4 i5 i6 i7:Nat) {v0 v1 v2 v3 v4 v5 v6 v7:CV} (w:∀T:Tm,W E t ((((((((T.set i0 (some v0)).set i1 (some v1)).set i2 (some v2)).set i3 (some v3)).set i4 (some v4)).set i5 (some v5)).set i6 (some v6)).set i7 (some v7)) h Q) (e0:tm.look i0=v0:=by conv=>lhs;whnf) (e1:tm.look i1=v1:=by conv=>lhs;whnf) (e2:tm.look i2=v2:=by conv=>lhs;whnf) (e3:tm.look i3=v3:=by conv=>lhs;whnf) (e4:tm.look i4=v4:=by conv=>lhs;whnf) (e5:tm.look i5=v5:=by conv=>lhs;whnf) (e6:tm.look i6=v6:=by conv=>lhs;whnf) (e7:tm.look i7=v7:=by conv=>lhs;whnf) (e:((((((((tm.set i0 (some v0)).set i1 (some v1)).set i2 (some v2)).set i3 (some v3)).set i4 (some v4)).set i5 (some v5)).set i6 (some v6)).set i7 (some v7))=tm:=by rfl):W E t tm h Q:=Eq.subst (motive:=λx=>W E t x h Q) e (w tm)
theorem Tm.t8 {i0 i1 i2 i3 i4 i5 i6 i7:Nat} {v0 v1 v2 v3 v4 v5 v6 v7:CV} (w0:tm.look i0=v0) (w1:tm.look i1=v1) (w2:tm.look i2=v2) (w3:tm.look i3=v3) (w4:tm.look i4=v4) (w5:tm.look i5=v5) (w6:tm.look i6=v6) (w7:tm.look i7=v7) (e:tm=((((((((tm.set i0 (some (tm.look i0))).set i1 (some (tm.look i1))).set i2 (some (tm.look i2))).set i3 (some (tm.look i3))).set i4 (some (tm.look i4))).set i5 (some (tm.look i5))).set i6 (some (tm.look i6))).set i7 (some (tm.look i7))):=by rfl):∃T:Tm,tm=((((((((T.set i0 (some v0)).set i1 (some v1)).set i2 (some v2)).set i3 (some v3)).set i4 (some v4)).set i5 (some v5)).set i6 (some v6)).set i7 (some v7)):=⟨tm,e.trans (by rw[w0,w1,w2,w3,w4,w5,w6,w7])⟩
theorem W.k9 (i0 i1 i2 i3 i4 i5 i6 i7 i8:Nat) {v0 v1 v2 v3 v4 v5 v6 v7 v8:CV} (w:∀T:Tm,W E t (((((((((T.set i0 (some v0)).set i1 (some v1)).set i2 (some v2)).set i3 (some v3)).set i4 (some v4)).set i5 (some v5)).set i6 (some v6)).set i7 (some v7)).set i8 (some v8)) h Q) (e0:tm.look i0=v0:=by conv=>lhs;whnf) (e1:tm.look i1=v1:=by conv=>lhs;whnf) (e2:tm.look i2=v2:=by conv=>lhs;whnf) (e3:tm.look i3=v3:=by conv=>lhs;whnf) (e4:tm.look i4=v4:=by conv=>lhs;whnf) (e5:tm.look i5=v5:=by conv=>lhs;whnf) (e6:tm.look i6=v6:=by conv=>lhs;whnf) (e7:tm.look i7=v7:=by conv=>lhs;whnf) (e8:tm.look i8=v8:=by conv=>lhs;whnf) (e:(((((((((tm.set i0 (some v0)).set i1 (some v1)).set i2 (some v2)).set i3 (some v3)).set i4 (some v4)).set i5 (some v5)).set i6 (some v6)).set i7 (some v7)).set i8 (some v8))=tm:=by rfl):W E t tm h Q:=Eq.subst (motive:=λx=>W E t x h Q) e (w tm)
theorem Tm.t9 {i0 i1 i2 i3 i4 i5 i6 i7 i8:Nat} {v0 v1 v2 v3 v4 v5 v6 v7 v8:CV} (w0:tm.look i0=v0) (w1:tm.look i1=v1) (w2:tm.look i2=v2) (w3:tm.look i3=v3) (w4:tm.look i4=v4) (w5:tm.look i5=v5) (w6:tm.look i6=v6) (w7:tm.look i7=v7) (w8:tm.look i8=v8) (e:tm=(((((((((tm.set i0 (some (tm.look i0))).set i1 (some (tm.look i1))).set i2 (some (tm.look i2))).set i3 (some (tm.look i3))).set i4 (some (tm.look i4))).set i5 (some (tm.look i5))).set i6 (some (tm.look i6))).set i7 (some (tm.look i7))).set i8 (some (tm.look i8))):=by rfl):∃T:Tm,tm=(((((((((T.set i0 (some v0)).set i1 (some v1)).set i2 (some v2)).set i3 (some v3)).set i4 (some v4)).set i5 (some v5)).set i6 (some v6)).set i7 (some v7)).set i8 (some v8)):=⟨tm,e.trans (by rw[w0,w1,w2,w3,w4,w5,w6,w7,w8])⟩
end
end Go.CM

noncomputable section
namespace Go.CM.Tt
structure Times where
 frm:Int
 evr:Int
 len:Int
instance:DecidableEq Times:=λa b=>
 if h0:a.frm=b.frm then
 if h1:a.evr=b.evr then
 if h2:a.len=b.len then
  isTrue (by cases a;cases b;simp_all)
 else isFalse (λh=>h2 (by rw[h]))
 else isFalse (λh=>h1 (by rw[h]))
 else isFalse (λh=>h0 (by rw[h]))
def Times.enc (d:Times):List CV:=[.int .i64 d.frm,.int .i64 d.evr,.int .i64 d.len]
instance:Rp Times:=⟨3,λ_ cs d=>cs=d.enc,λ_ h=>h,λh=>by rw[h];rfl⟩
theorem Times.flat (h:Heap) (cs:List CV) (d:Times):Rp.R h cs d↔cs=d.enc:=Iff.rfl
instance:Flat Times:=⟨Times.enc,Times.flat⟩
structure PathS where
 name:Str
 a:Str
 b:Str
 len:Int
instance:DecidableEq PathS:=λa b=>
 if h0:a.name=b.name then
 if h1:a.a=b.a then
 if h2:a.b=b.b then
 if h3:a.len=b.len then
  isTrue (by cases a;cases b;simp_all)
 else isFalse (λh=>h3 (by rw[h]))
 else isFalse (λh=>h2 (by rw[h]))
 else isFalse (λh=>h1 (by rw[h]))
 else isFalse (λh=>h0 (by rw[h]))
def PathS.enc (d:PathS):List CV:=[.str d.name,.str d.a,.str d.b,.int .i64 d.len]
instance:Rp PathS:=⟨4,λ_ cs d=>cs=d.enc,λ_ h=>h,λh=>by rw[h];rfl⟩
theorem PathS.flat (h:Heap) (cs:List CV) (d:PathS):Rp.R h cs d↔cs=d.enc:=Iff.rfl
instance:Flat PathS:=⟨PathS.enc,PathS.flat⟩
structure DoorS where
 name:Str
 a:Str
 b:Str
 len:Int
 times:Times
instance:DecidableEq DoorS:=λa b=>
 if h0:a.name=b.name then
 if h1:a.a=b.a then
 if h2:a.b=b.b then
 if h3:a.len=b.len then
 if h4:a.times=b.times then
  isTrue (by cases a;cases b;simp_all)
 else isFalse (λh=>h4 (by rw[h]))
 else isFalse (λh=>h3 (by rw[h]))
 else isFalse (λh=>h2 (by rw[h]))
 else isFalse (λh=>h1 (by rw[h]))
 else isFalse (λh=>h0 (by rw[h]))
def DoorS.enc (d:DoorS):List CV:=[.str d.name,.str d.a,.str d.b,.int .i64 d.len,.int .i64 d.times.frm,.int .i64 d.times.evr,.int .i64 d.times.len]
instance:Rp DoorS:=⟨7,λ_ cs d=>cs=d.enc,λ_ h=>h,λh=>by rw[h];rfl⟩
theorem DoorS.flat (h:Heap) (cs:List CV) (d:DoorS):Rp.R h cs d↔cs=d.enc:=Iff.rfl
instance:Flat DoorS:=⟨DoorS.enc,DoorS.flat⟩
structure RouteS where
 name:Str
 stops:List Str
 rides:List Int
 stays:List Int
instance:DecidableEq RouteS:=λa b=>
 if h0:a.name=b.name then
 if h1:a.stops=b.stops then
 if h2:a.rides=b.rides then
 if h3:a.stays=b.stays then
  isTrue (by cases a;cases b;simp_all)
 else isFalse (λh=>h3 (by rw[h]))
 else isFalse (λh=>h2 (by rw[h]))
 else isFalse (λh=>h1 (by rw[h]))
 else isFalse (λh=>h0 (by rw[h]))
def RouteS.Cells (h:Heap) (cs:List CV) (d:RouteS):Prop:=∃v1 v2 v3,cs=[.str d.name,v1,v2,v3]/\Sl h v1 d.stops/\Sl h v2 d.rides/\Sl h v3 d.stays
instance:Rp RouteS:=⟨4,RouteS.Cells,λx ⟨v1,v2,v3,e,s1,s2,s3⟩=>⟨v1,v2,v3,e,s1.ext x,s2.ext x,s3.ext x⟩,λ⟨v1,v2,v3,e,_,_,_⟩=>by rw[e];rfl⟩
structure TripS where
 name:Str
 route:Str
 frm:Int
 evr:Int
 untl:Int
instance:DecidableEq TripS:=λa b=>
 if h0:a.name=b.name then
 if h1:a.route=b.route then
 if h2:a.frm=b.frm then
 if h3:a.evr=b.evr then
 if h4:a.untl=b.untl then
  isTrue (by cases a;cases b;simp_all)
 else isFalse (λh=>h4 (by rw[h]))
 else isFalse (λh=>h3 (by rw[h]))
 else isFalse (λh=>h2 (by rw[h]))
 else isFalse (λh=>h1 (by rw[h]))
 else isFalse (λh=>h0 (by rw[h]))
def TripS.enc (d:TripS):List CV:=[.str d.name,.str d.route,.int .i64 d.frm,.int .i64 d.evr,.int .i64 d.untl]
instance:Rp TripS:=⟨5,λ_ cs d=>cs=d.enc,λ_ h=>h,λh=>by rw[h];rfl⟩
theorem TripS.flat (h:Heap) (cs:List CV) (d:TripS):Rp.R h cs d↔cs=d.enc:=Iff.rfl
instance:Flat TripS:=⟨TripS.enc,TripS.flat⟩
structure HazS where
 name:Str
 on:Str
 times:Times
instance:DecidableEq HazS:=λa b=>
 if h0:a.name=b.name then
 if h1:a.on=b.on then
 if h2:a.times=b.times then
  isTrue (by cases a;cases b;simp_all)
 else isFalse (λh=>h2 (by rw[h]))
 else isFalse (λh=>h1 (by rw[h]))
 else isFalse (λh=>h0 (by rw[h]))
def HazS.enc (d:HazS):List CV:=[.str d.name,.str d.on,.int .i64 d.times.frm,.int .i64 d.times.evr,.int .i64 d.times.len]
instance:Rp HazS:=⟨5,λ_ cs d=>cs=d.enc,λ_ h=>h,λh=>by rw[h];rfl⟩
theorem HazS.flat (h:Heap) (cs:List CV) (d:HazS):Rp.R h cs d↔cs=d.enc:=Iff.rfl
instance:Flat HazS:=⟨HazS.enc,HazS.flat⟩
structure SheetD where
 hz:Int
 stops:List Str
 paths:List PathS
 doors:List DoorS
 routes:List RouteS
 trips:List TripS
 hazards:List HazS
instance:DecidableEq SheetD:=λa b=>
 if h0:a.hz=b.hz then
 if h1:a.stops=b.stops then
 if h2:a.paths=b.paths then
 if h3:a.doors=b.doors then
 if h4:a.routes=b.routes then
 if h5:a.trips=b.trips then
 if h6:a.hazards=b.hazards then
  isTrue (by cases a;cases b;simp_all)
 else isFalse (λh=>h6 (by rw[h]))
 else isFalse (λh=>h5 (by rw[h]))
 else isFalse (λh=>h4 (by rw[h]))
 else isFalse (λh=>h3 (by rw[h]))
 else isFalse (λh=>h2 (by rw[h]))
 else isFalse (λh=>h1 (by rw[h]))
 else isFalse (λh=>h0 (by rw[h]))
def SheetD.Cells (h:Heap) (cs:List CV) (d:SheetD):Prop:=∃v1 v2 v3 v4 v5 v6,cs=[.int .i64 d.hz,v1,v2,v3,v4,v5,v6]/\Sl h v1 d.stops/\Sl h v2 d.paths/\Sl h v3 d.doors/\Sl h v4 d.routes/\Sl h v5 d.trips/\Sl h v6 d.hazards
instance:Rp SheetD:=⟨7,SheetD.Cells,λx ⟨v1,v2,v3,v4,v5,v6,e,s1,s2,s3,s4,s5,s6⟩=>⟨v1,v2,v3,v4,v5,v6,e,s1.ext x,s2.ext x,s3.ext x,s4.ext x,s5.ext x,s6.ext x⟩,λ⟨v1,v2,v3,v4,v5,v6,e,_,_,_,_,_,_⟩=>by rw[e];rfl⟩
structure PathW where
 a:Int
 b:Int
 len:Int
instance:DecidableEq PathW:=λa b=>
 if h0:a.a=b.a then
 if h1:a.b=b.b then
 if h2:a.len=b.len then
  isTrue (by cases a;cases b;simp_all)
 else isFalse (λh=>h2 (by rw[h]))
 else isFalse (λh=>h1 (by rw[h]))
 else isFalse (λh=>h0 (by rw[h]))
def PathW.enc (d:PathW):List CV:=[.int .i64 d.a,.int .i64 d.b,.int .i64 d.len]
instance:Rp PathW:=⟨3,λ_ cs d=>cs=d.enc,λ_ h=>h,λh=>by rw[h];rfl⟩
theorem PathW.flat (h:Heap) (cs:List CV) (d:PathW):Rp.R h cs d↔cs=d.enc:=Iff.rfl
instance:Flat PathW:=⟨PathW.enc,PathW.flat⟩
structure DoorW where
 a:Int
 b:Int
 len:Int
 times:Times
instance:DecidableEq DoorW:=λa b=>
 if h0:a.a=b.a then
 if h1:a.b=b.b then
 if h2:a.len=b.len then
 if h3:a.times=b.times then
  isTrue (by cases a;cases b;simp_all)
 else isFalse (λh=>h3 (by rw[h]))
 else isFalse (λh=>h2 (by rw[h]))
 else isFalse (λh=>h1 (by rw[h]))
 else isFalse (λh=>h0 (by rw[h]))
def DoorW.enc (d:DoorW):List CV:=[.int .i64 d.a,.int .i64 d.b,.int .i64 d.len,.int .i64 d.times.frm,.int .i64 d.times.evr,.int .i64 d.times.len]
instance:Rp DoorW:=⟨6,λ_ cs d=>cs=d.enc,λ_ h=>h,λh=>by rw[h];rfl⟩
theorem DoorW.flat (h:Heap) (cs:List CV) (d:DoorW):Rp.R h cs d↔cs=d.enc:=Iff.rfl
instance:Flat DoorW:=⟨DoorW.enc,DoorW.flat⟩
structure RouteW where
 stops:List Int
 rides:List Int
 stays:List Int
instance:DecidableEq RouteW:=λa b=>
 if h0:a.stops=b.stops then
 if h1:a.rides=b.rides then
 if h2:a.stays=b.stays then
  isTrue (by cases a;cases b;simp_all)
 else isFalse (λh=>h2 (by rw[h]))
 else isFalse (λh=>h1 (by rw[h]))
 else isFalse (λh=>h0 (by rw[h]))
def RouteW.Cells (h:Heap) (cs:List CV) (d:RouteW):Prop:=∃v1 v2 v3,cs=[v1,v2,v3]/\Sl h v1 d.stops/\Sl h v2 d.rides/\Sl h v3 d.stays
instance:Rp RouteW:=⟨3,RouteW.Cells,λx ⟨v1,v2,v3,e,s1,s2,s3⟩=>⟨v1,v2,v3,e,s1.ext x,s2.ext x,s3.ext x⟩,λ⟨v1,v2,v3,e,_,_,_⟩=>by rw[e];rfl⟩
structure TripW where
 route:Int
 frm:Int
 evr:Int
 untl:Int
instance:DecidableEq TripW:=λa b=>
 if h0:a.route=b.route then
 if h1:a.frm=b.frm then
 if h2:a.evr=b.evr then
 if h3:a.untl=b.untl then
  isTrue (by cases a;cases b;simp_all)
 else isFalse (λh=>h3 (by rw[h]))
 else isFalse (λh=>h2 (by rw[h]))
 else isFalse (λh=>h1 (by rw[h]))
 else isFalse (λh=>h0 (by rw[h]))
def TripW.enc (d:TripW):List CV:=[.int .i64 d.route,.int .i64 d.frm,.int .i64 d.evr,.int .i64 d.untl]
instance:Rp TripW:=⟨4,λ_ cs d=>cs=d.enc,λ_ h=>h,λh=>by rw[h];rfl⟩
theorem TripW.flat (h:Heap) (cs:List CV) (d:TripW):Rp.R h cs d↔cs=d.enc:=Iff.rfl
instance:Flat TripW:=⟨TripW.enc,TripW.flat⟩
structure HazW where
 stop:Bool
 on:Int
 times:Times
instance:DecidableEq HazW:=λa b=>
 if h0:a.stop=b.stop then
 if h1:a.on=b.on then
 if h2:a.times=b.times then
  isTrue (by cases a;cases b;simp_all)
 else isFalse (λh=>h2 (by rw[h]))
 else isFalse (λh=>h1 (by rw[h]))
 else isFalse (λh=>h0 (by rw[h]))
def HazW.enc (d:HazW):List CV:=[.bool d.stop,.int .i64 d.on,.int .i64 d.times.frm,.int .i64 d.times.evr,.int .i64 d.times.len]
instance:Rp HazW:=⟨5,λ_ cs d=>cs=d.enc,λ_ h=>h,λh=>by rw[h];rfl⟩
theorem HazW.flat (h:Heap) (cs:List CV) (d:HazW):Rp.R h cs d↔cs=d.enc:=Iff.rfl
instance:Flat HazW:=⟨HazW.enc,HazW.flat⟩
structure NamesD where
 stops:List Str
 paths:List Str
 doors:List Str
 routes:List Str
 trips:List Str
 hazards:List Str
instance:DecidableEq NamesD:=λa b=>
 if h0:a.stops=b.stops then
 if h1:a.paths=b.paths then
 if h2:a.doors=b.doors then
 if h3:a.routes=b.routes then
 if h4:a.trips=b.trips then
 if h5:a.hazards=b.hazards then
  isTrue (by cases a;cases b;simp_all)
 else isFalse (λh=>h5 (by rw[h]))
 else isFalse (λh=>h4 (by rw[h]))
 else isFalse (λh=>h3 (by rw[h]))
 else isFalse (λh=>h2 (by rw[h]))
 else isFalse (λh=>h1 (by rw[h]))
 else isFalse (λh=>h0 (by rw[h]))
def NamesD.Cells (h:Heap) (cs:List CV) (d:NamesD):Prop:=∃v1 v2 v3 v4 v5 v6,cs=[v1,v2,v3,v4,v5,v6]/\Sl h v1 d.stops/\Sl h v2 d.paths/\Sl h v3 d.doors/\Sl h v4 d.routes/\Sl h v5 d.trips/\Sl h v6 d.hazards
instance:Rp NamesD:=⟨6,NamesD.Cells,λx ⟨v1,v2,v3,v4,v5,v6,e,s1,s2,s3,s4,s5,s6⟩=>⟨v1,v2,v3,v4,v5,v6,e,s1.ext x,s2.ext x,s3.ext x,s4.ext x,s5.ext x,s6.ext x⟩,λ⟨v1,v2,v3,v4,v5,v6,e,_,_,_,_,_,_⟩=>by rw[e];rfl⟩
structure WorldD where
 hz:Int
 names:NamesD
 paths:List PathW
 doors:List DoorW
 routes:List RouteW
 trips:List TripW
 hazards:List HazW
instance:DecidableEq WorldD:=λa b=>
 if h0:a.hz=b.hz then
 if h1:a.names=b.names then
 if h2:a.paths=b.paths then
 if h3:a.doors=b.doors then
 if h4:a.routes=b.routes then
 if h5:a.trips=b.trips then
 if h6:a.hazards=b.hazards then
  isTrue (by cases a;cases b;simp_all)
 else isFalse (λh=>h6 (by rw[h]))
 else isFalse (λh=>h5 (by rw[h]))
 else isFalse (λh=>h4 (by rw[h]))
 else isFalse (λh=>h3 (by rw[h]))
 else isFalse (λh=>h2 (by rw[h]))
 else isFalse (λh=>h1 (by rw[h]))
 else isFalse (λh=>h0 (by rw[h]))
def WorldD.Cells (h:Heap) (cs:List CV) (d:WorldD):Prop:=∃v1 v2 v3 v4 v5 v6 v7 v8 v9 v10 v11,cs=[.int .i64 d.hz,v1,v2,v3,v4,v5,v6,v7,v8,v9,v10,v11]/\Sl h v1 d.names.stops/\Sl h v2 d.names.paths/\Sl h v3 d.names.doors/\Sl h v4 d.names.routes/\Sl h v5 d.names.trips/\Sl h v6 d.names.hazards/\Sl h v7 d.paths/\Sl h v8 d.doors/\Sl h v9 d.routes/\Sl h v10 d.trips/\Sl h v11 d.hazards
instance:Rp WorldD:=⟨12,WorldD.Cells,λx ⟨v1,v2,v3,v4,v5,v6,v7,v8,v9,v10,v11,e,s1,s2,s3,s4,s5,s6,s7,s8,s9,s10,s11⟩=>⟨v1,v2,v3,v4,v5,v6,v7,v8,v9,v10,v11,e,s1.ext x,s2.ext x,s3.ext x,s4.ext x,s5.ext x,s6.ext x,s7.ext x,s8.ext x,s9.ext x,s10.ext x,s11.ext x⟩,λ⟨v1,v2,v3,v4,v5,v6,v7,v8,v9,v10,v11,e,_,_,_,_,_,_,_,_,_,_,_⟩=>by rw[e];rfl⟩
structure WrongD where
 err:Int
 kind:Int
 pos:Int
instance:DecidableEq WrongD:=λa b=>
 if h0:a.err=b.err then
 if h1:a.kind=b.kind then
 if h2:a.pos=b.pos then
  isTrue (by cases a;cases b;simp_all)
 else isFalse (λh=>h2 (by rw[h]))
 else isFalse (λh=>h1 (by rw[h]))
 else isFalse (λh=>h0 (by rw[h]))
def WrongD.enc (d:WrongD):List CV:=[.int .i64 d.err,.int .i64 d.kind,.int .i64 d.pos]
instance:Rp WrongD:=⟨3,λ_ cs d=>cs=d.enc,λ_ h=>h,λh=>by rw[h];rfl⟩
theorem WrongD.flat (h:Heap) (cs:List CV) (d:WrongD):Rp.R h cs d↔cs=d.enc:=Iff.rfl
instance:Flat WrongD:=⟨WrongD.enc,WrongD.flat⟩
structure WinD where
 frm:Int
 to:Int
instance:DecidableEq WinD:=λa b=>
 if h0:a.frm=b.frm then
 if h1:a.to=b.to then
  isTrue (by cases a;cases b;simp_all)
 else isFalse (λh=>h1 (by rw[h]))
 else isFalse (λh=>h0 (by rw[h]))
def WinD.enc (d:WinD):List CV:=[.int .i64 d.frm,.int .i64 d.to]
instance:Rp WinD:=⟨2,λ_ cs d=>cs=d.enc,λ_ h=>h,λh=>by rw[h];rfl⟩
theorem WinD.flat (h:Heap) (cs:List CV) (d:WinD):Rp.R h cs d↔cs=d.enc:=Iff.rfl
instance:Flat WinD:=⟨WinD.enc,WinD.flat⟩
end Go.CM.Tt
