/- More rules for walks: a variable alone; loads by place in drawn regions. No condition, no program. -/
import Derived.Test.YtnjkaahbhebaeaaGreatDoorXNa
set_option linter.unusedVariables false
set_option linter.unusedSimpArgs false
noncomputable section
namespace Go.CM
section
variable {E:Env} {tm:Tm} {H H0 h h':Heap} {Q:R->Prop} {all rest:List Oper} {o:Oper} {bs:List Bits} {recs:List Rec} {i:Nat} {idx nx:List Nat}
theorem W.al {t:TypeId} {s:TyS} (hgd:guardOn all tm o=some true) (hop:o.op= .alloc t) (hs:E.ty t=some s)
  (w:∀h',Ext h h'->h'.next=h.next+1->h'.get h.next=some (.cells s.zero false)->LocE h' h.next 0 s.zero->W E (.ops all rest) (putTmp tm o.dst (.ptr (some (h.next,0)))) h' Q):W E (.ops all (o::rest)) tm h Q:=by
 refine W.op hgd (v:= .ptr (some (h.next,0))) (h1:=h.new (.cells s.zero false)) ?_ (w _ (Ext.new _ _) rfl (new_same _ _) (LocE.new _ _ _));unfold opAny;rw[hop];show newPtr h ((E.ty t).map (·.zero))=_;rw[hs];rfl
theorem W.mn {c:Call} {a b:Int} {a0 a1 a2 a3 a4 a5 a6 a7 a8 a9 a10 a11 a12 a13 a14 a15:NA} {a16:Tree CV} (hgd:guardOn all tm o=some true) (hop:o.op= .call c) (hb:isBuiltin c.callee=some .min) (ha:c.args.toList.map (cvOf E.globs tm)=[.int .i64 a,.int .i64 b])
  (ht:putTmp tm o.dst (.int .i64 (min a b))=(Tm.mk a0 a1 a2 a3 a4 a5 a6 a7 a8 a9 a10 a11 a12 a13 a14 a15 a16)) (w:W E (.ops all rest) (Tm.mk a0 a1 a2 a3 a4 a5 a6 a7 a8 a9 a10 a11 a12 a13 a14 a15 a16) h Q):W E (.ops all (o::rest)) tm h Q:=by
 refine W.op hgd (v:= .int .i64 (min a b)) (h1:=h) ?_ (by rw[ht];exact w);unfold opAny;rw[hop];simp only[hb];show builtinV E h .min c.argTypes.toList (c.args.toList.map (cvOf E.globs tm))=_;rw[ha];show withH h (fold2 (max2 false) (.int .i64 a) [.int .i64 b])=_
 have e:max2 false (.int .i64 a) (.int .i64 b)=some (.int .i64 (min a b)):=by
  unfold max2;simp only[intLe_eq];by_cases c:a<=b
  ·rw[show min a b=a by omega]
   by_cases d:b<=a
   ·have:a=b:=by omega
    subst this;simp
   ·simp[c,d]
  ·rw[show min a b=b by omega]
   have d:b<=a:=by omega
   simp[c,d]
 simp[fold2,e,withH]
theorem W.mxx {c:Call} {a b:Int} {a0 a1 a2 a3 a4 a5 a6 a7 a8 a9 a10 a11 a12 a13 a14 a15:NA} {a16:Tree CV} (hgd:guardOn all tm o=some true) (hop:o.op= .call c) (hb:isBuiltin c.callee=some .max) (ha:c.args.toList.map (cvOf E.globs tm)=[.int .i64 a,.int .i64 b])
  (ht:putTmp tm o.dst (.int .i64 (max a b))=(Tm.mk a0 a1 a2 a3 a4 a5 a6 a7 a8 a9 a10 a11 a12 a13 a14 a15 a16)) (w:W E (.ops all rest) (Tm.mk a0 a1 a2 a3 a4 a5 a6 a7 a8 a9 a10 a11 a12 a13 a14 a15 a16) h Q):W E (.ops all (o::rest)) tm h Q:=by
 refine W.op hgd (v:= .int .i64 (max a b)) (h1:=h) ?_ (by rw[ht];exact w);unfold opAny;rw[hop];simp only[hb];show builtinV E h .max c.argTypes.toList (c.args.toList.map (cvOf E.globs tm))=_;rw[ha];show withH h (fold2 (max2 true) (.int .i64 a) [.int .i64 b])=_
 have e:max2 true (.int .i64 a) (.int .i64 b)=some (.int .i64 (max a b)):=by
  unfold max2;simp only[intLe_eq];by_cases c:a<=b
  ·rw[show max a b=b by omega]
   by_cases d:b<=a
   ·have:a=b:=by omega
    subst this;simp
   ·simp[c,d]
  ·rw[show max a b=a by omega]
   have d:b<=a:=by omega
   simp[c,d]
 simp[fold2,e,withH]
theorem W.dlk {t:TypeId} {x:Operand} {id off k:Nat} {e:List CV} {s:TyS} {v:CV} (L:LocE H0 id off e) (ds:DX H h idx nx recs) (X:Ext H0 H) (hgd:guardOn all tm o=some true) (hop:o.op= .load t x) (hx:cvOf E.globs tm x= .ptr (some (id,off+k))) (hs:E.ty t=some s) (h1:s.size=1) (h2:s.agg=false) (he:e[k]? =some v)
  (w:∀recs' h',DX H h' (i::idx) nx recs'->Same h h'->W E (.draw bs all rest (i+1) recs') (putTmp tm o.dst v) h' Q):W E (.draw bs all (o::rest) i recs) tm h Q:=by
 obtain⟨cs,ro,g1,g2,g3⟩:=L;have hn:=cut_nth g3 he;refine W.dldZ ds hgd hop hx ((X.old id g2).trans g1) (Nat.lt_of_lt_of_le g2 X.next) hs (v:=v) ?_ w;rw[h1,h2];exact hn
theorem W.dl0 {t:TypeId} {x:Operand} {id off:Nat} {e:List CV} {s:TyS} {v:CV} (L:LocE H0 id off e) (ds:DX H h idx nx recs) (X:Ext H0 H) (hgd:guardOn all tm o=some true) (hop:o.op= .load t x) (hx:cvOf E.globs tm x= .ptr (some (id,off))) (hs:E.ty t=some s) (h1:s.size=1) (h2:s.agg=false) (he:e[0]? =some v)
 (w:∀recs' h',DX H h' (i::idx) nx recs'->Same h h'->W E (.draw bs all rest (i+1) recs') (putTmp tm o.dst v) h' Q):W E (.draw bs all (o::rest) i recs) tm h Q:=W.dlk (k:=0) L ds X hgd hop hx hs h1 h2 he w
theorem W.dlp {t:TypeId} {x:Operand} {id off k:Nat} {e e2:List CV} {s:TyS} (L:LocE H0 id off e) (ds:DX H h idx nx recs) (X:Ext H0 H) (hgd:guardOn all tm o=some true) (hop:o.op= .load t x) (hx:cvOf E.globs tm x= .ptr (some (id,off+k))) (hs:E.ty t=some s) (h2:s.agg=true) (he:cut e k s.size=some e2)
  (w:∀recs' h',DX H h' (i::idx) nx recs'->Same h h'->W E (.draw bs all rest (i+1) recs') (putTmp tm o.dst (.agg e2)) h' Q):W E (.draw bs all (o::rest) i recs) tm h Q:=by
 obtain⟨cs,ro,g1,g2,g3⟩:=L
 have hn:cut cs (off+k) s.size=some e2:=by
  rw[cut_eq]at g3 he ⊢;split at g3
  ·rename_i l1
   have g3:=Option.some.inj g3;split at he
   ·rename_i l2
    have he:=Option.some.inj he;rw[if_pos (by omega),<-he,<-g3]
    congr 1
    rw[List.drop_take,List.take_take,List.drop_drop]
    congr 1
    omega
   ·cases he
  ·cases g3
 refine W.dldZ ds hgd hop hx ((X.old id g2).trans g1) (Nat.lt_of_lt_of_le g2 X.next) hs (v:= .agg e2) ?_ w;rw[h2];show(cut cs (off+k) s.size).map CV.agg=_;rw[hn];rfl
theorem OwnR.idlt {lo z:Nat} {v:CV} {l:List (List CV)} {k:Nat} (o:OwnR h lo z v l) (hk:idOf v=[k]):k<h.next/\lo<=k:=by
 rcases o with⟨rfl,rfl⟩|⟨i,y,ro,rfl,h1,h2,_⟩
 ·cases hk
 ·have:i=k:=by simpa[idOf]using hk
  subst this;exact⟨h2,h1⟩
theorem W.apR2 {c:Call} {t t2 e:TypeId} {ts es t2s:TyS} {s s2:CV} {z:Nat} {l l2:List (List CV)} (X:Ext H h) (so:OwnR h H.next z s l) (s2l:SlG h z s2 l2) (hne:l2≠[])
  (hgd:guardOn all tm o=some true) (hop:o.op= .call c) (hb:isBuiltin c.callee=some .append) (hty:c.argTypes.toList=[t,t2]) (ha:c.args.toList.map (cvOf E.globs tm)=[s,s2])
  (hts:E.ty t=some ts) (hk:ts.kind= .slice e) (hes:E.ty e=some es) (hz:es.size=z) (hz0:(Nat.beq es.size 0||Nat.beq es.bytes 0)=false) (ht2:E.ty t2=some t2s) (hk2:t2s.kind= .slice e) (hm:(l.length+l2.length)*es.bytes<=70368744177664)
  (w:∀v' h',Ext H h'->OwnR h' H.next z v' (l++l2)->(∀k,k<h.next->idOf s≠[k]->h'.get k=h.get k)->h'.next=h.next+1->idOf v'=[h.next]->W E (.ops all rest) (putTmp tm o.dst v') h' Q):W E (.ops all (o::rest)) tm h Q:=by
 obtain⟨v',h',k1,k2,k2b,k3,k4,k5,k6,k7⟩:=append_own X.next so s2l hts hk hes hz hz0 ht2 hk2 hm;have X':Ext H h':=⟨Nat.le_trans X.next k2,λk hk=>(k3 k (Nat.lt_of_lt_of_le hk X.next) (.inl hk)).trans (X.old k hk),λf=>k4 (X.fr f)⟩;refine W.op hgd (v:=v') (h1:=h') ?_ (w v' h' X' k5 (λk hk hs=>k3 k hk (.inr hs)) (k7 hne).2 (k7 hne).1);unfold opAny;rw[hop];simp only[hb];show builtinV E h .append c.argTypes.toList (c.args.toList.map (cvOf E.globs tm))=_;rw[hty,ha];exact k1
theorem LocE.sub {i off k:Nat} {e e2:List CV} {m:Nat} (L:LocE h i off e) (he:cut e k m=some e2):LocE h i (off+k) e2:=by
 obtain⟨cs,ro,g1,g2,g3⟩:=L;refine⟨cs,ro,g1,g2,?_⟩;rw[cut_eq]at g3 he ⊢;split at g3
 ·rename_i l1
  have g3:=Option.some.inj g3;split at he
  ·rename_i l2
   have he:=Option.some.inj he;have hl:e2.length=m:=by rw[<-he,List.length_take,List.length_drop];omega
   rw[hl,if_pos (by omega),<-he,<-g3]
   congr 1
   rw[List.drop_take,List.take_take,List.drop_drop]
   congr 1
   omega
  ·cases he
 ·cases g3
end
theorem BodyQ.cell1 {E:Env} {tm:Tm} {h:Heap} {Q:R->Prop} {rs:List ResultVar} {a i off:Nat} {t:TypeId} {s:TyS} {cs:List CV} {ro:Bool} {v:CV} (hrs:rs=[.cell a t]) (ha:tm.look a= .ptr (some (i,off))) (hg:h.get i=some (.cells cs ro)) (hs:E.ty t=some s) (hp:CM.part cs off s.size s.agg=some v)
  (q:Q (.val v h)):BodyQ E rs Q (.code .ret tm h):=by
 show Q (kBody E rs (.code .ret tm h))
 have e:resultVals E h tm rs=some [v]:=by
  subst hrs
  have hl:CM.load E h t i off=some v:=by
   unfold CM.load loadB;simp only[hg,hs,hp]
  have h3:tm.get a=some (.ptr (some (i,off))):=by
   have:tm.get a=some (tm.look a):=rfl;rw[this,ha]
  unfold resultVals;simp only[h3,hl,resultVals]
 unfold kBody;simp only[e];exact q
end Go.CM

noncomputable section
namespace Go.CM
section
variable {E:Env} {tm:Tm} {h:Heap} {Q:R->Prop} {all rest:List Oper} {o:Oper}
theorem W.quo {t ty:TypeId} {x y:Operand} {a b:Int} {a0 a1 a2 a3 a4 a5 a6 a7 a8 a9 a10 a11 a12 a13 a14 a15:NA} {a16:Tree CV} (ha:0<=a) (hl:a<=9223372036854775807) (hb:0<b) (hgd:guardOn all tm o=some true) (hop:o.op= .binOp .quo t x y ty)
  (hx:binop E .quo t (isConst x||isConst y) (cvOf E.globs tm x) (cvOf E.globs tm y)=intBin .quo .i64 a b)
  (ht:putTmp tm o.dst (.int .i64 (a/b))=(Tm.mk a0 a1 a2 a3 a4 a5 a6 a7 a8 a9 a10 a11 a12 a13 a14 a15 a16)) (w:W E (.ops all rest) (Tm.mk a0 a1 a2 a3 a4 a5 a6 a7 a8 a9 a10 a11 a12 a13 a14 a15 a16) h Q):W E (.ops all (o::rest)) tm h Q:=by
 refine W.op hgd (v:= .int .i64 (a/b)) (h1:=h) ?_ (by rw[ht];exact w);unfold opAny;rw[hop];show withH h (binop E .quo t (isConst x||isConst y) (cvOf E.globs tm x) (cvOf E.globs tm y))=_;rw[hx];unfold intBin;simp only[intEq_eq];have hb0:(b==0)=false:=by simp;omega
 rw[hb0];have e:a.tdiv b=a/b:=Int.tdiv_eq_ediv_of_nonneg ha;have h1:a/b<=a:=Int.ediv_le_self b ha;have h2:0<=a/b:=Int.ediv_nonneg ha (by omega);show withH h (some (.int .i64 (IntKind.i64.wrap (a.tdiv b))))=_;rw[e,show IntKind.i64.wrap (a/b)=a/b from IntWalk.i64_in _ (by omega)];rfl
end
end Go.CM

noncomputable section
namespace Go.CM
section
variable {E:Env} {tm:Tm} {h:Heap} {Q:R->Prop}
theorem W.rangeX {f:Operand} {ps:Array Nat} {asg body:Code} {id:Nat} {first caps:List CV} (hf:cvOf E.globs tm f= .fn id first caps)
 (w:∀B:Blk,B= .loop tm ps.toList asg body 0 none->W E (.call (.fn id first caps) [.yield h.next]) .leaf (h.new B) (RangeQ h.next tm Q)):W E (.code (.rangeFunc f ps asg body)) tm h Q:=W.range hf (w _ rfl)
theorem W.yieldX {i:Nat} {args:List CV} {tx:Tm} {ps:List Nat} {asg body:Code} {st:Nat} {pend:Option Code} {t1:Tm} (hg:h.get i=some (.loop tx ps asg body st pend)) (hs:setPs ps args tx=some t1)
  (w:W E (.code asg) t1 h (CutQ λt' h'=>∃tx' ps' asg' bd' pend',h'.get i=some (.loop tx' ps' asg' bd' 0 pend')/\∀G,G.next=h'.next->G.get i=some (.loop tx' ps' asg' bd' 1 pend')->(∀k,k≠i->G.get k=h'.get k)->W E (.code body) t' G (RoundQ i Q))):W E (.call (.yield i) args) tm h Q:=by
 refine W.yield hg hs (w.mono λr q=> ?_);cases r with
 |code e t' h'=>
  cases e with
  |normal=>
   obtain⟨tx',ps',asg',bd',pend',g,k⟩:=q;exact⟨tx',ps',asg',bd',pend',g,k _ rfl (by rw[Heap.get_put];simp) λj hj=>by rw[Heap.get_put,if_neg (Ne.symm hj)]⟩
  |_=>exact q.elim
 |_=>exact q.elim
theorem RoundQ.norm {i:Nat} {tmx:Tm} {psx:List Nat} {asg body:Code} {st:Nat} {pend:Option Code} (hg:h.get i=some (.loop tmx psx asg body st pend)) (q:∀G,G.next=h.next->G.get i=some (.loop tmx psx asg body 0 none)->(∀k,k≠i->G.get k=h.get k)->Q (.val (.bool true) G)):RoundQ i Q (.code .normal tm h):=
 RoundQ.normal hg (q _ rfl (by rw[Heap.get_put];simp) λj hj=>by rw[Heap.get_put,if_neg (Ne.symm hj)])
end
end Go.CM

noncomputable section
namespace Go.CM
section
variable {E:Env} {tm:Tm} {H H0 h h':Heap} {Q:R->Prop} {all rest:List Oper} {o:Oper} {bs:List Bits} {recs:List Rec} {i:Nat} {idx nx:List Nat}
theorem W.dlw {t:TypeId} {x:Operand} {id off:Nat} {e:List CV} {s:TyS} (L:LocE H0 id off e) (ds:DX H h idx nx recs) (X:Ext H0 H) (hgd:guardOn all tm o=some true) (hop:o.op= .load t x) (hx:cvOf E.globs tm x= .ptr (some (id,off))) (hs:E.ty t=some s) (h1:e.length=s.size) (h2:s.agg=true)
  (w:∀recs' h',DX H h' (i::idx) nx recs'->Same h h'->W E (.draw bs all rest (i+1) recs') (putTmp tm o.dst (.agg e)) h' Q):W E (.draw bs all (o::rest) i recs) tm h Q:=by
 obtain⟨cs,ro,g1,g2,g3⟩:=L;refine W.dldZ ds hgd hop hx ((X.old id g2).trans g1) (Nat.lt_of_lt_of_le g2 X.next) hs (v:= .agg e) ?_ w;rw[<-h1,h2];show(cut cs off e.length).map CV.agg=_;rw[g3];rfl
end
end Go.CM

noncomputable section
namespace Go.CM
section
variable {E:Env} {tm:Tm} {H H0 h h':Heap} {Q:R->Prop} {all rest:List Oper} {o:Oper} {bs:List Bits} {recs:List Rec} {i:Nat}
theorem W.dixF {α:Type} [Flat α] {l:List α} {v:CV} {t:TypeId} {x y:Operand} {s:TyS} {et j:Nat} {kk:IntKind} (sl:Sl H v l) (hj:j<l.length) (hgd:guardOn all tm o=some true) (hop:o.op= .indexAddr t x y) (hx:cvOf E.globs tm x=v) (hy:cvOf E.globs tm y= .int kk (j:Int)) (hs:E.ty t=some s) (hk:s.kind= .slice et) (hz:sizeOf? E et=some (Rp.z α))
  (w:∀id off,LocE H id off (Flat.enc l[j])->W E (.draw bs all rest (i+1) recs) (putTmp tm o.dst (.ptr (some (id,off)))) h Q):W E (.draw bs all (o::rest) i recs) tm h Q:=by
 obtain⟨id,off,c,x',e,rfl,L,r⟩:=sl.at hj;exact W.dix hgd hop hx hy hs hk hz (place_of rfl hj) (w _ _ (by rw[<-(Flat.iff H e l[j]).1 r];exact L))
end
end Go.CM

noncomputable section
namespace Go.CM
structure Hold (q:Prop):Prop where
 h:q
section
variable {E:Env} {t:Task} {tm:Tm} {h h1:Heap} {Q:R->Prop} {all rest:List Oper} {o:Oper} {v:CV}
theorem W.opk {a0 a1 a2 a3 a4 a5 a6 a7 a8 a9 a10 a11 a12 a13 a14 a15:NA} {a16:Tree CV} (hg:guardOn all tm o=some true) (ho:opAny E o tm h=some (v,h)) (ht:putTmp tm o.dst v=(Tm.mk a0 a1 a2 a3 a4 a5 a6 a7 a8 a9 a10 a11 a12 a13 a14 a15 a16)) (w:W E (.ops all rest) (Tm.mk a0 a1 a2 a3 a4 a5 a6 a7 a8 a9 a10 a11 a12 a13 a14 a15 a16) h Q):W E (.ops all (o::rest)) tm h Q:=W.opn hg ho ht w
theorem W.vv {p q:Prop} (w:q) (k:Hold q->p:=by intro w;(repeat1' (first|(with_reducible first|refine W.seq ?_|refine W.block ?_|refine W.region ?_|refine W.draws ?_|refine W.skip ?_|refine W.exit ?_|refine W.ret ?_|refine SeqQ.normal ?_|refine SeqQ.exit ?_|refine SeqQ.ret ?_|refine BlockQ.exit ?_|refine BlockQ.normal ?_|refine BlockQ.ret ?_|refine BlockQ.other rfl ?_|refine LoopQ.exit ?_|refine CallQ.val ?_|refine CutQ.normal ?_|refine LoopQ.ret ?_)|refine W.offn rfl rfl ?_|refine W.opn rfl op_lss rfl ?_|refine W.opn rfl op_leq rfl ?_|refine W.opn rfl op_eql rfl ?_|refine W.opn rfl op_neq rfl ?_|refine W.opn rfl (op_sub (by omega) (by omega)) rfl ?_|refine W.opn rfl (op_add (by omega) (by omega)) rfl ?_|refine W.opn (v:= .int _ _) rfl rfl rfl ?_|refine W.opn (v:= .ptr _) rfl rfl rfl ?_|refine W.opn (v:= .bool _) rfl rfl rfl ?_|refine W.opn (v:= .slice _ _ _ _) rfl rfl rfl ?_|refine W.opn (v:= .agg _) rfl rfl rfl ?_|refine W.opn (v:= .tup _) rfl rfl rfl ?_|refine W.opn rfl rfl rfl ?_|refine W.nil ?_));exact w.h):p:=k ⟨w⟩
theorem W.dv {p q:Prop} (w:q) (k:Hold q->p:=by intro w;(repeat1' (first|refine W.doffn rfl rfl ?_|refine W.dopn rfl rfl op_lss rfl ?_|refine W.dopn rfl rfl op_leq rfl ?_|refine W.dopn rfl rfl op_eql rfl ?_|refine W.dopn rfl rfl op_neq rfl ?_|refine W.dopn rfl rfl (op_sub (by omega) (by omega)) rfl ?_|refine W.dopn rfl rfl (op_add (by omega) (by omega)) rfl ?_|refine W.dopn (v:= .int _ _) rfl rfl rfl rfl ?_|refine W.dopn (v:= .ptr _) rfl rfl rfl rfl ?_|refine W.dopn (v:= .bool _) rfl rfl rfl rfl ?_|refine W.dopn (v:= .slice _ _ _ _) rfl rfl rfl rfl ?_|refine W.dopn (v:= .agg _) rfl rfl rfl rfl ?_|refine W.dopn (v:= .tup _) rfl rfl rfl rfl ?_|refine W.dopn rfl rfl rfl rfl ?_|refine W.dnil ?_));exact w.h):p:=k ⟨w⟩
theorem W.g {p q:Prop} (w:q) (k:Hold q->p:=by intro w;(repeat1' (first|(with_reducible first|refine W.seq ?_|refine W.block ?_|refine W.region ?_|refine W.draws ?_|refine W.skip ?_|refine W.exit ?_|refine W.ret ?_|refine SeqQ.normal ?_|refine SeqQ.exit ?_|refine SeqQ.ret ?_|refine BlockQ.exit ?_|refine BlockQ.normal ?_|refine BlockQ.ret ?_|refine BlockQ.other rfl ?_|refine LoopQ.exit ?_|refine CallQ.val ?_|refine CutQ.normal ?_|refine LoopQ.ret ?_)|refine W.offn rfl rfl ?_|refine W.mn rfl rfl rfl rfl rfl ?_|refine W.mxx rfl rfl rfl rfl rfl ?_|refine W.lnS (by assumption) rfl rfl rfl rfl rfl rfl rfl rfl ?_|refine W.lns rfl rfl rfl rfl rfl rfl rfl rfl ?_|refine W.opk rfl op_seq rfl ?_|refine W.opk rfl op_sne rfl ?_|refine W.opk rfl op_lss rfl ?_|refine W.opk rfl op_leq rfl ?_|refine W.opk rfl op_eql rfl ?_|refine W.opk rfl op_neq rfl ?_|refine W.opk rfl (op_sub (by omega) (by omega)) rfl ?_|refine W.opk rfl (op_add (by omega) (by omega)) rfl ?_|refine W.opk rfl (op_mul (by assumption) (by assumption)) rfl ?_|refine W.opk (v:= .int _ _) rfl rfl rfl ?_|refine W.opk (v:= .ptr _) rfl rfl rfl ?_|refine W.opk (v:= .bool _) rfl rfl rfl ?_|refine W.opk (v:= .slice _ _ _ _) rfl rfl rfl ?_|refine W.opk (v:= .agg _) rfl rfl rfl ?_|refine W.opk (v:= .tup _) rfl rfl rfl ?_|refine W.opk rfl rfl rfl ?_|refine W.nil ?_|refine W.ldk (by assumption) (by(repeat (first|assumption|exact Ext.refl _|refine Ext.trans ?_ (by assumption)));first|done|fail) rfl rfl rfl rfl rfl rfl rfl rfl ?_|refine W.ldw (by assumption) (by(repeat (first|assumption|exact Ext.refl _|refine Ext.trans ?_ (by assumption)));first|done|fail) rfl rfl rfl rfl (by first|rfl|assumption) rfl rfl ?_|refine W.ldp (by assumption) (by(repeat (first|assumption|exact Ext.refl _|refine Ext.trans ?_ (by assumption)));first|done|fail) rfl rfl rfl rfl rfl rfl rfl ?_|refine W.ld0 (by assumption) (by(repeat (first|assumption|exact Ext.refl _|refine Ext.trans ?_ (by assumption)));first|done|fail) rfl rfl rfl rfl rfl rfl rfl rfl ?_|refine W.cond (x:=true) rfl (λ_=> ?_) (λhc=>by cases hc)|refine W.cond (x:=false) rfl (λhc=>by cases hc) (λ_=> ?_)|rw[decide_eq_true (by first|assumption|omega)]|rw[decide_eq_false (by first|assumption|omega)]));exact w.h):p:=k ⟨w⟩
theorem W.gd {p q:Prop} (w:q) (k:Hold q->p:=by intro w;(repeat1' (first|refine W.doffn rfl rfl ?_|refine W.dopn rfl rfl op_lss rfl ?_|refine W.dopn rfl rfl op_leq rfl ?_|refine W.dopn rfl rfl op_eql rfl ?_|refine W.dopn rfl rfl op_neq rfl ?_|refine W.dopn rfl rfl (op_sub (by omega) (by omega)) rfl ?_|refine W.dopn rfl rfl (op_add (by omega) (by omega)) rfl ?_|refine W.dopn (v:= .int _ _) rfl rfl rfl rfl ?_|refine W.dopn (v:= .ptr _) rfl rfl rfl rfl ?_|refine W.dopn (v:= .bool _) rfl rfl rfl rfl ?_|refine W.dopn (v:= .slice _ _ _ _) rfl rfl rfl rfl ?_|refine W.dopn (v:= .agg _) rfl rfl rfl rfl ?_|refine W.dopn (v:= .tup _) rfl rfl rfl rfl ?_|refine W.dopn rfl rfl rfl rfl ?_|refine W.dnil ?_|rw[decide_eq_true (by first|assumption|omega)]|rw[decide_eq_false (by first|assumption|omega)]));exact w.h):p:=k ⟨w⟩
theorem W.m {p:Prop} {p1 p2 p3 p4 q:Heap->Prop} (w:∀h,p1 h->p2 h->p3 h->p4 h->q h) (k:Hold (∀h,p1 h->p2 h->p3 h->p4 h->q h)->p:=by intro w;first|exact W.var rfl rfl rfl rfl rfl rfl rfl rfl rfl (by first|rfl|assumption) rfl w.h|exact W.box rfl rfl rfl w.h|exact W.al rfl rfl rfl w.h):p:=k ⟨w⟩
theorem W.n {p:Prop} {p1 p2 p3 p4 q:Heap->Prop} (w:∀h,p1 h->p2 h->p3 h->p4 h->q h) (k:Hold (∀h,p1 h->p2 h->p3 h->p4 h->q h)->p:=by intro w;first|exact W.bs1 rfl rfl rfl rfl w.h|exact W.bsS rfl rfl rfl w.h):p:=k ⟨w⟩
theorem W.e {p:Prop} {p1 p2 q:List Rec->Heap->Prop} (w:∀r h,p1 r h->p2 r h->q r h) (k:Hold (∀r h,p1 r h->p2 r h->q r h)->p:=by intro w;first|exact W.dlw (by assumption) (by assumption) (by(repeat (first|assumption|exact Ext.refl _|refine Ext.trans ?_ (by assumption)));first|done|fail) rfl rfl rfl rfl (by first|rfl|assumption) rfl w.h|exact W.dl0 (by assumption) (by assumption) (by(repeat (first|assumption|exact Ext.refl _|refine Ext.trans ?_ (by assumption)));first|done|fail) rfl rfl rfl rfl rfl rfl rfl w.h|exact W.dlk (by assumption) (by assumption) (by(repeat (first|assumption|exact Ext.refl _|refine Ext.trans ?_ (by assumption)));first|done|fail) rfl rfl rfl rfl rfl rfl rfl w.h|exact W.dlp (by assumption) (by assumption) (by(repeat (first|assumption|exact Ext.refl _|refine Ext.trans ?_ (by assumption)));first|done|fail) rfl rfl rfl rfl rfl rfl w.h):p:=k ⟨w⟩
theorem W.iz {p:Prop} {q:Nat->Nat->Prop} {p1:Nat->Nat->Prop} (w:∀i o,p1 i o->q i o) (k:Hold (∀i o,p1 i o->q i o)->p:=by intro w;exact W.ixF (by assumption) (by first|assumption|omega) rfl rfl rfl rfl rfl rfl rfl w.h):p:=k ⟨w⟩
theorem Ext.x {a b:Heap} (x:Ext a b:=by(repeat (first|assumption|exact Ext.refl _|refine Ext.trans ?_ (by assumption)));first|done|fail):Ext a b:=x
theorem W.k1 (i0:Nat) {v0:CV} (w:∀T:Tm,W E t (T.set i0 (some v0)) h Q) (e0:tm.look i0=v0:=by conv=>lhs;whnf) (e:(tm.set i0 (some v0))=tm:=by rfl):W E t tm h Q:=Eq.subst (motive:=λx=>W E t x h Q) e (w tm)
theorem W.k2 (i0 i1:Nat) {v0 v1:CV} (w:∀T:Tm,W E t ((T.set i0 (some v0)).set i1 (some v1)) h Q) (e0:tm.look i0=v0:=by conv=>lhs;whnf) (e1:tm.look i1=v1:=by conv=>lhs;whnf) (e:((tm.set i0 (some v0)).set i1 (some v1))=tm:=by rfl):W E t tm h Q:=Eq.subst (motive:=λx=>W E t x h Q) e (w tm)
theorem Tm.t2 {i0 i1:Nat} {v0 v1:CV} (w0:tm.look i0=v0) (w1:tm.look i1=v1) (e:tm=((tm.set i0 (some (tm.look i0))).set i1 (some (tm.look i1))):=by rfl):∃T:Tm,tm=((T.set i0 (some v0)).set i1 (some v1)):=⟨tm,e.trans (by rw[w0,w1])⟩
theorem W.k3 (i0 i1 i2:Nat) {v0 v1 v2:CV} (w:∀T:Tm,W E t (((T.set i0 (some v0)).set i1 (some v1)).set i2 (some v2)) h Q) (e0:tm.look i0=v0:=by conv=>lhs;whnf) (e1:tm.look i1=v1:=by conv=>lhs;whnf) (e2:tm.look i2=v2:=by conv=>lhs;whnf) (e:(((tm.set i0 (some v0)).set i1 (some v1)).set i2 (some v2))=tm:=by rfl):W E t tm h Q:=Eq.subst (motive:=λx=>W E t x h Q) e (w tm)
theorem Tm.t3 {i0 i1 i2:Nat} {v0 v1 v2:CV} (w0:tm.look i0=v0) (w1:tm.look i1=v1) (w2:tm.look i2=v2) (e:tm=(((tm.set i0 (some (tm.look i0))).set i1 (some (tm.look i1))).set i2 (some (tm.look i2))):=by rfl):∃T:Tm,tm=(((T.set i0 (some v0)).set i1 (some v1)).set i2 (some v2)):=⟨tm,e.trans (by rw[w0,w1,w2])⟩
theorem W.k4 (i0 i1 i2 i3:Nat) {v0 v1 v2 v3:CV} (w:∀T:Tm,W E t ((((T.set i0 (some v0)).set i1 (some v1)).set i2 (some v2)).set i3 (some v3)) h Q) (e0:tm.look i0=v0:=by conv=>lhs;whnf) (e1:tm.look i1=v1:=by conv=>lhs;whnf) (e2:tm.look i2=v2:=by conv=>lhs;whnf) (e3:tm.look i3=v3:=by conv=>lhs;whnf) (e:((((tm.set i0 (some v0)).set i1 (some v1)).set i2 (some v2)).set i3 (some v3))=tm:=by rfl):W E t tm h Q:=Eq.subst (motive:=λx=>W E t x h Q) e (w tm)
theorem Tm.t4 {i0 i1 i2 i3:Nat} {v0 v1 v2 v3:CV} (w0:tm.look i0=v0) (w1:tm.look i1=v1) (w2:tm.look i2=v2) (w3:tm.look i3=v3) (e:tm=((((tm.set i0 (some (tm.look i0))).set i1 (some (tm.look i1))).set i2 (some (tm.look i2))).set i3 (some (tm.look i3))):=by rfl):∃T:Tm,tm=((((T.set i0 (some v0)).set i1 (some v1)).set i2 (some v2)).set i3 (some v3)):=⟨tm,e.trans (by rw[w0,w1,w2,w3])⟩
theorem W.k5 (i0 i1 i2 i3 i4:Nat) {v0 v1 v2 v3 v4:CV} (w:∀T:Tm,W E t (((((T.set i0 (some v0)).set i1 (some v1)).set i2 (some v2)).set i3 (some v3)).set i4 (some v4)) h Q) (e0:tm.look i0=v0:=by conv=>lhs;whnf) (e1:tm.look i1=v1:=by conv=>lhs;whnf) (e2:tm.look i2=v2:=by conv=>lhs;whnf) (e3:tm.look i3=v3:=by conv=>lhs;whnf) (e4:tm.look i4=v4:=by conv=>lhs;whnf) (e:(((((tm.set i0 (some v0)).set i1 (some v1)).set i2 (some v2)).set i3 (some v3)).set i4 (some v4))=tm:=by rfl):W E t tm h Q:=Eq.subst (motive:=λx=>W E t x h Q) e (w tm)
theorem Tm.t5 {i0 i1 i2 i3 i4:Nat} {v0 v1 v2 v3 v4:CV} (w0:tm.look i0=v0) (w1:tm.look i1=v1) (w2:tm.look i2=v2) (w3:tm.look i3=v3) (w4:tm.look i4=v4) (e:tm=(((((tm.set i0 (some (tm.look i0))).set i1 (some (tm.look i1))).set i2 (some (tm.look i2))).set i3 (some (tm.look i3))).set i4 (some (tm.look i4))):=by rfl):∃T:Tm,tm=(((((T.set i0 (some v0)).set i1 (some v1)).set i2 (some v2)).set i3 (some v3)).set i4 (some v4)):=⟨tm,e.trans (by rw[w0,w1,w2,w3,w4])⟩
theorem W.k6 (i0 i1 i2 i3 i4 i5:Nat) {v0 v1 v2 v3 v4 v5:CV} (w:∀T:Tm,W E t ((((((T.set i0 (some v0)).set i1 (some v1)).set i2 (some v2)).set i3 (some v3)).set i4 (some v4)).set i5 (some v5)) h Q) (e0:tm.look i0=v0:=by conv=>lhs;whnf) (e1:tm.look i1=v1:=by conv=>lhs;whnf) (e2:tm.look i2=v2:=by conv=>lhs;whnf) (e3:tm.look i3=v3:=by conv=>lhs;whnf) (e4:tm.look i4=v4:=by conv=>lhs;whnf) (e5:tm.look i5=v5:=by conv=>lhs;whnf) (e:((((((tm.set i0 (some v0)).set i1 (some v1)).set i2 (some v2)).set i3 (some v3)).set i4 (some v4)).set i5 (some v5))=tm:=by rfl):W E t tm h Q:=Eq.subst (motive:=λx=>W E t x h Q) e (w tm)
theorem Tm.t6 {i0 i1 i2 i3 i4 i5:Nat} {v0 v1 v2 v3 v4 v5:CV} (w0:tm.look i0=v0) (w1:tm.look i1=v1) (w2:tm.look i2=v2) (w3:tm.look i3=v3) (w4:tm.look i4=v4) (w5:tm.look i5=v5) (e:tm=((((((tm.set i0 (some (tm.look i0))).set i1 (some (tm.look i1))).set i2 (some (tm.look i2))).set i3 (some (tm.look i3))).set i4 (some (tm.look i4))).set i5 (some (tm.look i5))):=by rfl):∃T:Tm,tm=((((((T.set i0 (some v0)).set i1 (some v1)).set i2 (some v2)).set i3 (some v3)).set i4 (some v4)).set i5 (some v5)):=⟨tm,e.trans (by rw[w0,w1,w2,w3,w4,w5])⟩
theorem W.k7 (i0 i1 i2 i3 i4 i5 i6:Nat) {v0 v1 v2 v3 v4 v5 v6:CV} (w:∀T:Tm,W E t (((((((T.set i0 (some v0)).set i1 (some v1)).set i2 (some v2)).set i3 (some v3)).set i4 (some v4)).set i5 (some v5)).set i6 (some v6)) h Q) (e0:tm.look i0=v0:=by conv=>lhs;whnf) (e1:tm.look i1=v1:=by conv=>lhs;whnf) (e2:tm.look i2=v2:=by conv=>lhs;whnf) (e3:tm.look i3=v3:=by conv=>lhs;whnf) (e4:tm.look i4=v4:=by conv=>lhs;whnf) (e5:tm.look i5=v5:=by conv=>lhs;whnf) (e6:tm.look i6=v6:=by conv=>lhs;whnf) (e:(((((((tm.set i0 (some v0)).set i1 (some v1)).set i2 (some v2)).set i3 (some v3)).set i4 (some v4)).set i5 (some v5)).set i6 (some v6))=tm:=by rfl):W E t tm h Q:=Eq.subst (motive:=λx=>W E t x h Q) e (w tm)
theorem Tm.t7 {i0 i1 i2 i3 i4 i5 i6:Nat} {v0 v1 v2 v3 v4 v5 v6:CV} (w0:tm.look i0=v0) (w1:tm.look i1=v1) (w2:tm.look i2=v2) (w3:tm.look i3=v3) (w4:tm.look i4=v4) (w5:tm.look i5=v5) (w6:tm.look i6=v6) (e:tm=(((((((tm.set i0 (some (tm.look i0))).set i1 (some (tm.look i1))).set i2 (some (tm.look i2))).set i3 (some (tm.look i3))).set i4 (some (tm.look i4))).set i5 (some (tm.look i5))).set i6 (some (tm.look i6))):=by rfl):∃T:Tm,tm=(((((((T.set i0 (some v0)).set i1 (some v1)).set i2 (some v2)).set i3 (some v3)).set i4 (some v4)).set i5 (some v5)).set i6 (some v6)):=⟨tm,e.trans (by rw[w0,w1,w2,w3,w4,w5,w6])⟩
theorem W.k8 (i0 i1 i2 i3 i4 i5 i6 i7:Nat) {v0 v1 v2 v3 v4 v5 v6 v7:CV} (w:∀T:Tm,W E t ((((((((T.set i0 (some v0)).set i1 (some v1)).set i2 (some v2)).set i3 (some v3)).set i4 (some v4)).set i5 (some v5)).set i6 (some v6)).set i7 (some v7)) h Q) (e0:tm.look i0=v0:=by conv=>lhs;whnf) (e1:tm.look i1=v1:=by conv=>lhs;whnf) (e2:tm.look i2=v2:=by conv=>lhs;whnf) (e3:tm.look i3=v3:=by conv=>lhs;whnf) (e4:tm.look i4=v4:=by conv=>lhs;whnf) (e5:tm.look i5=v5:=by conv=>lhs;whnf) (e6:tm.look i6=v6:=by conv=>lhs;whnf) (e7:tm.look i7=v7:=by conv=>lhs;whnf) (e:((((((((tm.set i0 (some v0)).set i1 (some v1)).set i2 (some v2)).set i3 (some v3)).set i4 (some v4)).set i5 (some v5)).set i6 (some v6)).set i7 (some v7))=tm:=by rfl):W E t tm h Q:=Eq.subst (motive:=λx=>W E t x h Q) e (w tm)
theorem Tm.t8 {i0 i1 i2 i3 i4 i5 i6 i7:Nat} {v0 v1 v2 v3 v4 v5 v6 v7:CV} (w0:tm.look i0=v0) (w1:tm.look i1=v1) (w2:tm.look i2=v2) (w3:tm.look i3=v3) (w4:tm.look i4=v4) (w5:tm.look i5=v5) (w6:tm.look i6=v6) (w7:tm.look i7=v7) (e:tm=((((((((tm.set i0 (some (tm.look i0))).set i1 (some (tm.look i1))).set i2 (some (tm.look i2))).set i3 (some (tm.look i3))).set i4 (some (tm.look i4))).set i5 (some (tm.look i5))).set i6 (some (tm.look i6))).set i7 (some (tm.look i7))):=by rfl):∃T:Tm,tm=((((((((T.set i0 (some v0)).set i1 (some v1)).set i2 (some v2)).set i3 (some v3)).set i4 (some v4)).set i5 (some v5)).set i6 (some v6)).set i7 (some v7)):=⟨tm,e.trans (by rw[w0,w1,w2,w3,w4,w5,w6,w7])⟩
theorem W.k9 (i0 i1 i2 i3 i4 i5 i6 i7 i8:Nat) {v0 v1 v2 v3 v4 v5 v6 v7 v8:CV} (w:∀T:Tm,W E t (((((((((T.set i0 (some v0)).set i1 (some v1)).set i2 (some v2)).set i3 (some v3)).set i4 (some v4)).set i5 (some v5)).set i6 (some v6)).set i7 (some v7)).set i8 (some v8)) h Q) (e0:tm.look i0=v0:=by conv=>lhs;whnf) (e1:tm.look i1=v1:=by conv=>lhs;whnf) (e2:tm.look i2=v2:=by conv=>lhs;whnf) (e3:tm.look i3=v3:=by conv=>lhs;whnf) (e4:tm.look i4=v4:=by conv=>lhs;whnf) (e5:tm.look i5=v5:=by conv=>lhs;whnf) (e6:tm.look i6=v6:=by conv=>lhs;whnf) (e7:tm.look i7=v7:=by conv=>lhs;whnf) (e8:tm.look i8=v8:=by conv=>lhs;whnf) (e:(((((((((tm.set i0 (some v0)).set i1 (some v1)).set i2 (some v2)).set i3 (some v3)).set i4 (some v4)).set i5 (some v5)).set i6 (some v6)).set i7 (some v7)).set i8 (some v8))=tm:=by rfl):W E t tm h Q:=Eq.subst (motive:=λx=>W E t x h Q) e (w tm)
theorem Tm.t9 {i0 i1 i2 i3 i4 i5 i6 i7 i8:Nat} {v0 v1 v2 v3 v4 v5 v6 v7 v8:CV} (w0:tm.look i0=v0) (w1:tm.look i1=v1) (w2:tm.look i2=v2) (w3:tm.look i3=v3) (w4:tm.look i4=v4) (w5:tm.look i5=v5) (w6:tm.look i6=v6) (w7:tm.look i7=v7) (w8:tm.look i8=v8) (e:tm=(((((((((tm.set i0 (some (tm.look i0))).set i1 (some (tm.look i1))).set i2 (some (tm.look i2))).set i3 (some (tm.look i3))).set i4 (some (tm.look i4))).set i5 (some (tm.look i5))).set i6 (some (tm.look i6))).set i7 (some (tm.look i7))).set i8 (some (tm.look i8))):=by rfl):∃T:Tm,tm=(((((((((T.set i0 (some v0)).set i1 (some v1)).set i2 (some v2)).set i3 (some v3)).set i4 (some v4)).set i5 (some v5)).set i6 (some v6)).set i7 (some v7)).set i8 (some v8)):=⟨tm,e.trans (by rw[w0,w1,w2,w3,w4,w5,w6,w7,w8])⟩
theorem W.k10 (i0 i1 i2 i3 i4 i5 i6 i7 i8 i9:Nat) {v0 v1 v2 v3 v4 v5 v6 v7 v8 v9:CV} (w:∀T:Tm,W E t ((((((((((T.set i0 (some v0)).set i1 (some v1)).set i2 (some v2)).set i3 (some v3)).set i4 (some v4)).set i5 (some v5)).set i6 (some v6)).set i7 (some v7)).set i8 (some v8)).set i9 (some v9)) h Q) (e0:tm.look i0=v0:=by conv=>lhs;whnf) (e1:tm.look i1=v1:=by conv=>lhs;whnf) (e2:tm.look i2=v2:=by conv=>lhs;whnf) (e3:tm.look i3=v3:=by conv=>lhs;whnf) (e4:tm.look i4=v4:=by conv=>lhs;whnf) (e5:tm.look i5=v5:=by conv=>lhs;whnf) (e6:tm.look i6=v6:=by conv=>lhs;whnf) (e7:tm.look i7=v7:=by conv=>lhs;whnf) (e8:tm.look i8=v8:=by conv=>lhs;whnf) (e9:tm.look i9=v9:=by conv=>lhs;whnf) (e:((((((((((tm.set i0 (some v0)).set i1 (some v1)).set i2 (some v2)).set i3 (some v3)).set i4 (some v4)).set i5 (some v5)).set i6 (some v6)).set i7 (some v7)).set i8 (some v8)).set i9 (some v9))=tm:=by rfl):W E t tm h Q:=Eq.subst (motive:=λx=>W E t x h Q) e (w tm)
theorem Tm.t10 {i0 i1 i2 i3 i4 i5 i6 i7 i8 i9:Nat} {v0 v1 v2 v3 v4 v5 v6 v7 v8 v9:CV} (w0:tm.look i0=v0) (w1:tm.look i1=v1) (w2:tm.look i2=v2) (w3:tm.look i3=v3) (w4:tm.look i4=v4) (w5:tm.look i5=v5) (w6:tm.look i6=v6) (w7:tm.look i7=v7) (w8:tm.look i8=v8) (w9:tm.look i9=v9) (e:tm=((((((((((tm.set i0 (some (tm.look i0))).set i1 (some (tm.look i1))).set i2 (some (tm.look i2))).set i3 (some (tm.look i3))).set i4 (some (tm.look i4))).set i5 (some (tm.look i5))).set i6 (some (tm.look i6))).set i7 (some (tm.look i7))).set i8 (some (tm.look i8))).set i9 (some (tm.look i9))):=by rfl):∃T:Tm,tm=((((((((((T.set i0 (some v0)).set i1 (some v1)).set i2 (some v2)).set i3 (some v3)).set i4 (some v4)).set i5 (some v5)).set i6 (some v6)).set i7 (some v7)).set i8 (some v8)).set i9 (some v9)):=⟨tm,e.trans (by rw[w0,w1,w2,w3,w4,w5,w6,w7,w8,w9])⟩
theorem W.k11 (i0 i1 i2 i3 i4 i5 i6 i7 i8 i9 i10:Nat) {v0 v1 v2 v3 v4 v5 v6 v7 v8 v9 v10:CV} (w:∀T:Tm,W E t (((((((((((T.set i0 (some v0)).set i1 (some v1)).set i2 (some v2)).set i3 (some v3)).set i4 (some v4)).set i5 (some v5)).set i6 (some v6)).set i7 (some v7)).set i8 (some v8)).set i9 (some v9)).set i10 (some v10)) h Q) (e0:tm.look i0=v0:=by conv=>lhs;whnf) (e1:tm.look i1=v1:=by conv=>lhs;whnf) (e2:tm.look i2=v2:=by conv=>lhs;whnf) (e3:tm.look i3=v3:=by conv=>lhs;whnf) (e4:tm.look i4=v4:=by conv=>lhs;whnf) (e5:tm.look i5=v5:=by conv=>lhs;whnf) (e6:tm.look i6=v6:=by conv=>lhs;whnf) (e7:tm.look i7=v7:=by conv=>lhs;whnf) (e8:tm.look i8=v8:=by conv=>lhs;whnf) (e9:tm.look i9=v9:=by conv=>lhs;whnf) (e10:tm.look i10=v10:=by conv=>lhs;whnf) (e:(((((((((((tm.set i0 (some v0)).set i1 (some v1)).set i2 (some v2)).set i3 (some v3)).set i4 (some v4)).set i5 (some v5)).set i6 (some v6)).set i7 (some v7)).set i8 (some v8)).set i9 (some v9)).set i10 (some v10))=tm:=by rfl):W E t tm h Q:=Eq.subst (motive:=λx=>W E t x h Q) e (w tm)
end
end Go.CM
