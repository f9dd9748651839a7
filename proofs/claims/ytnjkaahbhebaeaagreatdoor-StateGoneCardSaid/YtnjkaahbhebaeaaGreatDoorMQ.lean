/- A row of so many noughts, falses; a store beside looks at what was there. No condition, no program. -/
import Derived.Test.YtnjkaahbhebaeaaGreatDoorXNa
import Derived.Test.YtnjkaahbhebaeaaGreatDoorXZ
import Derived.Test.YtnjkaahbhebaeaaGreatDoorXU
import Derived.Test.YtnjkaahbhebaeaaGreatDoorEH
import Derived.Test.YtnjkaahbhebaeaaGreatDoorEY
import Derived.Test.YtnjkaahbhebaeaaGreatDoorFD2
import Derived.Test.YtnjkaahbhebaeaaGreatDoorZB
import Derived.Test.YtnjkaahbhebaeaaGreatDoorYE
set_option linter.unusedVariables false
set_option linter.unusedSimpArgs false
set_option maxRecDepth 100000
namespace Go.CM
noncomputable section
section
variable {E:Env} {tm:Tm} {H h:Heap} {Q:R->Prop} {all rest:List Oper} {o:Oper} {recs:List Rec} {idx nx:List Nat}
theorem DX.hrr (ds:DX H h idx nx recs) {b:Nat} (hb:H.next<=b):∀r∈recs,recIdx r∈nx\/∃i fp lo,r= .op i fp false lo lo/\(∀k∈fp,k≠b)/\∀k∈fp,k<h.next:=λr hr=>by
 have hn:=ds.x.next
 rcases(ds.r r hr).1 with⟨i,fp,lo,rfl,h1⟩|⟨i,lo,hi,rfl,h1,_⟩|⟨i,d,d',rfl,h1,_⟩
 ·exact .inr ⟨i,fp,lo,rfl,λk hk=>by have:=(h1 k hk).1;omega,λk hk=>by have:=(h1 k hk).1;omega⟩
 ·exact .inl h1
 ·exact .inl h1
theorem W.mks {t e:TypeId} {x y:Operand} {s es:TyS} {n:Nat} (hgd:guardOn all tm o=some true) (hop:o.op= .makeSlice t x y) (hx:cvOf E.globs tm x= .int .i64 (n:Int)) (hy:cvOf E.globs tm y= .int .i64 (n:Int)) (hs:E.ty t=some s) (hk:s.kind= .slice e) (hes:E.ty e=some es) (hb:Nat.ble es.bytes 4096=true) (hn:n<=1048576)
  (w:∀h',Ext h h'->h'.next=h.next+1->h'.get h.next=some (.cells (rep es.zero n) false)->W E (.ops all rest) (putTmp tm o.dst (.slice (some (h.next,0)) n n 0)) h' Q):W E (.ops all (o::rest)) tm h Q:=by
 refine W.op hgd (v:= .slice (some (h.next,0)) n n 0) (h1:=h.new (.cells (rep es.zero n) false)) ?_ (w _ (Ext.new _ _) rfl (new_same _ _))
 unfold opAny
 rw[hop]
 show oMakeSlice E (E.ty t) (cvOf E.globs tm x) (cvOf E.globs tm y) h=_
 rw[hs,hx,hy]
 unfold oMakeSlice
 simp only[hk,hes,upto_nat hn,upto_nat (Nat.le_refl n),hb,newSl]
theorem rep_bool:∀n:Nat,rep [.bool false] n=((List.replicate n false).map (Flat.enc:Bool->List CV)).flatten
 |0=>rfl
 |n+1=>by
  show[CV.bool false]++rep [.bool false] n=_
  rw[rep_bool n];rfl
theorem rep_int:∀n:Nat,rep [.int .i64 0] n=((List.replicate n (0:Int)).map (Flat.enc:Int->List CV)).flatten
 |0=>rfl
 |n+1=>by
  show[CV.int .i64 0]++rep [.int .i64 0] n=_
  rw[rep_int n];rfl
theorem intsOwn {b lo:Nat} {F:List Int} (hl:lo<=b) (hb:b<h.next) (g:h.get b=some (.cells (F.map (Flat.enc:Int->List CV)).flatten false)):OwnR h lo 1 (.slice (some (b,0)) F.length F.length 0) (F.map Flat.enc):=
 .inr ⟨b,0,false,by rw[List.length_map],hl,hb,g,λe he=>by
  obtain⟨u,_,rfl⟩:=List.mem_map.1 he
  rfl,.inl ⟨rfl,.inr rfl⟩⟩
theorem flagsOwn {b lo:Nat} {F:List Bool} (hl:lo<=b) (hb:b<h.next) (g:h.get b=some (.cells (F.map (Flat.enc:Bool->List CV)).flatten false)):OwnR h lo 1 (.slice (some (b,0)) F.length F.length 0) (F.map Flat.enc):=
 .inr ⟨b,0,false,by rw[List.length_map],hl,hb,g,λe he=>by
  obtain⟨u,_,rfl⟩:=List.mem_map.1 he
  rfl,.inl ⟨rfl,.inr rfl⟩⟩
theorem hidesA {ahead:Bits}:∀{recs:List Rec},(∀r∈recs,bit (recIdx r) ahead=true)->hides ahead recs=some []
 |[],_=>rfl
 |r::rs,hr=>by
  unfold hides
  rw[hidesA λx hx=>hr x (List.mem_cons_of_mem _ hx)]
  simp only[hr r (by simp)]
theorem looksA {ahead:Bits} {d d':Heap}:∀{recs:List Rec},(∀r∈recs,bit (recIdx r) ahead=true)->looks ahead d d' recs=true
 |[],_=>rfl
 |r::rs,hr=>by
  unfold looks
  rw[hr r (by simp)]
  exact looksA λx hx=>hr x (List.mem_cons_of_mem _ hx)
/-- A call behind all that was done: it may turn what it likes. -/
def DA (E:Env) (bs:List Bits) (all rest:List Oper) (i:Nat) (idx:List Nat) (dst:Option Nat) (tm:Tm) (h:Heap) (Q:R->Prop) (r:R):Prop:=match r with
 | .val v d=>h.next<=d.next/\∀recs' h',(∀r∈recs',recIdx r∈i::idx)->Same d h'->W E (.draw bs all rest (i+1) recs') (putTmp tm dst v) h' Q
 |_=>False
theorem DA.val {bs:List Bits} {i:Nat} {v:CV} {d:Heap} {dst:Option Nat} (hn:h.next<=d.next) (w:∀recs' h',(∀r∈recs',recIdx r∈i::idx)->Same d h'->W E (.draw bs all rest (i+1) recs') (putTmp tm dst v) h' Q):DA E bs all rest i idx dst tm h Q (.val v d):=⟨hn,w⟩
theorem W.dcallA {bs:List Bits} {i:Nat} {c:Call} {f:Operand} (hri:∀r∈recs,recIdx r∈idx) (hgd:guardOn all tm o=some true) (hop:o.op= .call c) (hf:c.callee= .value f) (hid:(idx.all λj=>bit j ((nth bs i).getD Bits.nil))=true)
  (w:W E (.call (cvOf E.globs tm f) (c.args.toList.map (cvOf E.globs tm))) .leaf h (DA E bs all rest i idx o.dst tm h Q)):W E (.draw bs all (o::rest) i recs) tm h Q:=by
 have hall:∀r∈recs,bit (recIdx r) ((nth bs i).getD Bits.nil)=true:=λr hm=>List.all_eq_true.1 hid _ (hri r hm)
 obtain⟨r0,⟨N1,e1⟩,q⟩:=w
 cases r0 with
 |val v d=>
  obtain⟨hx,q⟩:=q
  have hsame:Same d ⟨d.t,d.next,none⟩:=⟨rfl,λ_=>rfl⟩
  obtain⟨r,⟨N2,e2⟩,q2⟩:=q (.call i h d::recs) ⟨d.t,d.next,none⟩ (λr hm=>by
   rcases List.mem_cons.1 hm with rfl|hm
   ·simp[recIdx]
   ·exact List.mem_cons_of_mem _ (hri r hm)) hsame
  refine⟨r,.step ⟨max N1 N2,λm hm=> ?_⟩,q2⟩
  show(match guardOn all tm o with
   |some true=>dOp E (run E m) bs all rest o i recs tm h
   |some false=>run E m (.draw bs all rest (i+1) recs) (putTmp tm o.dst (.tup [])) h
   |none=> .stop)=r
  rw[hgd]
  show dOp E (run E m) bs all rest o i recs tm h=r
  unfold dOp
  rw[hop]
  simp only[hf,isBuiltin]
  rw[hidesA hall]
  unfold dHid
  simp only[hf,sCallee]
  show dCall (run E m) bs all rest i recs o.dst tm h h [] (run E m (.call (cvOf E.globs tm f) (c.args.toList.map (cvOf E.globs tm))) .leaf h)=r
  rw[e1 m (by omega)]
  show(match Nat.ble h.next d.next&&(looks ((nth bs i).getD Bits.nil) h d recs&&true)with
   |true=>run E m (.draw bs all rest (i+1) (.call i h d::recs)) (putTmp tm o.dst v) ⟨d.t,d.next,none⟩
   |false=> .stop)=r
  rw[looksA hall,Nat.ble_eq_true_of_le hx]
  exact e2 m (by omega)
 |_=>exact q.elim
/-- A row's rest, told of every memory that says the row. -/
theorem W.slcA {z:Nat} {v:CV} {l:List (List CV)} {k:Nat} {kk:IntKind} {t e:TypeId} {x y:Operand} {s:TyS} (sl:SlG h z v l) (hk:k<=l.length) (hgd:guardOn all tm o=some true) (hop:o.op= .slice t x (some y) none none) (hx:cvOf E.globs tm x=v) (hy:cvOf E.globs tm y= .int kk (k:Int)) (hs:E.ty t=some s) (hkd:s.kind= .slice e) (hz:sizeOf? E e=some z)
  (w:∀v',(∀h',SlG h' z v l->SlG h' z v' (l.drop k))->W E (.ops all rest) (putTmp tm o.dst v') h Q):W E (.ops all (o::rest)) tm h Q:=by
 obtain⟨v',h1,h2⟩:=slice_from (E:=E) (kk:=kk) sl hk hkd hz
 refine W.op hgd (v:=v') (h1:=h) ?_ (w v' λh' sl'=> ?_)
 ·unfold opAny
  rw[hop]
  show withH h (oSlice E (E.ty t) (cvOf E.globs tm x) (some (cvOf E.globs tm y)) none none)=_
  rw[hs,hx,hy,h1];rfl
 ·obtain⟨v2,h3,h4⟩:=slice_from (E:=E) (kk:=kk) sl' hk hkd hz
  rw[h1]at h3
  rw[Option.some.inj h3]
  exact h4
end
end
end Go.CM

namespace Go.Proofs.YtnjkaahbhebaeaaGreatDoor
open Go Go.CM Go.CM.Tt
noncomputable section
set_option maxHeartbeats 8000000
theorem isNaN_w {h:Heap} {tm:Tm} {Q:R->Prop} (a:Int) (q:Q (.val (.bool false) h)):W E1 (.call (.fn 235 [] []) [.int .i64 a]) tm h Q:=by
 refine W.fn (s:=fnOf Tryz.f235) rfl rfl rfl rfl ?_
 repeat refine W.g ?_
 exact q
theorem cmp_w {h:Heap} {tm:Tm} {Q:R->Prop} (a b:Int) (q:Q (.val (.int .i64 (cmpI a b)) h)):W E1 (.call (.fn 167 [] []) [.int .i64 a,.int .i64 b]) tm h Q:=by
 refine W.fn (s:=fnOf Tryz.f167) rfl rfl rfl rfl ?_
 repeat refine W.g ?_
 refine W.call rfl rfl rfl (isNaN_w a ?_)
 repeat refine W.g ?_
 refine W.call rfl rfl rfl (isNaN_w b ?_)
 unfold cmpI at q
 by_cases c1:a<b
 ·rw[if_pos c1]at q
  repeat refine W.g ?_
  exact q
 rw[if_neg c1]at q
 by_cases c2:b<a
 ·rw[if_pos c2]at q
  repeat refine W.g ?_
  exact q
 ·rw[if_neg c2]at q
  repeat refine W.g ?_
  exact q
theorem or_w {h:Heap} {tm:Tm} {Q:R->Prop} {v:CV} {l:List Int} (s:Sl h v l) (hm:l.length<=1099511627776) (q:Q (.val (.int .i64 (orI l)) h)):W E1 (.call (.fn 166 [] []) [v]) tm h Q:=by
 refine W.fn (s:=fnOf Tryz.f166) rfl rfl rfl rfl ?_
 repeat refine W.g ?_
 refine W.k4 3 6 7 8 λT=> ?_
 refine W.loop (σ:=Nat) (λk tm h'=>h'=h/\tm.look 3= .int .i64 0/\tm.look 6=v/\tm.look 7= .int .i64 (l.length:Int)/\tm.look 8= .int .i64 (k:Int)/\k<=l.length/\orI (l.drop k)=orI l) (λk=>l.length-k) ?_ (s:=0)
  ⟨rfl,rfl,rfl,rfl,rfl,Nat.zero_le _,rfl⟩
 rintro k tm h' ⟨rfl,w3,w6,w7,w8,hk,hl⟩
 obtain⟨T,rfl⟩:=Tm.t4 w3 w6 w7 w8
 clear w3 w6 w7 w8
 by_cases c1:k<l.length
 ·rw[List.drop_eq_getElem_cons c1]at hl
  rw[show orI (l[k]::l.drop (k+1))=if l[k]=0 then orI (l.drop (k+1))else l[k]from rfl]at hl
  repeat refine W.g ?_
  refine W.ixF s c1 rfl rfl rfl rfl rfl rfl rfl λi1 o1 M1=> ?_
  by_cases c2:l[k]=0
  ·rw[if_pos c2]at hl
   repeat refine W.g ?_
   exact⟨k+1,lessN c1,rfl,rfl,rfl,rfl,rfl,c1,hl⟩
  ·rw[if_neg c2]at hl
   repeat refine W.g ?_
   rw[<-hl]at q
   exact q
 ·repeat refine W.g ?_
  rw[show k=l.length by omega,List.drop_length]at hl
  rw[<-hl]at q
  exact q
theorem ids_w {h:Heap} {tm:Tm} {Q:R->Prop} (a b:Int×Int) (fr:Fresh h) (q:∀h',Ext h h'->Q (.val (.int .i64 (orI [cmpI a.1 b.1,cmpI a.2 b.2])) h')):W E1 (.call (.fn 103 [] []) [.agg [.int .i64 a.1,.int .i64 a.2],.agg [.int .i64 b.1,.int .i64 b.2]]) tm h Q:=by
 refine W.fn (s:=fnOf Tryz.f103) rfl rfl rfl rfl ?_
 repeat (refine W.seq ?_)
 refine W.region ?_
 refine W.box rfl rfl rfl λH1 X1 n1 g1 L1=> ?_
 refine W.box rfl rfl rfl λH2 X2 n2 g2 L2=> ?_
 have L1:=L1.ext X2
 have X:=X1.trans X2
 repeat refine W.g ?_
 have ds:=DX.start (X.fr fr)
 repeat (first|refine W.gd ?_|refine W.e λr_ h_ ds_ s_=> ?_)
 refine W.dcallZ ds_ rfl rfl rfl rfl (cmp_w a.1 b.1 (DZ.val (Ext.refl _) λr1 N1 ds1 t1=> ?_))
 repeat (first|refine W.gd ?_|refine W.e λr_ h_ ds_ s_=> ?_)
 refine W.dcallZ ds_ rfl rfl rfl rfl (cmp_w a.2 b.2 (DZ.val (Ext.refl _) λr2 N2 ds2 t2=> ?_))
 refine W.dnewZ ds2 (v:= .slice (some (N2.next,0)) 2 2 0) (b:= .cells [.int .i64 (cmpI a.1 b.1),.int .i64 (cmpI a.2 b.2)] false) rfl rfl rfl rfl λr3 N3 ds3 X3 n3 g3=> ?_
 have s3:Sl N3 (.slice (some (N2.next,0)) 2 2 0) [cmpI a.1 b.1,cmpI a.2 b.2]:=Sl.of_map Flat.iff (.inr (.inr ⟨N2.next,0,2,0,_,false,rfl,by omega,g3,(λj e he=>by
  match j,he with
  |0,he=>have he:=Option.some.inj he;rw[<-he];exact⟨rfl,rfl⟩
  |1,he=>have he:=Option.some.inj he;rw[<-he];exact⟨rfl,rfl⟩
  |n+2,he=>cases he),Nat.le_refl _,.inl rfl⟩))
 refine W.dcallZ ds3 rfl rfl rfl rfl (or_w s3 (by show _<=_;simp) (DZ.val (Ext.refl _) λr4 N4 ds4 t4=> ?_))
 repeat refine W.gd ?_
 repeat refine W.g ?_
 exact q _ (X.trans ds4.x)
theorem keycmp_w {h:Heap} {tm:Tm} {Q:R->Prop} (a b:LateD) (fr:Fresh h) (q:∀h',Ext h h'->Q (.val (.int .i64 (orI [cmpI a.trip b.trip,cmpI a.no b.no,cmpI a.pos b.pos])) h')):W E1 (.call (.fn 165 [] []) [.agg a.enc,.agg b.enc]) tm h Q:=by
 refine W.fn (s:=fnOf Tryz.f165) rfl rfl rfl rfl ?_
 repeat (refine W.seq ?_)
 refine W.region ?_
 refine W.box rfl rfl rfl λH1 X1 n1 g1 L1=> ?_
 refine W.box rfl rfl rfl λH2 X2 n2 g2 L2=> ?_
 have L1:=show LocE H2 h.next 0 [.int .i64 a.trip,.int .i64 a.no,.int .i64 a.pos,.int .i64 a.by_]from L1.ext X2
 have L2:=show LocE H2 H1.next 0 [.int .i64 b.trip,.int .i64 b.no,.int .i64 b.pos,.int .i64 b.by_]from L2
 have X:=X1.trans X2
 repeat refine W.g ?_
 have ds:=DX.start (X.fr fr)
 repeat (first|refine W.gd ?_|refine W.e λr_ h_ ds_ s_=> ?_)
 refine W.dcallZ ds_ rfl rfl rfl rfl (cmp_w a.trip b.trip (DZ.val (Ext.refl _) λr1 N1 ds1 t1=> ?_))
 repeat (first|refine W.gd ?_|refine W.e λr_ h_ ds_ s_=> ?_)
 refine W.dcallZ ds_ rfl rfl rfl rfl (cmp_w a.no b.no (DZ.val (Ext.refl _) λr2 N2 ds2 t2=> ?_))
 repeat (first|refine W.gd ?_|refine W.e λr_ h_ ds_ s_=> ?_)
 refine W.dcallZ ds_ rfl rfl rfl rfl (cmp_w a.pos b.pos (DZ.val (Ext.refl _) λr5 N5 ds5 t5=> ?_))
 refine W.dnewZ ds5 (v:= .slice (some (N5.next,0)) 3 3 0) (b:= .cells [.int .i64 (cmpI a.trip b.trip),.int .i64 (cmpI a.no b.no),.int .i64 (cmpI a.pos b.pos)] false) rfl rfl rfl rfl λr3 N3 ds3 X3 n3 g3=> ?_
 have s3:Sl N3 (.slice (some (N5.next,0)) 3 3 0) [cmpI a.trip b.trip,cmpI a.no b.no,cmpI a.pos b.pos]:=Sl.of_map Flat.iff (.inr (.inr ⟨N5.next,0,3,0,_,false,rfl,by omega,g3,(λj e he=>by
  match j,he with
  |0,he=>have he:=Option.some.inj he;rw[<-he];exact⟨rfl,rfl⟩
  |1,he=>have he:=Option.some.inj he;rw[<-he];exact⟨rfl,rfl⟩
  |2,he=>have he:=Option.some.inj he;rw[<-he];exact⟨rfl,rfl⟩
  |n+3,he=>cases he),Nat.le_refl _,.inl rfl⟩))
 refine W.dcallZ ds3 rfl rfl rfl rfl (or_w s3 (by show _<=_;simp) (DZ.val (Ext.refl _) λr4 N4 ds4 t4=> ?_))
 repeat refine W.gd ?_
 repeat refine W.g ?_
 exact q _ (X.trans ds4.x)
theorem of_w {h:Heap} {tm:Tm} {Q:R->Prop} (l:LateD) (q:∀h',Ext h h'->Q (.val (.agg [.int .i64 l.trip,.int .i64 l.no]) h')):W E1 (.call (.fn 118 [] []) [.agg l.enc]) tm h Q:=by
 refine W.fn (s:=fnOf Tryz.f118) rfl rfl rfl rfl ?_
 repeat (refine W.seq ?_)
 refine W.region ?_
 refine W.box rfl rfl rfl λH1 X1 n1 g1 L1=> ?_
 have L1:=show LocE H1 h.next 0 [.int .i64 l.trip,.int .i64 l.no,.int .i64 l.pos,.int .i64 l.by_]from L1
 refine W.al rfl rfl rfl λH2 X2 n2 g2 L2=> ?_
 have g2:H2.get H1.next=some (.cells [.int .i64 0,.int .i64 0] false):=g2
 have L1:=L1.ext X2
 clear L2
 repeat refine W.g ?_
 refine W.stn (vs:=[.int .i64 l.trip,.int .i64 l.no]) (cs':=[.int .i64 l.trip,.int .i64 l.no]) rfl rfl rfl rfl rfl rfl g2 rfl λM nM gM kM=> ?_
 repeat refine W.g ?_
 refine BodyQ.cell1 rfl rfl gM rfl rfl ?_
 exact q _ (Ext.store (X1.trans X2) nM kM (by omega) (by omega))
/-- Is a run there, of so many of each trip? -/
def thereP (n:List Int) (id:Int×Int):Prop:=∃(j:Nat) (c:Int),id.1=(j:Int)/\n[j]? =some c/\0<=id.2/\id.2<c
theorem there_w {h:Heap} {tm:Tm} {Q:R->Prop} {v:CV} {n:List Int} (s:Sl h v n) (hm:n.length<=1099511627776) (id:Int×Int) (fr:Fresh h) (q:∀h' (b:Bool),Ext h h'->(b=true↔thereP n id)->Q (.val (.bool b) h')):W E1 (.call (.fn 104 [] []) [v,.agg [.int .i64 id.1,.int .i64 id.2]]) tm h Q:=by
 refine W.fn (s:=fnOf Tryz.f104) rfl rfl rfl rfl ?_
 repeat (refine W.seq ?_)
 refine W.region ?_
 refine W.box rfl rfl rfl λH1 X1 n1 g1 L1=> ?_
 have no:∀{M:Heap},Ext h M->¬thereP n id->Q (.val (.bool false) M):=λXM hh=>q _ false XM (Iff.intro (λh=>by cases h) (λh=>absurd h hh))
 repeat refine W.g ?_
 have ds:=DX.start (X1.fr fr)
 by_cases c1:id.1<0
 ·repeat (first|refine W.gd ?_|refine W.e λr_ h_ ds_ s_=> ?_)
  repeat refine W.g ?_
  exact no (X1.trans ds_.x) (λ⟨j,c,h1,_⟩=>by omega)
 obtain⟨j,hj⟩:∃j:Nat,id.1=(j:Int):=⟨id.1.toNat,by omega⟩
 rw[hj]at L1
 by_cases c2:n.length<=j
 ·repeat (first|refine W.gd ?_|refine W.e λr_ h_ ds_ s_=> ?_)
  refine W.dlnS s rfl rfl rfl rfl rfl rfl rfl ?_
  repeat refine W.gd ?_
  repeat refine W.g ?_
  exact no (X1.trans ds_.x) (λ⟨j',c,h1,h2,_⟩=>by
   have:=(List.getElem?_eq_some_iff.1 h2).1
   omega)
 have c2':j<n.length:=by omega
 by_cases c3:id.2<0
 ·repeat (first|refine W.gd ?_|refine W.e λr_ h_ ds_ s_=> ?_)
  refine W.dlnS s rfl rfl rfl rfl rfl rfl rfl ?_
  repeat (first|refine W.gd ?_|refine W.e λr_ h_ ds_ s_=> ?_)
  repeat refine W.g ?_
  exact no (X1.trans ds_.x) (λ⟨j',c,h1,h2,h3,_⟩=>by omega)
 repeat (first|refine W.gd ?_|refine W.e λr_ h_ ds_ s_=> ?_)
 refine W.dlnS s rfl rfl rfl rfl rfl rfl rfl ?_
 repeat (first|refine W.gd ?_|refine W.e λr_ h_ ds_ s_=> ?_)
 refine W.dixF s c2' rfl rfl rfl rfl rfl rfl rfl λi1 o1 M1=> ?_
 by_cases c4:id.2<n[j]
 ·repeat (first|refine W.gd ?_|refine W.e λr_ h_ ds_ s_=> ?_)
  repeat refine W.g ?_
  exact q _ true (X1.trans ds_.x) (Iff.intro (λ_=>⟨j,n[j],hj,List.getElem?_eq_getElem c2',by omega,c4⟩) (λ_=>rfl))
 ·repeat (first|refine W.gd ?_|refine W.e λr_ h_ ds_ s_=> ?_)
  repeat refine W.g ?_
  exact no (X1.trans ds_.x) (λ⟨j',c,h1,h2,h3,h4⟩=>by
   have:j'=j:=by omega
   subst this
   rw[List.getElem?_eq_getElem c2']at h2
   have:=Option.some.inj h2
   omega)
end
end Go.Proofs.YtnjkaahbhebaeaaGreatDoor

namespace Go.Proofs.YtnjkaahbhebaeaaGreatDoor
open Go Go.CM Go.CM.Tt
noncomputable section
set_option maxHeartbeats 8000000
def cntsX (w:WorldD) (k n:Nat):List Int:=(List.range n).map λ(i:Nat)=>if i<k then w.countX (i:Int)else 0
theorem cntsX_len (w:WorldD) (k n:Nat):(cntsX w k n).length=n:=by simp[cntsX]
theorem cntsX_at (w:WorldD) {k n i:Nat} (h:i<n):(cntsX w k n)[i]? =some (if i<k then w.countX (i:Int)else 0):=by simp[cntsX,h]
theorem cntsX_set (w:WorldD) {k n:Nat}:cntsX w (k+1) n=(cntsX w k n).set k (w.countX (k:Int)):=by
 refine List.ext_getElem? λi=> ?_
 by_cases c:i<n
 ·rw[cntsX_at w c,List.getElem?_set]
  by_cases e:k=i
  ·rw[if_pos (show i<k+1 by omega),if_pos e,if_pos (by rw[cntsX_len];omega),e]
  ·rw[if_neg e,cntsX_at w c]
   by_cases d:i<k
   ·rw[if_pos d,if_pos (by omega)]
   ·rw[if_neg d,if_neg (by omega)]
 ·rw[List.getElem?_eq_none (by rw[cntsX_len];omega),List.getElem?_eq_none (by rw[List.length_set,cntsX_len];omega)]
theorem cntsX_none (w:WorldD) (n:Nat):cntsX w 0 n=List.replicate n 0:=by
 refine List.ext_getElem? λi=> ?_
 by_cases c:i<n
 ·rw[cntsX_at w c,List.getElem?_replicate,if_pos c,if_neg (by omega)]
 ·rw[List.getElem?_eq_none (by rw[cntsX_len];omega),List.getElem?_replicate,if_neg c]
theorem counts_w {h:Heap} {tm:Tm} {Q:R->Prop} {cs:List CV} {w:WorldD} (r:Rp.R h cs w) (rh:RH h) (fr:Fresh h) (sm:w.small) (sl:w.whole->w.told.slim)
  (q:∀h' v,Ext h h'->Sl h' v (cntsX w w.trips.length w.trips.length)->Q (.val v h')):W E1 (.call (.fn 101 [] []) [.agg cs]) tm h Q:=by
 have r0:=r
 obtain⟨a1,a2,a3,a4,a5,a6,a7,a8,a9,a10,a11,rfl,p1,p2,p3,p4,p5,p6,p7,p8,p9,p10,p11⟩:=r
 have htr:w.trips.length<=1048576:=sm.2.2.2.2.2.2.2.2.2.1
 refine W.fn (s:=fnOf Tryz.f101) rfl rfl rfl rfl ?_
 repeat (refine W.seq ?_)
 refine W.region ?_
 refine W.box rfl rfl rfl λH1 X1 n1 g1 L1=> ?_
 repeat refine W.g ?_
 refine W.mks (n:=w.trips.length) rfl rfl rfl rfl rfl rfl rfl rfl htr λH2 X2 n2 g2=> ?_
 obtain⟨b,hb⟩:∃b,b=H1.next:=⟨_,rfl⟩
 rw[<-hb]at g2 ⊢
 have g2:H2.get b=some (.cells ((cntsX w 0 w.trips.length).map (Flat.enc:Int->List CV)).flatten false):=by
  rw[cntsX_none,<-rep_int]
  exact g2
 obtain⟨n,hn⟩:∃n,n=w.trips.length:=⟨_,rfl⟩
 rw[<-hn]at g2 htr q ⊢
 repeat refine W.g ?_
 refine W.k4 1 3 10 11 λT=> ?_
 refine W.loop (σ:=Nat) (λk tm h'=>Ext H1 h'/\tm.look 1= .ptr (some (h.next,0))/\tm.look 3= .slice (some (b,0)) n n 0/\tm.look 10= .int .i64 (n:Int)/\tm.look 11= .int .i64 (k:Int)/\k<=n/\b<h'.next/\h'.get b=some (.cells ((cntsX w k n).map (Flat.enc:Int->List CV)).flatten false)) (λk=>n-k) ?_ (s:=0)
  ⟨X2,rfl,rfl,rfl,rfl,Nat.zero_le _,by omega,g2⟩
 rintro k tm h' ⟨X,w1,w3,w10,w11,hk,lb,gb⟩
 obtain⟨T,rfl⟩:=Tm.t4 w1 w3 w10 w11
 clear w1 w3 w10 w11
 have XX:=X1.trans X
 by_cases c1:k<n
 ·have L1:=L1.ext X
  repeat refine W.g ?_
  refine W.call rfl rfl rfl (Count_w (Rp.ext XX r0) (rh.ext XX) (XX.fr fr) sm sl (k:Int) λh3 X3=> ?_)
  have gb3:=(X3.old b lb).trans gb
  have lb3:=Nat.lt_of_lt_of_le lb X3.next
  have hF:((cntsX w k n).map (Flat.enc:Int->List CV))[k]? =some [.int .i64 (if k<k then w.countX (k:Int)else 0)]:=by
   rw[List.getElem?_map,cntsX_at w c1];rfl
  have hz1:∀e∈(cntsX w k n).map (Flat.enc:Int->List CV),e.length=1:=λe he=>by
   obtain⟨u,_,rfl⟩:=List.mem_map.1 he
   rfl
  repeat refine W.g ?_
  refine W.ix rfl rfl rfl rfl rfl rfl rfl (place_of (j:=k) rfl c1) ?_
  refine W.stn (vs:=[.int .i64 (w.countX (k:Int))]) (cs':=(((cntsX w k n).map (Flat.enc:Int->List CV)).set k [.int .i64 (w.countX (k:Int))]).flatten) rfl rfl rfl rfl rfl rfl gb3 (flat_setAt (z:=1) (f:=0) hz1 (by decide) hF) λM nM gM kM=> ?_
  repeat refine W.g ?_
  refine⟨k+1,lessN c1,Ext.store (X.trans X3) nM kM (by omega) lb3,rfl,rfl,rfl,rfl,c1,by omega,?_⟩
  rw[gM,cntsX_set,List.map_set];rfl
 ·have hkn:k=n:=by omega
  subst hkn
  have O:=intsOwn (lo:=0) (Nat.zero_le _) lb gb
  rw[cntsX_len]at O
  repeat refine W.g ?_
  exact q _ _ XX O.toSl
end
end Go.Proofs.YtnjkaahbhebaeaaGreatDoor

namespace Go.Proofs.YtnjkaahbhebaeaaGreatDoor
open Go Go.CM Go.CM.Tt
noncomputable section
set_option maxHeartbeats 8000000
theorem mid2_eq (i j:Nat) (h:i+j<=9223372036854775807):IntKind.i64.wrap ((IntKind.u64.wrap ((i:Int)+(j:Int))).fdiv (2 ^ min (Int.toNat 1) IntKind.u64.bits))=(((i+j)/2:Nat):Int):=by
 rw[show IntKind.u64.wrap ((i:Int)+(j:Int))=(i:Int)+j from IntWalk.u64_in _ (by omega)]
 have e:((2:Int) ^ min (Int.toNat 1) IntKind.u64.bits)=2:=rfl
 rw[e,Int.fdiv_eq_ediv_of_nonneg _ (by omega)]
 rw[IntWalk.i64_in _ (by omega)]
 omega
theorem lateCmp_w {h:Heap} {tm:Tm} {Q:R->Prop} (a x:LateD) (fr:Fresh h) (q:∀h' r,Ext h h'->(r<0↔ltK a x)->Q (.val (.int .i64 r) h')):W E1 (.call (.fn 238 [] []) [.agg a.enc,.agg x.enc]) tm h Q:=by
 refine W.fn (s:=fnOf Tryz.f238) rfl rfl rfl rfl ?_
 repeat (refine W.seq ?_)
 refine W.region ?_
 refine W.box rfl rfl rfl λH1 X1 n1 g1 L1=> ?_
 refine W.box rfl rfl rfl λH2 X2 n2 g2 L2=> ?_
 have L1:=show LocE H2 h.next 0 [.int .i64 a.trip,.int .i64 a.no,.int .i64 a.pos,.int .i64 a.by_]from L1.ext X2
 have L2:=show LocE H2 H1.next 0 [.int .i64 x.trip,.int .i64 x.no,.int .i64 x.pos,.int .i64 x.by_]from L2
 repeat refine W.g ?_
 refine W.call rfl rfl rfl (keycmp_w a x ((X1.trans X2).fr fr) λh3 X3=> ?_)
 repeat refine W.g ?_
 exact q _ _ ((X1.trans X2).trans X3) cmpK_neg
theorem bsLate_w {h:Heap} {tm:Tm} {Q:R->Prop} {v:CV} {l:List LateD} (s:Sl h v l) (hm:l.length<=1099511627776) (x:LateD) (g:SortK l) (fr:Fresh h)
  (q:∀h' (b:Bool) k,Ext h h'->FromK l x k->Q (.val (.tup [.int .i64 (k:Int),.bool b]) h')):W E1 (.call (.fn 237 [] []) [v,.agg x.enc,.fn 238 [] []]) tm h Q:=by
 refine W.fn (s:=fnOf Tryz.f237) rfl rfl rfl rfl ?_
 repeat (refine W.seq ?_)
 refine W.region ?_
 refine W.box rfl rfl rfl λH1 X1 n1 g1 L1=> ?_
 have L1:=show LocE H1 h.next 0 [.int .i64 x.trip,.int .i64 x.no,.int .i64 x.pos,.int .i64 x.by_]from L1
 repeat refine W.g ?_
 refine W.k6 0 2 4 8 9 10 λT=> ?_
 refine W.loop (σ:=Nat×Nat) (λp tm h'=>Ext H1 h'/\tm.look 0=v/\tm.look 2= .fn 238 [] []/\tm.look 4= .ptr (some (h.next,0))/\tm.look 8= .int .i64 (l.length:Int)/\tm.look 9= .int .i64 (p.1:Int)/\tm.look 10= .int .i64 (p.2:Int)/\p.1<=p.2/\p.2<=l.length/\(∀m w,m<p.1->l[m]? =some w->ltK w x)/\∀m w,p.2<=m->l[m]? =some w->¬ltK w x) (λp=>p.2-p.1) ?_ (s:=(0,l.length))
  ⟨Ext.refl _,rfl,rfl,rfl,rfl,rfl,rfl,Nat.zero_le _,Nat.le_refl _,λm w h=>by omega,λm w h1 h2=>by have:=(List.getElem?_eq_some_iff.1 h2).1;omega⟩
 rintro⟨i,j⟩ tm h' ⟨X,w0,w2,w4,w8,w9,w10,p1,p2,p3,p4⟩
 simp only at w9 w10 p1 p2 p3 p4
 obtain⟨T,rfl⟩:=Tm.t6 w0 w2 w4 w8 w9 w10
 clear w0 w2 w4 w8 w9 w10
 have XX:=X1.trans X
 by_cases c1:i<j
 ·obtain⟨md,hmd⟩:∃md:Nat,md=(i+j)/2:=⟨_,rfl⟩
  have hmid:=mid2_eq i j (by omega)
  rw[<-hmd]at hmid
  have hlt:md<l.length:=by omega
  obtain⟨w,hw⟩:∃w,w=l[md]:=⟨_,rfl⟩
  have hwg:l[md]? =some w:=by rw[hw];exact List.getElem?_eq_getElem hlt
  repeat refine W.g ?_
  refine W.anyTm (λtm=>tm.look 0=v/\tm.look 2= .fn 238 [] []/\tm.look 4= .ptr (some (h.next,0))/\tm.look 8= .int .i64 (l.length:Int)/\tm.look 9= .int .i64 (i:Int)/\tm.look 10= .int .i64 (j:Int)/\tm.look 11= .int .i64 (md:Int)) ⟨rfl,rfl,rfl,rfl,rfl,rfl,congrArg (CV.int .i64) hmid⟩ ?_
  rintro tm ⟨w0,w2,w4,w8,w9,w10,w11⟩
  obtain⟨T,rfl⟩:=Tm.t7 w0 w2 w4 w8 w9 w10 w11
  clear w0 w2 w4 w8 w9 w10 w11
  have ds:=DX.start (XX.fr fr)
  try refine W.dv ?_
  refine W.dixF s hlt rfl rfl rfl rfl rfl rfl rfl λi1 o1 M1=> ?_
  replace M1:=show LocE h i1 o1 [.int .i64 w.trip,.int .i64 w.no,.int .i64 w.pos,.int .i64 w.by_]from by rw[hw];exact M1
  repeat refine W.e λr_ h_ ds_ s_=> ?_
  refine W.dcallZ ds_ rfl rfl rfl rfl (lateCmp_w w x ((XX.trans ds_.x).fr fr) λh2 r X2 hr=>DZ.val X2 λq2 n2 ds2 t2=> ?_)
  by_cases d1:r<0
  ·repeat refine W.gd ?_
   repeat refine W.g ?_
   refine⟨(md+1,j),by show j-(md+1)<j-i;omega,X.trans ds2.x,rfl,rfl,rfl,rfl,rfl,rfl,by show md+1<=j;omega,p2,λm u h1 h2=> ?_,p4⟩
   by_cases e:m=md
   ·subst e
    rw[hwg]at h2
    rw[<-Option.some.inj h2]
    exact hr.1 d1
   ·exact(g m md u w (by have:m<md+1:=h1;omega) h2 hwg).trans (hr.1 d1)
  ·repeat refine W.gd ?_
   repeat refine W.g ?_
   refine⟨(i,md),by show md-i<j-i;omega,X.trans ds2.x,rfl,rfl,rfl,rfl,rfl,rfl,by show i<=md;omega,by show md<=l.length;omega,p3,λm u h1 h2 h3=> ?_⟩
   by_cases e:m=md
   ·subst e
    rw[hwg]at h2
    rw[<-Option.some.inj h2]at h3
    exact d1 (hr.2 h3)
   ·exact d1 (hr.2 ((g md m w u (by have:md<=m:=h1;omega) hwg h2).trans h3))
 ·obtain rfl:i=j:=by omega
  by_cases c2:i<l.length
  ·obtain⟨w,hw⟩:∃w,w=l[i]:=⟨_,rfl⟩
   repeat refine W.g ?_
   have ds:=DX.start (XX.fr fr)
   repeat refine W.gd ?_
   refine W.dixF s c2 rfl rfl rfl rfl rfl rfl rfl λi1 o1 M1=> ?_
   replace M1:=show LocE h i1 o1 [.int .i64 w.trip,.int .i64 w.no,.int .i64 w.pos,.int .i64 w.by_]from by rw[hw];exact M1
   repeat refine W.e λr_ h_ ds_ s_=> ?_
   refine W.dcallZ ds_ rfl rfl rfl rfl (lateCmp_w w x ((XX.trans ds_.x).fr fr) λh2 r X2 hr=>DZ.val X2 λq2 n2 ds2 t2=> ?_)
   repeat refine W.gd ?_
   repeat refine W.g ?_
   exact q _ _ i (XX.trans ds2.x) ⟨p2,p3,p4⟩
  ·repeat refine W.g ?_
   have ds:=DX.start (XX.fr fr)
   repeat refine W.gd ?_
   repeat refine W.g ?_
   exact q _ _ i (XX.trans ds.x) ⟨p2,p3,p4⟩
end
end Go.Proofs.YtnjkaahbhebaeaaGreatDoor

namespace Go.Proofs.YtnjkaahbhebaeaaGreatDoor
open Go Go.CM Go.CM.Tt
noncomputable section
set_option maxHeartbeats 16000000
theorem ne2_id {d e:Int×Int}:∃b:Bool,(∀h,withH h ((eqT E1 20 94 (.agg (winE d)) (.agg (winE e))).map λb=> .bool (!b))=some (.bool (!b),h))/\(b=true↔d=e):=by
 refine⟨(decide (d.1=e.1)&&(decide (d.2=e.2)&&true)),λh=> ?_,?_⟩
 ·rw[show eqT E1 20 94 (.agg (winE d)) (.agg (winE e))=some (decide (d.1=e.1)&&(decide (d.2=e.2)&&true))from by
   refine eqSt rfl ?_
   exact eqFs rfl rfl rfl (eqI rfl) (eqFs rfl rfl rfl (eqI rfl) rfl)];rfl
 ·rcases d with⟨a,b⟩
  rcases e with⟨a',b'⟩
  simp
/-- What stands from a place on, while it is of the run, is all of the run. -/
theorem delays_split {l:List LateD} {id:Int×Int} {k:Nat} (g:SortK l) (hp:∀d∈l,0<=d.pos) (f:FromK l (idKey id) k):delaysL l id=delaysL (l.drop k) id:=by
 unfold delaysL
 conv=>lhs;rw[<-List.take_append_drop k l]
 rw[List.filter_append]
 have:(l.take k).filter (λd=>decide (ofL d=id))=[]:=by
  rw[List.filter_eq_nil_iff]
  intro d hd
  obtain⟨m,hm,rfl⟩:=List.getElem_of_mem hd
  have hmk:m<k:=by rw[List.length_take]at hm;omega
  have hml:m<l.length:=by rw[List.length_take]at hm;omega
  rw[List.getElem_take]
  have h1:=f.2.1 m l[m] hmk (List.getElem?_eq_getElem hml)
  have h2:=hp _ (List.getElem_mem hml)
  rw[decide_eq_true_eq]
  intro e
  have e1:l[m].trip=id.1:=congrArg Prod.fst e
  have e2:l[m].no=id.2:=congrArg Prod.snd e
  unfold ltK idKey at h1
  simp only at h1
  omega
 rw[this,List.nil_append]
theorem delays_take {m:List LateD} {id:Int×Int} {j:Nat} (h:∀d∈m.take j,ofL d=id):delaysL m id=m.take j++delaysL (m.drop j) id:=by
 unfold delaysL
 conv=>lhs;rw[<-List.take_append_drop j m]
 rw[List.filter_append]
 congr 1
 exact List.filter_eq_self.2 λd hd=>decide_eq_true (h d hd)
theorem delays_at {m:List LateD} {id:Int×Int} {j:Nat} (h:∀d∈m.take j,ofL d=id) (hj:j<m.length) (e:ofL m[j]=id):∃hl:j<(delaysL m id).length,(delaysL m id)[j]=m[j]:=by
 have h1:=delays_take h
 have h2:delaysL (m.drop j) id=m[j]::delaysL (m.drop (j+1)) id:=by
  rw[List.drop_eq_getElem_cons hj]
  unfold delaysL
  exact List.filter_cons_of_pos (p:=λd=>decide (ofL d=id)) (decide_eq_true e)
 have ht:(m.take j).length=j:=by rw[List.length_take];omega
 have hg:(delaysL m id)[j]? =some m[j]:=by
  rw[h1,h2,List.getElem?_append_right (by omega),ht,Nat.sub_self];rfl
 obtain⟨hl,he⟩:=List.getElem?_eq_some_iff.1 hg
 exact⟨hl,he⟩
theorem delays_end {l:List LateD} {id:Int×Int} {k j:Nat} (g:SortK l) (f:FromK l (idKey id) k) (hp:∀d∈l,0<=d.pos) (h:∀d∈(l.drop k).take j,ofL d=id) (hj:j<(l.drop k).length) (e:ofL (l.drop k)[j]≠id):(delaysL (l.drop k) id).length=j:=by
 rw[delays_take h]
 have:delaysL ((l.drop k).drop j) id=[]:=by
  unfold delaysL
  rw[List.filter_eq_nil_iff]
  intro d hd
  obtain⟨m,hm,rfl⟩:=List.getElem_of_mem hd
  rw[List.length_drop,List.length_drop]at hm
  have hkl:k+j<l.length:=by rw[List.length_drop]at hj;omega
  have hml:k+(j+m)<l.length:=by omega
  rw[List.getElem_drop,List.getElem_drop,decide_eq_true_eq]
  rw[List.getElem_drop]at e
  intro e2
  have hge:=f.2.2 (k+j) l[k+j] (by omega) (List.getElem?_eq_getElem hkl)
  have e1:l[k+(j+m)].trip=id.1:=congrArg Prod.fst e2
  have e3:l[k+(j+m)].no=id.2:=congrArg Prod.snd e2
  have hpj:=hp _ (List.getElem_mem hkl)
  have hpm:=hp _ (List.getElem_mem hml)
  rcases Nat.eq_zero_or_pos m with rfl|hm0
  ·exact e e2
  ·have hlt:=g (k+j) (k+(j+m)) l[k+j] l[k+(j+m)] (by omega) (List.getElem?_eq_getElem hkl) (List.getElem?_eq_getElem hml)
   have hne:¬(l[k+j].trip=id.1/\l[k+j].no=id.2):=λhh=>e (Prod.ext hh.1 hh.2)
   unfold ltK idKey at hge
   unfold ltK at hlt
   simp only at hge
   omega
 rw[this,List.append_nil,List.length_take]
 omega
theorem delays1_w {h:Heap} {tm:Tm} {Q:R->Prop} {b2 b3:Nat} {c0 c1 c2 c3 c4 c5 c6 c7 c8 c9 c10 c11 vl vg:CV} {l:List LateD} {id:Int×Int} (y:Nat) (I:Nat->Heap->Prop) (Z:Heap->Prop) (g:SortK l) (hp:∀d∈l,0<=d.pos) (hm:l.length<=1099511627776)
  (h0:I 0 h) (hI:∀j h',I j h'->Fresh h'/\Sl h' vl l/\LocE h' b2 0 [c0,c1,c2,c3,c4,c5,c6,c7,c8,c9,c10,c11,vl,vg]/\LocE h' b3 0 [.int .i64 id.1,.int .i64 id.2]) (hE:∀j h' h2,I j h'->Ext h' h2->I j h2) (hz_:∀h' h2,Z h'->Ext h' h2->Z h2)
  (hy:∀j:Nat,(hj:j<(delaysL l id).length)->∀(h':Heap) (tm:Tm) (Q:R->Prop),I j h'->(∀h2,h'.next<=h2.next->I (j+1) h2->Q (.val (.bool true) h2))->(∀h2,h'.next<=h2.next->Z h2->Q (.val (.bool false) h2))->W E1 (.call (.yield y) [.agg (delaysL l id)[j].enc]) tm h' Q)
  (q:∀h',I (delaysL l id).length h'->Q (.val (.tup []) h')) (qz:∀h',Z h'->Q (.val (.tup []) h')):W E1 (.call (.fn 236 [] [.ptr (some (b2,0)),.ptr (some (b3,0))]) [.yield y]) tm h Q:=by
 obtain⟨fr,s,L2,L3⟩:=hI 0 h h0
 refine W.fn (s:=fnOf Tryz.f236) rfl rfl rfl rfl ?_
 repeat refine W.g ?_
 refine W.call rfl rfl rfl (bsLate_w s hm (idKey id) g fr λh2 bb k X hk=> ?_)
 have hsp:=delays_split g hp hk
 have hI2:=hE 0 h h2 h0 X
 have L2:=L2.ext X
 repeat refine W.g ?_
 refine W.slcA (z:=4) (l:=l.map Flat.enc) ((Sl.to_map Flat.iff s).ext X) (by rw[List.length_map];exact hk.1) rfl rfl rfl rfl rfl rfl rfl λv' sv=> ?_
 obtain⟨m,hml⟩:∃m,m=l.drop k:=⟨_,rfl⟩
 have sm:∀{h'},Sl h' vl l->Sl h' v' m:=λs=>Sl.of_map Flat.iff (by rw[hml,List.map_drop];exact sv _ (Sl.to_map Flat.iff s))
 have lm:m.length<=1099511627776:=by rw[hml,List.length_drop];omega
 have sm2:Sl h2 v' m:=sm (s.ext X)
 repeat refine W.g ?_
 refine W.k5 0 2 22 23 24 λT=> ?_
 refine W.loop (σ:=Nat) (λj tm h'=>I j h'/\tm.look 0= .yield y/\tm.look 2= .ptr (some (b3,0))/\tm.look 22=v'/\tm.look 23= .int .i64 (m.length:Int)/\tm.look 24= .int .i64 (j:Int)/\j<=m.length/\∀d∈m.take j,ofL d=id) (λj=>m.length-j) ?_ (s:=0)
  ⟨hI2,rfl,rfl,rfl,rfl,rfl,Nat.zero_le _,λd hd=>by simp at hd⟩
 clear L2 L3 sm2 hI2 X s fr h0
 rintro j tm h' ⟨hi,w0,w2,w22,w23,w24,hj,hd⟩
 obtain⟨T,rfl⟩:=Tm.t5 w0 w2 w22 w23 w24
 clear w0 w2 w22 w23 w24
 obtain⟨fr,s,L2,L3⟩:=hI j h' hi
 have s':=sm s
 by_cases c1:j<m.length
 rotate_left
 ·have hl:(delaysL l id).length=j:=by
    rw[hsp,<-hml,delays_take hd,List.drop_of_length_le (by omega)]
    simp[delaysL]
    omega
  repeat refine W.g ?_
  exact q _ (hl▸hi)
 obtain⟨d,hde⟩:∃d,d=m[j]:=⟨_,rfl⟩
 repeat refine W.g ?_
 refine W.ixF s' c1 rfl rfl rfl rfl rfl rfl rfl λi1 o1 M1=> ?_
 replace M1:=show LocE h' i1 o1 [.int .i64 d.trip,.int .i64 d.no,.int .i64 d.pos,.int .i64 d.by_]from by rw[hde];exact M1
 repeat (first|refine W.g ?_|refine W.m λh_ X_ n_ g_ L_=> ?_)
 have ds:=DX.start (X_.fr fr)
 repeat refine W.e λr_ h_ ds_ s_=> ?_
 refine W.dcallZ ds_ rfl rfl rfl rfl (of_w d λh3 X3=>DZ.val X3 λq3 n3 ds3 t3=> ?_)
 repeat refine W.e λr_ h_ ds_ s_=> ?_
 obtain⟨b,hb,he⟩:=ne2_id (d:=ofL d) (e:=id)
 refine W.dopn rfl rfl (hb _) rfl ?_
 by_cases e:ofL d=id
 ·obtain rfl:b=true:=he.2 e
  obtain⟨hl,hdj⟩:=delays_at hd c1 (by rw[<-hde];exact e)
  have hlm:delaysL l id=delaysL m id:=by rw[hsp,hml]
  have hl2:j<(delaysL l id).length:=by rw[hlm];exact hl
  have hdj2:(delaysL l id)[j]=d:=by rw[List.getElem_of_eq hlm,hdj,hde]
  repeat (first|refine W.gd ?_|refine W.e λr_ h_ ds_ s_=> ?_)
  have hi3:=hE j h' _ hi (X_.trans ds_.x)
  refine W.dcallA ds_.hri rfl rfl rfl rfl ?_
  have hyj:=hy j hl2
  rw[hdj2]at hyj
  refine hyj _ _ _ hi3 (λh4 hn4 hi4=>DA.val hn4 λq5 n5 hr5 t5=> ?_) (λh4 hn4 hz4=>DA.val hn4 λq5 n5 hr5 t5=> ?_)
  ·try refine W.dv ?_
   repeat refine W.g ?_
   refine⟨j+1,lessN c1,hE _ _ _ hi4 t5.ext,rfl,rfl,rfl,rfl,rfl,c1,λu hu=> ?_⟩
   rw[List.take_add_one,List.getElem?_eq_getElem c1,List.mem_append]at hu
   rcases hu with hu|hu
   ·exact hd u hu
   ·have hu:u=m[j]:=by simpa using hu
    rw[hu,<-hde];exact e
  ·try refine W.dv ?_
   repeat refine W.g ?_
   exact qz _ (hz_ _ _ hz4 t5.ext)
 ·obtain rfl:b=false:=by
    cases b
    ·rfl
    ·exact absurd (he.1 rfl) e
  have hl:(delaysL l id).length=j:=by
   rw[hsp]
   subst hml
   exact delays_end g hk hp hd c1 (by rw[<-hde];exact e)
  repeat refine W.gd ?_
  repeat refine W.g ?_
  exact q _ (hE _ _ _ (hl▸hi) (X_.trans ds_.x))
end
end Go.Proofs.YtnjkaahbhebaeaaGreatDoor

namespace Go.Proofs.YtnjkaahbhebaeaaGreatDoor
open Go Go.CM Go.CM.Tt
noncomputable section
set_option maxHeartbeats 16000000
def _root_.Go.CM.Tt.StateD.Cells (h:Heap) (cs:List CV) (d:StateD):Prop:=∃a1 a2 a3 a4 a5 a6 a7 a8 a9 a10 a11 vl vg,cs=[.int .i64 d.w.hz,a1,a2,a3,a4,a5,a6,a7,a8,a9,a10,a11,vl,vg]/\Rp.R h [.int .i64 d.w.hz,a1,a2,a3,a4,a5,a6,a7,a8,a9,a10,a11] d.w/\Sl h vl d.late/\Sl h vg d.gone
instance:Rp StateD:=⟨14,StateD.Cells,λx ⟨a1,a2,a3,a4,a5,a6,a7,a8,a9,a10,a11,vl,vg,e,r,s1,s2⟩=>⟨a1,a2,a3,a4,a5,a6,a7,a8,a9,a10,a11,vl,vg,e,Rp.ext x r,s1.ext x,s2.ext x⟩,λ⟨a1,a2,a3,a4,a5,a6,a7,a8,a9,a10,a11,vl,vg,e,_⟩=>by rw[e];rfl⟩
theorem delays_w {h:Heap} {tm:Tm} {Q:R->Prop} {cs:List CV} {s:StateD} {id:Int×Int} (ss:Rp.R h cs s)
  (q:∀h',Ext h h'->h'.next=h.next+2->LocE h' h.next 0 cs->LocE h' (h.next+1) 0 [.int .i64 id.1,.int .i64 id.2]->Q (.val (.fn 236 [] [.ptr (some (h.next,0)),.ptr (some (h.next+1,0))]) h')):W E1 (.call (.fn 169 [] []) [.agg cs,.agg [.int .i64 id.1,.int .i64 id.2]]) tm h Q:=by
 obtain⟨a1,a2,a3,a4,a5,a6,a7,a8,a9,a10,a11,vl,vg,rfl,_⟩:=ss
 refine W.fn (s:=fnOf Tryz.f169) rfl rfl rfl rfl ?_
 repeat (refine W.seq ?_)
 refine W.region ?_
 refine W.box rfl rfl rfl λH1 X1 n1 g1 L1=> ?_
 refine W.box rfl rfl rfl λH2 X2 n2 g2 L2=> ?_
 have L1:=L1.ext X2
 repeat refine W.g ?_
 have:=q H2 (X1.trans X2) (by omega) L1 (by rw[<-n1];exact L2)
 rw[<-n1]at this
 exact this
end
end Go.Proofs.YtnjkaahbhebaeaaGreatDoor

namespace Go.Proofs.YtnjkaahbhebaeaaGreatDoor
open Go Go.CM Go.CM.Tt
noncomputable section
set_option maxHeartbeats 16000000
theorem sl_oth {α:Type} [Flat α] {h h':Heap} {v:CV} {l:List α} (s:Sl h v l) (hn:h.next<=h'.next) (hk:∀i,idOf v=[i]->h'.get i=h.get i):Sl h' v l:=by
 refine Sl.of_map Flat.iff ?_
 rcases Sl.to_map Flat.iff s with s|s|⟨i,o,c,x,cs,ro,rfl,h2,h3,h4⟩
 ·exact .inl s
 ·exact .inr (.inl s)
 ·exact .inr (.inr ⟨i,o,c,x,cs,ro,rfl,by omega,(hk i rfl).trans h3,h4⟩)
theorem sl_idlt {α:Type} [Rp α] {h:Heap} {v:CV} {l:List α} (s:Sl h v l) {k:Nat} (hk:idOf v=[k]):k<h.next:=by
 obtain⟨css,sg,_⟩:=s
 rcases sg with⟨rfl,_⟩|⟨rfl,_⟩|⟨i,o,c,x,cs,ro,rfl,h2,_⟩
 ·cases hk
 ·cases hk
 ·have hk:[i]=[k]:=hk
  have:=List.singleton_inj.1 hk
  omega
/-- The variable that holds the run while its delays are gone through. -/
structure LateI (I0:Nat->Prop) (h h':Heap) (b2 b3 b4 b5 d2 d3 y:Nat) (B:Blk) (cs:List CV) (id:Int×Int) (r:RunD) (D:List LateD) (j:Nat) (rj:RunD) (c1 c2:CV):Prop where
 x:Ext h h'
 l2:LocE h' b2 0 cs
 l4:LocE h' d2 0 cs
 l5:LocE h' d3 0 [.int .i64 id.1,.int .i64 id.2]
 g3:h'.get b3=some (.cells [.int .i64 rj.trip,.int .i64 rj.no,c1,c2] false)
 sa:Sl h' c1 rj.arr
 sd:Sl h' c2 rj.dep
 ids:∀k,idOf c1=[k]\/idOf c2=[k]->k≠b3/\k≠b4/\k≠b5/\k≠y
 g4:h'.get b4=some (.cells [.int .i64 0,.int .i64 0,.slice none 0 0 0,.slice none 0 0 0] false)
 g5:h'.get b5=some (.cells [.bool false] false)
 gy:h'.get y=some B
 ly:y<h'.next
 e:r.lates D=rj.lates (D.drop j)
 idn:∀k,idOf c1=[k]\/idOf c2=[k]->I0 k\/h.next<=k
 la:rj.arr.length=r.arr.length
 ld:rj.dep.length=r.dep.length
theorem LateI.ext {I0:Nat->Prop} {h h' h2:Heap} {b2 b3 b4 b5 d2 d3 y:Nat} {B:Blk} {cs:List CV} {id:Int×Int} {r:RunD} {D:List LateD} {j:Nat} {rj:RunD} {c1 c2:CV} (l3:b3<h'.next) (l4:b4<h'.next) (l5:b5<h'.next) (i:LateI I0 h h' b2 b3 b4 b5 d2 d3 y B cs id r D j rj c1 c2) (X:Ext h' h2):LateI I0 h h2 b2 b3 b4 b5 d2 d3 y B cs id r D j rj c1 c2:=
 ⟨i.x.trans X,i.l2.ext X,i.l4.ext X,i.l5.ext X,(X.old _ l3).trans i.g3,i.sa.ext X,i.sd.ext X,i.ids,(X.old _ l4).trans i.g4,(X.old _ l5).trans i.g5,(X.old _ i.ly).trans i.gy,Nat.lt_of_lt_of_le i.ly X.next,i.e,i.idn,i.la,i.ld⟩
theorem late_w {h:Heap} {tm:Tm} {Q:R->Prop} {cs rs:List CV} {s:StateD} {r:RunD} (ss:Rp.R h cs s) (rr:Rp.R h rs r) (fr:Fresh h) (g:SortK s.late) (hp:∀d∈s.late,0<=d.pos) (hm:s.late.length<=1048576) (ha:r.arr.length<=1048576) (hd:r.dep.length<=1048576) (hn:0<r.arr.length)
  (q:∀h' rs',Ext h h'->Rp.R h' rs' (r.lates (delaysL s.late (r.trip,r.no))).1->(∀k∈idsOf rs',k∈idsOf rs\/h.next<=k)->Q (.val (.tup [.agg rs',.bool ((r.lates (delaysL s.late (r.trip,r.no))).2&&decide ((r.lates (delaysL s.late (r.trip,r.no))).1.lastA<=s.w.hz))]) h')):W E1 (.call (.fn 108 [] []) [.agg cs,.agg rs]) tm h Q:=by
 have ss0:=ss
 obtain⟨a1,a2,a3,a4,a5,a6,a7,a8,a9,a10,a11,vl,vg,rfl,_,t1,t2⟩:=ss
 obtain⟨c1,c2,rfl,u1,u2⟩:=rr
 obtain⟨I0,hI0⟩:∃I0:Nat->Prop,I0=λk=>idOf c1=[k]\/idOf c2=[k]:=⟨_,rfl⟩
 have q:∀h' x1 x2,Ext h h'->Rp.R h' [.int .i64 (r.lates (delaysL s.late (r.trip,r.no))).1.trip,.int .i64 (r.lates (delaysL s.late (r.trip,r.no))).1.no,x1,x2] (r.lates (delaysL s.late (r.trip,r.no))).1->(∀k,idOf x1=[k]\/idOf x2=[k]->I0 k\/h.next<=k)->Q (.val (.tup [.agg [.int .i64 (r.lates (delaysL s.late (r.trip,r.no))).1.trip,.int .i64 (r.lates (delaysL s.late (r.trip,r.no))).1.no,x1,x2],.bool ((r.lates (delaysL s.late (r.trip,r.no))).2&&decide ((r.lates (delaysL s.late (r.trip,r.no))).1.lastA<=s.w.hz))]) h'):=λh' x1 x2 X R hk=>q h' _ X R λk hm=>by
  have hm:k∈idOf x1++(idOf x2++[]):=hm
  show k∈idOf c1++(idOf c2++[])\/_
  have one:∀{x:CV},k∈idOf x->idOf x=[k]:=λ{x} hx=>by
   cases x with
   |ptr p=>cases p with
    |none=>cases hx
    |some p=>rw[List.mem_singleton.1 (show k∈[p.1]from hx)];rfl
   |slice p n c o=>cases p with
    |none=>cases hx
    |some p=>rw[List.mem_singleton.1 (show k∈[p.1]from hx)];rfl
   |map p=>cases p with
    |none=>cases hx
    |some p=>rw[List.mem_singleton.1 (show k∈[p]from hx)];rfl
   |_=>cases hx
  have hm:idOf x1=[k]\/idOf x2=[k]:=by
   simp only[List.mem_append,List.not_mem_nil,or_false]at hm
   exact hm.imp one one
  rcases hk k hm with z|z
  ·rw[hI0]at z
   refine .inl ?_
   simp only[List.mem_append,List.not_mem_nil,or_false]
   rcases z with z|z
   ·exact .inl (by rw[z];simp)
   ·exact .inr (by rw[z];simp)
  ·exact .inr z
 obtain⟨D,hD⟩:∃D,D=delaysL s.late (r.trip,r.no):=⟨_,rfl⟩
 refine W.fn (s:=fnOf Tryz.f108) rfl rfl rfl rfl ?_
 repeat (refine W.seq ?_)
 refine W.region ?_
 refine W.box rfl rfl rfl λH1 X1 n1 g1 L1=> ?_
 refine W.box rfl rfl rfl λH2 X2 n2 g2 L2=> ?_
 refine W.al rfl rfl rfl λH3 X3 n3 g3 L3=> ?_
 refine W.al rfl rfl rfl λH4 X4 n4 g4 L4=> ?_
 have g3:H3.get H2.next=some (.cells [.int .i64 0,.int .i64 0,.slice none 0 0 0,.slice none 0 0 0] false):=g3
 have g4:H4.get H3.next=some (.cells [.bool false] false):=g4
 have X:=((X1.trans X2).trans X3).trans X4
 have L1:=((L1.ext X2).ext X3).ext X4
 have L2:=(L2.ext X3).ext X4
 clear L3 L4
 repeat refine W.g ?_
 refine W.call rfl rfl rfl (delays_w (id:=(r.trip,r.no)) (Rp.ext X ss0) λH5 X5 n5 D2 D3=> ?_)
 repeat refine W.g ?_
 refine W.rangeX rfl λB hB=> ?_
 obtain⟨b2,hb2⟩:∃b,b=h.next:=⟨_,rfl⟩
 obtain⟨b3,hb3⟩:∃b,b=H1.next:=⟨_,rfl⟩
 obtain⟨b4,hb4⟩:∃b,b=H2.next:=⟨_,rfl⟩
 obtain⟨b5,hb5⟩:∃b,b=H3.next:=⟨_,rfl⟩
 obtain⟨d2,hd2⟩:∃b,b=H4.next:=⟨_,rfl⟩
 obtain⟨d3,hd3⟩:∃b,b=H4.next+1:=⟨_,rfl⟩
 obtain⟨y,hy⟩:∃y,y=H5.next:=⟨_,rfl⟩
 have XN:Ext H5 (H5.new B):=Ext.new _ _
 have nN:(H5.new B).next=H5.next+1:=rfl
 have gy0:(H5.new B).get y=some B:=by rw[hy];exact new_same _ _
 rw[<-hb3]at g2 L2
 rw[<-hb4]at g3
 rw[<-hb5]at g4
 rw[<-hd2]at D2
 rw[<-hd3]at D3
 rw[<-hb2]at L1
 simp only[<-hb2,<-hb3,<-hb4,<-hb5,<-hd3]at hB
 simp only[<-hb2,<-hb3,<-hb4,<-hb5,<-hd3,<-hy]
 rw[<-hd2]
 have XB:Ext h (H5.new B):=(X.trans X5).trans XN
 have i0:LateI I0 h (H5.new B) b2 b3 b4 b5 d2 d3 y B [.int .i64 s.w.hz,a1,a2,a3,a4,a5,a6,a7,a8,a9,a10,a11,vl,vg] (r.trip,r.no) r D 0 r c1 c2:=
  ⟨XB,(L1.ext X5).ext XN,D2.ext XN,D3.ext XN,(XN.old _ (by omega)).trans ((X5.old _ (by omega)).trans ((X4.old _ (by omega)).trans ((X3.old _ (by omega)).trans g2))),u1.ext XB,u2.ext XB,
   (λk hk=>by
    have:k<h.next:=by
     rcases hk with hk|hk
     ·exact sl_idlt u1 hk
     ·exact sl_idlt u2 hk
    omega),(XN.old _ (by omega)).trans ((X5.old _ (by omega)).trans ((X4.old _ (by omega)).trans g3)),(XN.old _ (by omega)).trans ((X5.old _ (by omega)).trans g4),gy0,by omega,rfl,(λk hk=> .inl (by rw[hI0];exact hk)),rfl,rfl⟩
 have hlen:D.length<=s.late.length:=by rw[hD];exact List.length_filter_le _ _
 refine delays1_w (l:=s.late) (id:=(r.trip,r.no)) y (λj h'=>∃rj c1 c2,LateI I0 h h' b2 b3 b4 b5 d2 d3 y B [.int .i64 s.w.hz,a1,a2,a3,a4,a5,a6,a7,a8,a9,a10,a11,vl,vg] (r.trip,r.no) r D j rj c1 c2)
  (λh'=>∃x1 x2,Ext h h'/\h'.get b4=some (.cells [.int .i64 (r.lates D).1.trip,.int .i64 (r.lates D).1.no,x1,x2] false)/\Sl h' x1 (r.lates D).1.arr/\Sl h' x2 (r.lates D).1.dep/\(r.lates D).2=false/\h'.get b5=some (.cells [.bool false] false)/\(∃tx px ax bx,h'.get y=some (.loop tx px ax bx 2 (some .ret)))/\y<h'.next/\∀k,idOf x1=[k]\/idOf x2=[k]->k≠y/\(I0 k\/h.next<=k)) g hp (by omega) ⟨r,c1,c2,i0⟩
  (λj h' ⟨rj,c1,c2,i⟩=>⟨i.x.fr fr,t1.ext i.x,i.l4,i.l5⟩)
  (λj h' h2 ⟨rj,c1,c2,i⟩ X=>⟨rj,c1,c2,i.ext (by have:=i.ly;omega) (by have:=i.ly;omega) (by have:=i.ly;omega) X⟩)
  (λh' h2 ⟨x1,x2,z1,z2,z3,z4,z5,z6,⟨tx,px,ax,bx,z7⟩,z8,z9⟩ X=>⟨x1,x2,z1.trans X,(X.old _ (by omega)).trans z2,z3.ext X,z4.ext X,z5,(X.old _ (by omega)).trans z6,⟨tx,px,ax,bx,(X.old _ z8).trans z7⟩,Nat.lt_of_lt_of_le z8 X.next,z9⟩) ?_ ?_ ?_
 ·rw[<-hD]
  clear i0 g2 g3 g4 L1 L2 D2 D3 XB gy0
  rintro j hj h' tm' Q' ⟨rj,c1,c2,i⟩ qt qf
  obtain⟨d,hde⟩:∃d,d=D[j]:=⟨_,rfl⟩
  rw[<-hde]
  have hdr:D.drop j=d::D.drop (j+1):=by rw[hde];exact List.drop_eq_getElem_cons hj
  have gy:=i.gy
  have ly:=i.ly
  rw[hB]at gy
  refine W.yieldX gy rfl ?_
  repeat (first|refine W.g ?_|refine W.m λh_ X_ n_ g_ L_=> ?_)
  refine⟨_,_,_,_,_,(X_.old y ly).trans gy,λG ng_ gg_ kg_=> ?_⟩
  have xh:=i.x.trans X_
  have xg_:Ext h G:=Ext.store xh ng_ kg_ (by omega) (by omega)
  have g3G:G.get b3=some (.cells [.int .i64 rj.trip,.int .i64 rj.no,c1,c2] false):=(kg_ b3 (by omega)).trans ((X_.old _ (by omega)).trans i.g3)
  have L3:LocE G b3 0 [.int .i64 rj.trip,.int .i64 rj.no,c1,c2]:=⟨_,_,g3G,by omega,rfl⟩
  have L6:LocE G h'.next 0 [.int .i64 d.trip,.int .i64 d.no,.int .i64 d.pos,.int .i64 d.by_]:=⟨_,_,(kg_ _ (by omega)).trans g_,by omega,rfl⟩
  have sa:Sl G c1 rj.arr:=sl_oth (i.sa.ext X_) (by omega) λk hk=>kg_ k (i.ids k (.inl hk)).2.2.2
  have sd:Sl G c2 rj.dep:=sl_oth (i.sd.ext X_) (by omega) λk hk=>kg_ k (i.ids k (.inr hk)).2.2.2
  have la:=i.la
  have ld:=i.ld
  repeat refine W.g ?_
  refine W.call rfl rfl rfl (LaterO_w (r:=rj) ⟨c1,c2,rfl,sa,sd⟩ (xg_.fr fr) (by omega) (by omega) d.pos d.by_ λh3 cs3 X3 r3 id3=> ?_)
  obtain⟨e1,e2,rfl,s1,s2⟩:=r3
  have n3:=X3.next
  have g33:=(X3.old b3 (by omega)).trans g3G
  have g43:=(X3.old b4 (by omega)).trans ((kg_ b4 (by omega)).trans ((X_.old _ (by omega)).trans i.g4))
  have g53:=(X3.old b5 (by omega)).trans ((kg_ b5 (by omega)).trans ((X_.old _ (by omega)).trans i.g5))
  have gy3:=(X3.old y (by omega)).trans gg_
  have idn:∀k,idOf e1=[k]\/idOf e2=[k]->G.next<=k:=λk hk=>id3 k (by
   show k∈idOf e1++(idOf e2++[])
   rw[List.append_nil]
   rcases hk with hk|hk
   ·exact List.mem_append_left _ (by rw[hk];simp)
   ·exact List.mem_append_right _ (by rw[hk];simp))
  obtain⟨rl,hrl⟩:∃rl,rl=rj.later d.pos d.by_:=⟨_,rfl⟩
  have elat:r.lates D=if rl.2=0 then rl.1.lates (D.drop (j+1))else(rl.1,false):=by
   rw[i.e,hdr,hrl];rfl
  have hlen:=RunD.later_len (r:=rj) (f:=d.pos) (d:=d.by_)
  rw[<-hrl]at s1 s2 hlen ⊢
  refine W.k5 3 4 5 7 22 λT=> ?_
  repeat refine W.g ?_
  refine W.stn (vs:=[.int .i64 rl.1.trip,.int .i64 rl.1.no,e1,e2]) (cs':=[.int .i64 rl.1.trip,.int .i64 rl.1.no,e1,e2]) rfl rfl rfl rfl rfl rfl g33 rfl λM nm_ gm_ km_=> ?_
  have xm_:Ext h M:=Ext.store (xg_.trans X3) nm_ km_ (by omega) (by omega)
  have s1:Sl M e1 rl.1.arr:=sl_oth s1 (by omega) λk hk=>km_ k (by have:=idn k (.inl hk);omega)
  have s2:Sl M e2 rl.1.dep:=sl_oth s2 (by omega) λk hk=>km_ k (by have:=idn k (.inr hk);omega)
  have LM:LocE M b3 0 [.int .i64 rl.1.trip,.int .i64 rl.1.no,e1,e2]:=⟨_,_,gm_,by omega,rfl⟩
  clear L3
  by_cases ok:rl.2=0
  ·repeat refine W.g ?_
   obtain⟨k1,k2,k3,k4⟩:=hlen ok
   refine RoundQ.norm ((km_ y (by omega)).trans gy3) λJ nj_ gj_ kj_=>qt J (by omega) ⟨rl.1,e1,e2,?_⟩
   have geq:∀b,b<h'.next->b≠y->b≠b3->J.get b=h'.get b:=λb h1 h2 h3'=>(kj_ b h2).trans ((km_ b h3').trans ((X3.old b (by omega)).trans ((kg_ b h2).trans (X_.old b h1))))
   have ih:=i.x.next
   refine⟨Ext.store xm_ nj_ kj_ (by omega) (by omega),i.l2.of_get (geq b2 (by omega) (by omega) (by omega)) (by omega),i.l4.of_get (geq d2 (by omega) (by omega) (by omega)) (by omega),i.l5.of_get (geq d3 (by omega) (by omega) (by omega)) (by omega),(kj_ b3 (by omega)).trans gm_,sl_oth s1 (by omega) λk hk=>kj_ k (by have:=idn k (.inl hk);omega),sl_oth s2 (by omega) λk hk=>kj_ k (by have:=idn k (.inr hk);omega),(λk hk=>by have:=idn k hk;omega),(geq b4 (by omega) (by omega) (by omega)).trans i.g4,(geq b5 (by omega) (by omega) (by omega)).trans i.g5,(by rw[hB];exact gj_),by omega,?_,(λk hk=>by have:=idn k hk;right;omega),by omega,by omega⟩
   rw[elat,if_pos ok]
  ·repeat refine W.g ?_
   rw[if_neg ok]at elat
   refine W.stn (vs:=[.int .i64 rl.1.trip,.int .i64 rl.1.no,e1,e2]) (cs':=[.int .i64 rl.1.trip,.int .i64 rl.1.no,e1,e2]) rfl rfl rfl rfl rfl rfl ((km_ b4 (by omega)).trans g43) rfl λM2 m2n m2g m2k=> ?_
   clear LM
   refine W.stn (vs:=[.bool false]) (cs':=[.bool false]) rfl rfl rfl rfl rfl rfl ((m2k b5 (by omega)).trans ((km_ b5 (by omega)).trans g53)) rfl λM3 m3n m3g m3k=> ?_
   repeat refine W.g ?_
   refine RoundQ.retX ((m3k y (by omega)).trans ((m2k y (by omega)).trans ((km_ y (by omega)).trans gy3))) λJ nj_ gj_ kj_=>qf J (by omega) ?_
   rw[elat]
   refine⟨e1,e2,Ext.store (Ext.store (Ext.store xm_ m2n m2k (by omega) (by omega)) m3n m3k (by omega) (by omega)) nj_ kj_ (by omega) (by omega),(kj_ b4 (by omega)).trans ((m3k b4 (by omega)).trans m2g),sl_oth s1 (by omega) λk hk=> ?_,sl_oth s2 (by omega) λk hk=> ?_,rfl,(kj_ b5 (by omega)).trans m3g,⟨_,_,_,_,gj_⟩,by omega,λk hk=>by have:=idn k hk;exact⟨by omega,.inr (by omega)⟩⟩
   ·have:=idn k (.inl hk)
    exact(kj_ k (by omega)).trans ((m3k k (by omega)).trans (m2k k (by omega)))
   ·have:=idn k (.inr hk)
    exact(kj_ k (by omega)).trans ((m3k k (by omega)).trans (m2k k (by omega)))
 ·rw[<-hD]
  clear i0 g2 g3 g4 L1 L2 D2 D3 XB gy0
  rintro h' ⟨rj,c1,c2,i⟩
  have gy:=i.gy
  have ly:=i.ly
  have ih:=i.x.next
  rw[hB]at gy
  have er:r.lates D=(rj,true):=by rw[i.e,List.drop_of_length_le (Nat.le_refl _)];rfl
  refine RangeQ.val gy rfl ?_
  have dl:∀k,k≠y->(h'.del y).get k=h'.get k:=λk hk=>by rw[Heap.get_del,if_neg (Ne.symm hk)]
  have xd:=i.x.del (i:=y) (by omega)
  have nd:(h'.del y).next=h'.next:=rfl
  obtain⟨K,hK⟩:∃K,K=h'.del y:=⟨_,rfl⟩
  rw[<-hK]at dl xd nd ⊢
  have g3K:=(dl b3 (by omega)).trans i.g3
  have l3:LocE K b3 0 [.int .i64 rj.trip,.int .i64 rj.no,c1,c2]:=⟨_,_,g3K,by omega,rfl⟩
  have l2:=i.l2.of_get (h':=K) (dl b2 (by omega)) (by omega)
  have sa:Sl K c1 rj.arr:=sl_oth i.sa (by omega) λk hk=>dl k (i.ids k (.inl hk)).2.2.2
  have sd:Sl K c2 rj.dep:=sl_oth i.sd (by omega) λk hk=>dl k (i.ids k (.inr hk)).2.2.2
  have g4K:=(dl b4 (by omega)).trans i.g4
  have g5K:=(dl b5 (by omega)).trans i.g5
  have la:=i.la
  rw[<-hD,er]at q
  have hjn:rj.arr.length-1<rj.arr.length:=by omega
  obtain⟨ia,oa,ca,xa,ea,hv,La,Ra⟩:=Sl.at sa hjn
  subst hv
  have hia:=i.ids ia (.inl rfl)
  have Ra:ea=[.int .i64 rj.arr[rj.arr.length-1]]:=Ra
  subst Ra
  have hpl:IntKind.i64.wrap (Int.ofNat rj.arr.length-1)=((rj.arr.length-1:Nat):Int):=by
   show IntKind.i64.wrap ((rj.arr.length:Int)-1)=_
   rw[IntWalk.i64_in _ (by omega)]
   omega
  have hlt:ia<K.next:=by
   obtain⟨_,_,_,h1,_⟩:=id La
   exact h1
  repeat refine W.g ?_
  refine W.k4 2 3 4 5 λT=> ?_
  have ds:=DX.start (xd.fr fr)
  refine W.dldE ds rfl rfl rfl g3K (by omega) rfl rfl λA0 p0 y0=> ?_
  have ds0:=DX.look (i:=0) ds l3 (Ext.refl _) p0
  try refine W.dv ?_
  refine W.dlkE (k:=2) l3 ds0 (Ext.refl _) rfl rfl rfl rfl rfl rfl rfl λA1 p1 y1=> ?_
  have ds1:=DX.look (i:=2) ds0 l3 (Ext.refl _) p1
  try refine W.dv ?_
  refine W.dlkE (k:=2) l3 ds1 (Ext.refl _) rfl rfl rfl rfl rfl rfl rfl λA2 p2 y2=> ?_
  have ds2:=DX.look (i:=4) ds1 l3 (Ext.refl _) p2
  try refine W.dv ?_
  refine W.dix rfl rfl rfl rfl rfl rfl rfl (place_of (j:=rj.arr.length-1) hpl hjn) ?_
  try refine W.dv ?_
  refine W.dlkE (k:=0) La ds2 (Ext.refl _) rfl rfl rfl rfl rfl rfl rfl λA3 p3 y3=> ?_
  have ds3:=DX.look (i:=8) ds2 La (Ext.refl _) p3
  try refine W.dv ?_
  refine W.dlkE (k:=0) l2 ds3 (Ext.refl _) rfl rfl rfl rfl rfl rfl rfl λA4 p4 y4=> ?_
  have ds4:=DX.look (i:=11) ds3 l2 (Ext.refl _) p4
  try refine W.dv ?_
  have n4:=y4.next
  refine W.dstG (vs:=[.int .i64 rj.trip,.int .i64 rj.no,.slice (some (ia,oa)) rj.arr.length ca xa,c2]) (cs':=[.int .i64 rj.trip,.int .i64 rj.no,.slice (some (ia,oa)) rj.arr.length ca xa,c2]) (nr:=[0]) (idx:=[11,8,4,2,0]) ds4.hri (λr hr=>by
   simp only[List.mem_cons,List.not_mem_nil,or_false]at hr
   rcases hr with rfl|rfl|rfl|rfl|rfl
   ·exact .inr ⟨_,_,_,rfl,λk hk=>by rw[List.mem_singleton.1 hk];omega,λk hk=>by rw[List.mem_singleton.1 hk];omega⟩
   ·exact .inr ⟨_,_,_,rfl,λk hk=>by rw[List.mem_singleton.1 hk];omega,λk hk=>by rw[List.mem_singleton.1 hk];omega⟩
   ·exact .inr ⟨_,_,_,rfl,λk hk=>by rw[List.mem_singleton.1 hk];omega,λk hk=>by rw[List.mem_singleton.1 hk];omega⟩
   ·exact .inr ⟨_,_,_,rfl,λk hk=>by rw[List.mem_singleton.1 hk];omega,λk hk=>by rw[List.mem_singleton.1 hk];omega⟩
   ·exact .inl (by simp[recIdx])) rfl rfl rfl rfl rfl rfl rfl ((y4.old b4 (by omega)).trans g4K) rfl λq5 M hr5 s5=> ?_
  try refine W.dv ?_
  have gm4:M.get b4=some (.cells [.int .i64 rj.trip,.int .i64 rj.no,.slice (some (ia,oa)) rj.arr.length ca xa,c2] false):=by rw[s5.get,put_same]
  have km4:∀k,k≠b4->M.get k=K.get k:=λk hk=>by
   rw[s5.get,Heap.get_put,if_neg (Ne.symm hk),p4.get,p3.get,p2.get,p1.get,p0.get]
  have nm4:M.next=A4.next:=s5.next
  refine W.dst (vs:=[.bool (decide (rj.arr[rj.arr.length-1]<=s.w.hz))]) (cs':=[.bool (decide (rj.arr[rj.arr.length-1]<=s.w.hz))]) hr5 rfl rfl rfl rfl rfl rfl rfl ((km4 b5 (by omega)).trans g5K) rfl λq6 N hr6 s6=> ?_
  try refine W.dv ?_
  repeat refine W.g ?_
  have nmK:M.next=K.next:=nm4.trans (p4.next.trans (p3.next.trans (p2.next.trans (p1.next.trans p0.next))))
  have k6:∀k,k≠b5->N.get k=M.get k:=λk hk=>by rw[s6.get,Heap.get_put,if_neg (Ne.symm hk)]
  have n6:N.next=M.next:=s6.next
  have xN:=Ext.store (Ext.store xd nmK km4 (by omega) (by omega)) n6 k6 (by omega) (by omega)
  have eL:rj.lastA=rj.arr[rj.arr.length-1]:=by simp[RunD.lastA,hjn]
  rw[<-eL]at s6
  refine BodyQ.cell2 rfl rfl rfl ((k6 b4 (by omega)).trans gm4) (by rw[s6.get,put_same]) rfl rfl rfl rfl ?_
  exact q _ _ _ xN ⟨_,_,rfl,sl_oth sa (by omega) λk hk=>(k6 k (i.ids k (.inl hk)).2.2.1).trans (km4 k (i.ids k (.inl hk)).2.1),sl_oth sd (by omega) λk hk=>(k6 k (i.ids k (.inr hk)).2.2.1).trans (km4 k (i.ids k (.inr hk)).2.1)⟩ i.idn
 ·rintro h' ⟨x1,x2,z1,z2,z3,z4,z5,z6,⟨tx,px,ax,bx,z7⟩,z8,z9⟩
  refine RangeQ.ret z7 rfl ?_
  repeat refine W.g ?_
  refine BodyQ.cell2 rfl rfl rfl (by rw[Heap.get_del,if_neg (by omega)];exact z2) (by rw[Heap.get_del,if_neg (by omega)];exact z6) rfl rfl rfl rfl ?_
  rw[<-hD,z5]at q
  exact q _ _ _ (z1.del (by omega)) ⟨_,_,rfl,sl_oth z3 (Nat.le_refl _) λk hk=>(by rw[Heap.get_del,if_neg (Ne.symm (z9 k (.inl hk)).1)]),sl_oth z4 (Nat.le_refl _) λk hk=>(by rw[Heap.get_del,if_neg (Ne.symm (z9 k (.inr hk)).1)])⟩ λk hk=>(z9 k hk).2
end
end Go.Proofs.YtnjkaahbhebaeaaGreatDoor
