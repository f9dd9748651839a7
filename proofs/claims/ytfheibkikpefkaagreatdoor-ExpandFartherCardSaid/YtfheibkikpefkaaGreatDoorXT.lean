/- Rules for walks, with what they leave told: boxes, variables, literal rows, a row of one's own that grows. No condition, no program. -/
import Derived.Test.YtfheibkikpefkaaGreatDoorXNb
set_option linter.unusedVariables false
set_option linter.unusedSimpArgs false
noncomputable section
namespace Go.CM
class Flat (α:Type) extends Rp α where
 enc:α->List CV
 iff:∀(h:Heap) (cs:List CV) (d:α),R h cs d↔cs=enc d
instance:Flat Int:=⟨λn=>[.int .i64 n],λ_ _ _=>Iff.rfl⟩
instance:Flat Bool:=⟨λb=>[.bool b],λ_ _ _=>Iff.rfl⟩
instance:Flat Str:=⟨λs=>[.str s],λ_ _ _=>Iff.rfl⟩
def OwnR (h:Heap) (lo z:Nat) (v:CV) (l:List (List CV)):Prop:=
 (l=[]/\v= .slice none 0 0 0)\/∃i x ro,v= .slice (some (i,0)) l.length l.length x/\lo<=i/\i<h.next/\h.get i=some (.cells l.flatten ro)/\(∀e∈l,e.length=z)/\((x=0/\(l=[]\/ro=false))\/(x=z/\ro=false/\l≠[]))
section
variable {h h' H:Heap} {lo z:Nat} {v:CV} {l:List (List CV)}
theorem OwnR.nil:OwnR h lo z (.slice none 0 0 0) []:= .inl ⟨rfl,rfl⟩
theorem OwnR.ext (o:OwnR h lo z v l) (x:Ext h h'):OwnR h' lo z v l:=by
 rcases o with⟨rfl,rfl⟩|⟨i,y,ro,rfl,h1,h2,h3,h4,h5⟩
 ·exact .inl ⟨rfl,rfl⟩
 ·exact .inr ⟨i,y,ro,rfl,h1,Nat.lt_of_lt_of_le h2 x.next,(x.old i h2).trans h3,h4,h5⟩
theorem OwnR.other (o:OwnR h lo z v l) (hn:h.next<=h'.next) (hk:∀k,lo<=k->k<h.next->idOf v=[k]->h'.get k=h.get k):OwnR h' lo z v l:=by
 rcases o with⟨rfl,rfl⟩|⟨i,y,ro,rfl,h1,h2,h3,h4,h5⟩
 ·exact .inl ⟨rfl,rfl⟩
 ·exact .inr ⟨i,y,ro,rfl,h1,by omega,(hk i h1 h2 rfl).trans h3,h4,h5⟩
theorem OwnR.low {lo':Nat} (o:OwnR h lo z v l) (hl:lo'<=lo):OwnR h lo' z v l:=by
 rcases o with⟨rfl,rfl⟩|⟨i,y,ro,rfl,h1,h2⟩
 ·exact .inl ⟨rfl,rfl⟩
 ·exact .inr ⟨i,y,ro,rfl,by omega,h2⟩
theorem OwnR.sl (o:OwnR h lo z v l):SlG h z v l:=by
 rcases o with⟨rfl,rfl⟩|⟨i,y,ro,rfl,h1,h2,h3,h4,h5⟩
 ·exact .inl ⟨rfl,rfl⟩
 ·exact .inr (.inr ⟨i,0,l.length,y,_,ro,rfl,h2,h3,(λj e he=>⟨h4 e (List.mem_of_getElem? he),flat_cut h4 he⟩),Nat.le_refl _,h5.imp (λh=>h.1) λh=>h.1⟩)
theorem OwnR.form (o:OwnR h lo z v l):∃p n c x,v= .slice p n c x:=by
 rcases o with⟨rfl,rfl⟩|⟨i,y,ro,rfl,_⟩
 ·exact⟨_,_,_,_,rfl⟩
 ·exact⟨_,_,_,_,rfl⟩
theorem OwnR.toSl {α:Type} [Flat α] {d:List α} (o:OwnR h lo (Rp.z α) v (d.map Flat.enc)):Sl h v d:=Sl.of_map Flat.iff o.sl
theorem SlG.lenZ (s:SlG h z v l):∀e∈l,e.length=z:=by
 rcases s with⟨_,rfl⟩|⟨_,rfl⟩|⟨i,o,c,x,cs,ro,rfl,_,_,h4,_⟩
 ·intro e he;cases he
 ·intro e he;cases he
 ·intro e he
  obtain⟨j,hj⟩:=List.getElem?_of_mem he;exact(h4 j e hj).1
variable {E:Env} {tm:Tm} {Q:R->Prop} {all rest:List Oper} {o:Oper}
theorem OwnR.notIn {b:Nat} (o:OwnR h lo z v l) (hb:h.next<=b):idOf v=[]\/∃i,idOf v=[i]/\i≠b/\lo<=i:=by
 rcases o with⟨rfl,rfl⟩|⟨i,y,ro,rfl,h1,h2,_⟩
 ·exact .inl rfl
 ·exact .inr ⟨i,rfl,by omega,h1⟩
theorem append_own {t t2 e:TypeId} {ts es t2s:TyS} {s s2:CV} {l2:List (List CV)} (hlo:lo<=h.next) (so:OwnR h lo z s l) (s2l:SlG h z s2 l2)
  (hts:E.ty t=some ts) (hk:ts.kind= .slice e) (hes:E.ty e=some es) (hz:es.size=z) (hz0:(Nat.beq es.size 0||Nat.beq es.bytes 0)=false) (ht2:E.ty t2=some t2s) (hk2:t2s.kind= .slice e) (hm:(l.length+l2.length)*es.bytes<=70368744177664):
  ∃v' h',oAppend E h (E.ty t) (E.ty t2) s s2=some (v',h')/\h.next<=h'.next/\h'.next<=h.next+1/\(∀k,k<h.next->k<lo\/idOf s≠[k]->h'.get k=h.get k)/\(Fresh h->Fresh h')/\OwnR h' lo z v' (l++l2)/\(l2=[]->v'=s/\h'=h)/\(l2≠[]->idOf v'=[h.next]/\h'.next=h.next+1):=by
 have hzpos:0<z:=by
  rw[<-hz];cases hs:es.size with
  |zero=>rw[hs]at hz0;cases hz0
  |succ n=>omega
 have hz2:=s2l.lenZ;by_cases hl2:l2=[]
 ·subst hl2
  have hsrc:srcLen s2=some 0/\srcCells h es.size 0 s2=some []:=by
   rcases s2l with⟨rfl,_⟩|⟨rfl,_⟩|⟨i,o,c,x,cs,ro,rfl,_⟩<;>exact⟨rfl,rfl⟩
  refine⟨s,h,?_,Nat.le_refl _,by omega,λ_ _ _=>rfl,id,by rw[List.append_nil];exact so,λ_=>⟨rfl,rfl⟩,λh=>absurd rfl h⟩;rcases so with⟨rfl,rfl⟩|⟨i,y,ro,rfl,_⟩
  ·unfold oAppend
   simp only[hts,hk,hes,hz0,ht2,hk2,hsrc.1,hsrc.2];rfl
  ·unfold oAppend
   simp only[hts,hk,hes,hz0,ht2,hk2,hsrc.1,hsrc.2,appendAt,Nat.add_zero,Nat.ble_eq_true_of_le (Nat.le_refl l.length)]
 ·have hpos2:0<l2.length:=List.length_pos_iff.2 hl2
  have hf2:=flat_len hz2;obtain⟨m,hmm⟩:∃m,l2.length=m+1:=⟨l2.length-1,by omega⟩
  have hsrc:srcLen s2=some l2.length/\srcCells h es.size l2.length s2=some l2.flatten:=by
   rcases s2l with⟨_,rfl⟩|⟨_,rfl⟩|⟨i,o,c,x,cs,ro,rfl,g2,g3,g4,g5,g6⟩
   ·exact absurd rfl hl2
   ·exact absurd rfl hl2
   ·refine⟨rfl,?_⟩
    have hcut:=cut_all hl2 g4;rw[hz,hmm];show(match h.get i with|some (.cells cs _)=>cut cs o ((m+1)*z)|_=>none)=_
    rw[g3,<-hmm];exact hcut
  rcases so with⟨rfl,rfl⟩|⟨i,y,ro,rfl,h1,h2,h3,h4,h5⟩
  ·have hble:Nat.ble (0+l2.length) 0=false:=by rw[hmm];rfl
   have hby:Nat.ble ((0+l2.length)*es.bytes) 70368744177664=true:=Nat.ble_eq_true_of_le (by simpa using hm);refine⟨.slice (some (h.next,0)) l2.length l2.length z,h.new (.cells l2.flatten false),?_,Nat.le_succ _,Nat.le_refl _,λk hk _=>by rw[Heap.get_new,if_neg (by omega)],λf=>f.new _,.inr ⟨h.next,z,false,rfl,hlo,Nat.lt_succ_self _,new_same _ _,hz2,.inr ⟨rfl,rfl,hl2⟩⟩,λh=>absurd h hl2,λ_=>⟨rfl,rfl⟩⟩;unfold oAppend;simp only[hts,hk,hes,hz0,ht2,hk2,hsrc.1,hsrc.2,appendAt,hble,hby];simp only[srcCells,growTo,List.nil_append,Nat.zero_add,hz]
  ·have hby:Nat.ble ((l.length+l2.length)*es.bytes) 70368744177664=true:=Nat.ble_eq_true_of_le hm
   have hble:Nat.ble (l.length+l2.length) l.length=false:=by
    cases hh:Nat.ble (l.length+l2.length) l.length with
    |true=>have:=Nat.le_of_ble_eq_true hh;omega
    |false=>rfl
   have hfl:=flat_len h4
   have hold:srcCells h es.size l.length (.slice (some (i,0)) l.length l.length y)=some l.flatten:=by
    rw[hz];cases hn:l.length with
    |zero=>
     have:l=[]:=List.eq_nil_of_length_eq_zero hn;rw[this];rfl
    |succ n=>
     show(match h.get i with|some (.cells cs _)=>cut cs 0 ((n+1)*z)|_=>none)=_
     rw[h3,<-hn];show cut l.flatten 0 (l.length*z)=_;rw[cut_eq,if_pos (by omega),List.drop_zero,List.take_of_length_le (by omega)]
   have hszs:∀e∈l++l2,e.length=z:=λe he=>by
    rcases List.mem_append.1 he with he|he
    ·exact h4 e he
    ·exact hz2 e he
   have hne:l++l2≠[]:=by simp[hl2]
   rcases h5 with⟨rfl,_⟩|⟨rfl,rfl,h6⟩
   ·refine⟨.slice (some (h.next,0)) (l.length+l2.length) (l.length+l2.length) z,h.new (.cells (l.flatten++l2.flatten) false),?_,Nat.le_succ _,Nat.le_refl _,λk hk _=>by rw[Heap.get_new,if_neg (by omega)],λf=>f.new _,.inr ⟨h.next,z,false,by rw[List.length_append],hlo,Nat.lt_succ_self _,by rw[List.flatten_append];exact new_same h _,hszs,.inr ⟨rfl,rfl,hne⟩⟩,λh=>absurd h hl2,λ_=>⟨rfl,rfl⟩⟩
    unfold oAppend;simp only[hts,hk,hes,hz0,ht2,hk2,hsrc.1,hsrc.2,appendAt,hble,hby,hold];simp only[growTo,hz]
   ·obtain⟨zz,hzz⟩:∃zz,y=zz+1:=⟨y-1,by omega⟩
    have hgrow:growTo h (some (i,0)) y es.size (l.length+l2.length) (l.flatten++l2.flatten)=some (.slice (some (h.next,0)) (l.length+l2.length) (l.length+l2.length) es.size,(h.del i).new (.cells (l.flatten++l2.flatten) false)):=by
     have hbq:Nat.beq (zz+1) (zz+1)=true:=Nat.beq_refl _;rw[hz,hzz];unfold growTo;simp only[hbq,h3]
    refine⟨.slice (some (h.next,0)) (l.length+l2.length) (l.length+l2.length) y,(h.del i).new (.cells (l.flatten++l2.flatten) false),?_,Nat.le_succ _,Nat.le_refl _,λk hk hc=> ?_,λf=>Fresh.new (λk hk=> ?_) _,.inr ⟨h.next,y,false,by rw[List.length_append],hlo,Nat.lt_succ_self _,by rw[List.flatten_append];exact new_same (h.del i) _,hszs,.inr ⟨rfl,rfl,hne⟩⟩,λh=>absurd h hl2,λ_=>⟨rfl,rfl⟩⟩
    ·unfold oAppend
     simp only[hts,hk,hes,hz0,ht2,hk2,hsrc.1,hsrc.2,appendAt,hble,hby,hold,hgrow];rw[hz]
    ·rw[Heap.get_new,if_neg (by show ¬h.next=k;omega),Heap.get_del,if_neg (by
      rintro rfl;rcases hc with hc|hc
      ·omega
      ·exact hc rfl)]
    ·have hk:h.next<=k:=hk
     rw[Heap.get_del];split
     ·rfl
     ·exact f k hk
theorem W.apR {c:Call} {t t2 e:TypeId} {ts es t2s:TyS} {s s2:CV} {l2:List (List CV)} (X:Ext H h) (so:OwnR h H.next z s l) (s2l:SlG h z s2 l2)
  (hgd:guardOn all tm o=some true) (hop:o.op= .call c) (hb:isBuiltin c.callee=some .append) (hty:c.argTypes.toList=[t,t2]) (ha:c.args.toList.map (cvOf E.globs tm)=[s,s2])
  (hts:E.ty t=some ts) (hk:ts.kind= .slice e) (hes:E.ty e=some es) (hz:es.size=z) (hz0:(Nat.beq es.size 0||Nat.beq es.bytes 0)=false) (ht2:E.ty t2=some t2s) (hk2:t2s.kind= .slice e) (hm:(l.length+l2.length)*es.bytes<=70368744177664)
  (w:∀v' h',Ext H h'->OwnR h' H.next z v' (l++l2)->W E (.ops all rest) (putTmp tm o.dst v') h' Q):W E (.ops all (o::rest)) tm h Q:=by
 obtain⟨v',h',k1,k2,_,k3,k4,k5,_⟩:=append_own X.next so s2l hts hk hes hz hz0 ht2 hk2 hm;have X':Ext H h':=⟨Nat.le_trans X.next k2,λk hk=>(k3 k (Nat.lt_of_lt_of_le hk X.next) (.inl hk)).trans (X.old k hk),λf=>k4 (X.fr f)⟩;refine W.op hgd (v:=v') (h1:=h') ?_ (w v' h' X' k5);unfold opAny;rw[hop];simp only[hb];show builtinV E h .append c.argTypes.toList (c.args.toList.map (cvOf E.globs tm))=_;rw[hty,ha];exact k1
structure DY (B:Nat->Prop) (h:Heap) (idx:List Nat) (recs:List Rec):Prop where
 r:∀r∈recs,recIdx r∈idx/\∃i fp ws lo hi,(r= .opw i fp ws lo hi\/∃wr,r= .op i fp wr lo hi/\(wr=true->ws=fp))/\(∀k∈fp,k<h.next)/\∀b,B b->b<lo/\b∉ws
 b:∀b,B b->b<h.next
variable {B:Nat->Prop} {bs:List Bits} {recs:List Rec} {i:Nat} {idx:List Nat}
theorem DY.start (hb:∀b,B b->b<h.next):DY B h [] []:=⟨λ_ h=>(by cases h),hb⟩
theorem DY.drop (d:DY B h idx recs):DY (λ_=>False) h idx recs:=⟨λr hr=>by
 obtain⟨h1,i,fp,ws,lo,hi,h2,h3,_⟩:=d.r r hr;exact⟨h1,i,fp,ws,lo,hi,h2,h3,λ_ h=>h.elim⟩,λ_ h=>h.elim⟩
theorem DY.tail {h':Heap} {r0:Rec} (d:DY B h idx recs) (hn:h.next<=h'.next) (h0:recIdx r0=i) (h1:∃i fp ws lo hi,(r0= .opw i fp ws lo hi\/∃wr,r0= .op i fp wr lo hi/\(wr=true->ws=fp))/\(∀k∈fp,k<h'.next)/\∀b,B b->b<lo/\b∉ws):DY B h' (i::idx) (r0::recs):=by
 refine⟨λr hr=> ?_,λb hb=>Nat.lt_of_lt_of_le (d.b b hb) hn⟩;rcases List.mem_cons.1 hr with rfl|hr
 ·exact⟨by rw[h0];simp,h1⟩
 ·obtain⟨h1,i',fp',ws',lo',hi',h2,h3,h4⟩:=d.r r hr
  exact⟨List.mem_cons_of_mem _ h1,i',fp',ws',lo',hi',h2,λk hk=>Nat.lt_of_lt_of_le (h3 k hk) hn,h4⟩
theorem DY.cons {h':Heap} {fp:List Nat} {wr:Bool} {lo hi:Nat} (d:DY B h idx recs) (hn:h.next<=h'.next) (hf:∀k∈fp,k<h'.next) (hB:∀b,B b->b<lo/\(wr=true->b∉fp)):DY B h' (i::idx) (.op i fp wr lo hi::recs):=
 by
 cases wr with
 |true=>exact d.tail hn rfl ⟨i,fp,fp,lo,hi,.inr ⟨true,rfl,λ_=>rfl⟩,hf,λb hb=>⟨(hB b hb).1,(hB b hb).2 rfl⟩⟩
 |false=>exact d.tail hn rfl ⟨i,fp,[],lo,hi,.inr ⟨false,rfl,λe=>by cases e⟩,hf,λb hb=>⟨(hB b hb).1,λh=>by cases h⟩⟩
theorem DY.same {h':Heap} (d:DY B h idx recs) (hn:h'.next=h.next):DY B h' idx recs:=⟨λr hr=>by
 obtain⟨h1,i,fp,ws,lo,hi,h2,h3,h4⟩:=d.r r hr;exact⟨h1,i,fp,ws,lo,hi,h2,λk hk=>by rw[hn];exact h3 k hk,h4⟩,λb hb=>by rw[hn];exact d.b b hb⟩
theorem okPair_opw {fp news:List Nat} {wr:Bool} {i:Nat} {fp' ws':List Nat} {lo hi:Nat} (h1:∀k∈fp,(within k lo hi||mem k ws')=false) (h2:wr=true->∀k∈fp,mem k fp'=false) (h3:∀k∈news,mem k fp'=false):okPair fp wr news (.opw i fp' ws' lo hi)=true:=by
 unfold okPair;simp only
 rw[all1_each λk hk=>by
  rw[h1 k hk];cases wr with
  |false=>rfl
  |true=>show(!mem k fp')=true;rw[h2 rfl k hk];rfl]
 exact all1_each λk hk=>by rw[h3 k hk];rfl
theorem DY.pairs_read {ahead:Bits} {b:Nat} (hb:B b):∀{recs:List Rec},DY B h idx recs->okPairs ahead [b] false [] recs=true
 |[],_=>rfl
 |r::rs,d=>by
  unfold okPairs;have ih:=DY.pairs_read (ahead:=ahead) hb (recs:=rs) ⟨λx hx=>d.r x (List.mem_cons_of_mem _ hx),d.b⟩
  have:okPair [b] false [] r=true:=by
   obtain⟨_,i,fp,ws,lo,hi,hr,_,h4⟩:=d.r r (by simp);obtain⟨g1,g2⟩:=h4 b hb;rcases hr with rfl|⟨wr,rfl,hw⟩
   ·refine okPair_opw (λk hk=> ?_) (λh=>by cases h) (λk hk=>by cases hk)
    rw[List.mem_singleton]at hk;subst hk;rw[within_out (.inl g1),mem_false λx hx e=>g2 (by rw[<-e];exact hx)];rfl
   ·rw[okPair_op,all1_of λk hk=>by
      rw[List.mem_singleton]at hk;subst hk;unfold opApart;rw[within_out (.inl g1)];cases wr with
      |false=>rfl
      |true=>
       show(!mem k fp)=true;rw[mem_false λx hx e=>g2 (by rw[<-e,hw rfl];exact hx)];rfl]
    rfl
  rw[this];exact ih
theorem DY.pairs_new {ahead:Bits}:∀{recs:List Rec},DY B h idx recs->okPairs ahead [] false [h.next] recs=true
 |[],_=>rfl
 |r::rs,d=>by
  unfold okPairs;have ih:=DY.pairs_new (ahead:=ahead) (recs:=rs) ⟨λx hx=>d.r x (List.mem_cons_of_mem _ hx),d.b⟩
  have:okPair [] false [h.next] r=true:=by
   obtain⟨_,i,fp,ws,lo,hi,hr,h3,_⟩:=d.r r (by simp)
   have hm:∀k∈[h.next],mem k fp=false:=λk hk=>by
    rw[List.mem_singleton]at hk;subst hk;exact mem_false λx hx=>by have:=h3 x hx;omega
   rcases hr with rfl|⟨wr,rfl,hw⟩
   ·exact okPair_opw (λk hk=>by cases hk) (λh=>by cases h) hm
   ·show all1 [h.next] (λk=> !mem k fp)=true
    exact all1_each λk hk=>by rw[hm k hk];rfl
  rw[this];exact ih
theorem W.ldY {t:TypeId} {x:Operand} {id off k:Nat} {e:List CV} {s:TyS} {v:CV} (d:DY B h idx recs) (hB:B id) (L:LocE h id off e) (hgd:guardOn all tm o=some true) (hop:o.op= .load t x) (hx:cvOf E.globs tm x= .ptr (some (id,off+k))) (hs:E.ty t=some s) (h1:s.size=1) (h2:s.agg=false) (he:e[k]? =some v)
  (w:∀recs' h',DY B h' (i::idx) recs'->Same h h'->LocE h' id off e->W E (.draw bs all rest (i+1) recs') (putTmp tm o.dst v) h' Q):W E (.draw bs all (o::rest) i recs) tm h Q:=by
 obtain⟨cs,ro,g1,g2,g3⟩:=L;have hn:=cut_nth g3 he
 have hfp:fpAny E o tm=[id]:=by
  unfold fpAny;rw[hop];show idOf (cvOf E.globs tm x)=[id];rw[hx];rfl
 have hwr:wrOf o.op=false:=by rw[hop];rfl
 have hget:(only h [id]).get id=some (.cells cs ro):=by rw[only_get];simpa using g1
 have ho:opAny E o tm (only h (fpAny E o tm))=some (v,only h [id]):=by
  rw[hfp];unfold opAny;rw[hop];show oLoad E t (cvOf E.globs tm x) (only h [id])=_;rw[hx];have hp:CM.part cs (off+k) s.size s.agg=some v:=by rw[h1,h2];exact hn
  unfold oLoad CM.load loadB;simp only[hget,hs,hp,withH]
 have hsame:Same h (back h (only h [id]) ([id]++span h.next 0)):=by
  refine⟨by rw[back_next,only_next],λk=> ?_⟩;rw[back_get];split
  ·rename_i hk
   have:k=id:=by
    have hk:k∈[id]:=hk;simpa using hk
   subst this;rw[hget,g1]
  ·rfl
 obtain⟨r,⟨N,e⟩,q⟩:=w (.op i [id] false h.next h.next::recs) _ ((d.cons (Nat.le_refl _) (λk hk=>by rw[List.mem_singleton]at hk;rw[hk];exact g2) λb hb=>⟨d.b b hb,λh=>by cases h⟩).same hsame.next) hsame (LocE.ext ⟨cs,ro,g1,g2,g3⟩ hsame.ext);refine⟨r,.step ⟨N,λm hm=> ?_⟩,q⟩
 show(match guardOn all tm o with
  |some true=>dOp E (run E m) bs all rest o i recs tm h
  |some false=>run E m (.draw bs all rest (i+1) recs) (putTmp tm o.dst (.tup [])) h
  |none=> .stop)=r
 rw[hgd];show dOp E (run E m) bs all rest o i recs tm h=r;rw[dOp_any ho,hfp,hwr];have hnx:(only h [id]).next=h.next:=only_next _ _
 show(match okPairs ((nth bs i).getD Bits.nil) [id] false (span h.next ((only h [id]).next-h.next)) recs with
  |true=>run E m (.draw bs all rest (i+1) (.op i [id] false h.next (only h [id]).next::recs)) (putTmp tm o.dst v) (back h (only h [id]) ([id]++span h.next ((only h [id]).next-h.next)))
  |false=> .stop)=r
 rw[hnx,Nat.sub_self];have:okPairs ((nth bs i).getD Bits.nil) [id] false (span h.next 0) recs=true:=DY.pairs_read hB d;rw[this];exact e m hm
theorem W.newY {b:Blk} {v:CV} (d:DY B h idx recs) (hgd:guardOn all tm o=some true) (hfp:fpAny E o tm=[]) (hwr:wrOf o.op=false) (ho:opAny E o tm (only h [])=some (v,(only h []).new b))
  (w:∀recs' h',DY B h' (i::idx) recs'->Ext h h'->h'.next=h.next+1->h'.get h.next=some b->W E (.draw bs all rest (i+1) recs') (putTmp tm o.dst v) h' Q):W E (.draw bs all (o::rest) i recs) tm h Q:=by
 have ho:opAny E o tm (only h (fpAny E o tm))=some (v,(only h []).new b):=by rw[hfp];exact ho
 have hb:∀k,(back h ((only h []).new b) ([]++[h.next])).get k=if k=h.next then some b else h.get k:=by
  intro k;rw[back_get];by_cases e:k=h.next
  ·subst e
   rw[if_pos (by simp),if_pos rfl];exact new_same (only h []) _
  ·rw[if_neg (by simpa using e),if_neg e]
 have hnx:(back h ((only h []).new b) ([]++[h.next])).next=h.next+1:=by rw[back_next];rfl
 have hx:Ext h (back h ((only h []).new b) ([]++[h.next])):=by
  refine⟨by omega,λk hk=> ?_,λf k hk=> ?_⟩
  ·rw[hb,if_neg (by omega)]
  ·rw[hnx]at hk
   rw[hb,if_neg (by omega)];exact f k (by omega)
 obtain⟨r,⟨N,e⟩,q⟩:=w (.op i [] false h.next (h.next+1)::recs) _ (d.cons (by omega) (λk hk=>by cases hk) λb hb=>⟨d.b b hb,λh=>by cases h⟩) hx hnx (by rw[hb,if_pos rfl]);refine⟨r,.step ⟨N,λm hm=> ?_⟩,q⟩
 show(match guardOn all tm o with
  |some true=>dOp E (run E m) bs all rest o i recs tm h
  |some false=>run E m (.draw bs all rest (i+1) recs) (putTmp tm o.dst (.tup [])) h
  |none=> .stop)=r
 rw[hgd];show dOp E (run E m) bs all rest o i recs tm h=r;rw[dOp_any ho,hfp,hwr]
 have hnb:Nat.beq (h.next+1) h.next=false:=by
  cases hb:Nat.beq (h.next+1) h.next with
  |true=>have:=Nat.eq_of_beq_eq_true hb;omega
  |false=>rfl
 have hsp:span h.next (h.next+1-h.next)=[h.next]:=by
  rw[show h.next+1-h.next=1 by omega];rfl
 show(match isNil ([]:List Nat)&&Nat.beq (h.next+1) h.next with
  |true=>_
  |false=>match okPairs ((nth bs i).getD Bits.nil) [] false (span h.next (h.next+1-h.next)) recs with
   |true=>run E m (.draw bs all rest (i+1) (.op i [] false h.next (h.next+1)::recs)) (putTmp tm o.dst v) (back h ((only h []).new b) ([]++span h.next (h.next+1-h.next)))
   |false=> .stop)=r
 rw[hnb,hsp,DY.pairs_new d];exact e m hm
theorem W.apC {c:Call} {t t2 e:TypeId} {ts es t2s:TyS} {s s2:CV} {l2:List (List CV)} (hok:∀n,n=0\/n=1->okPairs ((nth bs i).getD Bits.nil) (idOf s++idOf s2) false (span h.next n) recs=true/\okPairs ((nth bs i).getD Bits.nil) (idOf s) true (span h.next n) recs=true) (X:Ext H h) (so:OwnR h H.next z s l) (s2l:SlG h z s2 l2)
  (hgd:guardOn all tm o=some true) (hop:o.op= .call c) (hb:c.callee= .builtin .append) (hty:c.argTypes.toList=[t,t2]) (ha:c.args.toList.map (cvOf E.globs tm)=[s,s2])
  (hts:E.ty t=some ts) (hk:ts.kind= .slice e) (hes:E.ty e=some es) (hz:es.size=z) (hz0:(Nat.beq es.size 0||Nat.beq es.bytes 0)=false) (ht2:E.ty t2=some t2s) (hk2:t2s.kind= .slice e) (hm:(l.length+l2.length)*es.bytes<=70368744177664)
  (w:∀recs' v' h',(recs'=recs\/∃lo hi,lo=h.next/\recs'= .opw i (idOf s++idOf s2) (idOf s) lo hi::recs)->(∀k,k∈idOf s++idOf s2->k<h.next)->Ext H h'->h.next<=h'.next->(∀k,k<h.next->k<H.next\/idOf s≠[k]->h'.get k=h.get k)->OwnR h' H.next z v' (l++l2)->(∀c,c<h.next->idOf s≠[c]->idOf v'≠[c])->(l2≠[]->idOf v'=[h.next])->W E (.draw bs all rest (i+1) recs') (putTmp tm o.dst v') h' Q):W E (.draw bs all (o::rest) i recs) tm h Q:=by
 have hfp:fpAny E o tm=idOf s++idOf s2:=by
  unfold fpAny;rw[hop];simp only[fpOf,hb];rw[show(c.args.toList.map λx=>idOf (cvOf E.globs tm x))=(c.args.toList.map (cvOf E.globs tm)).map idOf by rw[List.map_map];rfl,ha];simp
 obtain⟨fp,hfpe⟩:∃fp,fp=idOf s++idOf s2:=⟨_,rfl⟩;rw[<-hfpe]at hfp hok w;have g0:∀k,k∈fp->(only h fp).get k=h.get k:=λk hk=>by rw[only_get,if_pos hk]
 have nx:(only h fp).next=h.next:=only_next _ _;have so':OwnR (only h fp) H.next z s l:=so.other (by rw[nx];exact Nat.le_refl _) λk _ _ hk=>g0 k (by rw[hfpe,hk];simp)
 have s2':SlG (only h fp) z s2 l2:=by
  rcases s2l with⟨rfl,rfl⟩|⟨rfl,rfl⟩|⟨i,o,c,x,cs,ro,rfl,g2,g3,g4,g5,g6⟩
  ·exact .inl ⟨rfl,rfl⟩
  ·exact .inr (.inl ⟨rfl,rfl⟩)
  ·exact .inr (.inr ⟨i,o,c,x,cs,ro,rfl,by rw[nx];exact g2,(g0 i (by rw[hfpe];simp[idOf])).trans g3,g4,g5,g6⟩)
 have hlt:∀k,k∈fp->k<h.next:=λk hk=>by
  rw[hfpe]at hk;rcases List.mem_append.1 hk with hk|hk
  ·rcases so with⟨rfl,rfl⟩|⟨i,y,ro,rfl,h1,h2,_⟩
   ·cases hk
   ·have:k=i:=by simpa[idOf]using hk
    rw[this];exact h2
  ·rcases s2l with⟨rfl,rfl⟩|⟨rfl,rfl⟩|⟨i,o,c,x,cs,ro,rfl,g2,g3,g4,g5,g6⟩
   ·cases hk
   ·cases hk
   ·have:k=i:=by simpa[idOf]using hk
    rw[this];exact g2
 obtain⟨v',hh,k1,k2,k2b,k3,k4,k5,k6,k7⟩:=append_own (by rw[nx];exact X.next) so' s2' hts hk hes hz hz0 ht2 hk2 hm;rw[nx]at k2 k2b k3
 have ho:opAny E o tm (only h (fpAny E o tm))=some (v',hh):=by
  rw[hfp];unfold opAny;rw[hop];simp only[hb];show builtinV E _ .append c.argTypes.toList (c.args.toList.map (cvOf E.globs tm))=_;rw[hty,ha];exact k1
 have hbk:∀k,k<h.next->k<H.next\/idOf s≠[k]->(back h hh (fp++span h.next (hh.next-h.next))).get k=h.get k:=by
  intro k hk hc;rw[back_get];split
  ·rename_i hm
   rcases List.mem_append.1 hm with hm|hm
   ·rw[k3 k hk hc,g0 k hm]
   ·exfalso
    have:hh.next=h.next\/hh.next=h.next+1:=by omega
    rcases this with e|e
    ·rw[e,Nat.sub_self]at hm;cases hm
    ·rw[e,show h.next+1-h.next=1 by omega]at hm
     have:k=h.next:=by
      have hm:k∈[h.next+0]:=hm;simpa using hm
     omega
  ·rfl
 have hbn:(back h hh (fp++span h.next (hh.next-h.next))).next=hh.next:=back_next _ _ _
 have X':Ext H (back h hh (fp++span h.next (hh.next-h.next))):=by
  refine⟨by rw[hbn];exact Nat.le_trans X.next k2,λk hk=>(hbk k (Nat.lt_of_lt_of_le hk X.next) (.inl hk)).trans (X.old k hk),λf k hk=> ?_⟩;rw[hbn]at hk;rw[back_get];have fh:=X.fr f;split
  ·rename_i hm
   rcases List.mem_append.1 hm with hm|hm
   ·have:=hlt k hm;omega
   ·exfalso
    have:hh.next=h.next\/hh.next=h.next+1:=by omega
    rcases this with e|e
    ·rw[e,Nat.sub_self]at hm;cases hm
    ·rw[e,show h.next+1-h.next=1 by omega]at hm
     have:k=h.next:=by
      have hm:k∈[h.next+0]:=hm;simpa using hm
     omega
  ·exact fh k (by omega)
 have k5':OwnR (back h hh (fp++span h.next (hh.next-h.next))) H.next z v' (l++l2):=by
  have gg:∀k,k∈fp\/(h.next<=k/\k<hh.next)->(back h hh (fp++span h.next (hh.next-h.next))).get k=hh.get k:=by
   intro k hc;rw[back_get,if_pos];rcases hc with hc|⟨c1,c2⟩
   ·exact List.mem_append_left _ hc
   ·refine List.mem_append_right _ ?_
    have:k=h.next:=by omega
    rw[show hh.next-h.next=1 by omega,this];show h.next∈[h.next+0];simp
  rw[nx]at k7
  have inn:∀i,idOf v'=[i]->i<hh.next->i∈fp\/(h.next<=i/\i<hh.next):=by
   intro i hi hlt2;by_cases hl2:l2=[]
   ·left
    rw[hfpe,<-(k6 hl2).1,hi];simp
   ·right
    have:=(k7 hl2).1;rw[hi]at this;have:i=h.next:=by simpa using this
    omega
  rcases k5 with⟨e0,rfl⟩|⟨i,y,ro,rfl,h1,h2,h3,h4,h5⟩
  ·exact .inl ⟨e0,rfl⟩
  ·exact .inr ⟨i,y,ro,rfl,h1,by rw[hbn];exact h2,(gg i (inn i rfl h2)).trans h3,h4,h5⟩
 have kid:∀c,c<h.next->idOf s≠[c]->idOf v'≠[c]:=by
  intro c hc hs;by_cases hl2:l2=[]
  ·rw[(k6 hl2).1];exact hs
  ·have:=(k7 hl2).1
   rw[nx]at this;rw[this];intro e;have:h.next=c:=by simpa using e
   omega
 by_cases hno:fp=[]/\hh.next=h.next
 ·have hl2:l2=[]:=by
    by_cases hl2:l2=[]
    ·exact hl2
    ·have:=(k7 hl2).2
     rw[nx]at this;omega
  have hv:=(k6 hl2).1;obtain⟨r,⟨N,e⟩,q⟩:=w recs v' h (.inl rfl) hlt X (Nat.le_refl _) (λ_ _ _=>rfl) (by rw[hl2,List.append_nil,hv];exact so) (λc _ hc=>by rw[hv];exact hc) (λhc=>absurd hl2 hc);refine⟨r,.step ⟨N,λm hm=> ?_⟩,q⟩
  show(match guardOn all tm o with
   |some true=>dOp E (run E m) bs all rest o i recs tm h
   |some false=>run E m (.draw bs all rest (i+1) recs) (putTmp tm o.dst (.tup [])) h
   |none=> .stop)=r
  rw[hgd];show dOp E (run E m) bs all rest o i recs tm h=r;rw[dOp_app ho hop hb,hfp,ha,hno.1]
  show(match isNil ([]:List Nat)&&Nat.beq hh.next h.next with
   |true=>run E m (.draw bs all rest (i+1) recs) (putTmp tm o.dst v') h
   |false=>_)=r
  rw[hno.2,Nat.beq_refl];exact e m hm
 ·obtain⟨r,⟨N,e⟩,q⟩:=w (.opw i fp (idOf s) h.next hh.next::recs) v' _ (.inr ⟨_,_,rfl,rfl⟩) hlt X' (by rw[hbn];exact k2) hbk k5' kid (λhc=>by have:=(k7 hc).1;rw[nx]at this;exact this)
  refine⟨r,.step ⟨N,λm hm=> ?_⟩,q⟩
  show(match guardOn all tm o with
   |some true=>dOp E (run E m) bs all rest o i recs tm h
   |some false=>run E m (.draw bs all rest (i+1) recs) (putTmp tm o.dst (.tup [])) h
   |none=> .stop)=r
  rw[hgd];show dOp E (run E m) bs all rest o i recs tm h=r;rw[dOp_app ho hop hb,hfp,ha]
  have hcond:(isNil fp&&Nat.beq hh.next h.next)=false:=by
   cases hf:fp with
   |cons a b=>rfl
   |nil=>
    cases hb:Nat.beq hh.next h.next with
    |false=>rfl
    |true=>exact absurd ⟨hf,Nat.eq_of_beq_eq_true hb⟩ hno
  obtain⟨o1,o2⟩:=hok (hh.next-h.next) (by omega)
  show(match isNil fp&&Nat.beq hh.next h.next with
   |true=>run E m (.draw bs all rest (i+1) recs) (putTmp tm o.dst v') h
   |false=>match okPairs ((nth bs i).getD Bits.nil) fp false (span h.next (hh.next-h.next)) recs&&okPairs ((nth bs i).getD Bits.nil) (idOf s) true (span h.next (hh.next-h.next)) recs with
    |true=>run E m (.draw bs all rest (i+1) (.opw i fp (idOf s) h.next hh.next::recs)) (putTmp tm o.dst v') (back h hh (fp++span h.next (hh.next-h.next)))
    |false=> .stop)=r
  rw[hcond,o1,o2];exact e m hm
theorem W.apYs {c:Call} {t t2 e:TypeId} {ts es t2s:TyS} {s s2:CV} {l2:List (List CV)} (d:DY B h idx recs) (X:Ext H h) (so:OwnR h H.next z s l) (s2l:SlG h z s2 l2) (hB:∀b,B b->b∉idOf s) (hid:(idx.all λj=>bit j ((nth bs i).getD Bits.nil))=true)
  (hgd:guardOn all tm o=some true) (hop:o.op= .call c) (hb:c.callee= .builtin .append) (hty:c.argTypes.toList=[t,t2]) (ha:c.args.toList.map (cvOf E.globs tm)=[s,s2])
  (hts:E.ty t=some ts) (hk:ts.kind= .slice e) (hes:E.ty e=some es) (hz:es.size=z) (hz0:(Nat.beq es.size 0||Nat.beq es.bytes 0)=false) (ht2:E.ty t2=some t2s) (hk2:t2s.kind= .slice e) (hm:(l.length+l2.length)*es.bytes<=70368744177664)
  (w:∀recs' v' h',DY B h' (i::idx) recs'->Ext H h'->(∀b,B b->h'.get b=h.get b)->h.next<=h'.next->OwnR h' H.next z v' (l++l2)->(∀c,c<h.next->idOf s≠[c]->idOf v'≠[c])->W E (.draw bs all rest (i+1) recs') (putTmp tm o.dst v') h' Q):W E (.draw bs all (o::rest) i recs) tm h Q:=by
 have hall:∀r∈recs,bit (recIdx r) ((nth bs i).getD Bits.nil)=true:=λr hm=>List.all_eq_true.1 hid _ (d.r r hm).1;refine W.apC (λn _=>⟨okPairs_ahead hall,okPairs_ahead hall⟩) X so s2l hgd hop hb hty ha hts hk hes hz hz0 ht2 hk2 hm λrecs' v' h' hr hlt X' nn kk O' kid _=> ?_;refine w recs' v' h' ?_ X' (λb hb=>kk b (d.b b hb) (.inr λe=>hB b hb (by rw[e];simp))) nn O' kid;rcases hr with rfl|⟨lo,hi,rfl,rfl⟩
 ·exact⟨λr hr=>⟨List.mem_cons_of_mem _ (d.r r hr).1,by obtain⟨i,fp,ws,lo,hi,h2,h3,h4⟩:=(d.r r hr).2;exact⟨i,fp,ws,lo,hi,h2,λk hk=>Nat.lt_of_lt_of_le (h3 k hk) nn,h4⟩⟩,λb hb=>Nat.lt_of_lt_of_le (d.b b hb) nn⟩
 ·exact d.tail nn rfl ⟨_,_,_,_,_,.inl rfl,λk hk=>Nat.lt_of_lt_of_le (hlt k hk) nn,λb hb=>⟨d.b b hb,hB b hb⟩⟩
theorem W.apY {c:Call} {t t2 e:TypeId} {ts es t2s:TyS} {s s2:CV} {l2:List (List CV)} (d:DY B h idx recs) (X:Ext H h) (so:OwnR h H.next z s l) (s2l:SlG h z s2 l2) (hB:∀b,B b->b∉idOf s++idOf s2) (hid:(idx.all λj=>bit j ((nth bs i).getD Bits.nil))=true)
  (hgd:guardOn all tm o=some true) (hop:o.op= .call c) (hb:c.callee= .builtin .append) (hty:c.argTypes.toList=[t,t2]) (ha:c.args.toList.map (cvOf E.globs tm)=[s,s2])
  (hts:E.ty t=some ts) (hk:ts.kind= .slice e) (hes:E.ty e=some es) (hz:es.size=z) (hz0:(Nat.beq es.size 0||Nat.beq es.bytes 0)=false) (ht2:E.ty t2=some t2s) (hk2:t2s.kind= .slice e) (hm:(l.length+l2.length)*es.bytes<=70368744177664)
  (w:∀recs' v' h',DY B h' (i::idx) recs'->Ext H h'->(∀b,B b->h'.get b=h.get b)->h.next<=h'.next->OwnR h' H.next z v' (l++l2)->(∀c,c<h.next->idOf s≠[c]->idOf v'≠[c])->W E (.draw bs all rest (i+1) recs') (putTmp tm o.dst v') h' Q):W E (.draw bs all (o::rest) i recs) tm h Q:=
 W.apYs d X so s2l (λb hb h=>hB b hb (List.mem_append_left _ h)) hid hgd hop hb hty ha hts hk hes hz hz0 ht2 hk2 hm w
structure OwnB (h H:Heap) (b z:Nat) (v:CV) (l:List (List CV)):Prop where
 at':h.get b=some (.cells [v] false)
 lt:b<h.next
 lo:H.next<=b
 own:OwnR h H.next z v l
 ne:idOf v≠[b]
theorem OwnB.ext {b:Nat} (o:OwnB h H b z v l) (x:Ext h h'):OwnB h' H b z v l:=⟨(x.old _ o.lt).trans o.at',Nat.lt_of_lt_of_le o.lt x.next,o.lo,o.own.ext x,o.ne⟩
theorem OwnB.loc {b:Nat} (o:OwnB h H b z v l):LocE h b 0 [v]:=⟨_,_,o.at',o.lt,rfl⟩
theorem W.apst {c:Call} {t t2 e t1:TypeId} {ts es t2s s1:TyS} {s2:CV} {l2:List (List CV)} {b:Nat} {x y:Operand} {o2:Oper} (X:Ext H h) (ob:OwnB h H b z v l) (s2l:SlG h z s2 l2)
  (hgd:guardOn all tm o=some true) (hop:o.op= .call c) (hb:isBuiltin c.callee=some .append) (hty:c.argTypes.toList=[t,t2]) (ha:c.args.toList.map (cvOf E.globs tm)=[v,s2])
  (hts:E.ty t=some ts) (hk:ts.kind= .slice e) (hes:E.ty e=some es) (hz:es.size=z) (hz0:(Nat.beq es.size 0||Nat.beq es.bytes 0)=false) (ht2:E.ty t2=some t2s) (hk2:t2s.kind= .slice e) (hm:(l.length+l2.length)*es.bytes<=70368744177664)
  (hg2:∀v',guardOn all (putTmp tm o.dst v') o2=some true) (hop2:o2.op= .store t1 x y) (hx:∀v',cvOf E.globs (putTmp tm o.dst v') x= .ptr (some (b,0))) (hy:∀v',cvOf E.globs (putTmp tm o.dst v') y=v') (hs1:E.ty t1=some s1) (hs1z:s1.size=1)
  (w:∀v' h',Ext H h'->OwnB h' H b z v' (l++l2)->(∀k,k<h.next->k≠b->idOf v≠[k]->h'.get k=h.get k)->h.next<=h'.next->W E (.ops all rest) (putTmp (putTmp tm o.dst v') o2.dst .undef) h' Q):W E (.ops all (o::o2::rest)) tm h Q:=by
 obtain⟨v',h1,k1,k2,k2b,k3,k4,k5,k6,k7⟩:=append_own X.next ob.own s2l hts hk hes hz hz0 ht2 hk2 hm;have X':Ext H h1:=⟨Nat.le_trans X.next k2,λk hk=>(k3 k (Nat.lt_of_lt_of_le hk X.next) (.inl hk)).trans (X.old k hk),λf=>k4 (X.fr f)⟩;have gb:h1.get b=some (.cells [v] false):=(k3 b ob.lt (.inr ob.ne)).trans ob.at'
 have ne':idOf v'≠[b]:=by
  by_cases hl2:l2=[]
  ·rw[(k6 hl2).1];exact ob.ne
  ·rw[(k7 hl2).1]
   intro e;have:h.next=b:=by simpa using e
   have:=ob.lt;omega
 have ho:opAny E o tm h=some (v',h1):=by
  unfold opAny;rw[hop];simp only[hb];show builtinV E h .append c.argTypes.toList (c.args.toList.map (cvOf E.globs tm))=_;rw[hty,ha];exact k1
 have hcells:v'.cells=some [v']:=by
  obtain⟨p,n,c,x,rfl⟩:=k5.form;rfl
 refine W.op hgd ho ?_;refine W.stn (vs:=[v']) (cs':=[v']) (hg2 v') hop2 (hx v') (by rw[hy];exact hcells) hs1 (by rw[hs1z];rfl) gb rfl λh2 n2 g2 o2'=> ?_;have hlt:b<h1.next:=Nat.lt_of_lt_of_le ob.lt k2;refine w v' h2 ⟨by rw[n2];exact X'.next,λk hk=>(o2' k (by have:=ob.lo;omega)).trans (X'.old k hk),λf k hk=> ?_⟩ ⟨g2,by rw[n2];exact hlt,ob.lo,k5.other (by rw[n2];exact Nat.le_refl _) λk _ _ hk=>o2' k (λe=>ne' (by rw[hk,e])),ne'⟩ (λk hk hb hv=>(o2' k hb).trans (k3 k hk (.inr hv))) (by rw[n2];exact k2);rw[n2]at hk;exact(o2' k (by omega)).trans (X'.fr f k hk)
theorem SlG.notIn {b:Nat} (s:SlG h z v l) (hb:h.next<=b):b∉idOf v:=by
 rcases s with⟨rfl,rfl⟩|⟨rfl,rfl⟩|⟨i,o,c,x,cs,ro,rfl,g2,_⟩
 ·intro h;cases h
 ·intro h;cases h
 ·intro h
  have:b=i:=by simpa[idOf]using h
  omega
theorem LocE.of_get {i off:Nat} {e:List CV} (L:LocE h i off e) (g:h'.get i=h.get i) (n:h.next<=h'.next):LocE h' i off e:=by
 obtain⟨cs,ro,h1,h2,h3⟩:=L;exact⟨cs,ro,g.trans h1,by omega,h3⟩
theorem SlG.one {i:Nat} {cs:List CV} (hi:i<h.next) (g:h.get i=some (.cells cs false)):SlG h cs.length (.slice (some (i,0)) 1 1 0) [cs]:=
 .inr (.inr ⟨i,0,1,0,cs,false,rfl,hi,g,λj e he=>by
  have hj:=(List.getElem?_eq_some_iff.1 he).1;simp at hj;subst hj;simp at he;subst he;exact⟨rfl,by rw[cut_eq,if_pos (by omega),Nat.zero_mul,Nat.add_zero,List.drop_zero,List.take_of_length_le (Nat.le_refl _)]⟩,Nat.le_refl _,.inl rfl⟩)
theorem lessN {n k:Nat} (h:k<n):n-(k+1)<n-k:=by omega
theorem LocE.new (h:Heap) (cs:List CV) (ro:Bool):LocE (h.new (.cells cs ro)) h.next 0 cs:=
 ⟨cs,ro,new_same _ _,Nat.lt_succ_self _,by rw[cut_eq,if_pos (by omega),List.drop_zero,List.take_of_length_le (Nat.le_refl _)]⟩
theorem W.box {t:TypeId} {x:Operand} {cs:List CV} (hgd:guardOn all tm o=some true) (hop:o.op= .box t x) (hx:(cvOf E.globs tm x).cells=some cs)
  (w:∀h',Ext h h'->h'.next=h.next+1->h'.get h.next=some (.cells cs false)->LocE h' h.next 0 cs->W E (.ops all rest) (putTmp tm o.dst (.ptr (some (h.next,0)))) h' Q):W E (.ops all (o::rest)) tm h Q:=by
 refine W.op hgd (v:= .ptr (some (h.next,0))) (h1:=h.new (.cells cs false)) ?_ (w _ (Ext.new _ _) rfl (new_same _ _) (LocE.new _ _ _));unfold opAny;rw[hop];show newPtr h (cvOf E.globs tm x).cells=_;rw[hx];rfl
theorem W.var {t t1:TypeId} {x y:Operand} {o2:Oper} {s:TyS} {cs:List CV} {a0 a1 a2 a3 a4 a5 a6 a7 a8 a9 a10 a11 a12 a13 a14 a15:NA} {a16:Tree CV} (hgd:guardOn all tm o=some true) (hop:o.op= .alloc t) (hs:E.ty t=some s)
  (ht:putTmp tm o.dst (.ptr (some (h.next,0)))=(Tm.mk a0 a1 a2 a3 a4 a5 a6 a7 a8 a9 a10 a11 a12 a13 a14 a15 a16))
  (hgd2:guardOn all (Tm.mk a0 a1 a2 a3 a4 a5 a6 a7 a8 a9 a10 a11 a12 a13 a14 a15 a16) o2=some true) (hop2:o2.op= .store t1 x y) (hx:cvOf E.globs (Tm.mk a0 a1 a2 a3 a4 a5 a6 a7 a8 a9 a10 a11 a12 a13 a14 a15 a16) x= .ptr (some (h.next,0))) (hy:(cvOf E.globs (Tm.mk a0 a1 a2 a3 a4 a5 a6 a7 a8 a9 a10 a11 a12 a13 a14 a15 a16) y).cells=some cs) (hs2:E.ty t1=some s)
  (hl:cs.length=s.size) (hl2:s.zero.length=s.size)
  (w:∀h',Ext h h'->h'.next=h.next+1->h'.get h.next=some (.cells cs false)->LocE h' h.next 0 cs->W E (.ops all rest) (putTmp (Tm.mk a0 a1 a2 a3 a4 a5 a6 a7 a8 a9 a10 a11 a12 a13 a14 a15 a16) o2.dst .undef) h' Q):W E (.ops all (o::o2::rest)) tm h Q:=by
 refine W.op hgd (v:= .ptr (some (h.next,0))) (h1:=h.new (.cells s.zero false)) ?_ ?_
 ·unfold opAny
  rw[hop];show newPtr h ((E.ty t).map (·.zero))=_;rw[hs];rfl
 rw[ht];refine W.stn (cs':=cs) hgd2 hop2 hx hy hs2 (by rw[CM.len_eq,hl];exact Nat.beq_refl _) (new_same _ _) ?_ λh' n g k=> ?_
 ·rw[setAt_eq,if_pos (by omega)]
  simp only[List.take_zero,List.nil_append,Nat.zero_add];rw[List.drop_of_length_le (by omega),List.append_nil]
 ·have X:Ext h h':=Ext.store (Ext.new _ _) n k (Nat.le_refl _) (Nat.lt_succ_self _)
  have n':h'.next=h.next+1:=n;exact w h' X n' g ⟨cs,false,g,by omega,by rw[cut_eq,if_pos (by omega),List.drop_zero,List.take_of_length_le (Nat.le_refl _)]⟩
theorem flatten_ones {l:List CV}:(l.map λc=>[c]).flatten=l:=by
 induction l with
 |nil=>rfl
 |cons a l ih=>simp[ih]
theorem W.bs1 {t:TypeId} {n:Nat} {ps:Array (Nat×Operand)} {cs:List CV} (hgd:guardOn all tm o=some true) (hop:o.op= .buildSlice t n ps) (ho:opAny E o tm h=some (.slice (some (h.next,0)) n n 0,h.new (.cells cs false))) (hn:cs.length=n)
  (w:∀h',Ext h h'->h'.next=h.next+1->h'.get h.next=some (.cells cs false)->SlG h' 1 (.slice (some (h.next,0)) n n 0) (cs.map λc=>[c])->W E (.ops all rest) (putTmp tm o.dst (.slice (some (h.next,0)) n n 0)) h' Q):W E (.ops all (o::rest)) tm h Q:=by
 refine W.op hgd ho (w _ (Ext.new _ _) rfl (new_same _ _) (.inr (.inr ⟨h.next,0,n,0,cs,false,by rw[List.length_map,hn],Nat.lt_succ_self _,new_same _ _,λj e he=> ?_,by rw[List.length_map,hn];exact Nat.le_refl _,.inl rfl⟩)))
 have hz:∀e∈cs.map λc=>[c],e.length=1:=λe he=>by
  obtain⟨c,_,rfl⟩:=List.mem_map.1 he;rfl
 refine⟨hz e (List.mem_of_getElem? he),?_⟩;have:=flat_cut hz he;rwa[flatten_ones]at this
theorem W.bsS {t:TypeId} {ps:Array (Nat×Operand)} {cs:List CV} (hgd:guardOn all tm o=some true) (hop:o.op= .buildSlice t 1 ps) (ho:opAny E o tm h=some (.slice (some (h.next,0)) 1 1 0,h.new (.cells cs false)))
  (w:∀h',Ext h h'->h'.next=h.next+1->h'.get h.next=some (.cells cs false)->SlG h' cs.length (.slice (some (h.next,0)) 1 1 0) [cs]->W E (.ops all rest) (putTmp tm o.dst (.slice (some (h.next,0)) 1 1 0)) h' Q):W E (.ops all (o::rest)) tm h Q:=by
 refine W.op hgd ho (w _ (Ext.new _ _) rfl (new_same _ _) (.inr (.inr ⟨h.next,0,1,0,cs,false,rfl,Nat.lt_succ_self _,new_same _ _,λj e he=> ?_,Nat.le_refl _,.inl rfl⟩)));have hj:=(List.getElem?_eq_some_iff.1 he).1;simp at hj;subst hj;simp at he;subst he;exact⟨rfl,by rw[cut_eq,if_pos (by omega),Nat.zero_mul,Nat.add_zero,List.drop_zero,List.take_of_length_le (Nat.le_refl _)]⟩
theorem W.ixF {α:Type} [Flat α] {l:List α} {v:CV} {t:TypeId} {x y:Operand} {s:TyS} {et j:Nat} {kk:IntKind} (sl:Sl H v l) (hj:j<l.length) (hgd:guardOn all tm o=some true) (hop:o.op= .indexAddr t x y) (hx:cvOf E.globs tm x=v) (hy:cvOf E.globs tm y= .int kk (j:Int)) (hs:E.ty t=some s) (hk:s.kind= .slice et) (hz:sizeOf? E et=some (Rp.z α))
  (w:∀i off,LocE H i off (Flat.enc l[j])->W E (.ops all rest) (putTmp tm o.dst (.ptr (some (i,off)))) h Q):W E (.ops all (o::rest)) tm h Q:=
 W.ixR sl hj hgd hop hx hy hs hk hz λi off e L r=>w i off (by rw[<-(Flat.iff H e l[j]).1 r];exact L)
theorem W.lnS {α:Type} [Rp α] {l:List α} {c:Call} {t e:TypeId} {s:TyS} {v:CV} {a0 a1 a2 a3 a4 a5 a6 a7 a8 a9 a10 a11 a12 a13 a14 a15:NA} {a16:Tree CV} (sl:Sl H v l)
  (hgd:guardOn all tm o=some true) (hop:o.op= .call c) (hb:isBuiltin c.callee=some .len) (hty:c.argTypes.toList=[t]) (ha:c.args.toList.map (cvOf E.globs tm)=[v]) (hts:E.ty t=some s) (hk:s.kind= .slice e)
  (ht:putTmp tm o.dst (.int .i64 (l.length:Int))=(Tm.mk a0 a1 a2 a3 a4 a5 a6 a7 a8 a9 a10 a11 a12 a13 a14 a15 a16)) (w:W E (.ops all rest) (Tm.mk a0 a1 a2 a3 a4 a5 a6 a7 a8 a9 a10 a11 a12 a13 a14 a15 a16) h Q):W E (.ops all (o::rest)) tm h Q:=
 W.ln sl.lenOf hgd hop hb hty ha hts hk ht w
theorem W.ixs {t:TypeId} {x y:Operand} {s:TyS} {b:Str} {j:Nat} {kk:IntKind} {c:UInt8} {a0 a1 a2 a3 a4 a5 a6 a7 a8 a9 a10 a11 a12 a13 a14 a15:NA} {a16:Tree CV} (hc:b[j]? =some c) (hgd:guardOn all tm o=some true) (hop:o.op= .index t x y) (hx:cvOf E.globs tm x= .str b) (hy:cvOf E.globs tm y= .int kk (j:Int)) (hs:E.ty t=some s) (hk:s.kind= .string)
  (ht:putTmp tm o.dst (.int .u8 (c.toNat:Int))=(Tm.mk a0 a1 a2 a3 a4 a5 a6 a7 a8 a9 a10 a11 a12 a13 a14 a15 a16)) (w:W E (.ops all rest) (Tm.mk a0 a1 a2 a3 a4 a5 a6 a7 a8 a9 a10 a11 a12 a13 a14 a15 a16) h Q):W E (.ops all (o::rest)) tm h Q:=by
 refine W.op hgd (v:= .int .u8 (c.toNat:Int)) (h1:=h) ?_ (by rw[ht];exact w);unfold opAny;rw[hop];show oIndex E (E.ty t) (cvOf E.globs tm x) (cvOf E.globs tm y) h=_;rw[hx,hy,hs];unfold oIndex;simp only[hk];show(match nth b j with|some c=>some (CV.int .u8 c.toNat,h)|none=>none)=_
 rw[nth_eq,hc]
theorem W.lns {c:Call} {t:TypeId} {s:TyS} {b:Str} {a0 a1 a2 a3 a4 a5 a6 a7 a8 a9 a10 a11 a12 a13 a14 a15:NA} {a16:Tree CV}
  (hgd:guardOn all tm o=some true) (hop:o.op= .call c) (hb:isBuiltin c.callee=some .len) (hty:c.argTypes.toList=[t]) (ha:c.args.toList.map (cvOf E.globs tm)=[.str b]) (hts:E.ty t=some s) (hk:s.kind= .string)
  (ht:putTmp tm o.dst (.int .i64 (b.length:Int))=(Tm.mk a0 a1 a2 a3 a4 a5 a6 a7 a8 a9 a10 a11 a12 a13 a14 a15 a16)) (w:W E (.ops all rest) (Tm.mk a0 a1 a2 a3 a4 a5 a6 a7 a8 a9 a10 a11 a12 a13 a14 a15 a16) h Q):W E (.ops all (o::rest)) tm h Q:=by
 refine W.op hgd (v:= .int .i64 (b.length:Int)) (h1:=h) ?_ (by rw[ht];exact w);unfold opAny;rw[hop];simp only[hb];show builtinV E h .len c.argTypes.toList (c.args.toList.map (cvOf E.globs tm))=_;rw[hty,ha];simp[builtinV,lenV,hts,hk,len_eq];rfl
end
section
variable {E:Env} {t:Task} {tm:Tm} {h:Heap} {Q:R->Prop}
end
end Go.CM
