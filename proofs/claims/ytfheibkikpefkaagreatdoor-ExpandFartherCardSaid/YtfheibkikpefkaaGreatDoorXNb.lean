/- Walks over rows of structs: what memory says of them; loads from a memory that has only grown. No condition, no program. -/
import Derived.Test.YtfheibkikpefkaaGreatDoorXMa
set_option linter.unusedVariables false
set_option linter.unusedSimpArgs false
noncomputable section
namespace Go.CM
def LenOf (v:CV) (n:Nat):Prop:=(v= .empty/\n=0)\/∃p c x,v= .slice p n c x
def SlG (h:Heap) (z:Nat) (v:CV) (l:List (List CV)):Prop:=
 (v= .slice none 0 0 0/\l=[])\/(v= .empty/\l=[])\/∃i o c x cs ro,v= .slice (some (i,o)) l.length c x/\i<h.next/\h.get i=some (.cells cs ro)/\(∀j e,l[j]? =some e->e.length=z/\cut cs (o+j*z) z=some e)/\l.length<=c/\(x=0\/x=z)
theorem SlG.ext {h h':Heap} (e:Ext h h') {z:Nat} {v:CV} {l:List (List CV)} (s:SlG h z v l):SlG h' z v l:=by
 rcases s with s|s|⟨i,o,c,x,cs,ro,h1,h2,h3,h4⟩
 ·exact .inl s
 ·exact .inr (.inl s)
 ·exact .inr (.inr ⟨i,o,c,x,cs,ro,h1,Nat.lt_of_lt_of_le h2 e.next,(e.old i h2).trans h3,h4⟩)
theorem SlG.lenOf {h:Heap} {z:Nat} {v:CV} {l:List (List CV)} (s:SlG h z v l):LenOf v l.length:=by
 rcases s with⟨rfl,rfl⟩|⟨rfl,rfl⟩|⟨i,o,c,x,cs,ro,h1,_⟩
 ·exact .inr ⟨none,0,0,rfl⟩
 ·exact .inl ⟨rfl,rfl⟩
 ·exact .inr ⟨_,c,x,h1⟩
theorem SlG.at {h:Heap} {z:Nat} {v:CV} {l:List (List CV)} (s:SlG h z v l) {j:Nat} (hj:j<l.length):∃i o c x cs ro,v= .slice (some (i,o)) l.length c x/\i<h.next/\h.get i=some (.cells cs ro)/\∀j e,l[j]? =some e->e.length=z/\cut cs (o+j*z) z=some e:=by
 rcases s with⟨_,rfl⟩|⟨_,rfl⟩|s
 ·simp at hj
 ·simp at hj
 ·obtain⟨i,o,c,x,cs,ro,h1,h2,h3,h4,_⟩:=s
  exact⟨i,o,c,x,cs,ro,h1,h2,h3,h4⟩
theorem cut_nth {cs e:List CV} {a z k:Nat} {v:CV} (h:cut cs a z=some e) (hk:e[k]? =some v):nth cs (a+k)=some v:=by
 rw[cut_eq]at h;split at h
 ·cases h
  rw[List.getElem?_take]at hk;split at hk
  ·rw[nth_eq]
   rwa[List.getElem?_drop]at hk
  ·cases hk
 ·cases h
theorem flat_cut {z:Nat}:∀{vss:List (List CV)} {j:Nat} {e:List CV},(∀vs∈vss,vs.length=z)->vss[j]? =some e->cut vss.flatten (0+j*z) z=some e
 |[],j,e,_,h=>by simp at h
 |v::vss,0,e,hz,h=>by
  simp at h;subst h;rw[cut_eq,List.flatten_cons];have:=hz v (by simp);rw[if_pos (by rw[List.length_append];omega)];simp[this]
 |v::vss,j+1,e,hz,h=>by
  have ih:=flat_cut (vss:=vss) (j:=j) (λx hx=>hz x (List.mem_cons_of_mem _ hx)) (by simpa using h);rw[cut_eq]at ih ⊢;have hv:=hz v (by simp);have e1:0+(j+1)*z=z+j*z:=by rw[Nat.succ_mul];omega
  have e2:0+j*z=j*z:=by omega
  rw[e2]at ih;rw[e1,List.flatten_cons];split at ih
  ·rename_i hle
   rw[if_pos (by rw[List.length_append];omega),<-ih]
   congr 2
   rw[List.drop_append,List.drop_of_length_le (by omega),List.nil_append,hv]
   congr 1
   omega
  ·cases ih
theorem Rep.sl {h:Heap} {e:PT} {v:CV} {ds:List Dat} (r:Rep h (.slice e) [v] (.row ds)):∃vss:List (List CV),SlG h e.size v vss/\vss.length=ds.length/\∀(j:Nat) (vs:List CV) (d:Dat),vss[j]? =some vs->ds[j]? =some d->Rep h e vs d:=by
 cases r with
 |nil=>exact⟨[],.inl ⟨rfl,rfl⟩,rfl,λj vs d h=>by simp at h⟩
 |emp=>exact⟨[],.inr (.inl ⟨rfl,rfl⟩),rfl,λj vs d h=>by simp at h⟩
 |row _ i c vss ds hi hg hl h0 hc hm hz hr=>
  exact⟨vss,.inr (.inr ⟨i,0,c,0,_,true,rfl,hi,hg,λj e he=>⟨hz e (List.mem_of_getElem? he),flat_cut hz he⟩,hc,.inl rfl⟩),hl.symm,hr⟩
section
variable {E:Env} {tm:Tm} {H h:Heap} {Q:R->Prop} {all rest:List Oper} {o:Oper} {bs:List Bits} {recs:List Rec} {n0 i:Nat} {idx calls:List Nat}
theorem W.ln {c:Call} {t e:TypeId} {s:TyS} {v:CV} {n:Nat} {a0 a1 a2 a3 a4 a5 a6 a7 a8 a9 a10 a11 a12 a13 a14 a15:NA} {a16:Tree CV} (hl:LenOf v n)
  (hgd:guardOn all tm o=some true) (hop:o.op= .call c) (hb:isBuiltin c.callee=some .len) (hty:c.argTypes.toList=[t]) (ha:c.args.toList.map (cvOf E.globs tm)=[v]) (hts:E.ty t=some s) (hk:s.kind= .slice e)
  (ht:putTmp tm o.dst (.int .i64 (Int.ofNat n))=(Tm.mk a0 a1 a2 a3 a4 a5 a6 a7 a8 a9 a10 a11 a12 a13 a14 a15 a16)) (w:W E (.ops all rest) (Tm.mk a0 a1 a2 a3 a4 a5 a6 a7 a8 a9 a10 a11 a12 a13 a14 a15 a16) h Q):W E (.ops all (o::rest)) tm h Q:=by
 refine W.op hgd (v:= .int .i64 (Int.ofNat n)) (h1:=h) ?_ (by rw[ht];exact w);unfold opAny;rw[hop];simp only[hb];show builtinV E h .len c.argTypes.toList (c.args.toList.map (cvOf E.globs tm))=_;rw[hty,ha];rcases hl with⟨rfl,rfl⟩|⟨p,c',x,rfl⟩
 ·simp[builtinV,lenV,hts,hk];rfl
 ·simp[builtinV,lenV,hts,hk];rfl
theorem all1_each {p:Nat->Bool}:∀{l:List Nat},(∀k∈l,p k=true)->all1 l p=true
 |[],_=>rfl
 |k::l,h=>by
  show(match p k with|true=>all1 l p|false=>false)=true
  rw[h k (by simp)];exact all1_each λx hx=>h x (List.mem_cons_of_mem _ hx)
theorem mem_false {k:Nat}:∀{l:List Nat},(∀x∈l,x≠k)->mem k l=false
 |[],_=>rfl
 |x::l,h=>by
  unfold mem
  have:Nat.beq k x=false:=by
   cases hb:Nat.beq k x with
   |true=>exact absurd (Nat.eq_of_beq_eq_true hb).symm (h x (by simp))
   |false=>rfl
  rw[this];exact mem_false λy hy=>h y (List.mem_cons_of_mem _ hy)
end
end Go.CM

noncomputable section
namespace Go.CM
theorem cut_join {cs e f:List CV} {o z m:Nat} (h1:cut cs o z=some e) (h2:cut cs (o+z) m=some f):cut cs o (z+m)=some (e++f):=by
 rw[cut_eq]at h1 h2 ⊢;split at h1
 ·rename_i l1
  cases h1;split at h2
  ·rename_i l2
   cases h2;rw[if_pos (by omega)]
   congr 1
   rw[List.take_add,List.drop_drop]
  ·cases h2
 ·cases h1
theorem cut_all {cs:List CV} {z:Nat}:∀{l:List (List CV)} {o:Nat},l≠[]->(∀j e,l[j]? =some e->e.length=z/\cut cs (o+j*z) z=some e)->cut cs o (l.length*z)=some l.flatten
 |[],_,h,_=>absurd rfl h
 |[e],o,_,h=>by
  have:=(h 0 e rfl).2;rw[Nat.zero_mul,Nat.add_zero]at this;simpa using this
 |e::f::l,o,_,h=>by
  have h0:=(h 0 e rfl).2;rw[Nat.zero_mul,Nat.add_zero]at h0
  have ih:=cut_all (cs:=cs) (z:=z) (l:=f::l) (o:=o+z) (by simp) λj g hg=>by
   have:=h (j+1) g (by simpa using hg);refine⟨this.1,?_⟩;rw[<-this.2]
   congr 1
   rw[Nat.succ_mul];omega
  have:=cut_join h0 ih;rw[List.flatten_cons,<-this]
  congr 1
  rw[List.length_cons,Nat.succ_mul];omega
def OwnG (h:Heap) (lo z:Nat) (v:CV) (l:List (List CV)):Prop:=
 ((v= .slice none 0 0 0\/∃i,v= .slice (some (i,0)) 0 0 0)/\l=[])\/∃i,v= .slice (some (i,0)) l.length l.length z/\lo<=i/\i<h.next/\h.get i=some (.cells l.flatten false)/\(∀e∈l,e.length=z)/\l≠[]
theorem flat_len {z:Nat}:∀{l:List (List CV)},(∀e∈l,e.length=z)->l.flatten.length=l.length*z
 |[],_=>by simp
 |e::l,h=>by
  rw[List.flatten_cons,List.length_append,h e (by simp),flat_len λx hx=>h x (List.mem_cons_of_mem _ hx),List.length_cons,Nat.succ_mul];omega
section
variable {E:Env} {tm:Tm} {h:Heap} {Q:R->Prop} {all rest:List Oper} {o:Oper}
theorem W.ap1 {c:Call} {t t2 e:TypeId} {ts es t2s:TyS} {s:CV} {z lo j cc xx:Nat} {ro:Bool} {l:List (List CV)} {el:List CV} (so:OwnG h lo z s l) (hlo:lo<=h.next) (hj:h.get j=some (.cells el ro)) (hel:el.length=z)
  (hgd:guardOn all tm o=some true) (hop:o.op= .call c) (hb:isBuiltin c.callee=some .append) (hty:c.argTypes.toList=[t,t2]) (ha:c.args.toList.map (cvOf E.globs tm)=[s,.slice (some (j,0)) 1 cc xx])
  (hts:E.ty t=some ts) (hk:ts.kind= .slice e) (hes:E.ty e=some es) (hz:es.size=z) (hz0:(Nat.beq es.size 0||Nat.beq es.bytes 0)=false) (ht2:E.ty t2=some t2s) (hk2:t2s.kind= .slice e) (hm:(l.length+1)*es.bytes<=70368744177664)
  (w:∀v' h',h'.next=h.next+1->OwnG h' lo z v' (l++[el])->(∀k,k<h.next->(l=[]\/∀n c x,s≠ .slice (some (k,0)) n c x)->h'.get k=h.get k)->v'= .slice (some (h.next,0)) (l.length+1) (l.length+1) z->h'.get h.next=some (.cells (l++[el]).flatten false)->(Fresh h->Fresh h')->W E (.ops all rest) (putTmp tm o.dst v') h' Q):W E (.ops all (o::rest)) tm h Q:=by
 have hzpos:0<z:=by
  rw[<-hz];cases hs:es.size with
  |zero=>rw[hs]at hz0;cases hz0
  |succ n=>omega
 have hsrc1:srcCells h es.size 1 (.slice (some (j,0)) 1 cc xx)=some el:=by
  show(match h.get j with|some (.cells cs _)=>cut cs 0 (1*es.size)|_=>none)=_
  rw[hj];show cut el 0 (1*es.size)=_;rw[cut_eq,if_pos (by omega),hz,Nat.one_mul,List.drop_zero,List.take_of_length_le (by omega)]
 have key:∃v' h',oAppend E h (E.ty t) (E.ty t2) s (.slice (some (j,0)) 1 cc xx)=some (v',h')/\h'.next=h.next+1/\OwnG h' lo z v' (l++[el])/\(∀k,k<h.next->(l=[]\/∀n c x,s≠ .slice (some (k,0)) n c x)->h'.get k=h.get k)/\v'= .slice (some (h.next,0)) (l.length+1) (l.length+1) z/\h'.get h.next=some (.cells (l++[el]).flatten false)/\(Fresh h->Fresh h'):=by
  rcases so with⟨hs,rfl⟩|⟨i,rfl,h1,h2,h3,h4,h5⟩
  ·have hby:Nat.ble ((0+1)*es.bytes) 70368744177664=true:=Nat.ble_eq_true_of_le (by simpa using hm)
   have hble:Nat.ble (0+1) 0=false:=rfl;refine⟨.slice (some (h.next,0)) 1 1 z,h.new (.cells el false),?_,rfl,.inr ⟨h.next,rfl,hlo,Nat.lt_succ_self _,by simpa using new_same h (.cells el false),λe he=>by simp at he;rw[he];exact hel,by simp⟩,λk hk _=>by rw[Heap.get_new,if_neg (by omega)],rfl,by simpa using new_same h (.cells el false),λf=>f.new _⟩;rcases hs with rfl|⟨i0,rfl⟩
   ·unfold oAppend
    simp only[hts,hk,hes,hz0,ht2,hk2,srcLen,hsrc1,appendAt,hble,hby];simp only[srcCells,growTo,List.nil_append,Nat.zero_add,hz]
   ·unfold oAppend
    simp only[hts,hk,hes,hz0,ht2,hk2,srcLen,hsrc1,appendAt,hble,hby];simp only[srcCells,growTo,List.nil_append,Nat.zero_add,hz]
  ·have hpos:0<l.length:=List.length_pos_iff.2 h5
   obtain⟨n,hn⟩:∃n,l.length=n+1:=⟨l.length-1,by omega⟩;have hby:Nat.ble ((l.length+1)*es.bytes) 70368744177664=true:=Nat.ble_eq_true_of_le hm
   have hble:Nat.ble (l.length+1) l.length=false:=by
    cases hh:Nat.ble (l.length+1) l.length with
    |true=>have:=Nat.le_of_ble_eq_true hh;omega
    |false=>rfl
   have hold:srcCells h es.size l.length (.slice (some (i,0)) l.length l.length z)=some l.flatten:=by
    rw[hz,hn];show(match h.get i with|some (.cells cs _)=>cut cs 0 ((n+1)*z)|_=>none)=_
    rw[h3,<-hn];show cut l.flatten 0 (l.length*z)=_;have hfl:=flat_len h4;rw[cut_eq,if_pos (by omega),List.drop_zero,List.take_of_length_le (by omega)]
   obtain⟨zz,hzz⟩:∃zz,z=zz+1:=⟨z-1,by omega⟩
   have hgrow:growTo h (some (i,0)) z es.size (l.length+1) (l.flatten++el)=some (.slice (some (h.next,0)) (l.length+1) (l.length+1) es.size,(h.del i).new (.cells (l.flatten++el) false)):=by
    have hbq:Nat.beq (zz+1) (zz+1)=true:=Nat.beq_refl _;rw[hz,hzz];unfold growTo;simp only[hbq,h3]
   refine⟨.slice (some (h.next,0)) (l.length+1) (l.length+1) z,(h.del i).new (.cells (l.flatten++el) false),?_,rfl,.inr ⟨h.next,by simp,hlo,Nat.lt_succ_self _,by rw[show(l++[el]).flatten=l.flatten++el by simp];exact new_same (h.del i) (.cells (l.flatten++el) false),λe he=> ?_,by simp⟩,λk hk hne=> ?_,rfl,by rw[show(l++[el]).flatten=l.flatten++el by simp];exact new_same (h.del i) (.cells (l.flatten++el) false),λf=>Fresh.new (λk hk=>by
    have hk:h.next<=k:=hk;rw[Heap.get_del];split
    ·rfl
    ·exact f k hk) _⟩
   ·unfold oAppend
    simp only[hts,hk,hes,hz0,ht2,hk2,srcLen,hsrc1,appendAt,hble,hby,hold,hgrow];rw[hz]
   ·rcases List.mem_append.1 he with he|he
    ·exact h4 e he
    ·rw[List.mem_singleton]at he
     rw[he];exact hel
   ·have hki:i≠k:=λe=>hne.elim h5 λhne=>hne _ _ _ (by rw[e])
    rw[Heap.get_new,if_neg (by show ¬h.next=k;omega),Heap.get_del,if_neg hki]
 obtain⟨v',h',k1,k2,k3,k4,k5,k6,k7⟩:=key;refine W.op hgd (v:=v') (h1:=h') ?_ (w v' h' k2 k3 k4 k5 k6 k7);unfold opAny;rw[hop];simp only[hb];show builtinV E h .append c.argTypes.toList (c.args.toList.map (cvOf E.globs tm))=_;rw[hty,ha];exact k1
end
end Go.CM

noncomputable section
namespace Go.CM
class Rp (α:Type) where
 z:Nat
 R:Heap->List CV->α->Prop
 ext:∀{h h':Heap} {cs:List CV} {d:α},Ext h h'->R h cs d->R h' cs d
 len:∀{h:Heap} {cs:List CV} {d:α},R h cs d->cs.length=z
def Sl {α:Type} [Rp α] (h:Heap) (v:CV) (l:List α):Prop:=
 ∃css,SlG h (Rp.z α) v css/\css.length=l.length/\∀(j:Nat) (cs:List CV) (d:α),css[j]? =some cs->l[j]? =some d->Rp.R h cs d
section
variable {α:Type} [Rp α] {h h' H:Heap} {v:CV} {l:List α}
theorem Sl.ext (s:Sl h v l) (x:Ext h h'):Sl h' v l:=by
 obtain⟨css,h1,h2,h3⟩:=s;exact⟨css,h1.ext x,h2,λj cs d hc hd=>Rp.ext x (h3 j cs d hc hd)⟩
theorem Sl.lenOf (s:Sl h v l):LenOf v l.length:=by
 obtain⟨css,h1,h2,h3⟩:=s;rw[<-h2];exact h1.lenOf
theorem Sl.cells (s:Sl h v l):v.cells=some [v]:=by
 obtain⟨css,s,_⟩:=s;rcases s with⟨rfl,_⟩|⟨rfl,_⟩|⟨i,o,c,x,cs,ro,rfl,_⟩<;>rfl
theorem Sl.nil:Sl h (.slice none 0 0 0) ([]:List α):=⟨[],.inl ⟨rfl,rfl⟩,rfl,λj cs d hc=>by simp at hc⟩
def LocE (h:Heap) (i off:Nat) (e:List CV):Prop:=∃cs ro,h.get i=some (.cells cs ro)/\i<h.next/\cut cs off e.length=some e
theorem LocE.ext {i off:Nat} {e:List CV} (L:LocE h i off e) (x:Ext h h'):LocE h' i off e:=by
 obtain⟨cs,ro,h1,h2,h3⟩:=L;exact⟨cs,ro,(x.old i h2).trans h1,Nat.lt_of_lt_of_le h2 x.next,h3⟩
theorem Sl.at (s:Sl h v l) {j:Nat} (hj:j<l.length):∃i o c x e,v= .slice (some (i,o)) l.length c x/\LocE h i (o+j*Rp.z α) e/\Rp.R h e l[j]:=by
 obtain⟨css,h1,h2,h3⟩:=s;obtain⟨i,o,c,x,cs,ro,g1,g2,g3,g4⟩:=h1.at (j:=j) (by omega);obtain⟨e,he⟩:∃e,css[j]? =some e:=⟨_,List.getElem?_eq_getElem (by omega)⟩;obtain⟨k1,k2⟩:=g4 j e he;exact⟨i,o,c,x,e,by rw[g1,h2],⟨cs,ro,g3,g2,by rw[k1];exact k2⟩,h3 j e l[j] he (List.getElem?_eq_getElem hj)⟩
theorem Sl.of_map {f:α->List CV} (hf:∀h cs (d:α),Rp.R h cs d↔cs=f d) (s:SlG h (Rp.z α) v (l.map f)):Sl h v l:=by
 refine⟨l.map f,s,List.length_map _,λj cs d hc hd=> ?_⟩;rw[List.getElem?_map,hd]at hc;exact(hf h cs d).2 (by simpa using hc.symm)
theorem Sl.to_map {f:α->List CV} (hf:∀h cs (d:α),Rp.R h cs d↔cs=f d) (s:Sl h v l):SlG h (Rp.z α) v (l.map f):=by
 obtain⟨css,h1,h2,h3⟩:=s
 have:css=l.map f:=by
  apply List.ext_getElem?;intro j;rw[List.getElem?_map];by_cases hj:j<l.length
  ·obtain⟨d,hd⟩:∃d,l[j]? =some d:=⟨_,List.getElem?_eq_getElem hj⟩
   obtain⟨c,hc⟩:∃c,css[j]? =some c:=⟨_,List.getElem?_eq_getElem (by omega)⟩;rw[hd,hc,(hf h c d).1 (h3 j c d hc hd)];rfl
  ·rw[List.getElem?_eq_none (by omega),List.getElem?_eq_none (by omega)];rfl
 rw[<-this];exact h1
end
abbrev Str:=List UInt8
instance:Rp Int:=⟨1,λ_ cs n=>cs=[.int .i64 n],λ_ h=>h,λh=>by rw[h];rfl⟩
instance:Rp Bool:=⟨1,λ_ cs b=>cs=[.bool b],λ_ h=>h,λh=>by rw[h];rfl⟩
instance {α:Type} [Rp α]:Rp (List α):=⟨1,λh cs l=>∃v,cs=[v]/\Sl h v l,λx ⟨v,e,s⟩=>⟨v,e,s.ext x⟩,λ⟨v,e,_⟩=>by rw[e];rfl⟩
instance:Rp Str:=⟨1,λ_ cs s=>cs=[.str s],λ_ h=>h,λh=>by rw[h];rfl⟩
section
variable {E:Env} {tm:Tm} {H h:Heap} {Q:R->Prop} {all rest:List Oper} {o:Oper} {bs:List Bits} {recs:List Rec} {i n0:Nat} {idx calls:List Nat} {a0 a1 a2 a3 a4 a5 a6 a7 a8 a9 a10 a11 a12 a13 a14 a15:NA} {a16:Tree CV}
theorem W.ldk {t:TypeId} {x:Operand} {id off k:Nat} {e:List CV} {s:TyS} {v:CV} (L:LocE H id off e) (X:Ext H h) (hgd:guardOn all tm o=some true) (hop:o.op= .load t x) (hx:cvOf E.globs tm x= .ptr (some (id,off+k))) (hs:E.ty t=some s) (h1:s.size=1) (h2:s.agg=false) (he:e[k]? =some v)
  (ht:putTmp tm o.dst v=(Tm.mk a0 a1 a2 a3 a4 a5 a6 a7 a8 a9 a10 a11 a12 a13 a14 a15 a16)) (w:W E (.ops all rest) (Tm.mk a0 a1 a2 a3 a4 a5 a6 a7 a8 a9 a10 a11 a12 a13 a14 a15 a16) h Q):W E (.ops all (o::rest)) tm h Q:=by
 obtain⟨cs,ro,g1,g2,g3⟩:=L;have hn:=cut_nth g3 he;refine W.ld hgd hop hx ((X.old id g2).trans g1) hs (v:=v) ?_ (by rw[ht];exact w);rw[h1,h2];exact hn
theorem W.ld0 {t:TypeId} {x:Operand} {id off:Nat} {e:List CV} {s:TyS} {v:CV} (L:LocE H id off e) (X:Ext H h) (hgd:guardOn all tm o=some true) (hop:o.op= .load t x) (hx:cvOf E.globs tm x= .ptr (some (id,off))) (hs:E.ty t=some s) (h1:s.size=1) (h2:s.agg=false) (he:e[0]? =some v)
  (ht:putTmp tm o.dst v=(Tm.mk a0 a1 a2 a3 a4 a5 a6 a7 a8 a9 a10 a11 a12 a13 a14 a15 a16)) (w:W E (.ops all rest) (Tm.mk a0 a1 a2 a3 a4 a5 a6 a7 a8 a9 a10 a11 a12 a13 a14 a15 a16) h Q):W E (.ops all (o::rest)) tm h Q:=by
 obtain⟨cs,ro,g1,g2,g3⟩:=L;have hn:=cut_nth g3 he;refine W.ld hgd hop hx ((X.old id g2).trans g1) hs (v:=v) ?_ (by rw[ht];exact w);rw[h1,h2];exact hn
theorem W.ldp {t:TypeId} {x:Operand} {id off k:Nat} {e e2:List CV} {s:TyS} (L:LocE H id off e) (X:Ext H h) (hgd:guardOn all tm o=some true) (hop:o.op= .load t x) (hx:cvOf E.globs tm x= .ptr (some (id,off+k))) (hs:E.ty t=some s) (h2:s.agg=true) (he:cut e k s.size=some e2)
  (ht:putTmp tm o.dst (.agg e2)=(Tm.mk a0 a1 a2 a3 a4 a5 a6 a7 a8 a9 a10 a11 a12 a13 a14 a15 a16)) (w:W E (.ops all rest) (Tm.mk a0 a1 a2 a3 a4 a5 a6 a7 a8 a9 a10 a11 a12 a13 a14 a15 a16) h Q):W E (.ops all (o::rest)) tm h Q:=by
 obtain⟨cs,ro,g1,g2,g3⟩:=L
 have hn:cut cs (off+k) s.size=some e2:=by
  rw[cut_eq]at g3 he ⊢;split at g3
  ·rename_i l1
   have g3:=Option.some.inj g3;split at he
   ·rename_i l2
    have he:=Option.some.inj he;rw[if_pos (by omega),<-he,<-g3]
    congr 1
    rw[List.drop_take,List.take_take,List.drop_drop]
    congr 1
    omega
   ·cases he
  ·cases g3
 refine W.ld hgd hop hx ((X.old id g2).trans g1) hs (v:= .agg e2) ?_ (by rw[ht];exact w);rw[h2];show(cut cs (off+k) s.size).map CV.agg=_;rw[hn];rfl
theorem W.ldw {t:TypeId} {x:Operand} {id off:Nat} {e:List CV} {s:TyS} (L:LocE H id off e) (X:Ext H h) (hgd:guardOn all tm o=some true) (hop:o.op= .load t x) (hx:cvOf E.globs tm x= .ptr (some (id,off))) (hs:E.ty t=some s) (h1:e.length=s.size) (h2:s.agg=true)
  (ht:putTmp tm o.dst (.agg e)=(Tm.mk a0 a1 a2 a3 a4 a5 a6 a7 a8 a9 a10 a11 a12 a13 a14 a15 a16)) (w:W E (.ops all rest) (Tm.mk a0 a1 a2 a3 a4 a5 a6 a7 a8 a9 a10 a11 a12 a13 a14 a15 a16) h Q):W E (.ops all (o::rest)) tm h Q:=by
 obtain⟨cs,ro,g1,g2,g3⟩:=L;refine W.ld hgd hop hx ((X.old id g2).trans g1) hs (v:= .agg e) ?_ (by rw[ht];exact w);rw[<-h1,h2];show(cut cs off e.length).map CV.agg=_;rw[g3];rfl
theorem W.ixR {α:Type} [Rp α] {l:List α} {v:CV} {t:TypeId} {x y:Operand} {s:TyS} {et j:Nat} {kk:IntKind} (sl:Sl H v l) (hj:j<l.length) (hgd:guardOn all tm o=some true) (hop:o.op= .indexAddr t x y) (hx:cvOf E.globs tm x=v) (hy:cvOf E.globs tm y= .int kk (j:Int)) (hs:E.ty t=some s) (hk:s.kind= .slice et) (hz:sizeOf? E et=some (Rp.z α))
  (w:∀i off e,LocE H i off e->Rp.R H e l[j]->W E (.ops all rest) (putTmp tm o.dst (.ptr (some (i,off)))) h Q):W E (.ops all (o::rest)) tm h Q:=by
 obtain⟨i,off,c,x',e,rfl,L,r⟩:=sl.at hj;exact W.ix hgd hop hx hy hs hk hz (place_of rfl hj) (w _ _ e L r)
end
theorem op_seq {α:Type} {a b:Str} {h:α}:some (CV.bool (bytesEq a b),h)=some (CV.bool (decide (a=b)),h):=by rw[bytesEq_eq]
theorem op_sne {α:Type} {a b:Str} {h:α}:some (CV.bool (!bytesEq a b),h)=some (CV.bool (decide (a≠b)),h):=by
 rw[bytesEq_eq];by_cases c:a=b
 ·rw[decide_eq_true c,decide_eq_false (λh=>h c)];rfl
 ·rw[decide_eq_false c,decide_eq_true c];rfl
end Go.CM

noncomputable section
namespace Go.CM
section
variable {E:Env} {tm:Tm} {H h:Heap} {Q:R->Prop} {all rest:List Oper} {o:Oper} {bs:List Bits} {recs:List Rec} {i:Nat} {idx nx:List Nat} {v:CV}
def RecX (H h:Heap) (nx:List Nat) (r:Rec):Prop:=
 (∃i fp lo,r= .op i fp false lo lo/\∀k∈fp,k<H.next/\CellsAt H k)\/(∃i lo hi,r= .op i [] false lo hi/\i∈nx/\H.next<=lo/\hi<=h.next)\/(∃i d d',r= .call i d d'/\i∈nx/\Ext H d/\Ext d d'/\d'.next<=h.next)
structure DX (H h:Heap) (idx nx:List Nat) (recs:List Rec):Prop where
 r:∀r∈recs,RecX H h nx r/\recIdx r∈idx
 x:Ext H h
 f:Fresh H
theorem DX.start (f:Fresh H):DX H H [] [] []:=⟨(λ_ h=>by cases h),Ext.refl _,f⟩
theorem RecX.more {h':Heap} {j:Nat} {r:Rec} (hr:RecX H h nx r) (hn:h.next<=h'.next):RecX H h' (j::nx) r:=by
 rcases hr with h1|⟨i,lo,hi,h1,h2,h3,h4⟩|⟨i,d,d',h1,h2,h3,h4,h5⟩
 ·exact .inl h1
 ·exact .inr (.inl ⟨i,lo,hi,h1,List.mem_cons_of_mem _ h2,h3,by omega⟩)
 ·exact .inr (.inr ⟨i,d,d',h1,List.mem_cons_of_mem _ h2,h3,h4,by omega⟩)
theorem RecX.same {h':Heap} {r:Rec} (hr:RecX H h nx r) (hn:h.next<=h'.next):RecX H h' nx r:=by
 rcases hr with h1|⟨i,lo,hi,h1,h2,h3,h4⟩|⟨i,d,d',h1,h2,h3,h4,h5⟩
 ·exact .inl h1
 ·exact .inr (.inl ⟨i,lo,hi,h1,h2,h3,by omega⟩)
 ·exact .inr (.inr ⟨i,d,d',h1,h2,h3,h4,by omega⟩)
theorem DX.hri (d:DX H h idx nx recs):∀r∈recs,recIdx r∈idx:=λr hm=>(d.r r hm).2
theorem within_out {k lo hi:Nat} (h:k<lo\/hi<=lo):within k lo hi=false:=by
 unfold within;cases h1:Nat.ble lo k with
 |false=>rfl
 |true=>
  cases h2:Nat.blt k hi with
  |false=>rfl
  |true=>
   have:=Nat.le_of_ble_eq_true h1;rw[Nat.blt_eq]at h2;omega
theorem okX_read {ahead:Bits} {fp:List Nat} (hfp:∀k∈fp,k<H.next/\CellsAt H k):∀{recs:List Rec},(∀r∈recs,RecX H h nx r)->okPairs ahead fp false [] recs=true
 |[],_=>rfl
 |r::rs,hr=>by
  unfold okPairs;have ih:=okX_read (ahead:=ahead) hfp (recs:=rs) λx hx=>hr x (List.mem_cons_of_mem _ hx)
  have:okPair fp false [] r=true:=by
   rcases hr r (by simp)with⟨i,fp',lo,rfl,_⟩|⟨i,lo,hi,rfl,_,h3,_⟩|⟨i,d,d',rfl,_,h3,h4,_⟩
   ·rw[okPair_op,all1_of λk _=>by unfold opApart;rw[within_self];rfl]
    rfl
   ·rw[okPair_op,all1_of λk hk=>by
      unfold opApart;rw[within_out (.inl (by have:=(hfp k hk).1;omega))];rfl]
    rfl
   ·rw[okPair_call,all1_of λk hk=>by
      unfold callApart;obtain⟨g1,cs,ro,g2⟩:=hfp k hk;have hn:=h3.next;rw[h4.old k (by omega),h3.old k g1,g2,blkEq_cells]]
    rfl
  rw[this];exact ih
theorem okX_new {ahead:Bits} (hf:Fresh H) (hn:H.next<=h.next):∀{recs:List Rec},(∀r∈recs,RecX H h nx r)->okPairs ahead [] false [h.next] recs=true
 |[],_=>rfl
 |r::rs,hr=>by
  unfold okPairs;have ih:=okX_new (ahead:=ahead) hf hn (recs:=rs) λx hx=>hr x (List.mem_cons_of_mem _ hx)
  have:okPair [] false [h.next] r=true:=by
   rcases hr r (by simp)with⟨i,fp',lo,rfl,h1⟩|⟨i,lo,hi,rfl,_,h3,_⟩|⟨i,d,d',rfl,_,h3,h4,h5⟩
   ·show all1 [h.next] (λk=> !mem k fp')=true
    refine all1_each λk hk=> ?_;rw[List.mem_singleton]at hk;subst hk;rw[mem_false λx hx=>by have:=(h1 x hx).1;omega];rfl
   ·rfl
   ·have g1:d.get h.next=none:=h3.fr hf _ (by have:=h4.next;omega)
    have g2:d'.get h.next=none:=h4.fr (h3.fr hf) _ h5;show all1 [h.next] (λk=>match isNo (d.get k)with|true=>isNo (d'.get k)|false=>false)=true
    refine all1_each λk hk=> ?_;rw[List.mem_singleton]at hk;subst hk;rw[g1,g2];rfl
  rw[this];exact ih
theorem hidesX {ahead:Bits} (hc:∀j∈nx,bit j ahead=true):∀{recs:List Rec},(∀r∈recs,RecX H h nx r)->hides ahead recs=some []
 |[],_=>rfl
 |r::rs,hr=>by
  unfold hides;rw[hidesX hc λx hx=>hr x (List.mem_cons_of_mem _ hx)];rcases hr r (by simp)with⟨i,fp,lo,rfl,_⟩|⟨i,lo,hi,rfl,h1,_⟩|⟨i,d,d',rfl,h1,_⟩
  ·simp only[Nat.sub_self]
   split<;>rfl
  ·have:bit (recIdx (.op i [] false lo hi)) ahead=true:=hc i h1
   simp only[this]
  ·have:bit (recIdx (.call i d d')) ahead=true:=hc i h1
   simp only[this]
theorem looksX {ahead:Bits} {d d':Heap} (hc:∀j∈nx,bit j ahead=true) (hx:Ext H d) (hd:Ext d d'):∀{recs:List Rec},(∀r∈recs,RecX H h nx r)->looks ahead d d' recs=true
 |[],_=>rfl
 |r::rs,hr=>by
  unfold looks;have ih:=looksX (ahead:=ahead) hc hx hd (recs:=rs) λx hx=>hr x (List.mem_cons_of_mem _ hx);rcases hr r (by simp)with⟨i,fp,lo,rfl,h1⟩|⟨i,lo,hi,rfl,h1,_⟩|⟨i,e,e',rfl,h1,_⟩
  ·split
   ·exact ih
   ·rw[Bool.and_eq_true]
    refine⟨all1_of λk hk=> ?_,ih⟩;obtain⟨g1,cs,ro,g2⟩:=h1 k hk;have hn:=hx.next;rw[hd.old k (by omega),hx.old k g1,g2,blkEq_cells]
  ·have:bit (recIdx (.op i [] false lo hi)) ahead=true:=hc i h1
   rw[this];exact ih
  ·have:bit (recIdx (.call i e e')) ahead=true:=hc i h1
   rw[this];exact ih
theorem W.dldZ (ds:DX H h idx nx recs) {t:TypeId} {x:Operand} {id off:Nat} {cs:List CV} {ro:Bool} {s:TyS} (hgd:guardOn all tm o=some true) (hop:o.op= .load t x) (hx:cvOf E.globs tm x= .ptr (some (id,off))) (hg:H.get id=some (.cells cs ro)) (hid:id<H.next) (hs:E.ty t=some s) (hp:part cs off s.size s.agg=some v)
  (w:∀recs' h',DX H h' (i::idx) nx recs'->Same h h'->W E (.draw bs all rest (i+1) recs') (putTmp tm o.dst v) h' Q):W E (.draw bs all (o::rest) i recs) tm h Q:=by
 have hfp:fpAny E o tm=[id]:=by
  unfold fpAny;rw[hop];show idOf (cvOf E.globs tm x)=[id];rw[hx];rfl
 have hwr:wrOf o.op=false:=by rw[hop];rfl
 have hgh:h.get id=some (.cells cs ro):=(ds.x.old id hid).trans hg;have hget:(only h [id]).get id=some (.cells cs ro):=by rw[only_get];simpa using hgh
 have ho:opAny E o tm (only h (fpAny E o tm))=some (v,only h [id]):=by
  rw[hfp];unfold opAny;rw[hop];show oLoad E t (cvOf E.globs tm x) (only h [id])=_;rw[hx];unfold oLoad CM.load loadB;simp only[hget,hs,hp,withH]
 have hsame:Same h (back h (only h [id]) ([id]++span h.next 0)):=by
  refine⟨by rw[back_next,only_next],λk=> ?_⟩;rw[back_get];split
  ·rename_i hk
   have:k=id:=by
    have hk:k∈[id]:=hk;simpa using hk
   subst this;rw[hget,hgh]
  ·rfl
 have hfc:∀k∈[id],k<H.next/\CellsAt H k:=λk hk=>by rw[List.mem_singleton]at hk;subst hk;exact⟨hid,cs,ro,hg⟩
 obtain⟨r,⟨N,e⟩,q⟩:=w (.op i [id] false h.next h.next::recs) _ ⟨λr hm=>by
  rcases List.mem_cons.1 hm with rfl|hm
  ·exact⟨.inl ⟨i,[id],h.next,rfl,hfc⟩,by simp[recIdx]⟩
  ·exact⟨(ds.r r hm).1.same (Nat.le_of_eq hsame.next.symm),List.mem_cons_of_mem _ (ds.r r hm).2⟩,ds.x.trans hsame.ext,ds.f⟩ hsame
 refine⟨r,.step ⟨N,λm hm=> ?_⟩,q⟩
 show(match guardOn all tm o with
  |some true=>dOp E (run E m) bs all rest o i recs tm h
  |some false=>run E m (.draw bs all rest (i+1) recs) (putTmp tm o.dst (.tup [])) h
  |none=> .stop)=r
 rw[hgd];show dOp E (run E m) bs all rest o i recs tm h=r;rw[dOp_any ho,hfp,hwr];have hnx:(only h [id]).next=h.next:=only_next _ _
 show(match okPairs ((nth bs i).getD Bits.nil) [id] false (span h.next ((only h [id]).next-h.next)) recs with
  |true=>run E m (.draw bs all rest (i+1) (.op i [id] false h.next (only h [id]).next::recs)) (putTmp tm o.dst v) (back h (only h [id]) ([id]++span h.next ((only h [id]).next-h.next)))
  |false=> .stop)=r
 rw[hnx,Nat.sub_self];have:okPairs ((nth bs i).getD Bits.nil) [id] false (span h.next 0) recs=true:=okX_read hfc λr hm=>(ds.r r hm).1;rw[this];exact e m hm
theorem W.dnewZ (ds:DX H h idx nx recs) {b:Blk} (hgd:guardOn all tm o=some true) (hfp:fpAny E o tm=[]) (hwr:wrOf o.op=false) (ho:opAny E o tm (only h [])=some (v,(only h []).new b))
  (w:∀recs' h',DX H h' (i::idx) (i::nx) recs'->Ext h h'->h'.next=h.next+1->h'.get h.next=some b->W E (.draw bs all rest (i+1) recs') (putTmp tm o.dst v) h' Q):W E (.draw bs all (o::rest) i recs) tm h Q:=by
 have ho:opAny E o tm (only h (fpAny E o tm))=some (v,(only h []).new b):=by rw[hfp];exact ho
 have hb:∀k,(back h ((only h []).new b) ([]++[h.next])).get k=if k=h.next then some b else h.get k:=by
  intro k;rw[back_get];by_cases e:k=h.next
  ·subst e
   rw[if_pos (by simp),if_pos rfl];exact new_same (only h []) _
  ·rw[if_neg (by simpa using e),if_neg e]
 have hnx:(back h ((only h []).new b) ([]++[h.next])).next=h.next+1:=by rw[back_next];rfl
 have hx:Ext h (back h ((only h []).new b) ([]++[h.next])):=by
  refine⟨by omega,λk hk=> ?_,λf k hk=> ?_⟩
  ·rw[hb,if_neg (by omega)]
  ·rw[hnx]at hk
   rw[hb,if_neg (by omega)];exact f k (by omega)
 obtain⟨r,⟨N,e⟩,q⟩:=w (.op i [] false h.next (h.next+1)::recs) _ ⟨λr hm=>by
  rcases List.mem_cons.1 hm with rfl|hm
  ·exact⟨.inr (.inl ⟨i,h.next,h.next+1,rfl,by simp,ds.x.next,by omega⟩),by simp[recIdx]⟩
  ·exact⟨(ds.r r hm).1.more (by omega),List.mem_cons_of_mem _ (ds.r r hm).2⟩,ds.x.trans hx,ds.f⟩ hx hnx (by rw[hb,if_pos rfl])
 refine⟨r,.step ⟨N,λm hm=> ?_⟩,q⟩
 show(match guardOn all tm o with
  |some true=>dOp E (run E m) bs all rest o i recs tm h
  |some false=>run E m (.draw bs all rest (i+1) recs) (putTmp tm o.dst (.tup [])) h
  |none=> .stop)=r
 rw[hgd];show dOp E (run E m) bs all rest o i recs tm h=r;rw[dOp_any ho,hfp,hwr]
 have hnb:Nat.beq (h.next+1) h.next=false:=by
  cases hb:Nat.beq (h.next+1) h.next with
  |true=>have:=Nat.eq_of_beq_eq_true hb;omega
  |false=>rfl
 have hsp:span h.next (h.next+1-h.next)=[h.next]:=by
  rw[show h.next+1-h.next=1 by omega];rfl
 show(match isNil ([]:List Nat)&&Nat.beq (h.next+1) h.next with
  |true=>_
  |false=>match okPairs ((nth bs i).getD Bits.nil) [] false (span h.next (h.next+1-h.next)) recs with
   |true=>run E m (.draw bs all rest (i+1) (.op i [] false h.next (h.next+1)::recs)) (putTmp tm o.dst v) (back h ((only h []).new b) ([]++span h.next (h.next+1-h.next)))
   |false=> .stop)=r
 rw[hnb,hsp,okX_new ds.f ds.x.next λr hm=>(ds.r r hm).1];exact e m hm
theorem W.dalZ (ds:DX H h idx nx recs) {t:TypeId} {s:TyS} (hgd:guardOn all tm o=some true) (hop:o.op= .alloc t) (hs:E.ty t=some s)
  (w:∀recs' h',DX H h' (i::idx) (i::nx) recs'->Ext h h'->h'.next=h.next+1->h'.get h.next=some (.cells s.zero false)->W E (.draw bs all rest (i+1) recs') (putTmp tm o.dst (.ptr (some (h.next,0)))) h' Q):W E (.draw bs all (o::rest) i recs) tm h Q:=
 W.dnewZ ds (v:= .ptr (some (h.next,0))) hgd (by unfold fpAny;rw[hop];rfl) (by rw[hop];rfl) (by
  unfold opAny;rw[hop];show newPtr (only h []) ((E.ty t).map (·.zero))=_;rw[hs];rfl) w
def DZ (E:Env) (bs:List Bits) (all rest:List Oper) (i:Nat) (idx nx:List Nat) (dst:Option Nat) (tm:Tm) (H h:Heap) (Q:R->Prop) (r:R):Prop:=match r with
 | .val v d=>Ext h d/\∀recs' h',DX H h' (i::idx) (i::nx) recs'->Same d h'->W E (.draw bs all rest (i+1) recs') (putTmp tm dst v) h' Q
 |_=>False
theorem DZ.val {dst:Option Nat} {d:Heap} (hx:Ext h d) (w:∀recs' h',DX H h' (i::idx) (i::nx) recs'->Same d h'->W E (.draw bs all rest (i+1) recs') (putTmp tm dst v) h' Q):DZ E bs all rest i idx nx dst tm H h Q (.val v d):=⟨hx,w⟩
theorem W.dcallZ {c:Call} {f:Operand} (ds:DX H h idx nx recs) (hgd:guardOn all tm o=some true) (hop:o.op= .call c) (hf:c.callee= .value f) (hc0:(nx.all λj=>bit j ((nth bs i).getD Bits.nil))=true)
  (w:W E (.call (cvOf E.globs tm f) (c.args.toList.map (cvOf E.globs tm))) .leaf h (DZ E bs all rest i idx nx o.dst tm H h Q)):W E (.draw bs all (o::rest) i recs) tm h Q:=by
 have hc:∀j∈nx,bit j ((nth bs i).getD Bits.nil)=true:=λj hj=>List.all_eq_true.1 hc0 j hj;have hr:∀r∈recs,RecX H h nx r:=λr hm=>(ds.r r hm).1;obtain⟨r0,⟨N1,e1⟩,q⟩:=w;cases r0 with
 |val v d=>
  obtain⟨hx,q⟩:=q;have hsame:Same d ⟨d.t,d.next,none⟩:=⟨rfl,λ_=>rfl⟩
  obtain⟨r,⟨N2,e2⟩,q2⟩:=q (.call i h d::recs) ⟨d.t,d.next,none⟩ ⟨λr hm=>by
   rcases List.mem_cons.1 hm with rfl|hm
   ·exact⟨.inr (.inr ⟨i,h,d,rfl,by simp,ds.x,hx,Nat.le_refl _⟩),by simp[recIdx]⟩
   ·exact⟨(hr r hm).more hx.next,List.mem_cons_of_mem _ (ds.r r hm).2⟩,(ds.x.trans hx).trans hsame.ext,ds.f⟩ hsame
  refine⟨r,.step ⟨max N1 N2,λm hm=> ?_⟩,q2⟩
  show(match guardOn all tm o with
   |some true=>dOp E (run E m) bs all rest o i recs tm h
   |some false=>run E m (.draw bs all rest (i+1) recs) (putTmp tm o.dst (.tup [])) h
   |none=> .stop)=r
  rw[hgd];show dOp E (run E m) bs all rest o i recs tm h=r;unfold dOp;rw[hop];simp only[hf,isBuiltin];rw[hidesX hc hr];unfold dHid;simp only[hf,sCallee];show dCall (run E m) bs all rest i recs o.dst tm h h [] (run E m (.call (cvOf E.globs tm f) (c.args.toList.map (cvOf E.globs tm))) .leaf h)=r;rw[e1 m (by omega)]
  show(match Nat.ble h.next d.next&&(looks ((nth bs i).getD Bits.nil) h d recs&&true)with
   |true=>run E m (.draw bs all rest (i+1) (.call i h d::recs)) (putTmp tm o.dst v) ⟨d.t,d.next,none⟩
   |false=> .stop)=r
  rw[looksX hc ds.x hx hr,Nat.ble_eq_true_of_le hx.next];exact e2 m (by omega)
 |_=>exact q.elim
end
end Go.CM

noncomputable section
namespace Go.CM
section
variable {E:Env} {t:Task} {tm tm1:Tm} {h h1:Heap} {Q:R->Prop} {a b:Code} {all rest:List Oper} {o:Oper} {v:CV}
def RangeQ (i:Nat) (tm:Tm) (Q:R->Prop) (r:R):Prop:=Q (kRange i tm r)
theorem W.range {f:Operand} {ps:Array Nat} {asg body:Code} {id:Nat} {first caps:List CV} (hf:cvOf E.globs tm f= .fn id first caps)
  (w:W E (.call (.fn id first caps) [.yield h.next]) .leaf (h.new (.loop tm ps.toList asg body 0 none)) (RangeQ h.next tm Q)):W E (.code (.rangeFunc f ps asg body)) tm h Q:=by
 obtain⟨r,⟨N,e⟩,q⟩:=w;refine⟨_,.step ⟨N,λm hm=> ?_⟩,q⟩;show sRange (run E m) tm (h.new (.loop tm ps.toList asg body 0 none)) h.next (cvOf E.globs tm f)=_;rw[hf];show kRange h.next tm (run E m (.call (.fn id first caps) [.yield h.next]) .leaf (h.new (.loop tm ps.toList asg body 0 none)))=_;rw[e m hm]
theorem RangeQ.val {i:Nat} {tmx:Tm} {psx:List Nat} {asg body:Code} {st:Nat} (hg:h.get i=some (.loop tmx psx asg body st none)) (hs:Nat.beq st 1=false) (q:Q (.code .normal tm (h.del i))):RangeQ i tm Q (.val v h):=by
 show Q (match h.get i with
  |some (.loop _ _ _ _ st pend)=>match Nat.beq st 1 with
   |true=> .stop
   |false=>endBy pend tm (h.del i)
  |_=> .stop)
 rw[hg];simp only[hs];exact q
def RoundQ (i:Nat) (Q:R->Prop) (r:R):Prop:=Q (kRound2 i r)
theorem RoundQ.normal {i:Nat} {tmx:Tm} {psx:List Nat} {asg body:Code} {st:Nat} {pend:Option Code} (hg:h.get i=some (.loop tmx psx asg body st pend)) (q:Q (.val (.bool true) (h.put i (.loop tmx psx asg body 0 none)))):RoundQ i Q (.code .normal tm h):=by
 show Q (match h.get i with
  |some (.loop tm ps asg body _ _)=> .val (.bool true) (h.put i (.loop tm ps asg body 0 none))
  |_=> .stop)
 rw[hg];exact q
theorem W.yield {i:Nat} {args:List CV} {tx:Tm} {ps:List Nat} {asg body:Code} {st:Nat} {pend:Option Code} {t1:Tm} (hg:h.get i=some (.loop tx ps asg body st pend)) (hs:setPs ps args tx=some t1)
  (w:W E (.code asg) t1 h (CutQ λt' h'=>∃tx' ps' asg' bd' pend',h'.get i=some (.loop tx' ps' asg' bd' 0 pend')/\W E (.code body) t' (h'.put i (.loop tx' ps' asg' bd' 1 pend')) (RoundQ i Q))):W E (.call (.yield i) args) tm h Q:=by
 obtain⟨r,⟨N1,e1⟩,q⟩:=w;cases r with
 |code e t' h'=>
  cases e with
  |normal=>
   obtain⟨tx',ps',asg',bd',pend',hg',r2,⟨N2,e2⟩,q2⟩:=q;refine⟨_,.step ⟨max N1 N2,λm hm=> ?_⟩,q2⟩;show sRound (run E m) i args h=_;unfold sRound;rw[hg];simp only[hs];show kRound1 (run E m) i body (run E m (.code asg) t1 h)=_;rw[e1 m (by omega)];unfold kRound1;simp only[hg'];show kRound2 i (run E m (.code body) t' (h'.put i (.loop tx' ps' asg' bd' 1 pend')))=_;rw[e2 m (by omega)]
  |_=>exact q.elim
 |_=>exact q.elim
theorem W.knownN {f:Nat} {first caps args:List CV} {news:List (List CV)} (hk:kfind h E.globs f (first++args++caps) E.known=some (v,news)) (hr:rowsHold h E.rows=true) (q:Q (.val v (kAdd h news))):W E (.call (.fn f first caps) args) tm h Q:=by
 refine⟨_,.step ⟨0,λm _=> ?_⟩,q⟩;show sFn E (run E m) (first++args++caps) h f (kfind h E.globs f (first++args++caps) E.known)=_;rw[hk];show kKnown (v,news) h (rowsHold h E.rows)=_;rw[hr];rfl
theorem kAdd_ext:∀(news:List (List CV)) (h:Heap),Ext h (kAdd h news)
 |[],h=>Ext.refl h
 |b::r,h=>(Ext.new h (.cells b false)).trans (kAdd_ext r _)
theorem Ext.del {h H:Heap} (x:Ext h H) {i:Nat} (hi:h.next<=i):Ext h (H.del i):=⟨x.next,λk hk=>by rw[Heap.get_del,if_neg (by omega)];exact x.old k hk,λf k hk=>by
 rw[Heap.get_del];split
 ·rfl
 ·exact x.fr f k hk⟩
end
end Go.CM
