/- Walks over rows of structs: what memory says of them; loads from a memory that has only grown. No condition, no program. -/
import Derived.Test.YtmgpjfnlciapkaaGreatDoorXMa
set_option linter.unusedVariables false
set_option linter.unusedSimpArgs false
noncomputable section
namespace Go.CM
def LenOf (v:CV) (n:Nat):Prop:=(v= .empty/\n=0)\/∃p c x,v= .slice p n c x
def SlG (h:Heap) (z:Nat) (v:CV) (l:List (List CV)):Prop:=
 (v= .slice none 0 0 0/\l=[])\/(v= .empty/\l=[])\/∃i o c x cs ro,v= .slice (some (i,o)) l.length c x/\i<h.next/\h.get i=some (.cells cs ro)/\(∀j e,l[j]? =some e->e.length=z/\cut cs (o+j*z) z=some e)/\l.length<=c/\(x=0\/x=z)
theorem SlG.ext {h h':Heap} (e:Ext h h') {z:Nat} {v:CV} {l:List (List CV)} (s:SlG h z v l):SlG h' z v l:=by
 rcases s with s|s|⟨i,o,c,x,cs,ro,h1,h2,h3,h4⟩
 ·exact .inl s
 ·exact .inr (.inl s)
 ·exact .inr (.inr ⟨i,o,c,x,cs,ro,h1,Nat.lt_of_lt_of_le h2 e.next,(e.old i h2).trans h3,h4⟩)
theorem SlG.lenOf {h:Heap} {z:Nat} {v:CV} {l:List (List CV)} (s:SlG h z v l):LenOf v l.length:=by
 rcases s with⟨rfl,rfl⟩|⟨rfl,rfl⟩|⟨i,o,c,x,cs,ro,h1,_⟩
 ·exact .inr ⟨none,0,0,rfl⟩
 ·exact .inl ⟨rfl,rfl⟩
 ·exact .inr ⟨_,c,x,h1⟩
theorem SlG.at {h:Heap} {z:Nat} {v:CV} {l:List (List CV)} (s:SlG h z v l) {j:Nat} (hj:j<l.length):∃i o c x cs ro,v= .slice (some (i,o)) l.length c x/\i<h.next/\h.get i=some (.cells cs ro)/\∀j e,l[j]? =some e->e.length=z/\cut cs (o+j*z) z=some e:=by
 rcases s with⟨_,rfl⟩|⟨_,rfl⟩|s
 ·simp at hj
 ·simp at hj
 ·obtain⟨i,o,c,x,cs,ro,h1,h2,h3,h4,_⟩:=s
  exact⟨i,o,c,x,cs,ro,h1,h2,h3,h4⟩
theorem cut_nth {cs e:List CV} {a z k:Nat} {v:CV} (h:cut cs a z=some e) (hk:e[k]? =some v):nth cs (a+k)=some v:=by
 rw[cut_eq]at h
 split at h
 ·cases h
  rw[List.getElem?_take]at hk
  split at hk
  ·rw[nth_eq]
   rwa[List.getElem?_drop]at hk
  ·cases hk
 ·cases h
theorem flat_cut {z:Nat}:∀{vss:List (List CV)} {j:Nat} {e:List CV},(∀vs∈vss,vs.length=z)->vss[j]? =some e->cut vss.flatten (0+j*z) z=some e
 |[],j,e,_,h=>by simp at h
 |v::vss,0,e,hz,h=>by
  simp at h
  subst h
  rw[cut_eq,List.flatten_cons]
  have:=hz v (by simp)
  rw[if_pos (by rw[List.length_append];omega)]
  simp[this]
 |v::vss,j+1,e,hz,h=>by
  have ih:=flat_cut (vss:=vss) (j:=j) (λx hx=>hz x (List.mem_cons_of_mem _ hx)) (by simpa using h)
  rw[cut_eq]at ih ⊢
  have hv:=hz v (by simp)
  have e1:0+(j+1)*z=z+j*z:=by rw[Nat.succ_mul];omega
  have e2:0+j*z=j*z:=by omega
  rw[e2]at ih
  rw[e1,List.flatten_cons]
  split at ih
  ·rename_i hle
   rw[if_pos (by rw[List.length_append];omega),<-ih]
   congr 2
   rw[List.drop_append,List.drop_of_length_le (by omega),List.nil_append,hv]
   congr 1
   omega
  ·cases ih
theorem Rep.sl {h:Heap} {e:PT} {v:CV} {ds:List Dat} (r:Rep h (.slice e) [v] (.row ds)):∃vss:List (List CV),SlG h e.size v vss/\vss.length=ds.length/\∀(j:Nat) (vs:List CV) (d:Dat),vss[j]? =some vs->ds[j]? =some d->Rep h e vs d:=by
 cases r with
 |nil=>exact⟨[],.inl ⟨rfl,rfl⟩,rfl,λj vs d h=>by simp at h⟩
 |emp=>exact⟨[],.inr (.inl ⟨rfl,rfl⟩),rfl,λj vs d h=>by simp at h⟩
 |row _ i c vss ds hi hg hl h0 hc hm hz hr=>
  exact⟨vss,.inr (.inr ⟨i,0,c,0,_,true,rfl,hi,hg,λj e he=>⟨hz e (List.mem_of_getElem? he),flat_cut hz he⟩,hc,.inl rfl⟩),hl.symm,hr⟩
section
variable {E:Env} {tm:Tm} {H h:Heap} {Q:R->Prop} {all rest:List Oper} {o:Oper} {bs:List Bits} {recs:List Rec} {n0 i:Nat} {idx calls:List Nat}
theorem W.ln {c:Call} {t e:TypeId} {s:TyS} {v:CV} {n:Nat} {a0 a1 a2 a3 a4 a5 a6 a7 a8 a9 a10 a11 a12 a13 a14 a15:NA} {a16:Tree CV} (hl:LenOf v n)
  (hgd:guardOn all tm o=some true) (hop:o.op= .call c) (hb:isBuiltin c.callee=some .len) (hty:c.argTypes.toList=[t]) (ha:c.args.toList.map (cvOf E.globs tm)=[v]) (hts:E.ty t=some s) (hk:s.kind= .slice e)
  (ht:putTmp tm o.dst (.int .i64 (Int.ofNat n))=(Tm.mk a0 a1 a2 a3 a4 a5 a6 a7 a8 a9 a10 a11 a12 a13 a14 a15 a16)) (w:W E (.ops all rest) (Tm.mk a0 a1 a2 a3 a4 a5 a6 a7 a8 a9 a10 a11 a12 a13 a14 a15 a16) h Q):W E (.ops all (o::rest)) tm h Q:=by
 refine W.op hgd (v:= .int .i64 (Int.ofNat n)) (h1:=h) ?_ (by rw[ht];exact w)
 unfold opAny
 rw[hop]
 simp only[hb]
 show builtinV E h .len c.argTypes.toList (c.args.toList.map (cvOf E.globs tm))=_
 rw[hty,ha]
 rcases hl with⟨rfl,rfl⟩|⟨p,c',x,rfl⟩
 ·simp[builtinV,lenV,hts,hk];rfl
 ·simp[builtinV,lenV,hts,hk];rfl
theorem all1_each {p:Nat->Bool}:∀{l:List Nat},(∀k∈l,p k=true)->all1 l p=true
 |[],_=>rfl
 |k::l,h=>by
  show(match p k with|true=>all1 l p|false=>false)=true
  rw[h k (by simp)]
  exact all1_each λx hx=>h x (List.mem_cons_of_mem _ hx)
theorem mem_false {k:Nat}:∀{l:List Nat},(∀x∈l,x≠k)->mem k l=false
 |[],_=>rfl
 |x::l,h=>by
  unfold mem
  have:Nat.beq k x=false:=by
   cases hb:Nat.beq k x with
   |true=>exact absurd (Nat.eq_of_beq_eq_true hb).symm (h x (by simp))
   |false=>rfl
  rw[this]
  exact mem_false λy hy=>h y (List.mem_cons_of_mem _ hy)
end
end Go.CM

noncomputable section
namespace Go.CM
theorem cut_join {cs e f:List CV} {o z m:Nat} (h1:cut cs o z=some e) (h2:cut cs (o+z) m=some f):cut cs o (z+m)=some (e++f):=by
 rw[cut_eq]at h1 h2 ⊢
 split at h1
 ·rename_i l1
  cases h1
  split at h2
  ·rename_i l2
   cases h2
   rw[if_pos (by omega)]
   congr 1
   rw[List.take_add,List.drop_drop]
  ·cases h2
 ·cases h1
theorem cut_all {cs:List CV} {z:Nat}:∀{l:List (List CV)} {o:Nat},l≠[]->(∀j e,l[j]? =some e->e.length=z/\cut cs (o+j*z) z=some e)->cut cs o (l.length*z)=some l.flatten
 |[],_,h,_=>absurd rfl h
 |[e],o,_,h=>by
  have:=(h 0 e rfl).2
  rw[Nat.zero_mul,Nat.add_zero]at this
  simpa using this
 |e::f::l,o,_,h=>by
  have h0:=(h 0 e rfl).2
  rw[Nat.zero_mul,Nat.add_zero]at h0
  have ih:=cut_all (cs:=cs) (z:=z) (l:=f::l) (o:=o+z) (by simp) λj g hg=>by
   have:=h (j+1) g (by simpa using hg)
   refine⟨this.1,?_⟩
   rw[<-this.2]
   congr 1
   rw[Nat.succ_mul];omega
  have:=cut_join h0 ih
  rw[List.flatten_cons,<-this]
  congr 1
  rw[List.length_cons,Nat.succ_mul];omega
def OwnG (h:Heap) (lo z:Nat) (v:CV) (l:List (List CV)):Prop:=
 ((v= .slice none 0 0 0\/∃i,v= .slice (some (i,0)) 0 0 0)/\l=[])\/∃i,v= .slice (some (i,0)) l.length l.length z/\lo<=i/\i<h.next/\h.get i=some (.cells l.flatten false)/\(∀e∈l,e.length=z)/\l≠[]
theorem flat_len {z:Nat}:∀{l:List (List CV)},(∀e∈l,e.length=z)->l.flatten.length=l.length*z
 |[],_=>by simp
 |e::l,h=>by
  rw[List.flatten_cons,List.length_append,h e (by simp),flat_len λx hx=>h x (List.mem_cons_of_mem _ hx),List.length_cons,Nat.succ_mul]
  omega
section
variable {E:Env} {tm:Tm} {h:Heap} {Q:R->Prop} {all rest:List Oper} {o:Oper}
theorem W.ap1 {c:Call} {t t2 e:TypeId} {ts es t2s:TyS} {s:CV} {z lo j cc xx:Nat} {ro:Bool} {l:List (List CV)} {el:List CV} (so:OwnG h lo z s l) (hlo:lo<=h.next) (hj:h.get j=some (.cells el ro)) (hel:el.length=z)
  (hgd:guardOn all tm o=some true) (hop:o.op= .call c) (hb:isBuiltin c.callee=some .append) (hty:c.argTypes.toList=[t,t2]) (ha:c.args.toList.map (cvOf E.globs tm)=[s,.slice (some (j,0)) 1 cc xx])
  (hts:E.ty t=some ts) (hk:ts.kind= .slice e) (hes:E.ty e=some es) (hz:es.size=z) (hz0:(Nat.beq es.size 0||Nat.beq es.bytes 0)=false) (ht2:E.ty t2=some t2s) (hk2:t2s.kind= .slice e) (hm:(l.length+1)*es.bytes<=70368744177664)
  (w:∀v' h',h'.next=h.next+1->OwnG h' lo z v' (l++[el])->(∀k,k<h.next->(l=[]\/∀n c x,s≠ .slice (some (k,0)) n c x)->h'.get k=h.get k)->v'= .slice (some (h.next,0)) (l.length+1) (l.length+1) z->h'.get h.next=some (.cells (l++[el]).flatten false)->(Fresh h->Fresh h')->W E (.ops all rest) (putTmp tm o.dst v') h' Q):W E (.ops all (o::rest)) tm h Q:=by
 have hzpos:0<z:=by
  rw[<-hz]
  cases hs:es.size with
  |zero=>rw[hs]at hz0;cases hz0
  |succ n=>omega
 have hsrc1:srcCells h es.size 1 (.slice (some (j,0)) 1 cc xx)=some el:=by
  show(match h.get j with|some (.cells cs _)=>cut cs 0 (1*es.size)|_=>none)=_
  rw[hj]
  show cut el 0 (1*es.size)=_
  rw[cut_eq,if_pos (by omega),hz,Nat.one_mul,List.drop_zero,List.take_of_length_le (by omega)]
 have key:∃v' h',oAppend E h (E.ty t) (E.ty t2) s (.slice (some (j,0)) 1 cc xx)=some (v',h')/\h'.next=h.next+1/\OwnG h' lo z v' (l++[el])/\(∀k,k<h.next->(l=[]\/∀n c x,s≠ .slice (some (k,0)) n c x)->h'.get k=h.get k)/\v'= .slice (some (h.next,0)) (l.length+1) (l.length+1) z/\h'.get h.next=some (.cells (l++[el]).flatten false)/\(Fresh h->Fresh h'):=by
  rcases so with⟨hs,rfl⟩|⟨i,rfl,h1,h2,h3,h4,h5⟩
  ·have hby:Nat.ble ((0+1)*es.bytes) 70368744177664=true:=Nat.ble_eq_true_of_le (by simpa using hm)
   have hble:Nat.ble (0+1) 0=false:=rfl
   refine⟨.slice (some (h.next,0)) 1 1 z,h.new (.cells el false),?_,rfl,.inr ⟨h.next,rfl,hlo,Nat.lt_succ_self _,by simpa using new_same h (.cells el false),λe he=>by simp at he;rw[he];exact hel,by simp⟩,λk hk _=>by rw[Heap.get_new,if_neg (by omega)],rfl,by simpa using new_same h (.cells el false),λf=>f.new _⟩
   rcases hs with rfl|⟨i0,rfl⟩
   ·unfold oAppend
    simp only[hts,hk,hes,hz0,ht2,hk2,srcLen,hsrc1,appendAt,hble,hby]
    simp only[srcCells,growTo,List.nil_append,Nat.zero_add,hz]
   ·unfold oAppend
    simp only[hts,hk,hes,hz0,ht2,hk2,srcLen,hsrc1,appendAt,hble,hby]
    simp only[srcCells,growTo,List.nil_append,Nat.zero_add,hz]
  ·have hpos:0<l.length:=List.length_pos_iff.2 h5
   obtain⟨n,hn⟩:∃n,l.length=n+1:=⟨l.length-1,by omega⟩
   have hby:Nat.ble ((l.length+1)*es.bytes) 70368744177664=true:=Nat.ble_eq_true_of_le hm
   have hble:Nat.ble (l.length+1) l.length=false:=by
    cases hh:Nat.ble (l.length+1) l.length with
    |true=>have:=Nat.le_of_ble_eq_true hh;omega
    |false=>rfl
   have hold:srcCells h es.size l.length (.slice (some (i,0)) l.length l.length z)=some l.flatten:=by
    rw[hz,hn]
    show(match h.get i with|some (.cells cs _)=>cut cs 0 ((n+1)*z)|_=>none)=_
    rw[h3,<-hn]
    show cut l.flatten 0 (l.length*z)=_
    have hfl:=flat_len h4
    rw[cut_eq,if_pos (by omega),List.drop_zero,List.take_of_length_le (by omega)]
   obtain⟨zz,hzz⟩:∃zz,z=zz+1:=⟨z-1,by omega⟩
   have hgrow:growTo h (some (i,0)) z es.size (l.length+1) (l.flatten++el)=some (.slice (some (h.next,0)) (l.length+1) (l.length+1) es.size,(h.del i).new (.cells (l.flatten++el) false)):=by
    have hbq:Nat.beq (zz+1) (zz+1)=true:=Nat.beq_refl _
    rw[hz,hzz]
    unfold growTo
    simp only[hbq,h3]
   refine⟨.slice (some (h.next,0)) (l.length+1) (l.length+1) z,(h.del i).new (.cells (l.flatten++el) false),?_,rfl,.inr ⟨h.next,by simp,hlo,Nat.lt_succ_self _,by rw[show(l++[el]).flatten=l.flatten++el by simp];exact new_same (h.del i) (.cells (l.flatten++el) false),λe he=> ?_,by simp⟩,λk hk hne=> ?_,rfl,by rw[show(l++[el]).flatten=l.flatten++el by simp];exact new_same (h.del i) (.cells (l.flatten++el) false),λf=>Fresh.new (λk hk=>by
    have hk:h.next<=k:=hk
    rw[Heap.get_del]
    split
    ·rfl
    ·exact f k hk) _⟩
   ·unfold oAppend
    simp only[hts,hk,hes,hz0,ht2,hk2,srcLen,hsrc1,appendAt,hble,hby,hold,hgrow]
    rw[hz]
   ·rcases List.mem_append.1 he with he|he
    ·exact h4 e he
    ·rw[List.mem_singleton]at he
     rw[he];exact hel
   ·have hki:i≠k:=λe=>hne.elim h5 λhne=>hne _ _ _ (by rw[e])
    rw[Heap.get_new,if_neg (by show ¬h.next=k;omega),Heap.get_del,if_neg hki]
 obtain⟨v',h',k1,k2,k3,k4,k5,k6,k7⟩:=key
 refine W.op hgd (v:=v') (h1:=h') ?_ (w v' h' k2 k3 k4 k5 k6 k7)
 unfold opAny
 rw[hop]
 simp only[hb]
 show builtinV E h .append c.argTypes.toList (c.args.toList.map (cvOf E.globs tm))=_
 rw[hty,ha]
 exact k1
end
end Go.CM

noncomputable section
namespace Go.CM
class Rp (α:Type) where
 z:Nat
 R:Heap->List CV->α->Prop
 ext:∀{h h':Heap} {cs:List CV} {d:α},Ext h h'->R h cs d->R h' cs d
 len:∀{h:Heap} {cs:List CV} {d:α},R h cs d->cs.length=z
def Sl {α:Type} [Rp α] (h:Heap) (v:CV) (l:List α):Prop:=
 ∃css,SlG h (Rp.z α) v css/\css.length=l.length/\∀(j:Nat) (cs:List CV) (d:α),css[j]? =some cs->l[j]? =some d->Rp.R h cs d
section
variable {α:Type} [Rp α] {h h' H:Heap} {v:CV} {l:List α}
theorem Sl.ext (s:Sl h v l) (x:Ext h h'):Sl h' v l:=by
 obtain⟨css,h1,h2,h3⟩:=s
 exact⟨css,h1.ext x,h2,λj cs d hc hd=>Rp.ext x (h3 j cs d hc hd)⟩
theorem Sl.lenOf (s:Sl h v l):LenOf v l.length:=by
 obtain⟨css,h1,h2,h3⟩:=s
 rw[<-h2];exact h1.lenOf
theorem Sl.cells (s:Sl h v l):v.cells=some [v]:=by
 obtain⟨css,s,_⟩:=s
 rcases s with⟨rfl,_⟩|⟨rfl,_⟩|⟨i,o,c,x,cs,ro,rfl,_⟩<;>rfl
theorem Sl.nil:Sl h (.slice none 0 0 0) ([]:List α):=⟨[],.inl ⟨rfl,rfl⟩,rfl,λj cs d hc=>by simp at hc⟩
def LocE (h:Heap) (i off:Nat) (e:List CV):Prop:=∃cs ro,h.get i=some (.cells cs ro)/\i<h.next/\cut cs off e.length=some e
theorem LocE.ext {i off:Nat} {e:List CV} (L:LocE h i off e) (x:Ext h h'):LocE h' i off e:=by
 obtain⟨cs,ro,h1,h2,h3⟩:=L
 exact⟨cs,ro,(x.old i h2).trans h1,Nat.lt_of_lt_of_le h2 x.next,h3⟩
theorem Sl.at (s:Sl h v l) {j:Nat} (hj:j<l.length):∃i o c x e,v= .slice (some (i,o)) l.length c x/\LocE h i (o+j*Rp.z α) e/\Rp.R h e l[j]:=by
 obtain⟨css,h1,h2,h3⟩:=s
 obtain⟨i,o,c,x,cs,ro,g1,g2,g3,g4⟩:=h1.at (j:=j) (by omega)
 obtain⟨e,he⟩:∃e,css[j]? =some e:=⟨_,List.getElem?_eq_getElem (by omega)⟩
 obtain⟨k1,k2⟩:=g4 j e he
 exact⟨i,o,c,x,e,by rw[g1,h2],⟨cs,ro,g3,g2,by rw[k1];exact k2⟩,h3 j e l[j] he (List.getElem?_eq_getElem hj)⟩
theorem Sl.of_map {f:α->List CV} (hf:∀h cs (d:α),Rp.R h cs d↔cs=f d) (s:SlG h (Rp.z α) v (l.map f)):Sl h v l:=by
 refine⟨l.map f,s,List.length_map _,λj cs d hc hd=> ?_⟩
 rw[List.getElem?_map,hd]at hc
 exact(hf h cs d).2 (by simpa using hc.symm)
theorem Sl.to_map {f:α->List CV} (hf:∀h cs (d:α),Rp.R h cs d↔cs=f d) (s:Sl h v l):SlG h (Rp.z α) v (l.map f):=by
 obtain⟨css,h1,h2,h3⟩:=s
 have:css=l.map f:=by
  apply List.ext_getElem?
  intro j
  rw[List.getElem?_map]
  by_cases hj:j<l.length
  ·obtain⟨d,hd⟩:∃d,l[j]? =some d:=⟨_,List.getElem?_eq_getElem hj⟩
   obtain⟨c,hc⟩:∃c,css[j]? =some c:=⟨_,List.getElem?_eq_getElem (by omega)⟩
   rw[hd,hc,(hf h c d).1 (h3 j c d hc hd)];rfl
  ·rw[List.getElem?_eq_none (by omega),List.getElem?_eq_none (by omega)];rfl
 rw[<-this];exact h1
end
abbrev Str:=List UInt8
instance:Rp Int:=⟨1,λ_ cs n=>cs=[.int .i64 n],λ_ h=>h,λh=>by rw[h];rfl⟩
instance:Rp Bool:=⟨1,λ_ cs b=>cs=[.bool b],λ_ h=>h,λh=>by rw[h];rfl⟩
instance {α:Type} [Rp α]:Rp (List α):=⟨1,λh cs l=>∃v,cs=[v]/\Sl h v l,λx ⟨v,e,s⟩=>⟨v,e,s.ext x⟩,λ⟨v,e,_⟩=>by rw[e];rfl⟩
instance:Rp Str:=⟨1,λ_ cs s=>cs=[.str s],λ_ h=>h,λh=>by rw[h];rfl⟩
section
variable {E:Env} {tm:Tm} {H h:Heap} {Q:R->Prop} {all rest:List Oper} {o:Oper} {bs:List Bits} {recs:List Rec} {i n0:Nat} {idx calls:List Nat} {a0 a1 a2 a3 a4 a5 a6 a7 a8 a9 a10 a11 a12 a13 a14 a15:NA} {a16:Tree CV}
theorem W.ldk {t:TypeId} {x:Operand} {id off k:Nat} {e:List CV} {s:TyS} {v:CV} (L:LocE H id off e) (X:Ext H h) (hgd:guardOn all tm o=some true) (hop:o.op= .load t x) (hx:cvOf E.globs tm x= .ptr (some (id,off+k))) (hs:E.ty t=some s) (h1:s.size=1) (h2:s.agg=false) (he:e[k]? =some v)
  (ht:putTmp tm o.dst v=(Tm.mk a0 a1 a2 a3 a4 a5 a6 a7 a8 a9 a10 a11 a12 a13 a14 a15 a16)) (w:W E (.ops all rest) (Tm.mk a0 a1 a2 a3 a4 a5 a6 a7 a8 a9 a10 a11 a12 a13 a14 a15 a16) h Q):W E (.ops all (o::rest)) tm h Q:=by
 obtain⟨cs,ro,g1,g2,g3⟩:=L
 have hn:=cut_nth g3 he
 refine W.ld hgd hop hx ((X.old id g2).trans g1) hs (v:=v) ?_ (by rw[ht];exact w)
 rw[h1,h2]
 exact hn
theorem W.ld0 {t:TypeId} {x:Operand} {id off:Nat} {e:List CV} {s:TyS} {v:CV} (L:LocE H id off e) (X:Ext H h) (hgd:guardOn all tm o=some true) (hop:o.op= .load t x) (hx:cvOf E.globs tm x= .ptr (some (id,off))) (hs:E.ty t=some s) (h1:s.size=1) (h2:s.agg=false) (he:e[0]? =some v)
  (ht:putTmp tm o.dst v=(Tm.mk a0 a1 a2 a3 a4 a5 a6 a7 a8 a9 a10 a11 a12 a13 a14 a15 a16)) (w:W E (.ops all rest) (Tm.mk a0 a1 a2 a3 a4 a5 a6 a7 a8 a9 a10 a11 a12 a13 a14 a15 a16) h Q):W E (.ops all (o::rest)) tm h Q:=by
 obtain⟨cs,ro,g1,g2,g3⟩:=L
 have hn:=cut_nth g3 he
 refine W.ld hgd hop hx ((X.old id g2).trans g1) hs (v:=v) ?_ (by rw[ht];exact w)
 rw[h1,h2]
 exact hn
theorem W.ldp {t:TypeId} {x:Operand} {id off k:Nat} {e e2:List CV} {s:TyS} (L:LocE H id off e) (X:Ext H h) (hgd:guardOn all tm o=some true) (hop:o.op= .load t x) (hx:cvOf E.globs tm x= .ptr (some (id,off+k))) (hs:E.ty t=some s) (h2:s.agg=true) (he:cut e k s.size=some e2)
  (ht:putTmp tm o.dst (.agg e2)=(Tm.mk a0 a1 a2 a3 a4 a5 a6 a7 a8 a9 a10 a11 a12 a13 a14 a15 a16)) (w:W E (.ops all rest) (Tm.mk a0 a1 a2 a3 a4 a5 a6 a7 a8 a9 a10 a11 a12 a13 a14 a15 a16) h Q):W E (.ops all (o::rest)) tm h Q:=by
 obtain⟨cs,ro,g1,g2,g3⟩:=L
 have hn:cut cs (off+k) s.size=some e2:=by
  rw[cut_eq]at g3 he ⊢
  split at g3
  ·rename_i l1
   have g3:=Option.some.inj g3
   split at he
   ·rename_i l2
    have he:=Option.some.inj he
    rw[if_pos (by omega),<-he,<-g3]
    congr 1
    rw[List.drop_take,List.take_take,List.drop_drop]
    congr 1
    omega
   ·cases he
  ·cases g3
 refine W.ld hgd hop hx ((X.old id g2).trans g1) hs (v:= .agg e2) ?_ (by rw[ht];exact w)
 rw[h2]
 show(cut cs (off+k) s.size).map CV.agg=_
 rw[hn];rfl
theorem W.ldw {t:TypeId} {x:Operand} {id off:Nat} {e:List CV} {s:TyS} (L:LocE H id off e) (X:Ext H h) (hgd:guardOn all tm o=some true) (hop:o.op= .load t x) (hx:cvOf E.globs tm x= .ptr (some (id,off))) (hs:E.ty t=some s) (h1:e.length=s.size) (h2:s.agg=true)
  (ht:putTmp tm o.dst (.agg e)=(Tm.mk a0 a1 a2 a3 a4 a5 a6 a7 a8 a9 a10 a11 a12 a13 a14 a15 a16)) (w:W E (.ops all rest) (Tm.mk a0 a1 a2 a3 a4 a5 a6 a7 a8 a9 a10 a11 a12 a13 a14 a15 a16) h Q):W E (.ops all (o::rest)) tm h Q:=by
 obtain⟨cs,ro,g1,g2,g3⟩:=L
 refine W.ld hgd hop hx ((X.old id g2).trans g1) hs (v:= .agg e) ?_ (by rw[ht];exact w)
 rw[<-h1,h2]
 show(cut cs off e.length).map CV.agg=_
 rw[g3];rfl
theorem W.ixR {α:Type} [Rp α] {l:List α} {v:CV} {t:TypeId} {x y:Operand} {s:TyS} {et j:Nat} {kk:IntKind} (sl:Sl H v l) (hj:j<l.length) (hgd:guardOn all tm o=some true) (hop:o.op= .indexAddr t x y) (hx:cvOf E.globs tm x=v) (hy:cvOf E.globs tm y= .int kk (j:Int)) (hs:E.ty t=some s) (hk:s.kind= .slice et) (hz:sizeOf? E et=some (Rp.z α))
  (w:∀i off e,LocE H i off e->Rp.R H e l[j]->W E (.ops all rest) (putTmp tm o.dst (.ptr (some (i,off)))) h Q):W E (.ops all (o::rest)) tm h Q:=by
 obtain⟨i,off,c,x',e,rfl,L,r⟩:=sl.at hj
 exact W.ix hgd hop hx hy hs hk hz (place_of rfl hj) (w _ _ e L r)
end
theorem op_seq {α:Type} {a b:Str} {h:α}:some (CV.bool (bytesEq a b),h)=some (CV.bool (decide (a=b)),h):=by rw[bytesEq_eq]
theorem op_sne {α:Type} {a b:Str} {h:α}:some (CV.bool (!bytesEq a b),h)=some (CV.bool (decide (a≠b)),h):=by
 rw[bytesEq_eq]
 by_cases c:a=b
 ·rw[decide_eq_true c,decide_eq_false (λh=>h c)];rfl
 ·rw[decide_eq_false c,decide_eq_true c];rfl
end Go.CM
