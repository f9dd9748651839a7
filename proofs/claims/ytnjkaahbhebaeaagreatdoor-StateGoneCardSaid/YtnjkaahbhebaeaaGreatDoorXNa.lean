/- Windows, in plain words: rows of windows that are good; the least tick from which on so many are in none; the least one that is in one. No condition, no program. -/
import Derived.KernelRfl
import Derived.Test.YtnjkaahbhebaeaaGreatDoorCmZ
set_option linter.unusedVariables false
set_option linter.unusedSimpArgs false
namespace Go.CM.Wins
def next:List (Int×Int)->Int->Option Int
 |[],_=>none
 |w::r,x=>if w.2<=x then next r x else some (if x<=w.1 then w.1 else x)
end Go.CM.Wins

noncomputable section
namespace Go.CM
def LenOf (v:CV) (n:Nat):Prop:=(v= .empty/\n=0)\/∃p c x,v= .slice p n c x
def SlG (h:Heap) (z:Nat) (v:CV) (l:List (List CV)):Prop:=
 (v= .slice none 0 0 0/\l=[])\/(v= .empty/\l=[])\/∃i o c x cs ro,v= .slice (some (i,o)) l.length c x/\i<h.next/\h.get i=some (.cells cs ro)/\(∀j e,l[j]? =some e->e.length=z/\cut cs (o+j*z) z=some e)/\l.length<=c/\(x=0\/x=z)
theorem SlG.ext {h h':Heap} (e:Ext h h') {z:Nat} {v:CV} {l:List (List CV)} (s:SlG h z v l):SlG h' z v l:=by
 rcases s with s|s|⟨i,o,c,x,cs,ro,h1,h2,h3,h4⟩
 ·exact .inl s
 ·exact .inr (.inl s)
 ·exact .inr (.inr ⟨i,o,c,x,cs,ro,h1,Nat.lt_of_lt_of_le h2 e.next,(e.old i h2).trans h3,h4⟩)
theorem SlG.lenOf {h:Heap} {z:Nat} {v:CV} {l:List (List CV)} (s:SlG h z v l):LenOf v l.length:=by
 rcases s with⟨rfl,rfl⟩|⟨rfl,rfl⟩|⟨i,o,c,x,cs,ro,h1,_⟩
 ·exact .inr ⟨none,0,0,rfl⟩
 ·exact .inl ⟨rfl,rfl⟩
 ·exact .inr ⟨_,c,x,h1⟩
theorem SlG.at {h:Heap} {z:Nat} {v:CV} {l:List (List CV)} (s:SlG h z v l) {j:Nat} (hj:j<l.length):∃i o c x cs ro,v= .slice (some (i,o)) l.length c x/\i<h.next/\h.get i=some (.cells cs ro)/\∀j e,l[j]? =some e->e.length=z/\cut cs (o+j*z) z=some e:=by
 rcases s with⟨_,rfl⟩|⟨_,rfl⟩|s
 ·simp at hj
 ·simp at hj
 ·obtain⟨i,o,c,x,cs,ro,h1,h2,h3,h4,_⟩:=s
  exact⟨i,o,c,x,cs,ro,h1,h2,h3,h4⟩
theorem cut_nth {cs e:List CV} {a z k:Nat} {v:CV} (h:cut cs a z=some e) (hk:e[k]? =some v):nth cs (a+k)=some v:=by
 rw[cut_eq]at h;split at h
 ·cases h
  rw[List.getElem?_take]at hk;split at hk
  ·rw[nth_eq]
   rwa[List.getElem?_drop]at hk
  ·cases hk
 ·cases h
theorem flat_cut {z:Nat}:∀{vss:List (List CV)} {j:Nat} {e:List CV},(∀vs∈vss,vs.length=z)->vss[j]? =some e->cut vss.flatten (0+j*z) z=some e
 |[],j,e,_,h=>by simp at h
 |v::vss,0,e,hz,h=>by
  simp at h;subst h;rw[cut_eq,List.flatten_cons];have:=hz v (by simp);rw[if_pos (by rw[List.length_append];omega)];simp[this]
 |v::vss,j+1,e,hz,h=>by
  have ih:=flat_cut (vss:=vss) (j:=j) (λx hx=>hz x (List.mem_cons_of_mem _ hx)) (by simpa using h);rw[cut_eq]at ih ⊢;have hv:=hz v (by simp);have e1:0+(j+1)*z=z+j*z:=by rw[Nat.succ_mul];omega
  have e2:0+j*z=j*z:=by omega
  rw[e2]at ih;rw[e1,List.flatten_cons];split at ih
  ·rename_i hle
   rw[if_pos (by rw[List.length_append];omega),<-ih]
   congr 2
   rw[List.drop_append,List.drop_of_length_le (by omega),List.nil_append,hv]
   congr 1
   omega
  ·cases ih
theorem Rep.sl {h:Heap} {e:PT} {v:CV} {ds:List Dat} (r:Rep h (.slice e) [v] (.row ds)):∃vss:List (List CV),SlG h e.size v vss/\vss.length=ds.length/\∀(j:Nat) (vs:List CV) (d:Dat),vss[j]? =some vs->ds[j]? =some d->Rep h e vs d:=by
 cases r with
 |nil=>exact⟨[],.inl ⟨rfl,rfl⟩,rfl,λj vs d h=>by simp at h⟩
 |emp=>exact⟨[],.inr (.inl ⟨rfl,rfl⟩),rfl,λj vs d h=>by simp at h⟩
 |row _ i c vss ds hi hg hl h0 hc hm hz hr=>
  exact⟨vss,.inr (.inr ⟨i,0,c,0,_,true,rfl,hi,hg,λj e he=>⟨hz e (List.mem_of_getElem? he),flat_cut hz he⟩,hc,.inl rfl⟩),hl.symm,hr⟩
section
variable {E:Env} {tm:Tm} {H h:Heap} {Q:R->Prop} {all rest:List Oper} {o:Oper} {bs:List Bits} {recs:List Rec} {n0 i:Nat} {idx calls:List Nat}
theorem W.ln {c:Call} {t e:TypeId} {s:TyS} {v:CV} {n:Nat} {a0 a1 a2 a3 a4 a5 a6 a7 a8 a9 a10 a11 a12 a13 a14 a15:NA} {a16:Tree CV} (hl:LenOf v n)
  (hgd:guardOn all tm o=some true) (hop:o.op= .call c) (hb:isBuiltin c.callee=some .len) (hty:c.argTypes.toList=[t]) (ha:c.args.toList.map (cvOf E.globs tm)=[v]) (hts:E.ty t=some s) (hk:s.kind= .slice e)
  (ht:putTmp tm o.dst (.int .i64 (Int.ofNat n))=(Tm.mk a0 a1 a2 a3 a4 a5 a6 a7 a8 a9 a10 a11 a12 a13 a14 a15 a16)) (w:W E (.ops all rest) (Tm.mk a0 a1 a2 a3 a4 a5 a6 a7 a8 a9 a10 a11 a12 a13 a14 a15 a16) h Q):W E (.ops all (o::rest)) tm h Q:=by
 refine W.op hgd (v:= .int .i64 (Int.ofNat n)) (h1:=h) ?_ (by rw[ht];exact w);unfold opAny;rw[hop];simp only[hb];show builtinV E h .len c.argTypes.toList (c.args.toList.map (cvOf E.globs tm))=_;rw[hty,ha];rcases hl with⟨rfl,rfl⟩|⟨p,c',x,rfl⟩
 ·simp[builtinV,lenV,hts,hk];rfl
 ·simp[builtinV,lenV,hts,hk];rfl
theorem all1_each {p:Nat->Bool}:∀{l:List Nat},(∀k∈l,p k=true)->all1 l p=true
 |[],_=>rfl
 |k::l,h=>by
  show(match p k with|true=>all1 l p|false=>false)=true
  rw[h k (by simp)];exact all1_each λx hx=>h x (List.mem_cons_of_mem _ hx)
theorem mem_false {k:Nat}:∀{l:List Nat},(∀x∈l,x≠k)->mem k l=false
 |[],_=>rfl
 |x::l,h=>by
  unfold mem
  have:Nat.beq k x=false:=by
   cases hb:Nat.beq k x with
   |true=>exact absurd (Nat.eq_of_beq_eq_true hb).symm (h x (by simp))
   |false=>rfl
  rw[this];exact mem_false λy hy=>h y (List.mem_cons_of_mem _ hy)
end
end Go.CM

noncomputable section
namespace Go.CM
section
variable {E:Env} {tm:Tm} {H h:Heap} {Q:R->Prop} {all rest:List Oper} {o:Oper} {bs:List Bits} {recs:List Rec} {n0 i:Nat} {idx calls:List Nat}
theorem upto_nat {k n:Nat} (h:k<=n):upto (k:Int) n=some k:=by
 show(match Nat.ble k n with|true=>some k|false=>none)=some k
 rw[Nat.ble_eq_true_of_le h]
theorem slice_from {z:Nat} {v:CV} {l:List (List CV)} {k:Nat} {kk:IntKind} {s:TyS} {e:TypeId} (sl:SlG h z v l) (hk:k<=l.length) (hkd:s.kind= .slice e) (hz:sizeOf? E e=some z):
  ∃v',oSlice E (some s) v (some (.int kk (k:Int))) none none=some v'/\SlG h z v' (l.drop k):=by
 rcases sl with⟨rfl,rfl⟩|⟨rfl,rfl⟩|⟨i,o,c,x,cs,ro,rfl,h2,h3,h4,h5,h6⟩
 ·have:k=0:=by simpa using hk
  subst this
  exact⟨.slice none 0 0 0,by simp only[oSlice,hkd,hz,hiOf,loOf];rfl,.inl ⟨rfl,rfl⟩⟩
 ·have:k=0:=by simpa using hk
  subst this
  exact⟨.empty,by simp only[oSlice,hkd,hz,hiOf,loOf];rfl,.inr (.inl ⟨rfl,rfl⟩)⟩
 ·have hu:=upto_nat hk
  by_cases hck:c=k
  ·subst hck
   have hl:l.length=c:=by omega
   have hd:l.drop c=[]:=List.drop_of_length_le (by omega)
   rw[hd]
   cases x with
   |zero=>
    refine⟨.slice (some (i,o)) (l.length-c) (c-c) 0,by simp[oSlice,hkd,hz,hiOf,loOf,hu],.inr (.inr ⟨i,o,c-c,0,cs,ro,?_,h2,h3,λj e he=>by simp at he,Nat.zero_le _,.inl rfl⟩)⟩
    rw[hl,Nat.sub_self];rfl
   |succ y=>
    cases c with
    |zero=>exact⟨.slice (some (i,o)) l.length 0 (y+1),by simp only[oSlice,hkd,hz,hiOf,loOf,hu,Nat.beq_refl],.inr (.inr ⟨i,o,0,y+1,cs,ro,by rw[hl];rfl,h2,h3,λj e he=>by simp at he,Nat.zero_le _,h6⟩)⟩
    |succ c=>exact⟨.empty,by simp only[oSlice,hkd,hz,hiOf,loOf,hu,Nat.beq_refl],.inr (.inl ⟨rfl,rfl⟩)⟩
  ·have hb:Nat.beq c k=false:=by
     cases hbb:Nat.beq c k with
     |true=>exact absurd (Nat.eq_of_beq_eq_true hbb) hck
     |false=>rfl
   have hx:(Nat.beq x 0||Nat.beq x z)=true:=by
    rcases h6 with rfl|rfl
    ·rfl
    ·rw[Nat.beq_refl,Bool.or_true]
   refine⟨.slice (some (i,o+k*z)) (l.length-k) (c-k) x,by simp only[oSlice,hkd,hz,hiOf,loOf,hu,hb,hx,sliceAtO],.inr (.inr ⟨i,o+k*z,c-k,x,cs,ro,by rw[List.length_drop],h2,h3,λj e he=> ?_,by rw[List.length_drop];omega,h6⟩)⟩
   rw[List.getElem?_drop]at he
   obtain⟨g1,g2⟩:=h4 _ _ he
   refine⟨g1,?_⟩
   rw[<-g2]
   congr 1
   rw[Nat.add_mul];omega
theorem W.slc {z:Nat} {v:CV} {l:List (List CV)} {k:Nat} {kk:IntKind} {t e:TypeId} {x y:Operand} {s:TyS} (sl:SlG h z v l) (hk:k<=l.length) (hgd:guardOn all tm o=some true) (hop:o.op= .slice t x (some y) none none) (hx:cvOf E.globs tm x=v) (hy:cvOf E.globs tm y= .int kk (k:Int)) (hs:E.ty t=some s) (hkd:s.kind= .slice e) (hz:sizeOf? E e=some z)
  (w:∀v',SlG h z v' (l.drop k)->W E (.ops all rest) (putTmp tm o.dst v') h Q):W E (.ops all (o::rest)) tm h Q:=by
 obtain⟨v',h1,h2⟩:=slice_from (E:=E) (kk:=kk) sl hk hkd hz
 refine W.op hgd (v:=v') (h1:=h) ?_ (w v' h2)
 unfold opAny
 rw[hop]
 show withH h (oSlice E (E.ty t) (cvOf E.globs tm x) (some (cvOf E.globs tm y)) none none)=_
 rw[hs,hx,hy,h1];rfl
end
end Go.CM

noncomputable section
namespace Go.CM
theorem cut_join {cs e f:List CV} {o z m:Nat} (h1:cut cs o z=some e) (h2:cut cs (o+z) m=some f):cut cs o (z+m)=some (e++f):=by
 rw[cut_eq]at h1 h2 ⊢;split at h1
 ·rename_i l1
  cases h1;split at h2
  ·rename_i l2
   cases h2;rw[if_pos (by omega)]
   congr 1
   rw[List.take_add,List.drop_drop]
  ·cases h2
 ·cases h1
theorem cut_all {cs:List CV} {z:Nat}:∀{l:List (List CV)} {o:Nat},l≠[]->(∀j e,l[j]? =some e->e.length=z/\cut cs (o+j*z) z=some e)->cut cs o (l.length*z)=some l.flatten
 |[],_,h,_=>absurd rfl h
 |[e],o,_,h=>by
  have:=(h 0 e rfl).2;rw[Nat.zero_mul,Nat.add_zero]at this;simpa using this
 |e::f::l,o,_,h=>by
  have h0:=(h 0 e rfl).2;rw[Nat.zero_mul,Nat.add_zero]at h0
  have ih:=cut_all (cs:=cs) (z:=z) (l:=f::l) (o:=o+z) (by simp) λj g hg=>by
   have:=h (j+1) g (by simpa using hg);refine⟨this.1,?_⟩;rw[<-this.2]
   congr 1
   rw[Nat.succ_mul];omega
  have:=cut_join h0 ih;rw[List.flatten_cons,<-this]
  congr 1
  rw[List.length_cons,Nat.succ_mul];omega
def OwnG (h:Heap) (lo z:Nat) (v:CV) (l:List (List CV)):Prop:=
 ((v= .slice none 0 0 0\/∃i,v= .slice (some (i,0)) 0 0 0)/\l=[])\/∃i,v= .slice (some (i,0)) l.length l.length z/\lo<=i/\i<h.next/\h.get i=some (.cells l.flatten false)/\(∀e∈l,e.length=z)/\l≠[]
theorem flat_len {z:Nat}:∀{l:List (List CV)},(∀e∈l,e.length=z)->l.flatten.length=l.length*z
 |[],_=>by simp
 |e::l,h=>by
  rw[List.flatten_cons,List.length_append,h e (by simp),flat_len λx hx=>h x (List.mem_cons_of_mem _ hx),List.length_cons,Nat.succ_mul];omega
section
variable {E:Env} {tm:Tm} {h:Heap} {Q:R->Prop} {all rest:List Oper} {o:Oper}
theorem W.ap1 {c:Call} {t t2 e:TypeId} {ts es t2s:TyS} {s:CV} {z lo j cc xx:Nat} {ro:Bool} {l:List (List CV)} {el:List CV} (so:OwnG h lo z s l) (hlo:lo<=h.next) (hj:h.get j=some (.cells el ro)) (hel:el.length=z)
  (hgd:guardOn all tm o=some true) (hop:o.op= .call c) (hb:isBuiltin c.callee=some .append) (hty:c.argTypes.toList=[t,t2]) (ha:c.args.toList.map (cvOf E.globs tm)=[s,.slice (some (j,0)) 1 cc xx])
  (hts:E.ty t=some ts) (hk:ts.kind= .slice e) (hes:E.ty e=some es) (hz:es.size=z) (hz0:(Nat.beq es.size 0||Nat.beq es.bytes 0)=false) (ht2:E.ty t2=some t2s) (hk2:t2s.kind= .slice e) (hm:(l.length+1)*es.bytes<=70368744177664)
  (w:∀v' h',h'.next=h.next+1->OwnG h' lo z v' (l++[el])->(∀k,k<h.next->(l=[]\/∀n c x,s≠ .slice (some (k,0)) n c x)->h'.get k=h.get k)->v'= .slice (some (h.next,0)) (l.length+1) (l.length+1) z->h'.get h.next=some (.cells (l++[el]).flatten false)->(Fresh h->Fresh h')->W E (.ops all rest) (putTmp tm o.dst v') h' Q):W E (.ops all (o::rest)) tm h Q:=by
 have hzpos:0<z:=by
  rw[<-hz];cases hs:es.size with
  |zero=>rw[hs]at hz0;cases hz0
  |succ n=>omega
 have hsrc1:srcCells h es.size 1 (.slice (some (j,0)) 1 cc xx)=some el:=by
  show(match h.get j with|some (.cells cs _)=>cut cs 0 (1*es.size)|_=>none)=_
  rw[hj];show cut el 0 (1*es.size)=_;rw[cut_eq,if_pos (by omega),hz,Nat.one_mul,List.drop_zero,List.take_of_length_le (by omega)]
 have key:∃v' h',oAppend E h (E.ty t) (E.ty t2) s (.slice (some (j,0)) 1 cc xx)=some (v',h')/\h'.next=h.next+1/\OwnG h' lo z v' (l++[el])/\(∀k,k<h.next->(l=[]\/∀n c x,s≠ .slice (some (k,0)) n c x)->h'.get k=h.get k)/\v'= .slice (some (h.next,0)) (l.length+1) (l.length+1) z/\h'.get h.next=some (.cells (l++[el]).flatten false)/\(Fresh h->Fresh h'):=by
  rcases so with⟨hs,rfl⟩|⟨i,rfl,h1,h2,h3,h4,h5⟩
  ·have hby:Nat.ble ((0+1)*es.bytes) 70368744177664=true:=Nat.ble_eq_true_of_le (by simpa using hm)
   have hble:Nat.ble (0+1) 0=false:=rfl;refine⟨.slice (some (h.next,0)) 1 1 z,h.new (.cells el false),?_,rfl,.inr ⟨h.next,rfl,hlo,Nat.lt_succ_self _,by simpa using new_same h (.cells el false),λe he=>by simp at he;rw[he];exact hel,by simp⟩,λk hk _=>by rw[Heap.get_new,if_neg (by omega)],rfl,by simpa using new_same h (.cells el false),λf=>f.new _⟩;rcases hs with rfl|⟨i0,rfl⟩
   ·unfold oAppend
    simp only[hts,hk,hes,hz0,ht2,hk2,srcLen,hsrc1,appendAt,hble,hby];simp only[srcCells,growTo,List.nil_append,Nat.zero_add,hz]
   ·unfold oAppend
    simp only[hts,hk,hes,hz0,ht2,hk2,srcLen,hsrc1,appendAt,hble,hby];simp only[srcCells,growTo,List.nil_append,Nat.zero_add,hz]
  ·have hpos:0<l.length:=List.length_pos_iff.2 h5
   obtain⟨n,hn⟩:∃n,l.length=n+1:=⟨l.length-1,by omega⟩;have hby:Nat.ble ((l.length+1)*es.bytes) 70368744177664=true:=Nat.ble_eq_true_of_le hm
   have hble:Nat.ble (l.length+1) l.length=false:=by
    cases hh:Nat.ble (l.length+1) l.length with
    |true=>have:=Nat.le_of_ble_eq_true hh;omega
    |false=>rfl
   have hold:srcCells h es.size l.length (.slice (some (i,0)) l.length l.length z)=some l.flatten:=by
    rw[hz,hn];show(match h.get i with|some (.cells cs _)=>cut cs 0 ((n+1)*z)|_=>none)=_
    rw[h3,<-hn];show cut l.flatten 0 (l.length*z)=_;have hfl:=flat_len h4;rw[cut_eq,if_pos (by omega),List.drop_zero,List.take_of_length_le (by omega)]
   obtain⟨zz,hzz⟩:∃zz,z=zz+1:=⟨z-1,by omega⟩
   have hgrow:growTo h (some (i,0)) z es.size (l.length+1) (l.flatten++el)=some (.slice (some (h.next,0)) (l.length+1) (l.length+1) es.size,(h.del i).new (.cells (l.flatten++el) false)):=by
    have hbq:Nat.beq (zz+1) (zz+1)=true:=Nat.beq_refl _;rw[hz,hzz];unfold growTo;simp only[hbq,h3]
   refine⟨.slice (some (h.next,0)) (l.length+1) (l.length+1) z,(h.del i).new (.cells (l.flatten++el) false),?_,rfl,.inr ⟨h.next,by simp,hlo,Nat.lt_succ_self _,by rw[show(l++[el]).flatten=l.flatten++el by simp];exact new_same (h.del i) (.cells (l.flatten++el) false),λe he=> ?_,by simp⟩,λk hk hne=> ?_,rfl,by rw[show(l++[el]).flatten=l.flatten++el by simp];exact new_same (h.del i) (.cells (l.flatten++el) false),λf=>Fresh.new (λk hk=>by
    have hk:h.next<=k:=hk;rw[Heap.get_del];split
    ·rfl
    ·exact f k hk) _⟩
   ·unfold oAppend
    simp only[hts,hk,hes,hz0,ht2,hk2,srcLen,hsrc1,appendAt,hble,hby,hold,hgrow];rw[hz]
   ·rcases List.mem_append.1 he with he|he
    ·exact h4 e he
    ·rw[List.mem_singleton]at he
     rw[he];exact hel
   ·have hki:i≠k:=λe=>hne.elim h5 λhne=>hne _ _ _ (by rw[e])
    rw[Heap.get_new,if_neg (by show ¬h.next=k;omega),Heap.get_del,if_neg hki]
 obtain⟨v',h',k1,k2,k3,k4,k5,k6,k7⟩:=key;refine W.op hgd (v:=v') (h1:=h') ?_ (w v' h' k2 k3 k4 k5 k6 k7);unfold opAny;rw[hop];simp only[hb];show builtinV E h .append c.argTypes.toList (c.args.toList.map (cvOf E.globs tm))=_;rw[hty,ha];exact k1
end
end Go.CM

namespace Go.CM.Wins
def joinP:Int×Int->List (Int×Int)->List (Int×Int)
 |p,[]=>[p]
 |p,w::r=>if w.1<=p.2 then joinP (p.1,if w.2<=p.2 then p.2 else w.2) r else p::joinP w r
def join:List (Int×Int)->List (Int×Int)
 |[]=>[]
 |w::r=>joinP w r
end Go.CM.Wins

noncomputable section
namespace Go.CM
class Rp (α:Type) where
 z:Nat
 R:Heap->List CV->α->Prop
 ext:∀{h h':Heap} {cs:List CV} {d:α},Ext h h'->R h cs d->R h' cs d
 len:∀{h:Heap} {cs:List CV} {d:α},R h cs d->cs.length=z
def Sl {α:Type} [Rp α] (h:Heap) (v:CV) (l:List α):Prop:=
 ∃css,SlG h (Rp.z α) v css/\css.length=l.length/\∀(j:Nat) (cs:List CV) (d:α),css[j]? =some cs->l[j]? =some d->Rp.R h cs d
section
variable {α:Type} [Rp α] {h h' H:Heap} {v:CV} {l:List α}
theorem Sl.ext (s:Sl h v l) (x:Ext h h'):Sl h' v l:=by
 obtain⟨css,h1,h2,h3⟩:=s;exact⟨css,h1.ext x,h2,λj cs d hc hd=>Rp.ext x (h3 j cs d hc hd)⟩
theorem Sl.lenOf (s:Sl h v l):LenOf v l.length:=by
 obtain⟨css,h1,h2,h3⟩:=s;rw[<-h2];exact h1.lenOf
theorem Sl.cells (s:Sl h v l):v.cells=some [v]:=by
 obtain⟨css,s,_⟩:=s;rcases s with⟨rfl,_⟩|⟨rfl,_⟩|⟨i,o,c,x,cs,ro,rfl,_⟩<;>rfl
theorem Sl.nil:Sl h (.slice none 0 0 0) ([]:List α):=⟨[],.inl ⟨rfl,rfl⟩,rfl,λj cs d hc=>by simp at hc⟩
def LocE (h:Heap) (i off:Nat) (e:List CV):Prop:=∃cs ro,h.get i=some (.cells cs ro)/\i<h.next/\cut cs off e.length=some e
theorem LocE.ext {i off:Nat} {e:List CV} (L:LocE h i off e) (x:Ext h h'):LocE h' i off e:=by
 obtain⟨cs,ro,h1,h2,h3⟩:=L;exact⟨cs,ro,(x.old i h2).trans h1,Nat.lt_of_lt_of_le h2 x.next,h3⟩
theorem Sl.at (s:Sl h v l) {j:Nat} (hj:j<l.length):∃i o c x e,v= .slice (some (i,o)) l.length c x/\LocE h i (o+j*Rp.z α) e/\Rp.R h e l[j]:=by
 obtain⟨css,h1,h2,h3⟩:=s;obtain⟨i,o,c,x,cs,ro,g1,g2,g3,g4⟩:=h1.at (j:=j) (by omega);obtain⟨e,he⟩:∃e,css[j]? =some e:=⟨_,List.getElem?_eq_getElem (by omega)⟩;obtain⟨k1,k2⟩:=g4 j e he;exact⟨i,o,c,x,e,by rw[g1,h2],⟨cs,ro,g3,g2,by rw[k1];exact k2⟩,h3 j e l[j] he (List.getElem?_eq_getElem hj)⟩
theorem Sl.of_map {f:α->List CV} (hf:∀h cs (d:α),Rp.R h cs d↔cs=f d) (s:SlG h (Rp.z α) v (l.map f)):Sl h v l:=by
 refine⟨l.map f,s,List.length_map _,λj cs d hc hd=> ?_⟩;rw[List.getElem?_map,hd]at hc;exact(hf h cs d).2 (by simpa using hc.symm)
theorem Sl.to_map {f:α->List CV} (hf:∀h cs (d:α),Rp.R h cs d↔cs=f d) (s:Sl h v l):SlG h (Rp.z α) v (l.map f):=by
 obtain⟨css,h1,h2,h3⟩:=s
 have:css=l.map f:=by
  apply List.ext_getElem?;intro j;rw[List.getElem?_map];by_cases hj:j<l.length
  ·obtain⟨d,hd⟩:∃d,l[j]? =some d:=⟨_,List.getElem?_eq_getElem hj⟩
   obtain⟨c,hc⟩:∃c,css[j]? =some c:=⟨_,List.getElem?_eq_getElem (by omega)⟩;rw[hd,hc,(hf h c d).1 (h3 j c d hc hd)];rfl
  ·rw[List.getElem?_eq_none (by omega),List.getElem?_eq_none (by omega)];rfl
 rw[<-this];exact h1
end
abbrev Str:=List UInt8
instance:Rp Int:=⟨1,λ_ cs n=>cs=[.int .i64 n],λ_ h=>h,λh=>by rw[h];rfl⟩
instance:Rp Bool:=⟨1,λ_ cs b=>cs=[.bool b],λ_ h=>h,λh=>by rw[h];rfl⟩
instance {α:Type} [Rp α]:Rp (List α):=⟨1,λh cs l=>∃v,cs=[v]/\Sl h v l,λx ⟨v,e,s⟩=>⟨v,e,s.ext x⟩,λ⟨v,e,_⟩=>by rw[e];rfl⟩
instance:Rp Str:=⟨1,λ_ cs s=>cs=[.str s],λ_ h=>h,λh=>by rw[h];rfl⟩
section
variable {E:Env} {tm:Tm} {H h:Heap} {Q:R->Prop} {all rest:List Oper} {o:Oper} {bs:List Bits} {recs:List Rec} {i n0:Nat} {idx calls:List Nat} {a0 a1 a2 a3 a4 a5 a6 a7 a8 a9 a10 a11 a12 a13 a14 a15:NA} {a16:Tree CV}
theorem W.ldk {t:TypeId} {x:Operand} {id off k:Nat} {e:List CV} {s:TyS} {v:CV} (L:LocE H id off e) (X:Ext H h) (hgd:guardOn all tm o=some true) (hop:o.op= .load t x) (hx:cvOf E.globs tm x= .ptr (some (id,off+k))) (hs:E.ty t=some s) (h1:s.size=1) (h2:s.agg=false) (he:e[k]? =some v)
  (ht:putTmp tm o.dst v=(Tm.mk a0 a1 a2 a3 a4 a5 a6 a7 a8 a9 a10 a11 a12 a13 a14 a15 a16)) (w:W E (.ops all rest) (Tm.mk a0 a1 a2 a3 a4 a5 a6 a7 a8 a9 a10 a11 a12 a13 a14 a15 a16) h Q):W E (.ops all (o::rest)) tm h Q:=by
 obtain⟨cs,ro,g1,g2,g3⟩:=L;have hn:=cut_nth g3 he;refine W.ld hgd hop hx ((X.old id g2).trans g1) hs (v:=v) ?_ (by rw[ht];exact w);rw[h1,h2];exact hn
theorem W.ld0 {t:TypeId} {x:Operand} {id off:Nat} {e:List CV} {s:TyS} {v:CV} (L:LocE H id off e) (X:Ext H h) (hgd:guardOn all tm o=some true) (hop:o.op= .load t x) (hx:cvOf E.globs tm x= .ptr (some (id,off))) (hs:E.ty t=some s) (h1:s.size=1) (h2:s.agg=false) (he:e[0]? =some v)
  (ht:putTmp tm o.dst v=(Tm.mk a0 a1 a2 a3 a4 a5 a6 a7 a8 a9 a10 a11 a12 a13 a14 a15 a16)) (w:W E (.ops all rest) (Tm.mk a0 a1 a2 a3 a4 a5 a6 a7 a8 a9 a10 a11 a12 a13 a14 a15 a16) h Q):W E (.ops all (o::rest)) tm h Q:=by
 obtain⟨cs,ro,g1,g2,g3⟩:=L;have hn:=cut_nth g3 he;refine W.ld hgd hop hx ((X.old id g2).trans g1) hs (v:=v) ?_ (by rw[ht];exact w);rw[h1,h2];exact hn
theorem W.ldp {t:TypeId} {x:Operand} {id off k:Nat} {e e2:List CV} {s:TyS} (L:LocE H id off e) (X:Ext H h) (hgd:guardOn all tm o=some true) (hop:o.op= .load t x) (hx:cvOf E.globs tm x= .ptr (some (id,off+k))) (hs:E.ty t=some s) (h2:s.agg=true) (he:cut e k s.size=some e2)
  (ht:putTmp tm o.dst (.agg e2)=(Tm.mk a0 a1 a2 a3 a4 a5 a6 a7 a8 a9 a10 a11 a12 a13 a14 a15 a16)) (w:W E (.ops all rest) (Tm.mk a0 a1 a2 a3 a4 a5 a6 a7 a8 a9 a10 a11 a12 a13 a14 a15 a16) h Q):W E (.ops all (o::rest)) tm h Q:=by
 obtain⟨cs,ro,g1,g2,g3⟩:=L
 have hn:cut cs (off+k) s.size=some e2:=by
  rw[cut_eq]at g3 he ⊢;split at g3
  ·rename_i l1
   have g3:=Option.some.inj g3;split at he
   ·rename_i l2
    have he:=Option.some.inj he;rw[if_pos (by omega),<-he,<-g3]
    congr 1
    rw[List.drop_take,List.take_take,List.drop_drop]
    congr 1
    omega
   ·cases he
  ·cases g3
 refine W.ld hgd hop hx ((X.old id g2).trans g1) hs (v:= .agg e2) ?_ (by rw[ht];exact w);rw[h2];show(cut cs (off+k) s.size).map CV.agg=_;rw[hn];rfl
theorem W.ldw {t:TypeId} {x:Operand} {id off:Nat} {e:List CV} {s:TyS} (L:LocE H id off e) (X:Ext H h) (hgd:guardOn all tm o=some true) (hop:o.op= .load t x) (hx:cvOf E.globs tm x= .ptr (some (id,off))) (hs:E.ty t=some s) (h1:e.length=s.size) (h2:s.agg=true)
  (ht:putTmp tm o.dst (.agg e)=(Tm.mk a0 a1 a2 a3 a4 a5 a6 a7 a8 a9 a10 a11 a12 a13 a14 a15 a16)) (w:W E (.ops all rest) (Tm.mk a0 a1 a2 a3 a4 a5 a6 a7 a8 a9 a10 a11 a12 a13 a14 a15 a16) h Q):W E (.ops all (o::rest)) tm h Q:=by
 obtain⟨cs,ro,g1,g2,g3⟩:=L;refine W.ld hgd hop hx ((X.old id g2).trans g1) hs (v:= .agg e) ?_ (by rw[ht];exact w);rw[<-h1,h2];show(cut cs off e.length).map CV.agg=_;rw[g3];rfl
theorem W.ixR {α:Type} [Rp α] {l:List α} {v:CV} {t:TypeId} {x y:Operand} {s:TyS} {et j:Nat} {kk:IntKind} (sl:Sl H v l) (hj:j<l.length) (hgd:guardOn all tm o=some true) (hop:o.op= .indexAddr t x y) (hx:cvOf E.globs tm x=v) (hy:cvOf E.globs tm y= .int kk (j:Int)) (hs:E.ty t=some s) (hk:s.kind= .slice et) (hz:sizeOf? E et=some (Rp.z α))
  (w:∀i off e,LocE H i off e->Rp.R H e l[j]->W E (.ops all rest) (putTmp tm o.dst (.ptr (some (i,off)))) h Q):W E (.ops all (o::rest)) tm h Q:=by
 obtain⟨i,off,c,x',e,rfl,L,r⟩:=sl.at hj;exact W.ix hgd hop hx hy hs hk hz (place_of rfl hj) (w _ _ e L r)
end
theorem op_seq {α:Type} {a b:Str} {h:α}:some (CV.bool (bytesEq a b),h)=some (CV.bool (decide (a=b)),h):=by rw[bytesEq_eq]
theorem op_sne {α:Type} {a b:Str} {h:α}:some (CV.bool (!bytesEq a b),h)=some (CV.bool (decide (a≠b)),h):=by
 rw[bytesEq_eq];by_cases c:a=b
 ·rw[decide_eq_true c,decide_eq_false (λh=>h c)];rfl
 ·rw[decide_eq_false c,decide_eq_true c];rfl
end Go.CM

noncomputable section
namespace Go.CM
section
variable {E:Env} {tm:Tm} {H h:Heap} {Q:R->Prop} {all rest:List Oper} {o:Oper} {bs:List Bits} {recs:List Rec} {i:Nat} {idx nx:List Nat} {v:CV}
def RecX (H h:Heap) (nx:List Nat) (r:Rec):Prop:=
 (∃i fp lo,r= .op i fp false lo lo/\∀k∈fp,k<H.next/\CellsAt H k)\/(∃i lo hi,r= .op i [] false lo hi/\i∈nx/\H.next<=lo/\hi<=h.next)\/(∃i d d',r= .call i d d'/\i∈nx/\Ext H d/\Ext d d'/\d'.next<=h.next)
structure DX (H h:Heap) (idx nx:List Nat) (recs:List Rec):Prop where
 r:∀r∈recs,RecX H h nx r/\recIdx r∈idx
 x:Ext H h
 f:Fresh H
theorem DX.start (f:Fresh H):DX H H [] [] []:=⟨(λ_ h=>by cases h),Ext.refl _,f⟩
theorem RecX.more {h':Heap} {j:Nat} {r:Rec} (hr:RecX H h nx r) (hn:h.next<=h'.next):RecX H h' (j::nx) r:=by
 rcases hr with h1|⟨i,lo,hi,h1,h2,h3,h4⟩|⟨i,d,d',h1,h2,h3,h4,h5⟩
 ·exact .inl h1
 ·exact .inr (.inl ⟨i,lo,hi,h1,List.mem_cons_of_mem _ h2,h3,by omega⟩)
 ·exact .inr (.inr ⟨i,d,d',h1,List.mem_cons_of_mem _ h2,h3,h4,by omega⟩)
theorem RecX.same {h':Heap} {r:Rec} (hr:RecX H h nx r) (hn:h.next<=h'.next):RecX H h' nx r:=by
 rcases hr with h1|⟨i,lo,hi,h1,h2,h3,h4⟩|⟨i,d,d',h1,h2,h3,h4,h5⟩
 ·exact .inl h1
 ·exact .inr (.inl ⟨i,lo,hi,h1,h2,h3,by omega⟩)
 ·exact .inr (.inr ⟨i,d,d',h1,h2,h3,h4,by omega⟩)
theorem DX.hri (d:DX H h idx nx recs):∀r∈recs,recIdx r∈idx:=λr hm=>(d.r r hm).2
theorem within_out {k lo hi:Nat} (h:k<lo\/hi<=lo):within k lo hi=false:=by
 unfold within;cases h1:Nat.ble lo k with
 |false=>rfl
 |true=>
  cases h2:Nat.blt k hi with
  |false=>rfl
  |true=>
   have:=Nat.le_of_ble_eq_true h1;rw[Nat.blt_eq]at h2;omega
theorem okX_read {ahead:Bits} {fp:List Nat} (hfp:∀k∈fp,k<H.next/\CellsAt H k):∀{recs:List Rec},(∀r∈recs,RecX H h nx r)->okPairs ahead fp false [] recs=true
 |[],_=>rfl
 |r::rs,hr=>by
  unfold okPairs;have ih:=okX_read (ahead:=ahead) hfp (recs:=rs) λx hx=>hr x (List.mem_cons_of_mem _ hx)
  have:okPair fp false [] r=true:=by
   rcases hr r (by simp)with⟨i,fp',lo,rfl,_⟩|⟨i,lo,hi,rfl,_,h3,_⟩|⟨i,d,d',rfl,_,h3,h4,_⟩
   ·rw[okPair_op,all1_of λk _=>by unfold opApart;rw[within_self];rfl]
    rfl
   ·rw[okPair_op,all1_of λk hk=>by
      unfold opApart;rw[within_out (.inl (by have:=(hfp k hk).1;omega))];rfl]
    rfl
   ·rw[okPair_call,all1_of λk hk=>by
      unfold callApart;obtain⟨g1,cs,ro,g2⟩:=hfp k hk;have hn:=h3.next;rw[h4.old k (by omega),h3.old k g1,g2,blkEq_cells]]
    rfl
  rw[this];exact ih
theorem okX_new {ahead:Bits} (hf:Fresh H) (hn:H.next<=h.next):∀{recs:List Rec},(∀r∈recs,RecX H h nx r)->okPairs ahead [] false [h.next] recs=true
 |[],_=>rfl
 |r::rs,hr=>by
  unfold okPairs;have ih:=okX_new (ahead:=ahead) hf hn (recs:=rs) λx hx=>hr x (List.mem_cons_of_mem _ hx)
  have:okPair [] false [h.next] r=true:=by
   rcases hr r (by simp)with⟨i,fp',lo,rfl,h1⟩|⟨i,lo,hi,rfl,_,h3,_⟩|⟨i,d,d',rfl,_,h3,h4,h5⟩
   ·show all1 [h.next] (λk=> !mem k fp')=true
    refine all1_each λk hk=> ?_;rw[List.mem_singleton]at hk;subst hk;rw[mem_false λx hx=>by have:=(h1 x hx).1;omega];rfl
   ·rfl
   ·have g1:d.get h.next=none:=h3.fr hf _ (by have:=h4.next;omega)
    have g2:d'.get h.next=none:=h4.fr (h3.fr hf) _ h5;show all1 [h.next] (λk=>match isNo (d.get k)with|true=>isNo (d'.get k)|false=>false)=true
    refine all1_each λk hk=> ?_;rw[List.mem_singleton]at hk;subst hk;rw[g1,g2];rfl
  rw[this];exact ih
theorem hidesX {ahead:Bits} (hc:∀j∈nx,bit j ahead=true):∀{recs:List Rec},(∀r∈recs,RecX H h nx r)->hides ahead recs=some []
 |[],_=>rfl
 |r::rs,hr=>by
  unfold hides;rw[hidesX hc λx hx=>hr x (List.mem_cons_of_mem _ hx)];rcases hr r (by simp)with⟨i,fp,lo,rfl,_⟩|⟨i,lo,hi,rfl,h1,_⟩|⟨i,d,d',rfl,h1,_⟩
  ·simp only[Nat.sub_self]
   split<;>rfl
  ·have:bit (recIdx (.op i [] false lo hi)) ahead=true:=hc i h1
   simp only[this]
  ·have:bit (recIdx (.call i d d')) ahead=true:=hc i h1
   simp only[this]
theorem looksX {ahead:Bits} {d d':Heap} (hc:∀j∈nx,bit j ahead=true) (hx:Ext H d) (hd:Ext d d'):∀{recs:List Rec},(∀r∈recs,RecX H h nx r)->looks ahead d d' recs=true
 |[],_=>rfl
 |r::rs,hr=>by
  unfold looks;have ih:=looksX (ahead:=ahead) hc hx hd (recs:=rs) λx hx=>hr x (List.mem_cons_of_mem _ hx);rcases hr r (by simp)with⟨i,fp,lo,rfl,h1⟩|⟨i,lo,hi,rfl,h1,_⟩|⟨i,e,e',rfl,h1,_⟩
  ·split
   ·exact ih
   ·rw[Bool.and_eq_true]
    refine⟨all1_of λk hk=> ?_,ih⟩;obtain⟨g1,cs,ro,g2⟩:=h1 k hk;have hn:=hx.next;rw[hd.old k (by omega),hx.old k g1,g2,blkEq_cells]
  ·have:bit (recIdx (.op i [] false lo hi)) ahead=true:=hc i h1
   rw[this];exact ih
  ·have:bit (recIdx (.call i e e')) ahead=true:=hc i h1
   rw[this];exact ih
theorem W.dldZ (ds:DX H h idx nx recs) {t:TypeId} {x:Operand} {id off:Nat} {cs:List CV} {ro:Bool} {s:TyS} (hgd:guardOn all tm o=some true) (hop:o.op= .load t x) (hx:cvOf E.globs tm x= .ptr (some (id,off))) (hg:H.get id=some (.cells cs ro)) (hid:id<H.next) (hs:E.ty t=some s) (hp:part cs off s.size s.agg=some v)
  (w:∀recs' h',DX H h' (i::idx) nx recs'->Same h h'->W E (.draw bs all rest (i+1) recs') (putTmp tm o.dst v) h' Q):W E (.draw bs all (o::rest) i recs) tm h Q:=by
 have hfp:fpAny E o tm=[id]:=by
  unfold fpAny;rw[hop];show idOf (cvOf E.globs tm x)=[id];rw[hx];rfl
 have hwr:wrOf o.op=false:=by rw[hop];rfl
 have hgh:h.get id=some (.cells cs ro):=(ds.x.old id hid).trans hg;have hget:(only h [id]).get id=some (.cells cs ro):=by rw[only_get];simpa using hgh
 have ho:opAny E o tm (only h (fpAny E o tm))=some (v,only h [id]):=by
  rw[hfp];unfold opAny;rw[hop];show oLoad E t (cvOf E.globs tm x) (only h [id])=_;rw[hx];unfold oLoad CM.load loadB;simp only[hget,hs,hp,withH]
 have hsame:Same h (back h (only h [id]) ([id]++span h.next 0)):=by
  refine⟨by rw[back_next,only_next],λk=> ?_⟩;rw[back_get];split
  ·rename_i hk
   have:k=id:=by
    have hk:k∈[id]:=hk;simpa using hk
   subst this;rw[hget,hgh]
  ·rfl
 have hfc:∀k∈[id],k<H.next/\CellsAt H k:=λk hk=>by rw[List.mem_singleton]at hk;subst hk;exact⟨hid,cs,ro,hg⟩
 obtain⟨r,⟨N,e⟩,q⟩:=w (.op i [id] false h.next h.next::recs) _ ⟨λr hm=>by
  rcases List.mem_cons.1 hm with rfl|hm
  ·exact⟨.inl ⟨i,[id],h.next,rfl,hfc⟩,by simp[recIdx]⟩
  ·exact⟨(ds.r r hm).1.same (Nat.le_of_eq hsame.next.symm),List.mem_cons_of_mem _ (ds.r r hm).2⟩,ds.x.trans hsame.ext,ds.f⟩ hsame
 refine⟨r,.step ⟨N,λm hm=> ?_⟩,q⟩
 show(match guardOn all tm o with
  |some true=>dOp E (run E m) bs all rest o i recs tm h
  |some false=>run E m (.draw bs all rest (i+1) recs) (putTmp tm o.dst (.tup [])) h
  |none=> .stop)=r
 rw[hgd];show dOp E (run E m) bs all rest o i recs tm h=r;rw[dOp_any ho,hfp,hwr];have hnx:(only h [id]).next=h.next:=only_next _ _
 show(match okPairs ((nth bs i).getD Bits.nil) [id] false (span h.next ((only h [id]).next-h.next)) recs with
  |true=>run E m (.draw bs all rest (i+1) (.op i [id] false h.next (only h [id]).next::recs)) (putTmp tm o.dst v) (back h (only h [id]) ([id]++span h.next ((only h [id]).next-h.next)))
  |false=> .stop)=r
 rw[hnx,Nat.sub_self];have:okPairs ((nth bs i).getD Bits.nil) [id] false (span h.next 0) recs=true:=okX_read hfc λr hm=>(ds.r r hm).1;rw[this];exact e m hm
theorem W.dnewZ (ds:DX H h idx nx recs) {b:Blk} (hgd:guardOn all tm o=some true) (hfp:fpAny E o tm=[]) (hwr:wrOf o.op=false) (ho:opAny E o tm (only h [])=some (v,(only h []).new b))
  (w:∀recs' h',DX H h' (i::idx) (i::nx) recs'->Ext h h'->h'.next=h.next+1->h'.get h.next=some b->W E (.draw bs all rest (i+1) recs') (putTmp tm o.dst v) h' Q):W E (.draw bs all (o::rest) i recs) tm h Q:=by
 have ho:opAny E o tm (only h (fpAny E o tm))=some (v,(only h []).new b):=by rw[hfp];exact ho
 have hb:∀k,(back h ((only h []).new b) ([]++[h.next])).get k=if k=h.next then some b else h.get k:=by
  intro k;rw[back_get];by_cases e:k=h.next
  ·subst e
   rw[if_pos (by simp),if_pos rfl];exact new_same (only h []) _
  ·rw[if_neg (by simpa using e),if_neg e]
 have hnx:(back h ((only h []).new b) ([]++[h.next])).next=h.next+1:=by rw[back_next];rfl
 have hx:Ext h (back h ((only h []).new b) ([]++[h.next])):=by
  refine⟨by omega,λk hk=> ?_,λf k hk=> ?_⟩
  ·rw[hb,if_neg (by omega)]
  ·rw[hnx]at hk
   rw[hb,if_neg (by omega)];exact f k (by omega)
 obtain⟨r,⟨N,e⟩,q⟩:=w (.op i [] false h.next (h.next+1)::recs) _ ⟨λr hm=>by
  rcases List.mem_cons.1 hm with rfl|hm
  ·exact⟨.inr (.inl ⟨i,h.next,h.next+1,rfl,by simp,ds.x.next,by omega⟩),by simp[recIdx]⟩
  ·exact⟨(ds.r r hm).1.more (by omega),List.mem_cons_of_mem _ (ds.r r hm).2⟩,ds.x.trans hx,ds.f⟩ hx hnx (by rw[hb,if_pos rfl])
 refine⟨r,.step ⟨N,λm hm=> ?_⟩,q⟩
 show(match guardOn all tm o with
  |some true=>dOp E (run E m) bs all rest o i recs tm h
  |some false=>run E m (.draw bs all rest (i+1) recs) (putTmp tm o.dst (.tup [])) h
  |none=> .stop)=r
 rw[hgd];show dOp E (run E m) bs all rest o i recs tm h=r;rw[dOp_any ho,hfp,hwr]
 have hnb:Nat.beq (h.next+1) h.next=false:=by
  cases hb:Nat.beq (h.next+1) h.next with
  |true=>have:=Nat.eq_of_beq_eq_true hb;omega
  |false=>rfl
 have hsp:span h.next (h.next+1-h.next)=[h.next]:=by
  rw[show h.next+1-h.next=1 by omega];rfl
 show(match isNil ([]:List Nat)&&Nat.beq (h.next+1) h.next with
  |true=>_
  |false=>match okPairs ((nth bs i).getD Bits.nil) [] false (span h.next (h.next+1-h.next)) recs with
   |true=>run E m (.draw bs all rest (i+1) (.op i [] false h.next (h.next+1)::recs)) (putTmp tm o.dst v) (back h ((only h []).new b) ([]++span h.next (h.next+1-h.next)))
   |false=> .stop)=r
 rw[hnb,hsp,okX_new ds.f ds.x.next λr hm=>(ds.r r hm).1];exact e m hm
theorem W.dalZ (ds:DX H h idx nx recs) {t:TypeId} {s:TyS} (hgd:guardOn all tm o=some true) (hop:o.op= .alloc t) (hs:E.ty t=some s)
  (w:∀recs' h',DX H h' (i::idx) (i::nx) recs'->Ext h h'->h'.next=h.next+1->h'.get h.next=some (.cells s.zero false)->W E (.draw bs all rest (i+1) recs') (putTmp tm o.dst (.ptr (some (h.next,0)))) h' Q):W E (.draw bs all (o::rest) i recs) tm h Q:=
 W.dnewZ ds (v:= .ptr (some (h.next,0))) hgd (by unfold fpAny;rw[hop];rfl) (by rw[hop];rfl) (by
  unfold opAny;rw[hop];show newPtr (only h []) ((E.ty t).map (·.zero))=_;rw[hs];rfl) w
def DZ (E:Env) (bs:List Bits) (all rest:List Oper) (i:Nat) (idx nx:List Nat) (dst:Option Nat) (tm:Tm) (H h:Heap) (Q:R->Prop) (r:R):Prop:=match r with
 | .val v d=>Ext h d/\∀recs' h',DX H h' (i::idx) (i::nx) recs'->Same d h'->W E (.draw bs all rest (i+1) recs') (putTmp tm dst v) h' Q
 |_=>False
theorem DZ.val {dst:Option Nat} {d:Heap} (hx:Ext h d) (w:∀recs' h',DX H h' (i::idx) (i::nx) recs'->Same d h'->W E (.draw bs all rest (i+1) recs') (putTmp tm dst v) h' Q):DZ E bs all rest i idx nx dst tm H h Q (.val v d):=⟨hx,w⟩
theorem W.dcallZ {c:Call} {f:Operand} (ds:DX H h idx nx recs) (hgd:guardOn all tm o=some true) (hop:o.op= .call c) (hf:c.callee= .value f) (hc0:(nx.all λj=>bit j ((nth bs i).getD Bits.nil))=true)
  (w:W E (.call (cvOf E.globs tm f) (c.args.toList.map (cvOf E.globs tm))) .leaf h (DZ E bs all rest i idx nx o.dst tm H h Q)):W E (.draw bs all (o::rest) i recs) tm h Q:=by
 have hc:∀j∈nx,bit j ((nth bs i).getD Bits.nil)=true:=λj hj=>List.all_eq_true.1 hc0 j hj;have hr:∀r∈recs,RecX H h nx r:=λr hm=>(ds.r r hm).1;obtain⟨r0,⟨N1,e1⟩,q⟩:=w;cases r0 with
 |val v d=>
  obtain⟨hx,q⟩:=q;have hsame:Same d ⟨d.t,d.next,none⟩:=⟨rfl,λ_=>rfl⟩
  obtain⟨r,⟨N2,e2⟩,q2⟩:=q (.call i h d::recs) ⟨d.t,d.next,none⟩ ⟨λr hm=>by
   rcases List.mem_cons.1 hm with rfl|hm
   ·exact⟨.inr (.inr ⟨i,h,d,rfl,by simp,ds.x,hx,Nat.le_refl _⟩),by simp[recIdx]⟩
   ·exact⟨(hr r hm).more hx.next,List.mem_cons_of_mem _ (ds.r r hm).2⟩,(ds.x.trans hx).trans hsame.ext,ds.f⟩ hsame
  refine⟨r,.step ⟨max N1 N2,λm hm=> ?_⟩,q2⟩
  show(match guardOn all tm o with
   |some true=>dOp E (run E m) bs all rest o i recs tm h
   |some false=>run E m (.draw bs all rest (i+1) recs) (putTmp tm o.dst (.tup [])) h
   |none=> .stop)=r
  rw[hgd];show dOp E (run E m) bs all rest o i recs tm h=r;unfold dOp;rw[hop];simp only[hf,isBuiltin];rw[hidesX hc hr];unfold dHid;simp only[hf,sCallee];show dCall (run E m) bs all rest i recs o.dst tm h h [] (run E m (.call (cvOf E.globs tm f) (c.args.toList.map (cvOf E.globs tm))) .leaf h)=r;rw[e1 m (by omega)]
  show(match Nat.ble h.next d.next&&(looks ((nth bs i).getD Bits.nil) h d recs&&true)with
   |true=>run E m (.draw bs all rest (i+1) (.call i h d::recs)) (putTmp tm o.dst v) ⟨d.t,d.next,none⟩
   |false=> .stop)=r
  rw[looksX hc ds.x hx hr,Nat.ble_eq_true_of_le hx.next];exact e2 m (by omega)
 |_=>exact q.elim
end
end Go.CM

noncomputable section
namespace Go.CM
section
variable {E:Env} {t:Task} {tm tm1:Tm} {h h1:Heap} {Q:R->Prop} {a b:Code} {all rest:List Oper} {o:Oper} {v:CV}
def RangeQ (i:Nat) (tm:Tm) (Q:R->Prop) (r:R):Prop:=Q (kRange i tm r)
theorem W.range {f:Operand} {ps:Array Nat} {asg body:Code} {id:Nat} {first caps:List CV} (hf:cvOf E.globs tm f= .fn id first caps)
  (w:W E (.call (.fn id first caps) [.yield h.next]) .leaf (h.new (.loop tm ps.toList asg body 0 none)) (RangeQ h.next tm Q)):W E (.code (.rangeFunc f ps asg body)) tm h Q:=by
 obtain⟨r,⟨N,e⟩,q⟩:=w;refine⟨_,.step ⟨N,λm hm=> ?_⟩,q⟩;show sRange (run E m) tm (h.new (.loop tm ps.toList asg body 0 none)) h.next (cvOf E.globs tm f)=_;rw[hf];show kRange h.next tm (run E m (.call (.fn id first caps) [.yield h.next]) .leaf (h.new (.loop tm ps.toList asg body 0 none)))=_;rw[e m hm]
theorem RangeQ.val {i:Nat} {tmx:Tm} {psx:List Nat} {asg body:Code} {st:Nat} (hg:h.get i=some (.loop tmx psx asg body st none)) (hs:Nat.beq st 1=false) (q:Q (.code .normal tm (h.del i))):RangeQ i tm Q (.val v h):=by
 show Q (match h.get i with
  |some (.loop _ _ _ _ st pend)=>match Nat.beq st 1 with
   |true=> .stop
   |false=>endBy pend tm (h.del i)
  |_=> .stop)
 rw[hg];simp only[hs];exact q
def RoundQ (i:Nat) (Q:R->Prop) (r:R):Prop:=Q (kRound2 i r)
theorem RoundQ.normal {i:Nat} {tmx:Tm} {psx:List Nat} {asg body:Code} {st:Nat} {pend:Option Code} (hg:h.get i=some (.loop tmx psx asg body st pend)) (q:Q (.val (.bool true) (h.put i (.loop tmx psx asg body 0 none)))):RoundQ i Q (.code .normal tm h):=by
 show Q (match h.get i with
  |some (.loop tm ps asg body _ _)=> .val (.bool true) (h.put i (.loop tm ps asg body 0 none))
  |_=> .stop)
 rw[hg];exact q
theorem W.yield {i:Nat} {args:List CV} {tx:Tm} {ps:List Nat} {asg body:Code} {st:Nat} {pend:Option Code} {t1:Tm} (hg:h.get i=some (.loop tx ps asg body st pend)) (hs:setPs ps args tx=some t1)
  (w:W E (.code asg) t1 h (CutQ λt' h'=>∃tx' ps' asg' bd' pend',h'.get i=some (.loop tx' ps' asg' bd' 0 pend')/\W E (.code body) t' (h'.put i (.loop tx' ps' asg' bd' 1 pend')) (RoundQ i Q))):W E (.call (.yield i) args) tm h Q:=by
 obtain⟨r,⟨N1,e1⟩,q⟩:=w;cases r with
 |code e t' h'=>
  cases e with
  |normal=>
   obtain⟨tx',ps',asg',bd',pend',hg',r2,⟨N2,e2⟩,q2⟩:=q;refine⟨_,.step ⟨max N1 N2,λm hm=> ?_⟩,q2⟩;show sRound (run E m) i args h=_;unfold sRound;rw[hg];simp only[hs];show kRound1 (run E m) i body (run E m (.code asg) t1 h)=_;rw[e1 m (by omega)];unfold kRound1;simp only[hg'];show kRound2 i (run E m (.code body) t' (h'.put i (.loop tx' ps' asg' bd' 1 pend')))=_;rw[e2 m (by omega)]
  |_=>exact q.elim
 |_=>exact q.elim
theorem W.knownN {f:Nat} {first caps args:List CV} {news:List (List CV)} (hk:kfind h E.globs f (first++args++caps) E.known=some (v,news)) (hr:rowsHold h E.rows=true) (q:Q (.val v (kAdd h news))):W E (.call (.fn f first caps) args) tm h Q:=by
 refine⟨_,.step ⟨0,λm _=> ?_⟩,q⟩;show sFn E (run E m) (first++args++caps) h f (kfind h E.globs f (first++args++caps) E.known)=_;rw[hk];show kKnown (v,news) h (rowsHold h E.rows)=_;rw[hr];rfl
theorem kAdd_ext:∀(news:List (List CV)) (h:Heap),Ext h (kAdd h news)
 |[],h=>Ext.refl h
 |b::r,h=>(Ext.new h (.cells b false)).trans (kAdd_ext r _)
theorem Ext.del {h H:Heap} (x:Ext h H) {i:Nat} (hi:h.next<=i):Ext h (H.del i):=⟨x.next,λk hk=>by rw[Heap.get_del,if_neg (by omega)];exact x.old k hk,λf k hk=>by
 rw[Heap.get_del];split
 ·rfl
 ·exact x.fr f k hk⟩
end
end Go.CM

noncomputable section
namespace Go.CM
class Flat (α:Type) extends Rp α where
 enc:α->List CV
 iff:∀(h:Heap) (cs:List CV) (d:α),R h cs d↔cs=enc d
instance:Flat Int:=⟨λn=>[.int .i64 n],λ_ _ _=>Iff.rfl⟩
instance:Flat Bool:=⟨λb=>[.bool b],λ_ _ _=>Iff.rfl⟩
instance:Flat Str:=⟨λs=>[.str s],λ_ _ _=>Iff.rfl⟩
def OwnR (h:Heap) (lo z:Nat) (v:CV) (l:List (List CV)):Prop:=
 (l=[]/\v= .slice none 0 0 0)\/∃i x ro,v= .slice (some (i,0)) l.length l.length x/\lo<=i/\i<h.next/\h.get i=some (.cells l.flatten ro)/\(∀e∈l,e.length=z)/\((x=0/\(l=[]\/ro=false))\/(x=z/\ro=false/\l≠[]))
section
variable {h h' H:Heap} {lo z:Nat} {v:CV} {l:List (List CV)}
theorem OwnR.nil:OwnR h lo z (.slice none 0 0 0) []:= .inl ⟨rfl,rfl⟩
theorem OwnR.ext (o:OwnR h lo z v l) (x:Ext h h'):OwnR h' lo z v l:=by
 rcases o with⟨rfl,rfl⟩|⟨i,y,ro,rfl,h1,h2,h3,h4,h5⟩
 ·exact .inl ⟨rfl,rfl⟩
 ·exact .inr ⟨i,y,ro,rfl,h1,Nat.lt_of_lt_of_le h2 x.next,(x.old i h2).trans h3,h4,h5⟩
theorem OwnR.other (o:OwnR h lo z v l) (hn:h.next<=h'.next) (hk:∀k,lo<=k->k<h.next->idOf v=[k]->h'.get k=h.get k):OwnR h' lo z v l:=by
 rcases o with⟨rfl,rfl⟩|⟨i,y,ro,rfl,h1,h2,h3,h4,h5⟩
 ·exact .inl ⟨rfl,rfl⟩
 ·exact .inr ⟨i,y,ro,rfl,h1,by omega,(hk i h1 h2 rfl).trans h3,h4,h5⟩
theorem OwnR.low {lo':Nat} (o:OwnR h lo z v l) (hl:lo'<=lo):OwnR h lo' z v l:=by
 rcases o with⟨rfl,rfl⟩|⟨i,y,ro,rfl,h1,h2⟩
 ·exact .inl ⟨rfl,rfl⟩
 ·exact .inr ⟨i,y,ro,rfl,by omega,h2⟩
theorem OwnR.sl (o:OwnR h lo z v l):SlG h z v l:=by
 rcases o with⟨rfl,rfl⟩|⟨i,y,ro,rfl,h1,h2,h3,h4,h5⟩
 ·exact .inl ⟨rfl,rfl⟩
 ·exact .inr (.inr ⟨i,0,l.length,y,_,ro,rfl,h2,h3,(λj e he=>⟨h4 e (List.mem_of_getElem? he),flat_cut h4 he⟩),Nat.le_refl _,h5.imp (λh=>h.1) λh=>h.1⟩)
theorem OwnR.form (o:OwnR h lo z v l):∃p n c x,v= .slice p n c x:=by
 rcases o with⟨rfl,rfl⟩|⟨i,y,ro,rfl,_⟩
 ·exact⟨_,_,_,_,rfl⟩
 ·exact⟨_,_,_,_,rfl⟩
theorem OwnR.toSl {α:Type} [Flat α] {d:List α} (o:OwnR h lo (Rp.z α) v (d.map Flat.enc)):Sl h v d:=Sl.of_map Flat.iff o.sl
theorem SlG.lenZ (s:SlG h z v l):∀e∈l,e.length=z:=by
 rcases s with⟨_,rfl⟩|⟨_,rfl⟩|⟨i,o,c,x,cs,ro,rfl,_,_,h4,_⟩
 ·intro e he;cases he
 ·intro e he;cases he
 ·intro e he
  obtain⟨j,hj⟩:=List.getElem?_of_mem he;exact(h4 j e hj).1
variable {E:Env} {tm:Tm} {Q:R->Prop} {all rest:List Oper} {o:Oper}
theorem OwnR.notIn {b:Nat} (o:OwnR h lo z v l) (hb:h.next<=b):idOf v=[]\/∃i,idOf v=[i]/\i≠b/\lo<=i:=by
 rcases o with⟨rfl,rfl⟩|⟨i,y,ro,rfl,h1,h2,_⟩
 ·exact .inl rfl
 ·exact .inr ⟨i,rfl,by omega,h1⟩
theorem append_own {t t2 e:TypeId} {ts es t2s:TyS} {s s2:CV} {l2:List (List CV)} (hlo:lo<=h.next) (so:OwnR h lo z s l) (s2l:SlG h z s2 l2)
  (hts:E.ty t=some ts) (hk:ts.kind= .slice e) (hes:E.ty e=some es) (hz:es.size=z) (hz0:(Nat.beq es.size 0||Nat.beq es.bytes 0)=false) (ht2:E.ty t2=some t2s) (hk2:t2s.kind= .slice e) (hm:(l.length+l2.length)*es.bytes<=70368744177664):
  ∃v' h',oAppend E h (E.ty t) (E.ty t2) s s2=some (v',h')/\h.next<=h'.next/\h'.next<=h.next+1/\(∀k,k<h.next->k<lo\/idOf s≠[k]->h'.get k=h.get k)/\(Fresh h->Fresh h')/\OwnR h' lo z v' (l++l2)/\(l2=[]->v'=s/\h'=h)/\(l2≠[]->idOf v'=[h.next]/\h'.next=h.next+1):=by
 have hzpos:0<z:=by
  rw[<-hz];cases hs:es.size with
  |zero=>rw[hs]at hz0;cases hz0
  |succ n=>omega
 have hz2:=s2l.lenZ;by_cases hl2:l2=[]
 ·subst hl2
  have hsrc:srcLen s2=some 0/\srcCells h es.size 0 s2=some []:=by
   rcases s2l with⟨rfl,_⟩|⟨rfl,_⟩|⟨i,o,c,x,cs,ro,rfl,_⟩<;>exact⟨rfl,rfl⟩
  refine⟨s,h,?_,Nat.le_refl _,by omega,λ_ _ _=>rfl,id,by rw[List.append_nil];exact so,λ_=>⟨rfl,rfl⟩,λh=>absurd rfl h⟩;rcases so with⟨rfl,rfl⟩|⟨i,y,ro,rfl,_⟩
  ·unfold oAppend
   simp only[hts,hk,hes,hz0,ht2,hk2,hsrc.1,hsrc.2];rfl
  ·unfold oAppend
   simp only[hts,hk,hes,hz0,ht2,hk2,hsrc.1,hsrc.2,appendAt,Nat.add_zero,Nat.ble_eq_true_of_le (Nat.le_refl l.length)]
 ·have hpos2:0<l2.length:=List.length_pos_iff.2 hl2
  have hf2:=flat_len hz2;obtain⟨m,hmm⟩:∃m,l2.length=m+1:=⟨l2.length-1,by omega⟩
  have hsrc:srcLen s2=some l2.length/\srcCells h es.size l2.length s2=some l2.flatten:=by
   rcases s2l with⟨_,rfl⟩|⟨_,rfl⟩|⟨i,o,c,x,cs,ro,rfl,g2,g3,g4,g5,g6⟩
   ·exact absurd rfl hl2
   ·exact absurd rfl hl2
   ·refine⟨rfl,?_⟩
    have hcut:=cut_all hl2 g4;rw[hz,hmm];show(match h.get i with|some (.cells cs _)=>cut cs o ((m+1)*z)|_=>none)=_
    rw[g3,<-hmm];exact hcut
  rcases so with⟨rfl,rfl⟩|⟨i,y,ro,rfl,h1,h2,h3,h4,h5⟩
  ·have hble:Nat.ble (0+l2.length) 0=false:=by rw[hmm];rfl
   have hby:Nat.ble ((0+l2.length)*es.bytes) 70368744177664=true:=Nat.ble_eq_true_of_le (by simpa using hm);refine⟨.slice (some (h.next,0)) l2.length l2.length z,h.new (.cells l2.flatten false),?_,Nat.le_succ _,Nat.le_refl _,λk hk _=>by rw[Heap.get_new,if_neg (by omega)],λf=>f.new _,.inr ⟨h.next,z,false,rfl,hlo,Nat.lt_succ_self _,new_same _ _,hz2,.inr ⟨rfl,rfl,hl2⟩⟩,λh=>absurd h hl2,λ_=>⟨rfl,rfl⟩⟩;unfold oAppend;simp only[hts,hk,hes,hz0,ht2,hk2,hsrc.1,hsrc.2,appendAt,hble,hby];simp only[srcCells,growTo,List.nil_append,Nat.zero_add,hz]
  ·have hby:Nat.ble ((l.length+l2.length)*es.bytes) 70368744177664=true:=Nat.ble_eq_true_of_le hm
   have hble:Nat.ble (l.length+l2.length) l.length=false:=by
    cases hh:Nat.ble (l.length+l2.length) l.length with
    |true=>have:=Nat.le_of_ble_eq_true hh;omega
    |false=>rfl
   have hfl:=flat_len h4
   have hold:srcCells h es.size l.length (.slice (some (i,0)) l.length l.length y)=some l.flatten:=by
    rw[hz];cases hn:l.length with
    |zero=>
     have:l=[]:=List.eq_nil_of_length_eq_zero hn;rw[this];rfl
    |succ n=>
     show(match h.get i with|some (.cells cs _)=>cut cs 0 ((n+1)*z)|_=>none)=_
     rw[h3,<-hn];show cut l.flatten 0 (l.length*z)=_;rw[cut_eq,if_pos (by omega),List.drop_zero,List.take_of_length_le (by omega)]
   have hszs:∀e∈l++l2,e.length=z:=λe he=>by
    rcases List.mem_append.1 he with he|he
    ·exact h4 e he
    ·exact hz2 e he
   have hne:l++l2≠[]:=by simp[hl2]
   rcases h5 with⟨rfl,_⟩|⟨rfl,rfl,h6⟩
   ·refine⟨.slice (some (h.next,0)) (l.length+l2.length) (l.length+l2.length) z,h.new (.cells (l.flatten++l2.flatten) false),?_,Nat.le_succ _,Nat.le_refl _,λk hk _=>by rw[Heap.get_new,if_neg (by omega)],λf=>f.new _,.inr ⟨h.next,z,false,by rw[List.length_append],hlo,Nat.lt_succ_self _,by rw[List.flatten_append];exact new_same h _,hszs,.inr ⟨rfl,rfl,hne⟩⟩,λh=>absurd h hl2,λ_=>⟨rfl,rfl⟩⟩
    unfold oAppend;simp only[hts,hk,hes,hz0,ht2,hk2,hsrc.1,hsrc.2,appendAt,hble,hby,hold];simp only[growTo,hz]
   ·obtain⟨zz,hzz⟩:∃zz,y=zz+1:=⟨y-1,by omega⟩
    have hgrow:growTo h (some (i,0)) y es.size (l.length+l2.length) (l.flatten++l2.flatten)=some (.slice (some (h.next,0)) (l.length+l2.length) (l.length+l2.length) es.size,(h.del i).new (.cells (l.flatten++l2.flatten) false)):=by
     have hbq:Nat.beq (zz+1) (zz+1)=true:=Nat.beq_refl _;rw[hz,hzz];unfold growTo;simp only[hbq,h3]
    refine⟨.slice (some (h.next,0)) (l.length+l2.length) (l.length+l2.length) y,(h.del i).new (.cells (l.flatten++l2.flatten) false),?_,Nat.le_succ _,Nat.le_refl _,λk hk hc=> ?_,λf=>Fresh.new (λk hk=> ?_) _,.inr ⟨h.next,y,false,by rw[List.length_append],hlo,Nat.lt_succ_self _,by rw[List.flatten_append];exact new_same (h.del i) _,hszs,.inr ⟨rfl,rfl,hne⟩⟩,λh=>absurd h hl2,λ_=>⟨rfl,rfl⟩⟩
    ·unfold oAppend
     simp only[hts,hk,hes,hz0,ht2,hk2,hsrc.1,hsrc.2,appendAt,hble,hby,hold,hgrow];rw[hz]
    ·rw[Heap.get_new,if_neg (by show ¬h.next=k;omega),Heap.get_del,if_neg (by
      rintro rfl;rcases hc with hc|hc
      ·omega
      ·exact hc rfl)]
    ·have hk:h.next<=k:=hk
     rw[Heap.get_del];split
     ·rfl
     ·exact f k hk
theorem W.apR {c:Call} {t t2 e:TypeId} {ts es t2s:TyS} {s s2:CV} {l2:List (List CV)} (X:Ext H h) (so:OwnR h H.next z s l) (s2l:SlG h z s2 l2)
  (hgd:guardOn all tm o=some true) (hop:o.op= .call c) (hb:isBuiltin c.callee=some .append) (hty:c.argTypes.toList=[t,t2]) (ha:c.args.toList.map (cvOf E.globs tm)=[s,s2])
  (hts:E.ty t=some ts) (hk:ts.kind= .slice e) (hes:E.ty e=some es) (hz:es.size=z) (hz0:(Nat.beq es.size 0||Nat.beq es.bytes 0)=false) (ht2:E.ty t2=some t2s) (hk2:t2s.kind= .slice e) (hm:(l.length+l2.length)*es.bytes<=70368744177664)
  (w:∀v' h',Ext H h'->OwnR h' H.next z v' (l++l2)->W E (.ops all rest) (putTmp tm o.dst v') h' Q):W E (.ops all (o::rest)) tm h Q:=by
 obtain⟨v',h',k1,k2,_,k3,k4,k5,_⟩:=append_own X.next so s2l hts hk hes hz hz0 ht2 hk2 hm;have X':Ext H h':=⟨Nat.le_trans X.next k2,λk hk=>(k3 k (Nat.lt_of_lt_of_le hk X.next) (.inl hk)).trans (X.old k hk),λf=>k4 (X.fr f)⟩;refine W.op hgd (v:=v') (h1:=h') ?_ (w v' h' X' k5);unfold opAny;rw[hop];simp only[hb];show builtinV E h .append c.argTypes.toList (c.args.toList.map (cvOf E.globs tm))=_;rw[hty,ha];exact k1
structure DY (B:Nat->Prop) (h:Heap) (idx:List Nat) (recs:List Rec):Prop where
 r:∀r∈recs,recIdx r∈idx/\∃i fp ws lo hi,(r= .opw i fp ws lo hi\/∃wr,r= .op i fp wr lo hi/\(wr=true->ws=fp))/\(∀k∈fp,k<h.next)/\∀b,B b->b<lo/\b∉ws
 b:∀b,B b->b<h.next
variable {B:Nat->Prop} {bs:List Bits} {recs:List Rec} {i:Nat} {idx:List Nat}
theorem DY.start (hb:∀b,B b->b<h.next):DY B h [] []:=⟨λ_ h=>(by cases h),hb⟩
theorem DY.drop (d:DY B h idx recs):DY (λ_=>False) h idx recs:=⟨λr hr=>by
 obtain⟨h1,i,fp,ws,lo,hi,h2,h3,_⟩:=d.r r hr;exact⟨h1,i,fp,ws,lo,hi,h2,h3,λ_ h=>h.elim⟩,λ_ h=>h.elim⟩
theorem DY.tail {h':Heap} {r0:Rec} (d:DY B h idx recs) (hn:h.next<=h'.next) (h0:recIdx r0=i) (h1:∃i fp ws lo hi,(r0= .opw i fp ws lo hi\/∃wr,r0= .op i fp wr lo hi/\(wr=true->ws=fp))/\(∀k∈fp,k<h'.next)/\∀b,B b->b<lo/\b∉ws):DY B h' (i::idx) (r0::recs):=by
 refine⟨λr hr=> ?_,λb hb=>Nat.lt_of_lt_of_le (d.b b hb) hn⟩;rcases List.mem_cons.1 hr with rfl|hr
 ·exact⟨by rw[h0];simp,h1⟩
 ·obtain⟨h1,i',fp',ws',lo',hi',h2,h3,h4⟩:=d.r r hr
  exact⟨List.mem_cons_of_mem _ h1,i',fp',ws',lo',hi',h2,λk hk=>Nat.lt_of_lt_of_le (h3 k hk) hn,h4⟩
theorem DY.cons {h':Heap} {fp:List Nat} {wr:Bool} {lo hi:Nat} (d:DY B h idx recs) (hn:h.next<=h'.next) (hf:∀k∈fp,k<h'.next) (hB:∀b,B b->b<lo/\(wr=true->b∉fp)):DY B h' (i::idx) (.op i fp wr lo hi::recs):=
 by
 cases wr with
 |true=>exact d.tail hn rfl ⟨i,fp,fp,lo,hi,.inr ⟨true,rfl,λ_=>rfl⟩,hf,λb hb=>⟨(hB b hb).1,(hB b hb).2 rfl⟩⟩
 |false=>exact d.tail hn rfl ⟨i,fp,[],lo,hi,.inr ⟨false,rfl,λe=>by cases e⟩,hf,λb hb=>⟨(hB b hb).1,λh=>by cases h⟩⟩
theorem DY.same {h':Heap} (d:DY B h idx recs) (hn:h'.next=h.next):DY B h' idx recs:=⟨λr hr=>by
 obtain⟨h1,i,fp,ws,lo,hi,h2,h3,h4⟩:=d.r r hr;exact⟨h1,i,fp,ws,lo,hi,h2,λk hk=>by rw[hn];exact h3 k hk,h4⟩,λb hb=>by rw[hn];exact d.b b hb⟩
theorem okPair_opw {fp news:List Nat} {wr:Bool} {i:Nat} {fp' ws':List Nat} {lo hi:Nat} (h1:∀k∈fp,(within k lo hi||mem k ws')=false) (h2:wr=true->∀k∈fp,mem k fp'=false) (h3:∀k∈news,mem k fp'=false):okPair fp wr news (.opw i fp' ws' lo hi)=true:=by
 unfold okPair;simp only
 rw[all1_each λk hk=>by
  rw[h1 k hk];cases wr with
  |false=>rfl
  |true=>show(!mem k fp')=true;rw[h2 rfl k hk];rfl]
 exact all1_each λk hk=>by rw[h3 k hk];rfl
theorem DY.pairs_read {ahead:Bits} {b:Nat} (hb:B b):∀{recs:List Rec},DY B h idx recs->okPairs ahead [b] false [] recs=true
 |[],_=>rfl
 |r::rs,d=>by
  unfold okPairs;have ih:=DY.pairs_read (ahead:=ahead) hb (recs:=rs) ⟨λx hx=>d.r x (List.mem_cons_of_mem _ hx),d.b⟩
  have:okPair [b] false [] r=true:=by
   obtain⟨_,i,fp,ws,lo,hi,hr,_,h4⟩:=d.r r (by simp);obtain⟨g1,g2⟩:=h4 b hb;rcases hr with rfl|⟨wr,rfl,hw⟩
   ·refine okPair_opw (λk hk=> ?_) (λh=>by cases h) (λk hk=>by cases hk)
    rw[List.mem_singleton]at hk;subst hk;rw[within_out (.inl g1),mem_false λx hx e=>g2 (by rw[<-e];exact hx)];rfl
   ·rw[okPair_op,all1_of λk hk=>by
      rw[List.mem_singleton]at hk;subst hk;unfold opApart;rw[within_out (.inl g1)];cases wr with
      |false=>rfl
      |true=>
       show(!mem k fp)=true;rw[mem_false λx hx e=>g2 (by rw[<-e,hw rfl];exact hx)];rfl]
    rfl
  rw[this];exact ih
theorem DY.pairs_new {ahead:Bits}:∀{recs:List Rec},DY B h idx recs->okPairs ahead [] false [h.next] recs=true
 |[],_=>rfl
 |r::rs,d=>by
  unfold okPairs;have ih:=DY.pairs_new (ahead:=ahead) (recs:=rs) ⟨λx hx=>d.r x (List.mem_cons_of_mem _ hx),d.b⟩
  have:okPair [] false [h.next] r=true:=by
   obtain⟨_,i,fp,ws,lo,hi,hr,h3,_⟩:=d.r r (by simp)
   have hm:∀k∈[h.next],mem k fp=false:=λk hk=>by
    rw[List.mem_singleton]at hk;subst hk;exact mem_false λx hx=>by have:=h3 x hx;omega
   rcases hr with rfl|⟨wr,rfl,hw⟩
   ·exact okPair_opw (λk hk=>by cases hk) (λh=>by cases h) hm
   ·show all1 [h.next] (λk=> !mem k fp)=true
    exact all1_each λk hk=>by rw[hm k hk];rfl
  rw[this];exact ih
theorem W.ldY {t:TypeId} {x:Operand} {id off k:Nat} {e:List CV} {s:TyS} {v:CV} (d:DY B h idx recs) (hB:B id) (L:LocE h id off e) (hgd:guardOn all tm o=some true) (hop:o.op= .load t x) (hx:cvOf E.globs tm x= .ptr (some (id,off+k))) (hs:E.ty t=some s) (h1:s.size=1) (h2:s.agg=false) (he:e[k]? =some v)
  (w:∀recs' h',DY B h' (i::idx) recs'->Same h h'->LocE h' id off e->W E (.draw bs all rest (i+1) recs') (putTmp tm o.dst v) h' Q):W E (.draw bs all (o::rest) i recs) tm h Q:=by
 obtain⟨cs,ro,g1,g2,g3⟩:=L;have hn:=cut_nth g3 he
 have hfp:fpAny E o tm=[id]:=by
  unfold fpAny;rw[hop];show idOf (cvOf E.globs tm x)=[id];rw[hx];rfl
 have hwr:wrOf o.op=false:=by rw[hop];rfl
 have hget:(only h [id]).get id=some (.cells cs ro):=by rw[only_get];simpa using g1
 have ho:opAny E o tm (only h (fpAny E o tm))=some (v,only h [id]):=by
  rw[hfp];unfold opAny;rw[hop];show oLoad E t (cvOf E.globs tm x) (only h [id])=_;rw[hx];have hp:CM.part cs (off+k) s.size s.agg=some v:=by rw[h1,h2];exact hn
  unfold oLoad CM.load loadB;simp only[hget,hs,hp,withH]
 have hsame:Same h (back h (only h [id]) ([id]++span h.next 0)):=by
  refine⟨by rw[back_next,only_next],λk=> ?_⟩;rw[back_get];split
  ·rename_i hk
   have:k=id:=by
    have hk:k∈[id]:=hk;simpa using hk
   subst this;rw[hget,g1]
  ·rfl
 obtain⟨r,⟨N,e⟩,q⟩:=w (.op i [id] false h.next h.next::recs) _ ((d.cons (Nat.le_refl _) (λk hk=>by rw[List.mem_singleton]at hk;rw[hk];exact g2) λb hb=>⟨d.b b hb,λh=>by cases h⟩).same hsame.next) hsame (LocE.ext ⟨cs,ro,g1,g2,g3⟩ hsame.ext);refine⟨r,.step ⟨N,λm hm=> ?_⟩,q⟩
 show(match guardOn all tm o with
  |some true=>dOp E (run E m) bs all rest o i recs tm h
  |some false=>run E m (.draw bs all rest (i+1) recs) (putTmp tm o.dst (.tup [])) h
  |none=> .stop)=r
 rw[hgd];show dOp E (run E m) bs all rest o i recs tm h=r;rw[dOp_any ho,hfp,hwr];have hnx:(only h [id]).next=h.next:=only_next _ _
 show(match okPairs ((nth bs i).getD Bits.nil) [id] false (span h.next ((only h [id]).next-h.next)) recs with
  |true=>run E m (.draw bs all rest (i+1) (.op i [id] false h.next (only h [id]).next::recs)) (putTmp tm o.dst v) (back h (only h [id]) ([id]++span h.next ((only h [id]).next-h.next)))
  |false=> .stop)=r
 rw[hnx,Nat.sub_self];have:okPairs ((nth bs i).getD Bits.nil) [id] false (span h.next 0) recs=true:=DY.pairs_read hB d;rw[this];exact e m hm
theorem W.newY {b:Blk} {v:CV} (d:DY B h idx recs) (hgd:guardOn all tm o=some true) (hfp:fpAny E o tm=[]) (hwr:wrOf o.op=false) (ho:opAny E o tm (only h [])=some (v,(only h []).new b))
  (w:∀recs' h',DY B h' (i::idx) recs'->Ext h h'->h'.next=h.next+1->h'.get h.next=some b->W E (.draw bs all rest (i+1) recs') (putTmp tm o.dst v) h' Q):W E (.draw bs all (o::rest) i recs) tm h Q:=by
 have ho:opAny E o tm (only h (fpAny E o tm))=some (v,(only h []).new b):=by rw[hfp];exact ho
 have hb:∀k,(back h ((only h []).new b) ([]++[h.next])).get k=if k=h.next then some b else h.get k:=by
  intro k;rw[back_get];by_cases e:k=h.next
  ·subst e
   rw[if_pos (by simp),if_pos rfl];exact new_same (only h []) _
  ·rw[if_neg (by simpa using e),if_neg e]
 have hnx:(back h ((only h []).new b) ([]++[h.next])).next=h.next+1:=by rw[back_next];rfl
 have hx:Ext h (back h ((only h []).new b) ([]++[h.next])):=by
  refine⟨by omega,λk hk=> ?_,λf k hk=> ?_⟩
  ·rw[hb,if_neg (by omega)]
  ·rw[hnx]at hk
   rw[hb,if_neg (by omega)];exact f k (by omega)
 obtain⟨r,⟨N,e⟩,q⟩:=w (.op i [] false h.next (h.next+1)::recs) _ (d.cons (by omega) (λk hk=>by cases hk) λb hb=>⟨d.b b hb,λh=>by cases h⟩) hx hnx (by rw[hb,if_pos rfl]);refine⟨r,.step ⟨N,λm hm=> ?_⟩,q⟩
 show(match guardOn all tm o with
  |some true=>dOp E (run E m) bs all rest o i recs tm h
  |some false=>run E m (.draw bs all rest (i+1) recs) (putTmp tm o.dst (.tup [])) h
  |none=> .stop)=r
 rw[hgd];show dOp E (run E m) bs all rest o i recs tm h=r;rw[dOp_any ho,hfp,hwr]
 have hnb:Nat.beq (h.next+1) h.next=false:=by
  cases hb:Nat.beq (h.next+1) h.next with
  |true=>have:=Nat.eq_of_beq_eq_true hb;omega
  |false=>rfl
 have hsp:span h.next (h.next+1-h.next)=[h.next]:=by
  rw[show h.next+1-h.next=1 by omega];rfl
 show(match isNil ([]:List Nat)&&Nat.beq (h.next+1) h.next with
  |true=>_
  |false=>match okPairs ((nth bs i).getD Bits.nil) [] false (span h.next (h.next+1-h.next)) recs with
   |true=>run E m (.draw bs all rest (i+1) (.op i [] false h.next (h.next+1)::recs)) (putTmp tm o.dst v) (back h ((only h []).new b) ([]++span h.next (h.next+1-h.next)))
   |false=> .stop)=r
 rw[hnb,hsp,DY.pairs_new d];exact e m hm
theorem W.apC {c:Call} {t t2 e:TypeId} {ts es t2s:TyS} {s s2:CV} {l2:List (List CV)} (hok:∀n,n=0\/n=1->okPairs ((nth bs i).getD Bits.nil) (idOf s++idOf s2) false (span h.next n) recs=true/\okPairs ((nth bs i).getD Bits.nil) (idOf s) true (span h.next n) recs=true) (X:Ext H h) (so:OwnR h H.next z s l) (s2l:SlG h z s2 l2)
  (hgd:guardOn all tm o=some true) (hop:o.op= .call c) (hb:c.callee= .builtin .append) (hty:c.argTypes.toList=[t,t2]) (ha:c.args.toList.map (cvOf E.globs tm)=[s,s2])
  (hts:E.ty t=some ts) (hk:ts.kind= .slice e) (hes:E.ty e=some es) (hz:es.size=z) (hz0:(Nat.beq es.size 0||Nat.beq es.bytes 0)=false) (ht2:E.ty t2=some t2s) (hk2:t2s.kind= .slice e) (hm:(l.length+l2.length)*es.bytes<=70368744177664)
  (w:∀recs' v' h',(recs'=recs\/∃lo hi,lo=h.next/\recs'= .opw i (idOf s++idOf s2) (idOf s) lo hi::recs)->(∀k,k∈idOf s++idOf s2->k<h.next)->Ext H h'->h.next<=h'.next->(∀k,k<h.next->k<H.next\/idOf s≠[k]->h'.get k=h.get k)->OwnR h' H.next z v' (l++l2)->(∀c,c<h.next->idOf s≠[c]->idOf v'≠[c])->(l2≠[]->idOf v'=[h.next])->W E (.draw bs all rest (i+1) recs') (putTmp tm o.dst v') h' Q):W E (.draw bs all (o::rest) i recs) tm h Q:=by
 have hfp:fpAny E o tm=idOf s++idOf s2:=by
  unfold fpAny;rw[hop];simp only[fpOf,hb];rw[show(c.args.toList.map λx=>idOf (cvOf E.globs tm x))=(c.args.toList.map (cvOf E.globs tm)).map idOf by rw[List.map_map];rfl,ha];simp
 obtain⟨fp,hfpe⟩:∃fp,fp=idOf s++idOf s2:=⟨_,rfl⟩;rw[<-hfpe]at hfp hok w;have g0:∀k,k∈fp->(only h fp).get k=h.get k:=λk hk=>by rw[only_get,if_pos hk]
 have nx:(only h fp).next=h.next:=only_next _ _;have so':OwnR (only h fp) H.next z s l:=so.other (by rw[nx];exact Nat.le_refl _) λk _ _ hk=>g0 k (by rw[hfpe,hk];simp)
 have s2':SlG (only h fp) z s2 l2:=by
  rcases s2l with⟨rfl,rfl⟩|⟨rfl,rfl⟩|⟨i,o,c,x,cs,ro,rfl,g2,g3,g4,g5,g6⟩
  ·exact .inl ⟨rfl,rfl⟩
  ·exact .inr (.inl ⟨rfl,rfl⟩)
  ·exact .inr (.inr ⟨i,o,c,x,cs,ro,rfl,by rw[nx];exact g2,(g0 i (by rw[hfpe];simp[idOf])).trans g3,g4,g5,g6⟩)
 have hlt:∀k,k∈fp->k<h.next:=λk hk=>by
  rw[hfpe]at hk;rcases List.mem_append.1 hk with hk|hk
  ·rcases so with⟨rfl,rfl⟩|⟨i,y,ro,rfl,h1,h2,_⟩
   ·cases hk
   ·have:k=i:=by simpa[idOf]using hk
    rw[this];exact h2
  ·rcases s2l with⟨rfl,rfl⟩|⟨rfl,rfl⟩|⟨i,o,c,x,cs,ro,rfl,g2,g3,g4,g5,g6⟩
   ·cases hk
   ·cases hk
   ·have:k=i:=by simpa[idOf]using hk
    rw[this];exact g2
 obtain⟨v',hh,k1,k2,k2b,k3,k4,k5,k6,k7⟩:=append_own (by rw[nx];exact X.next) so' s2' hts hk hes hz hz0 ht2 hk2 hm;rw[nx]at k2 k2b k3
 have ho:opAny E o tm (only h (fpAny E o tm))=some (v',hh):=by
  rw[hfp];unfold opAny;rw[hop];simp only[hb];show builtinV E _ .append c.argTypes.toList (c.args.toList.map (cvOf E.globs tm))=_;rw[hty,ha];exact k1
 have hbk:∀k,k<h.next->k<H.next\/idOf s≠[k]->(back h hh (fp++span h.next (hh.next-h.next))).get k=h.get k:=by
  intro k hk hc;rw[back_get];split
  ·rename_i hm
   rcases List.mem_append.1 hm with hm|hm
   ·rw[k3 k hk hc,g0 k hm]
   ·exfalso
    have:hh.next=h.next\/hh.next=h.next+1:=by omega
    rcases this with e|e
    ·rw[e,Nat.sub_self]at hm;cases hm
    ·rw[e,show h.next+1-h.next=1 by omega]at hm
     have:k=h.next:=by
      have hm:k∈[h.next+0]:=hm;simpa using hm
     omega
  ·rfl
 have hbn:(back h hh (fp++span h.next (hh.next-h.next))).next=hh.next:=back_next _ _ _
 have X':Ext H (back h hh (fp++span h.next (hh.next-h.next))):=by
  refine⟨by rw[hbn];exact Nat.le_trans X.next k2,λk hk=>(hbk k (Nat.lt_of_lt_of_le hk X.next) (.inl hk)).trans (X.old k hk),λf k hk=> ?_⟩;rw[hbn]at hk;rw[back_get];have fh:=X.fr f;split
  ·rename_i hm
   rcases List.mem_append.1 hm with hm|hm
   ·have:=hlt k hm;omega
   ·exfalso
    have:hh.next=h.next\/hh.next=h.next+1:=by omega
    rcases this with e|e
    ·rw[e,Nat.sub_self]at hm;cases hm
    ·rw[e,show h.next+1-h.next=1 by omega]at hm
     have:k=h.next:=by
      have hm:k∈[h.next+0]:=hm;simpa using hm
     omega
  ·exact fh k (by omega)
 have k5':OwnR (back h hh (fp++span h.next (hh.next-h.next))) H.next z v' (l++l2):=by
  have gg:∀k,k∈fp\/(h.next<=k/\k<hh.next)->(back h hh (fp++span h.next (hh.next-h.next))).get k=hh.get k:=by
   intro k hc;rw[back_get,if_pos];rcases hc with hc|⟨c1,c2⟩
   ·exact List.mem_append_left _ hc
   ·refine List.mem_append_right _ ?_
    have:k=h.next:=by omega
    rw[show hh.next-h.next=1 by omega,this];show h.next∈[h.next+0];simp
  rw[nx]at k7
  have inn:∀i,idOf v'=[i]->i<hh.next->i∈fp\/(h.next<=i/\i<hh.next):=by
   intro i hi hlt2;by_cases hl2:l2=[]
   ·left
    rw[hfpe,<-(k6 hl2).1,hi];simp
   ·right
    have:=(k7 hl2).1;rw[hi]at this;have:i=h.next:=by simpa using this
    omega
  rcases k5 with⟨e0,rfl⟩|⟨i,y,ro,rfl,h1,h2,h3,h4,h5⟩
  ·exact .inl ⟨e0,rfl⟩
  ·exact .inr ⟨i,y,ro,rfl,h1,by rw[hbn];exact h2,(gg i (inn i rfl h2)).trans h3,h4,h5⟩
 have kid:∀c,c<h.next->idOf s≠[c]->idOf v'≠[c]:=by
  intro c hc hs;by_cases hl2:l2=[]
  ·rw[(k6 hl2).1];exact hs
  ·have:=(k7 hl2).1
   rw[nx]at this;rw[this];intro e;have:h.next=c:=by simpa using e
   omega
 by_cases hno:fp=[]/\hh.next=h.next
 ·have hl2:l2=[]:=by
    by_cases hl2:l2=[]
    ·exact hl2
    ·have:=(k7 hl2).2
     rw[nx]at this;omega
  have hv:=(k6 hl2).1;obtain⟨r,⟨N,e⟩,q⟩:=w recs v' h (.inl rfl) hlt X (Nat.le_refl _) (λ_ _ _=>rfl) (by rw[hl2,List.append_nil,hv];exact so) (λc _ hc=>by rw[hv];exact hc) (λhc=>absurd hl2 hc);refine⟨r,.step ⟨N,λm hm=> ?_⟩,q⟩
  show(match guardOn all tm o with
   |some true=>dOp E (run E m) bs all rest o i recs tm h
   |some false=>run E m (.draw bs all rest (i+1) recs) (putTmp tm o.dst (.tup [])) h
   |none=> .stop)=r
  rw[hgd];show dOp E (run E m) bs all rest o i recs tm h=r;rw[dOp_app ho hop hb,hfp,ha,hno.1]
  show(match isNil ([]:List Nat)&&Nat.beq hh.next h.next with
   |true=>run E m (.draw bs all rest (i+1) recs) (putTmp tm o.dst v') h
   |false=>_)=r
  rw[hno.2,Nat.beq_refl];exact e m hm
 ·obtain⟨r,⟨N,e⟩,q⟩:=w (.opw i fp (idOf s) h.next hh.next::recs) v' _ (.inr ⟨_,_,rfl,rfl⟩) hlt X' (by rw[hbn];exact k2) hbk k5' kid (λhc=>by have:=(k7 hc).1;rw[nx]at this;exact this)
  refine⟨r,.step ⟨N,λm hm=> ?_⟩,q⟩
  show(match guardOn all tm o with
   |some true=>dOp E (run E m) bs all rest o i recs tm h
   |some false=>run E m (.draw bs all rest (i+1) recs) (putTmp tm o.dst (.tup [])) h
   |none=> .stop)=r
  rw[hgd];show dOp E (run E m) bs all rest o i recs tm h=r;rw[dOp_app ho hop hb,hfp,ha]
  have hcond:(isNil fp&&Nat.beq hh.next h.next)=false:=by
   cases hf:fp with
   |cons a b=>rfl
   |nil=>
    cases hb:Nat.beq hh.next h.next with
    |false=>rfl
    |true=>exact absurd ⟨hf,Nat.eq_of_beq_eq_true hb⟩ hno
  obtain⟨o1,o2⟩:=hok (hh.next-h.next) (by omega)
  show(match isNil fp&&Nat.beq hh.next h.next with
   |true=>run E m (.draw bs all rest (i+1) recs) (putTmp tm o.dst v') h
   |false=>match okPairs ((nth bs i).getD Bits.nil) fp false (span h.next (hh.next-h.next)) recs&&okPairs ((nth bs i).getD Bits.nil) (idOf s) true (span h.next (hh.next-h.next)) recs with
    |true=>run E m (.draw bs all rest (i+1) (.opw i fp (idOf s) h.next hh.next::recs)) (putTmp tm o.dst v') (back h hh (fp++span h.next (hh.next-h.next)))
    |false=> .stop)=r
  rw[hcond,o1,o2];exact e m hm
theorem W.apYs {c:Call} {t t2 e:TypeId} {ts es t2s:TyS} {s s2:CV} {l2:List (List CV)} (d:DY B h idx recs) (X:Ext H h) (so:OwnR h H.next z s l) (s2l:SlG h z s2 l2) (hB:∀b,B b->b∉idOf s) (hid:(idx.all λj=>bit j ((nth bs i).getD Bits.nil))=true)
  (hgd:guardOn all tm o=some true) (hop:o.op= .call c) (hb:c.callee= .builtin .append) (hty:c.argTypes.toList=[t,t2]) (ha:c.args.toList.map (cvOf E.globs tm)=[s,s2])
  (hts:E.ty t=some ts) (hk:ts.kind= .slice e) (hes:E.ty e=some es) (hz:es.size=z) (hz0:(Nat.beq es.size 0||Nat.beq es.bytes 0)=false) (ht2:E.ty t2=some t2s) (hk2:t2s.kind= .slice e) (hm:(l.length+l2.length)*es.bytes<=70368744177664)
  (w:∀recs' v' h',DY B h' (i::idx) recs'->Ext H h'->(∀b,B b->h'.get b=h.get b)->h.next<=h'.next->OwnR h' H.next z v' (l++l2)->(∀c,c<h.next->idOf s≠[c]->idOf v'≠[c])->W E (.draw bs all rest (i+1) recs') (putTmp tm o.dst v') h' Q):W E (.draw bs all (o::rest) i recs) tm h Q:=by
 have hall:∀r∈recs,bit (recIdx r) ((nth bs i).getD Bits.nil)=true:=λr hm=>List.all_eq_true.1 hid _ (d.r r hm).1;refine W.apC (λn _=>⟨okPairs_ahead hall,okPairs_ahead hall⟩) X so s2l hgd hop hb hty ha hts hk hes hz hz0 ht2 hk2 hm λrecs' v' h' hr hlt X' nn kk O' kid _=> ?_;refine w recs' v' h' ?_ X' (λb hb=>kk b (d.b b hb) (.inr λe=>hB b hb (by rw[e];simp))) nn O' kid;rcases hr with rfl|⟨lo,hi,rfl,rfl⟩
 ·exact⟨λr hr=>⟨List.mem_cons_of_mem _ (d.r r hr).1,by obtain⟨i,fp,ws,lo,hi,h2,h3,h4⟩:=(d.r r hr).2;exact⟨i,fp,ws,lo,hi,h2,λk hk=>Nat.lt_of_lt_of_le (h3 k hk) nn,h4⟩⟩,λb hb=>Nat.lt_of_lt_of_le (d.b b hb) nn⟩
 ·exact d.tail nn rfl ⟨_,_,_,_,_,.inl rfl,λk hk=>Nat.lt_of_lt_of_le (hlt k hk) nn,λb hb=>⟨d.b b hb,hB b hb⟩⟩
theorem W.apY {c:Call} {t t2 e:TypeId} {ts es t2s:TyS} {s s2:CV} {l2:List (List CV)} (d:DY B h idx recs) (X:Ext H h) (so:OwnR h H.next z s l) (s2l:SlG h z s2 l2) (hB:∀b,B b->b∉idOf s++idOf s2) (hid:(idx.all λj=>bit j ((nth bs i).getD Bits.nil))=true)
  (hgd:guardOn all tm o=some true) (hop:o.op= .call c) (hb:c.callee= .builtin .append) (hty:c.argTypes.toList=[t,t2]) (ha:c.args.toList.map (cvOf E.globs tm)=[s,s2])
  (hts:E.ty t=some ts) (hk:ts.kind= .slice e) (hes:E.ty e=some es) (hz:es.size=z) (hz0:(Nat.beq es.size 0||Nat.beq es.bytes 0)=false) (ht2:E.ty t2=some t2s) (hk2:t2s.kind= .slice e) (hm:(l.length+l2.length)*es.bytes<=70368744177664)
  (w:∀recs' v' h',DY B h' (i::idx) recs'->Ext H h'->(∀b,B b->h'.get b=h.get b)->h.next<=h'.next->OwnR h' H.next z v' (l++l2)->(∀c,c<h.next->idOf s≠[c]->idOf v'≠[c])->W E (.draw bs all rest (i+1) recs') (putTmp tm o.dst v') h' Q):W E (.draw bs all (o::rest) i recs) tm h Q:=
 W.apYs d X so s2l (λb hb h=>hB b hb (List.mem_append_left _ h)) hid hgd hop hb hty ha hts hk hes hz hz0 ht2 hk2 hm w
structure OwnB (h H:Heap) (b z:Nat) (v:CV) (l:List (List CV)):Prop where
 at':h.get b=some (.cells [v] false)
 lt:b<h.next
 lo:H.next<=b
 own:OwnR h H.next z v l
 ne:idOf v≠[b]
theorem OwnB.ext {b:Nat} (o:OwnB h H b z v l) (x:Ext h h'):OwnB h' H b z v l:=⟨(x.old _ o.lt).trans o.at',Nat.lt_of_lt_of_le o.lt x.next,o.lo,o.own.ext x,o.ne⟩
theorem OwnB.loc {b:Nat} (o:OwnB h H b z v l):LocE h b 0 [v]:=⟨_,_,o.at',o.lt,rfl⟩
theorem W.apst {c:Call} {t t2 e t1:TypeId} {ts es t2s s1:TyS} {s2:CV} {l2:List (List CV)} {b:Nat} {x y:Operand} {o2:Oper} (X:Ext H h) (ob:OwnB h H b z v l) (s2l:SlG h z s2 l2)
  (hgd:guardOn all tm o=some true) (hop:o.op= .call c) (hb:isBuiltin c.callee=some .append) (hty:c.argTypes.toList=[t,t2]) (ha:c.args.toList.map (cvOf E.globs tm)=[v,s2])
  (hts:E.ty t=some ts) (hk:ts.kind= .slice e) (hes:E.ty e=some es) (hz:es.size=z) (hz0:(Nat.beq es.size 0||Nat.beq es.bytes 0)=false) (ht2:E.ty t2=some t2s) (hk2:t2s.kind= .slice e) (hm:(l.length+l2.length)*es.bytes<=70368744177664)
  (hg2:∀v',guardOn all (putTmp tm o.dst v') o2=some true) (hop2:o2.op= .store t1 x y) (hx:∀v',cvOf E.globs (putTmp tm o.dst v') x= .ptr (some (b,0))) (hy:∀v',cvOf E.globs (putTmp tm o.dst v') y=v') (hs1:E.ty t1=some s1) (hs1z:s1.size=1)
  (w:∀v' h',Ext H h'->OwnB h' H b z v' (l++l2)->(∀k,k<h.next->k≠b->idOf v≠[k]->h'.get k=h.get k)->h.next<=h'.next->W E (.ops all rest) (putTmp (putTmp tm o.dst v') o2.dst .undef) h' Q):W E (.ops all (o::o2::rest)) tm h Q:=by
 obtain⟨v',h1,k1,k2,k2b,k3,k4,k5,k6,k7⟩:=append_own X.next ob.own s2l hts hk hes hz hz0 ht2 hk2 hm;have X':Ext H h1:=⟨Nat.le_trans X.next k2,λk hk=>(k3 k (Nat.lt_of_lt_of_le hk X.next) (.inl hk)).trans (X.old k hk),λf=>k4 (X.fr f)⟩;have gb:h1.get b=some (.cells [v] false):=(k3 b ob.lt (.inr ob.ne)).trans ob.at'
 have ne':idOf v'≠[b]:=by
  by_cases hl2:l2=[]
  ·rw[(k6 hl2).1];exact ob.ne
  ·rw[(k7 hl2).1]
   intro e;have:h.next=b:=by simpa using e
   have:=ob.lt;omega
 have ho:opAny E o tm h=some (v',h1):=by
  unfold opAny;rw[hop];simp only[hb];show builtinV E h .append c.argTypes.toList (c.args.toList.map (cvOf E.globs tm))=_;rw[hty,ha];exact k1
 have hcells:v'.cells=some [v']:=by
  obtain⟨p,n,c,x,rfl⟩:=k5.form;rfl
 refine W.op hgd ho ?_;refine W.stn (vs:=[v']) (cs':=[v']) (hg2 v') hop2 (hx v') (by rw[hy];exact hcells) hs1 (by rw[hs1z];rfl) gb rfl λh2 n2 g2 o2'=> ?_;have hlt:b<h1.next:=Nat.lt_of_lt_of_le ob.lt k2;refine w v' h2 ⟨by rw[n2];exact X'.next,λk hk=>(o2' k (by have:=ob.lo;omega)).trans (X'.old k hk),λf k hk=> ?_⟩ ⟨g2,by rw[n2];exact hlt,ob.lo,k5.other (by rw[n2];exact Nat.le_refl _) λk _ _ hk=>o2' k (λe=>ne' (by rw[hk,e])),ne'⟩ (λk hk hb hv=>(o2' k hb).trans (k3 k hk (.inr hv))) (by rw[n2];exact k2);rw[n2]at hk;exact(o2' k (by omega)).trans (X'.fr f k hk)
theorem SlG.notIn {b:Nat} (s:SlG h z v l) (hb:h.next<=b):b∉idOf v:=by
 rcases s with⟨rfl,rfl⟩|⟨rfl,rfl⟩|⟨i,o,c,x,cs,ro,rfl,g2,_⟩
 ·intro h;cases h
 ·intro h;cases h
 ·intro h
  have:b=i:=by simpa[idOf]using h
  omega
theorem LocE.of_get {i off:Nat} {e:List CV} (L:LocE h i off e) (g:h'.get i=h.get i) (n:h.next<=h'.next):LocE h' i off e:=by
 obtain⟨cs,ro,h1,h2,h3⟩:=L;exact⟨cs,ro,g.trans h1,by omega,h3⟩
theorem SlG.one {i:Nat} {cs:List CV} (hi:i<h.next) (g:h.get i=some (.cells cs false)):SlG h cs.length (.slice (some (i,0)) 1 1 0) [cs]:=
 .inr (.inr ⟨i,0,1,0,cs,false,rfl,hi,g,λj e he=>by
  have hj:=(List.getElem?_eq_some_iff.1 he).1;simp at hj;subst hj;simp at he;subst he;exact⟨rfl,by rw[cut_eq,if_pos (by omega),Nat.zero_mul,Nat.add_zero,List.drop_zero,List.take_of_length_le (Nat.le_refl _)]⟩,Nat.le_refl _,.inl rfl⟩)
theorem lessN {n k:Nat} (h:k<n):n-(k+1)<n-k:=by omega
theorem LocE.new (h:Heap) (cs:List CV) (ro:Bool):LocE (h.new (.cells cs ro)) h.next 0 cs:=
 ⟨cs,ro,new_same _ _,Nat.lt_succ_self _,by rw[cut_eq,if_pos (by omega),List.drop_zero,List.take_of_length_le (Nat.le_refl _)]⟩
theorem W.box {t:TypeId} {x:Operand} {cs:List CV} (hgd:guardOn all tm o=some true) (hop:o.op= .box t x) (hx:(cvOf E.globs tm x).cells=some cs)
  (w:∀h',Ext h h'->h'.next=h.next+1->h'.get h.next=some (.cells cs false)->LocE h' h.next 0 cs->W E (.ops all rest) (putTmp tm o.dst (.ptr (some (h.next,0)))) h' Q):W E (.ops all (o::rest)) tm h Q:=by
 refine W.op hgd (v:= .ptr (some (h.next,0))) (h1:=h.new (.cells cs false)) ?_ (w _ (Ext.new _ _) rfl (new_same _ _) (LocE.new _ _ _));unfold opAny;rw[hop];show newPtr h (cvOf E.globs tm x).cells=_;rw[hx];rfl
theorem W.var {t t1:TypeId} {x y:Operand} {o2:Oper} {s:TyS} {cs:List CV} {a0 a1 a2 a3 a4 a5 a6 a7 a8 a9 a10 a11 a12 a13 a14 a15:NA} {a16:Tree CV} (hgd:guardOn all tm o=some true) (hop:o.op= .alloc t) (hs:E.ty t=some s)
  (ht:putTmp tm o.dst (.ptr (some (h.next,0)))=(Tm.mk a0 a1 a2 a3 a4 a5 a6 a7 a8 a9 a10 a11 a12 a13 a14 a15 a16))
  (hgd2:guardOn all (Tm.mk a0 a1 a2 a3 a4 a5 a6 a7 a8 a9 a10 a11 a12 a13 a14 a15 a16) o2=some true) (hop2:o2.op= .store t1 x y) (hx:cvOf E.globs (Tm.mk a0 a1 a2 a3 a4 a5 a6 a7 a8 a9 a10 a11 a12 a13 a14 a15 a16) x= .ptr (some (h.next,0))) (hy:(cvOf E.globs (Tm.mk a0 a1 a2 a3 a4 a5 a6 a7 a8 a9 a10 a11 a12 a13 a14 a15 a16) y).cells=some cs) (hs2:E.ty t1=some s)
  (hl:cs.length=s.size) (hl2:s.zero.length=s.size)
  (w:∀h',Ext h h'->h'.next=h.next+1->h'.get h.next=some (.cells cs false)->LocE h' h.next 0 cs->W E (.ops all rest) (putTmp (Tm.mk a0 a1 a2 a3 a4 a5 a6 a7 a8 a9 a10 a11 a12 a13 a14 a15 a16) o2.dst .undef) h' Q):W E (.ops all (o::o2::rest)) tm h Q:=by
 refine W.op hgd (v:= .ptr (some (h.next,0))) (h1:=h.new (.cells s.zero false)) ?_ ?_
 ·unfold opAny
  rw[hop];show newPtr h ((E.ty t).map (·.zero))=_;rw[hs];rfl
 rw[ht];refine W.stn (cs':=cs) hgd2 hop2 hx hy hs2 (by rw[CM.len_eq,hl];exact Nat.beq_refl _) (new_same _ _) ?_ λh' n g k=> ?_
 ·rw[setAt_eq,if_pos (by omega)]
  simp only[List.take_zero,List.nil_append,Nat.zero_add];rw[List.drop_of_length_le (by omega),List.append_nil]
 ·have X:Ext h h':=Ext.store (Ext.new _ _) n k (Nat.le_refl _) (Nat.lt_succ_self _)
  have n':h'.next=h.next+1:=n;exact w h' X n' g ⟨cs,false,g,by omega,by rw[cut_eq,if_pos (by omega),List.drop_zero,List.take_of_length_le (Nat.le_refl _)]⟩
theorem flatten_ones {l:List CV}:(l.map λc=>[c]).flatten=l:=by
 induction l with
 |nil=>rfl
 |cons a l ih=>simp[ih]
theorem W.bs1 {t:TypeId} {n:Nat} {ps:Array (Nat×Operand)} {cs:List CV} (hgd:guardOn all tm o=some true) (hop:o.op= .buildSlice t n ps) (ho:opAny E o tm h=some (.slice (some (h.next,0)) n n 0,h.new (.cells cs false))) (hn:cs.length=n)
  (w:∀h',Ext h h'->h'.next=h.next+1->h'.get h.next=some (.cells cs false)->SlG h' 1 (.slice (some (h.next,0)) n n 0) (cs.map λc=>[c])->W E (.ops all rest) (putTmp tm o.dst (.slice (some (h.next,0)) n n 0)) h' Q):W E (.ops all (o::rest)) tm h Q:=by
 refine W.op hgd ho (w _ (Ext.new _ _) rfl (new_same _ _) (.inr (.inr ⟨h.next,0,n,0,cs,false,by rw[List.length_map,hn],Nat.lt_succ_self _,new_same _ _,λj e he=> ?_,by rw[List.length_map,hn];exact Nat.le_refl _,.inl rfl⟩)))
 have hz:∀e∈cs.map λc=>[c],e.length=1:=λe he=>by
  obtain⟨c,_,rfl⟩:=List.mem_map.1 he;rfl
 refine⟨hz e (List.mem_of_getElem? he),?_⟩;have:=flat_cut hz he;rwa[flatten_ones]at this
theorem W.bsS {t:TypeId} {ps:Array (Nat×Operand)} {cs:List CV} (hgd:guardOn all tm o=some true) (hop:o.op= .buildSlice t 1 ps) (ho:opAny E o tm h=some (.slice (some (h.next,0)) 1 1 0,h.new (.cells cs false)))
  (w:∀h',Ext h h'->h'.next=h.next+1->h'.get h.next=some (.cells cs false)->SlG h' cs.length (.slice (some (h.next,0)) 1 1 0) [cs]->W E (.ops all rest) (putTmp tm o.dst (.slice (some (h.next,0)) 1 1 0)) h' Q):W E (.ops all (o::rest)) tm h Q:=by
 refine W.op hgd ho (w _ (Ext.new _ _) rfl (new_same _ _) (.inr (.inr ⟨h.next,0,1,0,cs,false,rfl,Nat.lt_succ_self _,new_same _ _,λj e he=> ?_,Nat.le_refl _,.inl rfl⟩)));have hj:=(List.getElem?_eq_some_iff.1 he).1;simp at hj;subst hj;simp at he;subst he;exact⟨rfl,by rw[cut_eq,if_pos (by omega),Nat.zero_mul,Nat.add_zero,List.drop_zero,List.take_of_length_le (Nat.le_refl _)]⟩
theorem W.ixF {α:Type} [Flat α] {l:List α} {v:CV} {t:TypeId} {x y:Operand} {s:TyS} {et j:Nat} {kk:IntKind} (sl:Sl H v l) (hj:j<l.length) (hgd:guardOn all tm o=some true) (hop:o.op= .indexAddr t x y) (hx:cvOf E.globs tm x=v) (hy:cvOf E.globs tm y= .int kk (j:Int)) (hs:E.ty t=some s) (hk:s.kind= .slice et) (hz:sizeOf? E et=some (Rp.z α))
  (w:∀i off,LocE H i off (Flat.enc l[j])->W E (.ops all rest) (putTmp tm o.dst (.ptr (some (i,off)))) h Q):W E (.ops all (o::rest)) tm h Q:=
 W.ixR sl hj hgd hop hx hy hs hk hz λi off e L r=>w i off (by rw[<-(Flat.iff H e l[j]).1 r];exact L)
theorem W.lnS {α:Type} [Rp α] {l:List α} {c:Call} {t e:TypeId} {s:TyS} {v:CV} {a0 a1 a2 a3 a4 a5 a6 a7 a8 a9 a10 a11 a12 a13 a14 a15:NA} {a16:Tree CV} (sl:Sl H v l)
  (hgd:guardOn all tm o=some true) (hop:o.op= .call c) (hb:isBuiltin c.callee=some .len) (hty:c.argTypes.toList=[t]) (ha:c.args.toList.map (cvOf E.globs tm)=[v]) (hts:E.ty t=some s) (hk:s.kind= .slice e)
  (ht:putTmp tm o.dst (.int .i64 (l.length:Int))=(Tm.mk a0 a1 a2 a3 a4 a5 a6 a7 a8 a9 a10 a11 a12 a13 a14 a15 a16)) (w:W E (.ops all rest) (Tm.mk a0 a1 a2 a3 a4 a5 a6 a7 a8 a9 a10 a11 a12 a13 a14 a15 a16) h Q):W E (.ops all (o::rest)) tm h Q:=
 W.ln sl.lenOf hgd hop hb hty ha hts hk ht w
theorem W.ixs {t:TypeId} {x y:Operand} {s:TyS} {b:Str} {j:Nat} {kk:IntKind} {c:UInt8} {a0 a1 a2 a3 a4 a5 a6 a7 a8 a9 a10 a11 a12 a13 a14 a15:NA} {a16:Tree CV} (hc:b[j]? =some c) (hgd:guardOn all tm o=some true) (hop:o.op= .index t x y) (hx:cvOf E.globs tm x= .str b) (hy:cvOf E.globs tm y= .int kk (j:Int)) (hs:E.ty t=some s) (hk:s.kind= .string)
  (ht:putTmp tm o.dst (.int .u8 (c.toNat:Int))=(Tm.mk a0 a1 a2 a3 a4 a5 a6 a7 a8 a9 a10 a11 a12 a13 a14 a15 a16)) (w:W E (.ops all rest) (Tm.mk a0 a1 a2 a3 a4 a5 a6 a7 a8 a9 a10 a11 a12 a13 a14 a15 a16) h Q):W E (.ops all (o::rest)) tm h Q:=by
 refine W.op hgd (v:= .int .u8 (c.toNat:Int)) (h1:=h) ?_ (by rw[ht];exact w);unfold opAny;rw[hop];show oIndex E (E.ty t) (cvOf E.globs tm x) (cvOf E.globs tm y) h=_;rw[hx,hy,hs];unfold oIndex;simp only[hk];show(match nth b j with|some c=>some (CV.int .u8 c.toNat,h)|none=>none)=_
 rw[nth_eq,hc]
theorem W.lns {c:Call} {t:TypeId} {s:TyS} {b:Str} {a0 a1 a2 a3 a4 a5 a6 a7 a8 a9 a10 a11 a12 a13 a14 a15:NA} {a16:Tree CV}
  (hgd:guardOn all tm o=some true) (hop:o.op= .call c) (hb:isBuiltin c.callee=some .len) (hty:c.argTypes.toList=[t]) (ha:c.args.toList.map (cvOf E.globs tm)=[.str b]) (hts:E.ty t=some s) (hk:s.kind= .string)
  (ht:putTmp tm o.dst (.int .i64 (b.length:Int))=(Tm.mk a0 a1 a2 a3 a4 a5 a6 a7 a8 a9 a10 a11 a12 a13 a14 a15 a16)) (w:W E (.ops all rest) (Tm.mk a0 a1 a2 a3 a4 a5 a6 a7 a8 a9 a10 a11 a12 a13 a14 a15 a16) h Q):W E (.ops all (o::rest)) tm h Q:=by
 refine W.op hgd (v:= .int .i64 (b.length:Int)) (h1:=h) ?_ (by rw[ht];exact w);unfold opAny;rw[hop];simp only[hb];show builtinV E h .len c.argTypes.toList (c.args.toList.map (cvOf E.globs tm))=_;rw[hty,ha];simp[builtinV,lenV,hts,hk,len_eq];rfl
end
section
variable {E:Env} {t:Task} {tm:Tm} {h:Heap} {Q:R->Prop}
end
end Go.CM
