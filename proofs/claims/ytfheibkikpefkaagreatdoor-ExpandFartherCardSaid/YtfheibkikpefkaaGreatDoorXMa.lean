/- Arguments of plain data (numbers, bools, strings, rows, structs), opened: what the plain machine has of them. No condition. -/
import Derived.Test.YtfheibkikpefkaaGreatDoorCmZ
set_option linter.unusedVariables false
set_option linter.unusedSimpArgs false
noncomputable section
namespace Go.CM
inductive PT where
 |int (k:IntKind)
 |bool
 |str
 |slice (e:PT)
 |struct (fs:List PT)
mutual
def PT.size:PT->Nat
 | .struct fs=>PT.sizes fs
 |_=>1
def PT.sizes:List PT->Nat
 |[]=>0
 |T::Ts=>T.size+PT.sizes Ts
end
inductive Dat where
 |int (n:Int)
 |bool (b:Bool)
 |str (s:List UInt8)
 |row (l:List Dat)
 |agg (l:List Dat)
inductive PTok (P:Program):PT->TypeId->Prop where
 |int {k:IntKind} {t:TypeId}:P.underlying t=some (.int k)->PTok P (.int k) t
 |bool {t:TypeId}:P.underlying t=some .bool->PTok P .bool t
 |str {t:TypeId}:P.underlying t=some .string->PTok P .str t
 |slice {e:PT} {t te:TypeId}:P.underlying t=some (.slice te)->P.cellsOf te=e.size->0<e.size->PTok P e te->PTok P (.slice e) t
 |struct {Ts:List PT} {t:TypeId} {fs:Array Field}:P.underlying t=some (.struct fs)->P.cellsOf t=PT.sizes Ts->fs.size=Ts.length->
  (∀(i:Nat) (T:PT) (f:Field),Ts[i]? =some T->fs[i]? =some f->f.offset=PT.sizes (Ts.take i))->(∀(i:Nat) (T:PT) (f:Field),Ts[i]? =some T->fs[i]? =some f->P.cellsOf f.type=T.size)->
  (∀(i:Nat) (T:PT) (f:Field),Ts[i]? =some T->fs[i]? =some f->PTok P T f.type)->PTok P (.struct Ts) t
inductive Rep (h:Heap):PT->List CV->Dat->Prop where
 |int (k:IntKind) (n:Int) (hw:(Lit.int k n).wf=true):Rep h (.int k) [.int k n] (.int n)
 |bool (b:Bool):Rep h .bool [.bool b] (.bool b)
 |str (s:List UInt8) (hl:s.length<=9223372036854775807):Rep h .str [.str s] (.str s)
 |nil (e:PT):Rep h (.slice e) [.slice none 0 0 0] (.row [])
 |emp (e:PT):Rep h (.slice e) [.empty] (.row [])
 |row (e:PT) (i c:Nat) (vss:List (List CV)) (ds:List Dat) (hi:i<h.next) (hg:h.get i=some (.cells vss.flatten true)) (hl:ds.length=vss.length) (h0:0<vss.length) (hc:vss.length<=c) (hm:c<=9223372036854775807)
  (hz:∀vs∈vss,vs.length=e.size) (hr:∀(j:Nat) (vs:List CV) (d:Dat),vss[j]? =some vs->ds[j]? =some d->Rep h e vs d):Rep h (.slice e) [.slice (some (i,0)) vss.length c 0] (.row ds)
 |struct (Ts:List PT) (vss:List (List CV)) (ds:List Dat) (h1:vss.length=Ts.length) (h2:ds.length=Ts.length)
  (hr:∀(j:Nat) (T:PT) (vs:List CV) (d:Dat),Ts[j]? =some T->vss[j]? =some vs->ds[j]? =some d->Rep h T vs d):Rep h (.struct Ts) vss.flatten (.agg ds)
def ArgOk (W:World) (b:ArgB):Prop:=∃arr ty fz,W.heap[b.blk]? =some (.cells arr ty fz)/\b.off+b.cs.length<=arr.size/\∀c∈b.cs,c.one=true
def ArgVR (W:World) (ρ:Rho) (b:ArgB):Prop:=∀arr ty fz,W.heap[b.blk]? =some (.cells arr ty fz)->VRs ρ b.cs ((arr.toList.drop b.off).take b.cs.length)
def Placed (ρ:Rho) (base:Nat) (bs:List ArgB):Prop:=∀(n:Nat) (b:ArgB),bs[n]? =some b->ρ (base+n)=some (b.blk,b.off)
def Laid (h:Heap) (base:Nat) (bs:List ArgB):Prop:=∀(n:Nat) (b:ArgB),bs[n]? =some b->base+n<h.next/\h.get (base+n)=some (.cells b.cs true)
theorem Placed.split {ρ:Rho} {base:Nat} {a b:List ArgB} (p:Placed ρ base (a++b)):Placed ρ base a/\Placed ρ (base+a.length) b:=by
 refine⟨λn x hx=>p n x ?_,λn x hx=> ?_⟩
 ·rw[List.getElem?_append_left (List.getElem?_eq_some_iff.1 hx).1];exact hx
 ·have:=p (a.length+n) x (by rw[List.getElem?_append_right (by omega),show a.length+n-a.length=n by omega];exact hx)
  rwa[<-Nat.add_assoc]at this
theorem Laid.split {h:Heap} {base:Nat} {a b:List ArgB} (p:Laid h base (a++b)):Laid h base a/\Laid h (base+a.length) b:=by
 refine⟨λn x hx=>p n x ?_,λn x hx=> ?_⟩
 ·rw[List.getElem?_append_left (List.getElem?_eq_some_iff.1 hx).1];exact hx
 ·have:=p (a.length+n) x (by rw[List.getElem?_append_right (by omega),show a.length+n-a.length=n by omega];exact hx)
  rwa[<-Nat.add_assoc]at this
structure Opened (W:World) (base:Nat) (T:PT) (cs:List Value) (vs:List CV) (bs:List ArgB) (d:Dat):Prop where
 len:vs.length=T.size
 one:∀c∈vs,c.one=true
 ok:∀b∈bs,ArgOk W b
 vr:∀ρ,Placed ρ base bs->VRs ρ vs cs/\∀b∈bs,ArgVR W ρ b
 rep:∀h,Laid h base bs->Rep h T vs d
structure OpenedL (W:World) (base:Nat) (items:List (PT×List Value)) (vss:List (List CV)) (bs:List ArgB) (ds:List Dat):Prop where
 len1:vss.length=items.length
 len2:ds.length=items.length
 len:∀(i:Nat) (it:PT×List Value) (vs:List CV),items[i]? =some it->vss[i]? =some vs->vs.length=it.1.size
 one:∀c∈vss.flatten,c.one=true
 ok:∀b∈bs,ArgOk W b
 vr:∀ρ,Placed ρ base bs->VRs ρ vss.flatten (items.map (·.2)).flatten/\∀b∈bs,ArgVR W ρ b
 rep:∀h,Laid h base bs->∀(i:Nat) (it:PT×List Value) (vs:List CV) (d:Dat),items[i]? =some it->vss[i]? =some vs->ds[i]? =some d->Rep h it.1 vs d
theorem open_items {W:World}:∀(items:List (PT×List Value)),(∀it∈items,∀base,∃vs bs d,Opened W base it.1 it.2 vs bs d)->∀base,∃vss bs ds,OpenedL W base items vss bs ds
 |[],_,base=>⟨[],[],[],rfl,rfl,λi it vs h=>by simp at h,λc hc=>by simp at hc,λb hb=>by simp at hb,λρ _=>⟨VRs.nil ρ,λb hb=>by simp at hb⟩,λh _ i it vs d hi=>by simp at hi⟩
 |it::items,hit,base=>by
  obtain⟨vs0,bs0,d0,o⟩:=hit it (by simp) base;obtain⟨vss,bs,ds,O⟩:=open_items items (λx hx=>hit x (List.mem_cons_of_mem _ hx)) (base+bs0.length);refine⟨vs0::vss,bs0++bs,d0::ds,by simp[O.len1],by simp[O.len2],λi x vs h1 h2=> ?_,λc hc=> ?_,λb hb=> ?_,λρ p=>⟨?_,λb hb=> ?_⟩,λh p i x vs d h1 h2 h3=> ?_⟩
  ·cases i with
   |zero=>simp at h1 h2;subst h1 h2;exact o.len
   |succ i=>exact O.len i x vs (by simpa using h1) (by simpa using h2)
  ·rw[List.flatten_cons,List.mem_append]at hc
   exact hc.elim (o.one c) (O.one c)
  ·rcases List.mem_append.1 hb with hb|hb
   ·exact o.ok b hb
   ·exact O.ok b hb
  ·rw[List.flatten_cons,List.map_cons,List.flatten_cons]
   exact(o.vr ρ p.split.1).1.append (O.vr ρ p.split.2).1
  ·rcases List.mem_append.1 hb with hb|hb
   ·exact(o.vr ρ p.split.1).2 b hb
   ·exact(O.vr ρ p.split.2).2 b hb
  ·cases i with
   |zero=>simp at h1 h2 h3;subst h1 h2 h3;exact o.rep h p.split.1
   |succ i=>exact O.rep h p.split.2 i x vs d (by simpa using h1) (by simpa using h2) (by simpa using h3)
theorem pieces_flat {α:Type}:∀(Ts:List PT) (cs:List α),cs.length=PT.sizes Ts->((List.range Ts.length).map λi=>((cs.drop (PT.sizes (Ts.take i))).take ((Ts.getD i .bool).size))).flatten=cs
 |[],cs,h=>by
  have:cs=[]:=List.eq_nil_of_length_eq_zero (by simpa[PT.sizes]using h);subst this;rfl
 |T::Ts,cs,h=>by
  have h:cs.length=T.size+PT.sizes Ts:=by simpa[PT.sizes]using h
  rw[List.length_cons,List.range_succ_eq_map,List.map_cons,List.flatten_cons,List.map_map];have ih:=pieces_flat Ts (cs.drop T.size) (by rw[List.length_drop];omega)
  have e:((λi=>((cs.drop (PT.sizes ((T::Ts).take i))).take (((T::Ts).getD i .bool).size)))∘Nat.succ)=λi=>(((cs.drop T.size).drop (PT.sizes (Ts.take i))).take ((Ts.getD i .bool).size)):=by
   funext i
   simp only[Function.comp,Nat.succ_eq_add_one,List.take_succ_cons,PT.sizes,List.getD_cons_succ,List.drop_drop]
  rw[e,ih];simp[PT.sizes]
theorem chunks_flat {α:Type} (z:Nat):∀(n:Nat) (cs:List α),n*z<=cs.length->((List.range n).map λi=>((cs.drop (i*z)).take z)).flatten=cs.take (n*z)
 |0,cs,_=>by simp
 |n+1,cs,h=>by
  have e1:(n+1)*z=z+n*z:=by rw[Nat.succ_mul];omega
  rw[e1]at h ⊢;rw[List.range_succ_eq_map,List.map_cons,List.flatten_cons,List.map_map];have ih:=chunks_flat z n (cs.drop z) (by rw[List.length_drop];omega)
  have e:((λi=>((cs.drop (i*z)).take z))∘Nat.succ)=λi=>(((cs.drop z).drop (i*z)).take z):=by
   funext i
   simp only[Function.comp,Nat.succ_eq_add_one,List.drop_drop]
   congr 2
   rw[Nat.succ_mul];omega
  rw[e,ih,Nat.zero_mul,List.drop_zero,List.take_add]
theorem open_pt {H:Type} {enc:TypeId×Value->H} {P:Program} {W:World} {sp:Nat->Bool} {hd:Bool} {T:PT} {t:TypeId} (ok:PTok P T t):
  ∀(fuel:Nat) (cs:List Value) (y:DataW H×List MemPlace),DataW.trod enc P W 0 sp hd fuel t cs=some y->∀base,∃vs bs d,Opened W base T cs vs bs d:=by
 induction ok with
 |int ht=>
  rename_i k t;intro fuel cs y h base;obtain⟨n,rfl,_,hw⟩:=DataW.trod_int ht h;exact⟨[.int k n],[],.int n,rfl,λc hc=>by simp at hc;subst hc;rfl,λb hb=>by simp at hb,λρ _=>⟨VRs.cons (.int _ _) (VRs.nil _),λb hb=>by simp at hb⟩,λh _=> .int k n hw⟩
 |bool ht=>
  intro fuel cs y h base;obtain⟨b,rfl,_⟩:=DataW.trod_bool ht h;exact⟨[.bool b],[],.bool b,rfl,λc hc=>by simp at hc;subst hc;rfl,λb hb=>by simp at hb,λρ _=>⟨VRs.cons (.bool _) (VRs.nil _),λb hb=>by simp at hb⟩,λh _=> .bool b⟩
 |str ht=>
  intro fuel cs y h base;obtain⟨s,rfl,_,hs⟩:=DataW.trod_string ht h
  have hs:s.data.toList.length<=9223372036854775807:=by
   have e:s.data.toList.length=s.size:=by rw[Array.length_toList];rfl
   rw[e];exact hs
  exact⟨[.str s.data.toList],[],.str s.data.toList,rfl,λc hc=>by simp at hc;subst hc;rfl,λb hb=>by simp at hb,λρ _=>⟨VRs.cons (.str _) (VRs.nil _),λb hb=>by simp at hb⟩,λh _=> .str _ hs⟩
 |struct ht hz hlen hf1 hf2 hf3 ih=>
  rename_i Ts t fs;intro fuel cs y h base;obtain⟨xs,m,_,_,hl,hxl,hx⟩:=DataW.trod_struct ht h;have hl:cs.length=PT.sizes Ts:=hl.trans hz;obtain⟨items,hitems⟩:∃items,items=(List.range Ts.length).map λi=>(Ts.getD i .bool,((cs.drop (PT.sizes (Ts.take i))).take ((Ts.getD i .bool).size))):=⟨_,rfl⟩
  have hget:∀(i:Nat) (it:PT×List Value),items[i]? =some it->∃T,Ts[i]? =some T/\it=(T,(cs.drop (PT.sizes (Ts.take i))).take T.size):=by
   intro i it hi;rw[hitems,List.getElem?_map,Option.map_eq_some_iff]at hi;obtain⟨j,hj,rfl⟩:=hi;have hjl:i<Ts.length:=by simpa using(List.getElem?_eq_some_iff.1 hj).1
   rw[List.getElem?_range hjl]at hj;cases hj;exact⟨Ts[i],by simp[hjl],by simp[List.getD_eq_getElem?_getD,hjl]⟩
  obtain⟨vss,bs,ds,O⟩:=open_items (W:=W) items (λit hit base=>by
   obtain⟨i,hi⟩:=List.getElem?_of_mem hit;obtain⟨T,hT,rfl⟩:=hget i it hi;have hil:i<Ts.length:=(List.getElem?_eq_some_iff.1 hT).1;have hfi:fs[i]? =some fs[i]:=by simp[show i<fs.size by omega]
   have e1:=hf1 i T _ hT hfi;have e2:=hf2 i T _ hT hfi;have hxi:=hx i _ hfi;rw[e1,e2,List.getElem?_eq_getElem (by omega)]at hxi;exact ih i T _ hT hfi m _ _ hxi base) base
  have hil:items.length=Ts.length:=by rw[hitems];simp
  have hflat:(items.map (·.2)).flatten=cs:=by
   rw[hitems,List.map_map];exact pieces_flat Ts cs hl
  refine⟨vss.flatten,bs,.agg ds,?_,O.one,O.ok,λρ p=> ?_,λh p=> .struct Ts vss ds (O.len1.trans hil) (O.len2.trans hil) λj T vs d h1 h2 h3=> ?_⟩
  ·have hv:=(VRs.nil (rho0 0)).1
   show vss.flatten.length=PT.sizes Ts
   have:∀(Ts:List PT) (vss:List (List CV)),vss.length=Ts.length->(∀(i:Nat) (T:PT) (vs:List CV),Ts[i]? =some T->vss[i]? =some vs->vs.length=T.size)->vss.flatten.length=PT.sizes Ts:=by
    intro Ts
    induction Ts with
    |nil=>intro vss hl _;have:vss=[]:=List.eq_nil_of_length_eq_zero hl;subst this;simp[PT.sizes]
    |cons T Ts ih=>
     intro vss hl hh;cases vss with
     |nil=>simp at hl
     |cons vs vss=>
      rw[List.flatten_cons,List.length_append,hh 0 T vs rfl rfl,ih vss (by simpa using hl) (λi T' vs' h1 h2=>hh (i+1) T' vs' (by simpa using h1) (by simpa using h2))];simp[PT.sizes]
   refine this Ts vss (O.len1.trans hil) λi T vs h1 h2=> ?_;obtain⟨it0,hii⟩:∃it0,items[i]? =some it0:=⟨_,List.getElem?_eq_getElem (by rw[hil];exact(List.getElem?_eq_some_iff.1 h1).1)⟩;obtain⟨T',hT',e⟩:=hget i _ hii;rw[h1]at hT';cases hT';have:=O.len i _ vs hii h2;rw[this,e]
  ·have:=O.vr ρ p
   rw[hflat]at this;exact this
  ·obtain⟨it0,hii⟩:∃it0,items[j]? =some it0:=⟨_,List.getElem?_eq_getElem (by rw[hil];exact(List.getElem?_eq_some_iff.1 h1).1)⟩
   obtain⟨T',hT',e⟩:=hget j _ hii;rw[h1]at hT';cases hT';have:=O.rep h p j _ vs d hii h2 h3;rw[e]at this;exact this
 |slice ht hz hpos hok ih=>
  rename_i e t te;intro fuel cs y h base;rcases DataW.trod_slice ht h with⟨rfl,_⟩|⟨a,len,cap,elems,rest,m,_,rfl,_,_,hlc,hcap,hel,hE,_,_⟩
  ·exact⟨[.slice none 0 0 0],[],.row [],rfl,λc hc=>by simp at hc;subst hc;rfl,λb hb=>by simp at hb,λρ _=>⟨VRs.cons (.nilslice 0 0 0 0 (Nat.le_refl _) (λ_=>rfl) (Nat.le_refl _) (by omega)) (VRs.nil _),λb hb=>by simp at hb⟩,λh _=> .nil e⟩
  have hm:cap<=9223372036854775807:=hcap;rcases Nat.eq_zero_or_pos len with h00|hlen
  ·subst h00
   exact⟨[.empty],[],.row [],rfl,λc hc=>by simp at hc;subst hc;rfl,λb hb=>by simp at hb,λρ _=>⟨VRs.cons (.empty a cap hm) (VRs.nil _),λb hb=>by simp at hb⟩,λh _=> .emp e⟩
  rw[hz]at hE
  have hcell:∀i,i<len->∃cs',W.cells? 0 (a.add (i*e.size)) e.size=some cs'/\∃y,DataW.trod enc P W 0 sp hd m te cs'=some y:=by
   intro i hi;have hx:=hE i hi;rw[List.getElem?_eq_getElem (by omega)]at hx;obtain⟨cs',h1,h2⟩:=Option.bind_eq_some_iff.1 hx;exact⟨cs',h1,_,h2⟩
  have ea:∀b:Addr,b.add 0=b:=λb=>by unfold Addr.add;simp
  obtain⟨cs0,hc0,_⟩:=hcell 0 hlen;obtain⟨_,hl0,hcc⟩:=World.cells?_some hc0;have hk0:=hcc 0 hpos;rw[ea,Nat.zero_mul,ea,List.getElem?_eq_getElem (by omega)]at hk0;obtain⟨blk,off,spot⟩:=a
  obtain⟨arr,ty,fz,hw,hsp⟩:∃arr ty fz,W.heap[blk]? =some (.cells arr ty fz)/\spot=none:=by
   unfold World.cell? at hk0;cases hh:W.heap[blk]? with
   |none=>rw[hh]at hk0;cases hk0
   |some o=>
    rw[hh]at hk0;cases o with
    |cells arr ty fz=>
     simp only at hk0;cases spot with
     |none=>exact⟨arr,ty,fz,rfl,rfl⟩
     |some s=>simp at hk0
    |_=>cases hk0
  subst hsp
  have hsize:∀i k,i<len->k<e.size->off+i*e.size+k<arr.size:=by
   intro i k hi hk;obtain⟨cs',h1,_⟩:=hcell i hi;obtain⟨_,hl,hcc⟩:=World.cells?_some h1;have:=hcc k hk
   have ee:((Addr.mk blk off none).add (i*e.size)).add k=⟨blk,off+i*e.size+k,none⟩:=by
    rw[show(Addr.mk blk off none).add (i*e.size)=⟨blk,off+i*e.size,none⟩from mk_add _ _ _];exact mk_add _ _ _
   rw[ee]at this;unfold World.cell? at this;rw[hw,List.getElem?_eq_getElem (by omega)]at this;have this:arr[off+i*e.size+k]? =some (cs'[k]'(by omega)):=by simpa using this
   exact(Array.getElem?_eq_some_iff.1 this).1
  have hall:len*e.size<=(arr.toList.drop off).length:=by
   have:=hsize (len-1) (e.size-1) (by omega) (by omega);obtain⟨n,rfl⟩:∃n,len=n+1:=⟨len-1,by omega⟩;rw[Nat.add_sub_cancel]at this;rw[List.length_drop,Array.length_toList,Nat.succ_mul];omega
  have hchunk:∀i,i<len->W.cells? 0 ((Addr.mk blk off none).add (i*e.size)) e.size=some (((arr.toList.drop off).drop (i*e.size)).take e.size):=by
   intro i hi;obtain⟨cs',h1,_⟩:=hcell i hi;rw[h1]
   congr 1
   obtain⟨_,hl,hcc⟩:=World.cells?_some h1;apply List.ext_getElem?;intro k;by_cases hk:k<e.size
   ·rw[<-hcc k hk]
    have ee:((Addr.mk blk off none).add (i*e.size)).add k=⟨blk,off+i*e.size+k,none⟩:=by
     rw[show(Addr.mk blk off none).add (i*e.size)=⟨blk,off+i*e.size,none⟩from mk_add _ _ _];exact mk_add _ _ _
    rw[ee,List.getElem?_take,if_pos hk,List.getElem?_drop,List.getElem?_drop,Array.getElem?_toList];unfold World.cell?;rw[hw];simp[Nat.add_assoc]
   ·rw[List.getElem?_eq_none (by omega),List.getElem?_take,if_neg hk]
  obtain⟨items,hitems⟩:∃items:List (PT×List Value),items=(List.range len).map λi=>(e,((arr.toList.drop off).drop (i*e.size)).take e.size):=⟨_,rfl⟩
  have hget:∀(i:Nat) (it:PT×List Value),items[i]? =some it->i<len/\it=(e,((arr.toList.drop off).drop (i*e.size)).take e.size):=by
   intro i it hi;rw[hitems,List.getElem?_map,Option.map_eq_some_iff]at hi;obtain⟨j,hj,rfl⟩:=hi;have hjl:i<len:=by simpa using(List.getElem?_eq_some_iff.1 hj).1
   rw[List.getElem?_range hjl]at hj;cases hj;exact⟨hjl,rfl⟩
  obtain⟨vss,bs,ds,O⟩:=open_items (W:=W) items (λit hit base=>by
   obtain⟨i,hi⟩:=List.getElem?_of_mem hit;obtain⟨hil,rfl⟩:=hget i it hi;obtain⟨cs',h1,y,h2⟩:=hcell i hil;rw[hchunk i hil]at h1;cases h1;exact ih m _ y h2 base) (base+1)
  have hil:items.length=len:=by rw[hitems];simp
  have hv:vss.length=len:=O.len1.trans hil
  have hflat:(items.map (·.2)).flatten=(arr.toList.drop off).take (len*e.size):=by
   rw[hitems,List.map_map];exact chunks_flat e.size len _ hall
  have hz:∀vs∈vss,vs.length=e.size:=by
   intro vs hvs;obtain⟨i,hi⟩:=List.getElem?_of_mem hvs;obtain⟨it0,hii⟩:∃it0,items[i]? =some it0:=⟨_,List.getElem?_eq_getElem (by rw[hil,<-hv];exact(List.getElem?_eq_some_iff.1 hi).1)⟩;obtain⟨_,e1⟩:=hget i _ hii;have:=O.len i _ vs hii hi;rw[this,e1]
  have hfl:vss.flatten.length=len*e.size:=by
   rw[<-hv];clear O hv hitems hget hil hflat
   induction vss with
   |nil=>simp
   |cons v vss ihv=>rw[List.flatten_cons,List.length_append,hz v (by simp),ihv (λx hx=>hz x (List.mem_cons_of_mem _ hx)),List.length_cons,Nat.succ_mul];omega
  refine⟨[.slice (some (base,0)) len cap 0],⟨blk,off,vss.flatten⟩::bs,.row ds,rfl,λc hc=>by simp at hc;subst hc;rfl,λb hb=> ?_,λρ p=> ?_,λh p=> ?_⟩
  ·rcases List.mem_cons.1 hb with rfl|hb
   ·refine⟨arr,ty,fz,hw,?_,O.one⟩
    rw[List.length_drop,Array.length_toList]at hall;show off+vss.flatten.length<=arr.size;rw[hfl];have:=hsize 0 0 hlen hpos;omega
   ·exact O.ok b hb
  ·have p2:Placed ρ base ([⟨blk,off,vss.flatten⟩]++bs):=p
   have q:=O.vr ρ p2.split.2;have hb0:ρ base=some (blk,off):=p 0 _ rfl;refine⟨VRs.cons (VR.slice base 0 len cap 0 blk off cap hb0 (Nat.le_refl _) (λ_=>rfl) (λh=>absurd rfl h) hlc hm) (VRs.nil _),λb hb=> ?_⟩;rcases List.mem_cons.1 hb with rfl|hb
   ·intro arr' ty' fz' hw'
    rw[hw]at hw';cases hw';have q1:=q.1;rw[hflat]at q1;show VRs ρ vss.flatten ((arr.toList.drop off).take vss.flatten.length);rw[hfl];exact q1
   ·exact q.2 b hb
  ·have p2:Laid h base ([⟨blk,off,vss.flatten⟩]++bs):=p
   obtain⟨hi,hg⟩:=p 0 _ rfl
   have r:=Rep.row (h:=h) e base cap vss ds hi hg (by rw[O.len2,hil,hv]) (by omega) (by omega) hm hz λj vs d h1 h2=>by
    obtain⟨it0,hii⟩:∃it0,items[j]? =some it0:=⟨_,List.getElem?_eq_getElem (by rw[hil,<-hv];exact(List.getElem?_eq_some_iff.1 h1).1)⟩;obtain⟨_,e1⟩:=hget j _ hii;have:=O.rep h p2.split.2 j _ vs d hii h1 h2;rw[e1]at this;exact this
   rw[hv]at r;exact r
def ptB (P:Program):Nat->PT->TypeId->Bool
 |0,_,_=>false
 |n+1,T,t=>match T,P.underlying t with
  | .int k,some (.int k')=>decide (k'=k)
  | .bool,some .bool=>true
  | .str,some .string=>true
  | .slice e,some (.slice te)=>Nat.beq (P.cellsOf te) e.size&&(Nat.blt 0 e.size&&ptB P n e te)
  | .struct Ts,some (.struct fs)=>Nat.beq (P.cellsOf t) (PT.sizes Ts)&&(Nat.beq fs.size Ts.length&&(List.range Ts.length).all λi=>match Ts[i]?,fs[i]? with
    |some T,some f=>Nat.beq f.offset (PT.sizes (Ts.take i))&&(Nat.beq (P.cellsOf f.type) T.size&&ptB P n T f.type)
    |_,_=>false)
  |_,_=>false
theorem ptB_ok {P:Program}:∀(n:Nat) (T:PT) (t:TypeId),ptB P n T t=true->PTok P T t
 |0,_,_,h=>by cases h
 |n+1,T,t,h=>by
  unfold ptB at h;split at h
  ·rename_i ht;exact .int (by rw[ht,of_decide_eq_true h])
  ·rename_i ht;exact .bool ht
  ·rename_i ht;exact .str ht
  ·rename_i ht
   rw[Bool.and_eq_true,Bool.and_eq_true]at h;exact .slice ht (Nat.eq_of_beq_eq_true h.1) (by have:=h.2.1;rw[Nat.blt_eq]at this;exact this) (ptB_ok n _ _ h.2.2)
  ·rename_i Ts fs ht
   rw[Bool.and_eq_true,Bool.and_eq_true]at h
   have key:∀(i:Nat) (T:PT) (f:Field),Ts[i]? =some T->fs[i]? =some f->f.offset=PT.sizes (Ts.take i)/\P.cellsOf f.type=T.size/\PTok P T f.type:=λi T f h1 h2=>by
    have:=List.all_eq_true.1 h.2.2 i (by rw[List.mem_range];exact(List.getElem?_eq_some_iff.1 h1).1);rw[h1,h2]at this;simp only[Bool.and_eq_true]at this;exact⟨Nat.eq_of_beq_eq_true this.1,Nat.eq_of_beq_eq_true this.2.1,ptB_ok n T f.type this.2.2⟩
   exact .struct ht (Nat.eq_of_beq_eq_true h.1) (Nat.eq_of_beq_eq_true h.2.1) (λi T f h1 h2=>(key i T f h1 h2).1) (λi T f h1 h2=>(key i T f h1 h2).2.1) (λi T f h1 h2=>(key i T f h1 h2).2.2)
  ·cases h
end Go.CM
