/- Operations that call nothing: the model gives what the plain machine gives. No condition. -/
import Derived.Test.YtmgpjfnlciapkaaGreatDoorCmF
set_option linter.unusedVariables false
set_option linter.unusedSimpArgs false
noncomputable section
namespace Go.CM
def Gives (P:Program) (o:Oper) (a:Act) (w:World) (x:Value) (w':World):Prop:=
 (execOp a.eval o).run P w= .ok (.value x) w'\/((execOp a.eval o).run P w= .ok .skip w'/\x=undef)
def OpOk (P:Program) (o:Oper) (a:Act) (ρ:Rho) (h:Heap) (w:World) (v:CV) (h':Heap):Prop:=
 ∃x w' ρ',Gives P o a w x w'/\J ρ h w ρ' h' w'/\VR ρ' v x
section
variable {P:Program} {E:Env} {o:Oper} {a:Act} {ρ:Rho} {h h':Heap} {w:World} {v:CV} {f:Operand->CV}
theorem OpOk.val (hr:HR ρ h w) {x:Value} (hx:(execOp a.eval o).run P w= .ok (.value x) w) (hv:VR ρ v x):OpOk P o a ρ h w v h:=
 ⟨x,w,ρ,.inl hx,J.refl hr,hv⟩
theorem withH_some {r:Option CV} {p:CV×Heap} (e:withH h r=some p):r=some p.1/\p.2=h:=by
 unfold withH at e
 split at e
 ·cases e;exact⟨rfl,rfl⟩
 ·cases e
theorem op_move {x:Operand} (ho:o.op= .move x) (hr:HR ρ h w) (hx:VR ρ v (a.eval x)):OpOk P o a ρ h w v h:= .val hr (by unfold execOp;simp[ho]) hx
theorem op_assign {x:Operand} (ho:o.op= .assign x) (hr:HR ρ h w) (hx:VR ρ v (a.eval x)):OpOk P o a ρ h w v h:= .val hr (by unfold execOp;simp[ho]) hx
theorem op_pick {c x y:Operand} {vc vx vy:CV} (ho:o.op= .pick c x y) (hr:HR ρ h w) (e:oPick vc vx vy h=some (v,h')) (hc:VR ρ vc (a.eval c)) (hx:VR ρ vx (a.eval x)) (hy:VR ρ vy (a.eval y)):OpOk P o a ρ h w v h':=by
 unfold oPick at e
 split at e
 ·have hb:=hc.inv_bool
  split at e
  ·cases e;exact .val hr (by unfold execOp;simp[ho,hb,asBool]) hx
  ·cases e;exact .val hr (by unfold execOp;simp[ho,hb,asBool]) hy
 ·cases e
theorem const1_sound {ρ:Rho} {x:Value} {c:CV} (e:const1 x=some c):VR ρ c x/\c.one=true:=by
 unfold const1 at e
 split at e<;>(try cases e)<;>refine⟨?_,rfl⟩
 ·exact .bool _
 ·exact .int _ _
 ·exact .str _
 ·exact .nilptr
 ·exact .nilslice 0 0 0 0 (Nat.le_refl _) (λ_=>rfl) (Nat.le_refl _) (by omega)
 ·exact .nilmap
 ·exact .nilFunc
 ·exact .nilIface
theorem consts_sound {ρ:Rho}:∀{l:List Value} {cs:List CV},consts l=some cs->VRs ρ cs l/\∀c∈cs,c.one=true
 |[],cs,e=>by cases e;exact⟨VRs.nil ρ,λc hc=>by cases hc⟩
 |x::r,cs,e=>by
  simp only[consts]at e
  split at e
  ·rename_i c hc
   obtain⟨h1,h2⟩:=const1_sound (ρ:=ρ) hc
   cases hr:consts r with
   |none=>rw[hr]at e;cases e
   |some cs'=>
    rw[hr]at e
    simp only[Option.map_some,Option.some.injEq]at e
    subst e
    obtain⟨h3,h4⟩:=consts_sound (ρ:=ρ) hr
    refine⟨VRs.cons h1 h3,λd hd=> ?_⟩
    rcases List.mem_cons.1 hd with rfl|hd
    ·exact h2
    ·exact h4 d hd
  ·cases e
theorem constCV_sound {ρ:Rho} {x:Value} {c:CV} (e:constCV x=some c):VR ρ c x:=by
 unfold constCV at e
 split at e
 ·rename_i cs
  cases hr:consts cs.toList with
  |none=>rw[hr]at e;cases e
  |some l=>
   rw[hr]at e
   simp only[Option.map_some,Option.some.injEq]at e
   subst e
   obtain⟨h1,h2⟩:=consts_sound (ρ:=ρ) hr
   exact VRs.agg h1 h2
 ·exact(const1_sound e).1
theorem J.alloc (hr:HR ρ h w) {cs:List CV} {arr:Array Value} (ty:TypeId) (h1:VRs ρ cs arr.toList) (h2:∀c∈cs,c.one=true) (w0:World) (e0:w0.heap=w.heap) (e1:w0.os=w.os) (e2:w0.output=w.output):
  J ρ h w (upd ρ h.next (w.heap.size,0) 0) (h.new (.cells cs false)) (w0.alloc (.cells arr ty)):=by
 have hs:=hr.sub (w.heap.size,0) 0
 refine J.new hr 0 e1 e2 (by rw[World.size_alloc,e0];omega) (λx hx=> ?_) ?_
 ·rw[heap_alloc_old w0 _ x (by rw[e0];exact hx),e0]
 ·have hn:(w0.alloc (.cells arr ty)).heap[w.heap.size]? =some (.cells arr ty (0,0)):=by rw[<-e0];exact heap_alloc_new _ _
  have hl:=h1.1
  simp only[Array.length_toList]at hl
  refine⟨arr,ty,(0,0),hn,⟨by omega,by omega⟩,?_,h2,λ_=>rfl⟩
  have e:(arr.toList.drop 0).take cs.length=arr.toList:=by rw[List.drop_zero,List.take_of_length_le (by simp;omega)]
  rw[e]
  exact h1.mono hs
theorem newPtr_some {cs:Option (List CV)} {p:CV×Heap} (e:newPtr h cs=some p):∃l,cs=some l/\p=(.ptr (some (h.next,0)),h.new (.cells l false)):=by
 unfold newPtr at e
 split at e
 ·cases e;exact⟨_,rfl,rfl⟩
 ·cases e
theorem VR.new (ρ:Rho) (n k:Nat):VR (upd ρ n (k,0) 0) (.ptr (some (n,0))) (.pointer (some (mk k 0))):=by
 have:=VR.ptr (ρ:=upd ρ n (k,0) 0) n 0 k 0 (upd_same _ _ _ _)
 simpa using this
theorem op_alloc (ok:EnvOk P E) {t:TypeId} (ho:o.op= .alloc t) (hr:HR ρ h w) (e:newPtr h ((E.ty t).map (·.zero))=some (v,h')):OpOk P o a ρ h w v h':=by
 obtain⟨l,hl,e⟩:=newPtr_some e
 cases e
 cases hs:E.ty t with
 |none=>rw[hs]at hl;cases hl
 |some s=>
  rw[hs]at hl
  cases hl
  obtain⟨i,d,z,k⟩:=ok.row hs
  obtain⟨h1,h2⟩:=consts_sound (ρ:=ρ) k.cells
  refine⟨_,_,_,.inl ?_,J.alloc hr t h1 h2 w rfl rfl rfl,VR.new _ _ _⟩
  unfold execOp
  simp[ho,Instr.alloc,zeroValue,typeInfo,k.info,k.zero,newVar,newRow,mk]
theorem op_box {t:TypeId} {x:Operand} {vx:CV} (ho:o.op= .box t x) (hr:HR ρ h w) (e:newPtr h vx.cells=some (v,h')) (hx:VR ρ vx (a.eval x)):OpOk P o a ρ h w v h':=by
 obtain⟨l,hl,e⟩:=newPtr_some e
 cases e
 obtain⟨h1,h2⟩:=cells_sound hx hl
 refine⟨_,_,_,.inl ?_,J.alloc hr t h1 h2 w rfl rfl rfl,VR.new _ _ _⟩
 unfold execOp
 simp[ho,Instr.box,newVar,newRow,mk]
theorem op_load (ok:EnvOk P E) {t:TypeId} {x:Operand} {vx:CV} (ho:o.op= .load t x) (hr:HR ρ h w) (e:oLoad E t vx h=some (v,h')) (hx:VR ρ vx (a.eval x)):OpOk P o a ρ h w v h':=by
 unfold oLoad at e
 split at e
 ·rename_i p
  obtain⟨e1,e2⟩:=withH_some e
  simp only at e1 e2
  subst e2
  obtain⟨i,off⟩:=p
  obtain⟨k,d,hi,hxe⟩:=hx.inv_ptr
  obtain⟨y,h1,h2⟩:=load_sound ok hr e1 hi
  exact .val hr (by unfold execOp;simp[ho,Instr.loadAt,Instr.sureAddr,hxe,h1]) h2
 ·cases e
theorem op_store (ok:EnvOk P E) {t:TypeId} {x y:Operand} {vx vy:CV} (ho:o.op= .store t x y) (hr:HR ρ h w) (e:oStore E t vx vy h=some (v,h')) (hx:VR ρ vx (a.eval x)) (hy:VR ρ vy (a.eval y)):OpOk P o a ρ h w v h':=by
 unfold oStore ofH at e
 split at e
 ·rename_i p
  split at e
  ·rename_i h2 hs
   cases e
   obtain⟨i,off⟩:=p
   obtain⟨k,d,hi,hxe⟩:=hx.inv_ptr
   obtain⟨w',h3,h4⟩:=store_sound ok hr hs hi hy
   exact⟨undef,w',ρ,.inr ⟨by unfold execOp;simp[ho,Instr.storeAt,Instr.sureAddr,hxe,h3],rfl⟩,h4,.undef _⟩
  ·cases e
 ·cases e
theorem op_nil {x:Operand} {vx:CV} (ho:o.op= .nilCheck x) (hr:HR ρ h w) (e:oNil vx h=some (v,h')) (hx:VR ρ vx (a.eval x)):OpOk P o a ρ h w v h':=by
 unfold oNil at e
 split at e
 ·rename_i p
  cases e
  obtain⟨i,off⟩:=p
  obtain⟨k,d,hi,hxe⟩:=hx.inv_ptr
  exact .val hr (by unfold execOp;simp[ho,hxe]) (hxe▸hx)
 ·cases e
  obtain⟨a1,a2,hxe,_⟩:=hx.inv_fn
  exact .val hr (by unfold execOp;simp[ho,hxe]) (hxe▸hx)
 ·cases e
  obtain⟨l,_,hxe⟩:=hx.inv_yield
  exact .val hr (by unfold execOp;simp[ho,hxe]) (hxe▸hx)
 ·cases e
  obtain⟨y,hxe,_⟩:=hx.inv_iface
  exact .val hr (by unfold execOp;simp[ho,hxe]) (hxe▸hx)
 ·cases e
theorem foldl_put (off:Nat):∀(l:List Value) (k:Nat) (arr:Array Value),
  ((l.zipIdx k).foldl (λ(cs:Array Value) (p:Value×Nat)=>cs.setIfInBounds (off+p.2) p.1) arr).size=arr.size/\
  ∀i,((l.zipIdx k).foldl (λ(cs:Array Value) (p:Value×Nat)=>cs.setIfInBounds (off+p.2) p.1) arr).getD i undef=
   if off+k<=i/\i<off+k+l.length/\i<arr.size then l.getD (i-(off+k)) undef else arr.getD i undef
 |[],k,arr=>by
  refine⟨rfl,λi=> ?_⟩
  rw[if_neg (by simp;omega)]
  rfl
 |v::l,k,arr=>by
  have ih:=foldl_put off l (k+1) (arr.setIfInBounds (off+k) v)
  simp only[List.zipIdx_cons,List.foldl_cons]
  refine⟨by rw[ih.1];simp,λi=> ?_⟩
  rw[ih.2 i]
  simp only[Array.size_setIfInBounds,List.length_cons]
  by_cases h1:off+(k+1)<=i/\i<off+(k+1)+l.length/\i<arr.size
  ·rw[if_pos h1,if_pos (by omega)]
   have:i-(off+k)=(i-(off+(k+1)))+1:=by omega
   rw[this];simp
  ·rw[if_neg h1]
   by_cases h2:i=off+k
   ·subst h2
    by_cases h3:off+k<arr.size
    ·rw[if_pos (by omega)]
     simp[h3]
    ·rw[if_neg (by omega)]
     simp[h3]
   ·rw[if_neg (by omega)]
    simp[Ne.symm h2]
theorem put_list (off:Nat) (xs arr:Array Value) (hle:off+xs.size<=arr.size):
  (xs.zipIdx.foldl (λcs (c,j)=>cs.setIfInBounds (off+j) c) arr).toList=arr.toList.take off++xs.toList++arr.toList.drop (off+xs.size):=by
 have e:(xs.zipIdx.foldl (λ(cs:Array Value) (p:Value×Nat)=>cs.setIfInBounds (off+p.2) p.1) arr)=(xs.toList.zipIdx 0).foldl (λ(cs:Array Value) (p:Value×Nat)=>cs.setIfInBounds (off+p.2) p.1) arr:=by
  rw[<-Array.foldl_toList];simp
 have hf:=foldl_put off xs.toList 0 arr
 show(xs.zipIdx.foldl (λ(cs:Array Value) (p:Value×Nat)=>cs.setIfInBounds (off+p.2) p.1) arr).toList=_
 rw[e]
 generalize ((xs.toList.zipIdx 0).foldl (λ(cs:Array Value) (p:Value×Nat)=>cs.setIfInBounds (off+p.2) p.1) arr)=r at hf
 obtain⟨h1,h2⟩:=hf
 apply List.ext_getElem
 ·simp;omega
 ·intro j g1 g2
  have hj:j<r.size:=by simpa using g1
  have:=h2 j
  simp only[Nat.add_zero,Array.length_toList]at this
  have e1:r.getD j undef=r[j]:=by simp[hj]
  rw[e1]at this
  rw[Array.getElem_toList,this]
  simp only[List.getElem_append,List.length_take,List.getElem_take,List.length_append,Array.length_toList]
  have hm:min off arr.size=off:=by omega
  simp only[hm]
  by_cases c1:j<off
  ·rw[dif_pos (by omega),dif_pos c1,if_neg (by omega)]
   have:j<arr.size:=by omega
   simp[this]
  ·by_cases c2:j<off+xs.size
   ·rw[dif_pos c2,dif_neg c1,if_pos (by omega)]
    have:j-off<xs.size:=by omega
    simp[List.getD_eq_getElem?_getD,this]
   ·rw[dif_neg c2,if_neg (by omega)]
    have:j<arr.size:=by omega
    simp only[List.getElem_drop,Array.getElem_toList]
    simp[this]
    congr 1;omega
def PartsR (ρ:Rho):List (Nat×CV)->List (Nat×Value)->Prop
 |[],[]=>True
 |p::ps,q::qs=>p.1=q.1/\VR ρ p.2 q.2/\PartsR ρ ps qs
 |_,_=>False
theorem fill_sound (pl:Nat->Option (Nat×Nat)):∀(ps:List (Nat×CV)) (qs:List (Nat×Value)) (cs cs':List CV) (arr:Array Value),
  fillAt pl cs ps=some cs'->VRs ρ cs arr.toList->(∀c∈cs,c.one=true)->PartsR ρ ps qs->∃arr',Instr.fill pl arr qs=some arr'/\VRs ρ cs' arr'.toList/\(∀c∈cs',c.one=true)
 |[],[],cs,cs',arr,e,h1,h2,_=>by
  simp only[fillAt,Option.some.injEq]at e
  subst e
  exact⟨arr,rfl,h1,h2⟩
 |(i,v)::ps,(j,x)::qs,cs,cs',arr,e,h1,h2,hp=>by
  obtain⟨e0,hv,hp⟩:=hp
  simp only at e0 hv
  subst e0
  simp only[fillAt]at e
  simp only[Instr.fill]
  split at e
  ·cases e
  ·rename_i off size hpl
   split at e
   ·cases e
   ·rename_i vs hvs
    split at e
    ·cases e
    ·rename_i hn
     have hn:=Nat.eq_of_beq_eq_true hn
     rw[len_eq]at hn
     rw[setAt_eq]at e
     obtain⟨h3,h4⟩:=cells_sound hv hvs
     have hxs:x.cells.size=size:=by have:=h3.1;simp at this;omega
     have hcl:=h1.1
     simp only[Array.length_toList]at hcl
     by_cases hle:off+vs.length<=cs.length
     ·rw[if_pos hle]at e
      simp only at e
      rw[hpl]
      simp only
      rw[if_neg (by simp[hxs];omega)]
      refine fill_sound pl ps qs _ cs' _ e ?_ ?_ hp
      ·rw[put_list off x.cells arr (by omega)]
       have e2:off+x.cells.size=off+vs.length:=by omega
       rw[e2]
       exact((h1.take off).append h3).append (h1.drop _)
      ·intro c hc
       simp only[List.mem_append]at hc
       rcases hc with(hc|hc)|hc
       ·exact h2 c (List.mem_of_mem_take hc)
       ·exact h4 c hc
       ·exact h2 c (List.mem_of_mem_drop hc)
     ·rw[if_neg hle]at e;cases e
 |[],_::_,_,_,_,_,_,_,hp=>hp.elim
 |_::_,[],_,_,_,_,_,_,hp=>hp.elim
theorem parts_sound {ps:Array (Nat×Operand)} (hx:∀x,x∈ps.toList.map (·.2)->VR ρ (f x) (a.eval x)):PartsR ρ (parts f ps.toList) (ps.map λ(i,x)=>(i,a.eval x)).toList:=by
 rw[Array.toList_map]
 generalize ps.toList=l at hx
 unfold parts
 induction l with
 |nil=>trivial
 |cons p l ih=>exact⟨rfl,hx p.2 (by simp),ih λx hx'=>hx x (by simp at hx' ⊢;exact .inr hx')⟩
theorem sizeOf_row (ok:EnvOk P E) {t:TypeId} {n:Nat} (e:sizeOf? E t=some n) (w:World):(sizeOf t).run P w= .ok n w:=by
 unfold sizeOf? at e
 cases hs:E.ty t with
 |none=>rw[hs]at e;cases e
 |some s=>
  rw[hs]at e
  cases e
  obtain⟨i,d,z,k⟩:=ok.row hs
  exact run_sizeOf k w
theorem places_sound (ok:EnvOk P E) (w:World):∀(l:List Field) (pl:List (Nat×Nat)),placesOf E (l.map λf=>(f.type,f.offset))=some pl->
  (l.mapM λf=>(do pure (f.offset,<-sizeOf f.type):Sem (Nat×Nat))).run P w= .ok pl w
 |[],pl,e=>by simp only[List.map_nil,placesOf,Option.some.injEq]at e;subst e;simp
 |fl::l,pl,e=>by
  simp only[List.map_cons,placesOf]at e
  split at e
  ·rename_i n hn
   split at e
   ·rename_i r hr
    cases e
    have:=places_sound ok w l r hr
    simp only[List.mapM_cons,Sem.run_bind,sizeOf_row ok hn,Result.andThen_ok,Sem.run_pure]
    rw[this]
    simp
   ·cases e
  ·cases e
theorem kind_struct {d:TypeDesc} {fs:List (TypeId×Nat)} (e:kindOf d= .struct fs):∃l:Array Field,d= .struct l/\fs=l.toList.map (λf=>(f.type,f.offset))/\∀f∈l.toList,f.name≠ "_" :=by
 unfold kindOf at e
 split at e<;>try cases e
 rename_i l
 split at e
 ·rename_i hb
  cases e
  refine⟨l,rfl,rfl,λf hf=> ?_⟩
  rw[List.all_eq_true]at hb
  simpa using hb f hf
 ·cases e
theorem kind_array {d:TypeDesc} {n:Nat} {t:TypeId} (e:kindOf d= .array n t):d= .array n t:=by
 unfold kindOf at e;split at e<;>first|(cases e;rfl)|cases e|(split at e<;>cases e)
theorem kind_slice {d:TypeDesc} {t:TypeId} (e:kindOf d= .slice t):d= .slice t:=by
 unfold kindOf at e;split at e<;>first|(cases e;rfl)|cases e|(split at e<;>cases e)
theorem kind_map {d:TypeDesc} {k t:TypeId} (e:kindOf d= .map k t):d= .map k t:=by
 unfold kindOf at e;split at e<;>first|(cases e;rfl)|cases e|(split at e<;>cases e)
theorem kind_pointer {d:TypeDesc} {t:TypeId} (e:kindOf d= .pointer t):d= .pointer t:=by
 unfold kindOf at e;split at e<;>first|(cases e;rfl)|cases e|(split at e<;>cases e)
theorem kind_int {d:TypeDesc} {t:IntKind} (e:kindOf d= .int t):d= .int t:=by
 unfold kindOf at e;split at e<;>first|(cases e;rfl)|cases e|(split at e<;>cases e)
theorem kind_bool {d:TypeDesc} (e:kindOf d= .bool):d= .bool:=by
 unfold kindOf at e;split at e<;>first|rfl|cases e|(split at e<;>cases e)
theorem kind_string {d:TypeDesc} (e:kindOf d= .string):d= .string:=by
 unfold kindOf at e;split at e<;>first|rfl|cases e|(split at e<;>cases e)
theorem kind_iface {d:TypeDesc} (e:kindOf d= .iface):∃ms,d= .interface ms:=by
 unfold kindOf at e;split at e<;>first|exact⟨_,rfl⟩|cases e|(split at e<;>cases e)
theorem kind_func {d:TypeDesc} (e:kindOf d= .func):∃p r v,d= .func p r v:=by
 unfold kindOf at e;split at e<;>first|exact⟨_,_,_,rfl⟩|cases e|(split at e<;>cases e)
theorem op_build (ok:EnvOk P E) {t:TypeId} {ps:Array (Nat×Operand)} (ho:o.op= .build t ps) (hr:HR ρ h w) (e:oBuild E (E.ty t) (parts f ps.toList) h=some (v,h'))
  (hx:∀x,x∈ps.toList.map (·.2)->VR ρ (f x) (a.eval x)):OpOk P o a ρ h w v h':=by
 have hp:=parts_sound hx
 unfold oBuild at e
 split at e
 ·rename_i s hs
  obtain⟨i,d,z,k⟩:=ok.row hs
  obtain⟨h1,h2⟩:=consts_sound (ρ:=ρ) k.cells
  split at e
  ·rename_i fs hk
   split at e
   ·rename_i pl hpl
    obtain⟨e1,e2⟩:=withH_some e
    simp only at e1 e2
    subst e2
    cases hf:fillAt (nth pl) s.zero (parts f ps.toList)with
    |none=>rw[hf]at e1;cases e1
    |some cs=>
     rw[hf]at e1
     simp only[Option.map_some,Option.some.injEq]at e1
     subst e1
     obtain⟨l,rfl,rfl,_⟩:=kind_struct (k.kind.symm.trans hk)
     obtain⟨arr',g1,g2,g3⟩:=fill_sound (nth pl) _ _ _ _ z.cells hf h1 h2 hp
     have hpr:=places_sound ok w l.toList pl hpl
     refine .val (x:= .agg arr') hr ?_ (VRs.agg g2 g3)
     have e3:(nth pl)=λi=>(pl.toArray)[i]? :=by funext i;rw[nth_eq];simp
     rw[e3]at g1
     have hpa:(l.mapM λf=>(do pure (f.offset,<-sizeOf f.type):Sem (Nat×Nat))).run P w= .ok pl.toArray w:=by
      rw[Array.mapM_eq_mapM_toList,Sem.run_map,hpr];rfl
     unfold execOp
     simp only[ho,Instr.build,Sem.run_bind,zeroValue,typeInfo,k.info,k.zero,run_program,Sem.run_pure,Result.andThen_ok,run_underlying k.und]
     rw[hpa]
     simp only[Result.andThen_ok]
     rw[g1]
     rfl
   ·cases e
  ·rename_i n el hk
   split at e
   ·rename_i m hm
    obtain⟨e1,e2⟩:=withH_some e
    simp only at e1 e2
    subst e2
    cases hf:fillAt (λi=>some (i*m,m)) s.zero (parts f ps.toList)with
    |none=>rw[hf]at e1;cases e1
    |some cs=>
     rw[hf]at e1
     simp only[Option.map_some,Option.some.injEq]at e1
     subst e1
     have hd:=kind_array (k.kind.symm.trans hk)
     subst hd
     obtain⟨arr',g1,g2,g3⟩:=fill_sound _ _ _ _ _ z.cells hf h1 h2 hp
     refine .val (x:= .agg arr') hr ?_ (VRs.agg g2 g3)
     unfold execOp
     simp only[ho,Instr.build,Sem.run_bind,zeroValue,typeInfo,k.info,k.zero,run_program,Sem.run_pure,Result.andThen_ok,run_underlying k.und,sizeOf_row ok hm]
     rw[g1]
     rfl
   ·cases e
  ·cases e
 ·cases e
end
end Go.CM
