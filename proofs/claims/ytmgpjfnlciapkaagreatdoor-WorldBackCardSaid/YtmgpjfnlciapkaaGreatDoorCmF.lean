/- Parts of values, loads and stores: the model gives what the plain machine gives. No condition. -/
import Derived.Test.YtmgpjfnlciapkaaGreatDoorCmE
set_option linter.unusedVariables false
set_option linter.unusedSimpArgs false
noncomputable section
namespace Go.CM
structure CmpOk (P:Program) (t:TypeId):Prop where
 cmp:∀i,P.info? t=some i->i.comparable=true
 held:P.stoodInHeld t=false
 guard:P.eqGuardType P.depth t=false
structure EnvOk (P:Program) (E:Env):Prop where
 ty:∀t s,E.ty t=some s->tyOf P t s.cmp=some s/\(s.cmp=true->CmpOk P t)
 fn:∀f s,E.fn f=some s->∃fn,P.funcs[f]? =some fn/\fn.ntmps=s.ntmps/\fn.results.toList=s.results/\fn.body=s.body
structure TyOk (P:Program) (t:TypeId) (s:TyS) (i:TypeInfo) (d:TypeDesc) (z:Value):Prop where
 info:P.info? t=some i
 und:P.underlying t=some d
 zero:i.zero=some z
 cells:consts z.cells.toList=some s.zero
 len:s.zero.length=i.size
 kind:s.kind=kindOf d
 size:s.size=i.size
 bytes:s.bytes=i.bytes
 agg:s.agg=isAggD d
 meths:s.meths=methsOf i.methods.toList
 zagg:aggV z=isAggD d
section
variable {P:Program} {E:Env}
theorem EnvOk.row (ok:EnvOk P E) {t:TypeId} {s:TyS} (h:E.ty t=some s):∃i d z,TyOk P t s i d z:=by
 have h:=(ok.ty t s h).1
 unfold tyOf at h
 split at h
 ·rename_i i d hi hd
  split at h
  ·rename_i z hz
   split at h
   ·rename_i cs hc
    split at h
    ·rename_i hl
     simp only[Bool.and_eq_true,beq_iff_eq]at hl
     obtain⟨hl,hza⟩:=hl
     have hl:=Nat.eq_of_beq_eq_true hl
     rw[len_eq]at hl
     have e:=Option.some.inj h
     refine⟨i,d,z,hi,hd,hz,?_,?_,?_,?_,?_,?_,?_,hza⟩<;>rw[<-e]<;>first|exact hc|exact hl|rfl
    ·cases h
   ·cases h
  ·cases h
 ·cases h
theorem run_isAgg {t:TypeId} {s:TyS} {i:TypeInfo} {d:TypeDesc} {z:Value} (k:TyOk P t s i d z) (w:World):(isAgg t).run P w= .ok s.agg w:=by
 unfold isAgg
 rw[Sem.run_bind,run_underlying k.und w]
 simp only[Result.andThen_ok,k.agg]
 cases d<;>rfl
theorem run_sizeOf {t:TypeId} {s:TyS} {i:TypeInfo} {d:TypeDesc} {z:Value} (k:TyOk P t s i d z) (w:World):(sizeOf t).run P w= .ok s.size w:=by
 simp[sizeOf,typeInfo,k.info,k.size]
theorem VRs.agg {ρ:Rho} {cs:List CV} {arr:Array Value} (h:VRs ρ cs arr.toList) (h1:∀c∈cs,c.one=true):VR ρ (.agg cs) (.agg arr):=by
 refine .agg cs arr (by simpa using h.1) (λi hi=> ?_) (λi hi=> ?_)
 ·have:=h.2 i hi
  simpa[List.getD_eq_getElem?_getD,Array.getD_eq_getD_getElem?]using this
 ·have:cs.getD i .undef=cs[i]:=by simp[List.getD_eq_getElem?_getD,hi]
  rw[this];exact h1 _ (List.getElem_mem hi)
theorem VR.inv_agg {ρ:Rho} {cs:List CV} {x:Value} (h:VR ρ (.agg cs) x):∃arr:Array Value,x= .agg arr/\VRs ρ cs arr.toList/\∀c∈cs,c.one=true:=by
 cases h with
 |agg _ arr hl hr h1=>
  refine⟨arr,rfl,⟨by simpa using hl,λi hi=> ?_⟩,λc hc=> ?_⟩
  ·have:=hr i hi
   simpa[List.getD_eq_getElem?_getD,Array.getD_eq_getD_getElem?]using this
  ·obtain⟨i,hi,rfl⟩:=List.getElem_of_mem hc
   have:=h1 i hi
   simpa[List.getD_eq_getElem?_getD,hi]using this
theorem VR.inv_tup {ρ:Rho} {cs:List CV} {x:Value} (h:VR ρ (.tup cs) x):∃arr:Array Value,x= .tuple arr/\VRs ρ cs arr.toList:=by
 cases h with
 |tup _ arr hl hr=>
  refine⟨arr,rfl,⟨by simpa using hl,λi hi=> ?_⟩⟩
  have:=hr i hi
  simpa[List.getD_eq_getElem?_getD,Array.getD_eq_getD_getElem?]using this
theorem VRs.tup {ρ:Rho} {cs:List CV} {arr:Array Value} (h:VRs ρ cs arr.toList):VR ρ (.tup cs) (.tuple arr):=by
 refine .tup cs arr (by simpa using h.1) (λi hi=> ?_)
 have:=h.2 i hi
 simpa[List.getD_eq_getElem?_getD,Array.getD_eq_getD_getElem?]using this
theorem VR.inv_bool {ρ:Rho} {b:Bool} {x:Value} (h:VR ρ (.bool b) x):x= .bool b:=by cases h;rfl
theorem VR.inv_int {ρ:Rho} {k:IntKind} {n:Int} {x:Value} (h:VR ρ (.int k n) x):x= .int k n:=by cases h;rfl
theorem VR.inv_str {ρ:Rho} {s:List UInt8} {x:Value} (h:VR ρ (.str s) x):∃b:ByteArray,x= .string b/\b.data.toList=s:=by cases h with|str b=>exact⟨b,rfl,rfl⟩
theorem VR.inv_ptr {ρ:Rho} {i o:Nat} {x:Value} (h:VR ρ (.ptr (some (i,o))) x):∃k d,ρ i=some (k,d)/\x= .pointer (some (mk k (d+o))):=by cases h with|ptr _ _ k d h=>exact⟨k,d,h,rfl⟩
theorem VR.inv_nilptr {ρ:Rho} {x:Value} (h:VR ρ (.ptr none) x):x= .pointer none:=by cases h;rfl
theorem VR.inv_slice {ρ:Rho} {i o n c e:Nat} {x:Value} (h:VR ρ (.slice (some (i,o)) n c e) x):
  ∃k d c',ρ i=some (k,d)/\x= .slice (some (mk k (d+o))) n c'/\c<=c'/\(e=0->c'=c)/\n<=c/\c'<=9223372036854775807/\(e≠0->c'*e+o<=ρ.room i):=by
 cases h with|slice _ _ _ _ _ k d c' h1 h2 h3 h6 h4 h5=>exact⟨k,d,c',h1,rfl,h2,h3,h4,h5,h6⟩
theorem VR.inv_nilslice {ρ:Rho} {n c e:Nat} {x:Value} (h:VR ρ (.slice none n c e) x):
  ∃c',x= .slice none n c'/\c<=c'/\(e=0->c'=c)/\n<=c/\c'<=9223372036854775807:=by
 cases h with|nilslice _ _ _ c' h2 h3 h4 h5=>exact⟨c',rfl,h2,h3,h4,h5⟩
theorem VR.inv_empty {ρ:Rho} {x:Value} (h:VR ρ .empty x):∃p c',x= .slice (some p) 0 c'/\c'<=9223372036854775807:=by cases h with|empty p c' hm=>exact⟨p,c',rfl,hm⟩
theorem VR.inv_map {ρ:Rho} {i:Nat} {x:Value} (h:VR ρ (.map (some i)) x):∃k,ρ i=some (k,0)/\x= .map (some k):=by cases h with|map _ k h=>exact⟨k,h,rfl⟩
theorem VR.inv_nilmap {ρ:Rho} {x:Value} (h:VR ρ (.map none) x):x= .map none:=by cases h;rfl
theorem VR.inv_iface {ρ:Rho} {t:TypeId} {v:CV} {x:Value} (h:VR ρ (.iface t v) x):∃y,x= .iface t y/\VR ρ v y:=by cases h with|iface _ _ y h=>exact⟨y,rfl,h⟩
theorem VR.inv_yield {ρ:Rho} {i:Nat} {x:Value} (h:VR ρ (.yield i) x):∃l,ρ i=some (l,0)/\x= .func (.yield l) #[] #[]:=by cases h with|yield _ l h=>exact⟨l,h,rfl⟩
theorem VR.inv_nilIface {ρ:Rho} {x:Value} (h:VR ρ .nilIface x):x= .nilIface:=by cases h;rfl
theorem VR.inv_nilFunc {ρ:Rho} {x:Value} (h:VR ρ .nilFunc x):x= .nilFunc:=by cases h;rfl
theorem VR.inv_fn {ρ:Rho} {f:FuncId} {first caps:List CV} {x:Value} (h:VR ρ (.fn f first caps) x):∃a1 a2:Array Value,x= .func (.func f) a1 a2/\VRs ρ first a1.toList/\VRs ρ caps a2.toList:=by
 cases h with
 |fn _ _ _ a1 a2 hl1 hl2 hr1 hr2=>
  refine⟨a1,a2,rfl,⟨by simpa using hl1,λi hi=> ?_⟩,⟨by simpa using hl2,λi hi=> ?_⟩⟩
  ·have:=hr1 i hi
   simpa[List.getD_eq_getElem?_getD,Array.getD_eq_getD_getElem?]using this
  ·have:=hr2 i hi
   simpa[List.getD_eq_getElem?_getD,Array.getD_eq_getD_getElem?]using this
theorem VRs.fn {ρ:Rho} {f:FuncId} {first caps:List CV} {a1 a2:Array Value} (h1:VRs ρ first a1.toList) (h2:VRs ρ caps a2.toList):VR ρ (.fn f first caps) (.func (.func f) a1 a2):=by
 refine .fn f first caps a1 a2 (by simpa using h1.1) (by simpa using h2.1) (λi hi=> ?_) (λi hi=> ?_)
 ·have:=h1.2 i hi
  simpa[List.getD_eq_getElem?_getD,Array.getD_eq_getD_getElem?]using this
 ·have:=h2.2 i hi
  simpa[List.getD_eq_getElem?_getD,Array.getD_eq_getD_getElem?]using this
theorem part_sound {t:TypeId} {s:TyS} {i:TypeInfo} {d:TypeDesc} {z:Value} (k:TyOk P t s i d z) {ρ:Rho} {cs:List CV} {arr:Array Value} (h:VRs ρ cs arr.toList) (h1:∀c∈cs,c.one=true)
  {off:Nat} {v:CV} (hp:part cs off s.size s.agg=some v) (w:World):∃x,(Go.part t arr off).run P w= .ok x w/\VR ρ v x:=by
 unfold part at hp
 cases ha:s.agg with
 |true=>
  rw[ha]at hp
  simp only[cut_eq]at hp
  split at hp
  ·rename_i hle
   simp only[Option.map_some,Option.some.injEq]at hp
   subst hp
   refine⟨.agg (arr.extract off (off+s.size)),by simp[Go.part,run_isAgg k,run_sizeOf k,ha],VRs.agg ?_ ?_⟩
   ·have:=(h.drop off).take s.size
    have e:(arr.extract off (off+s.size)).toList=(arr.toList.drop off).take s.size:=by
     simp[Array.toList_extract]
    rw[e];exact this
   ·intro c hc
    exact h1 c (List.mem_of_mem_drop (List.mem_of_mem_take hc))
  ·cases hp
 |false=>
  rw[ha]at hp
  simp only[nth_eq]at hp
  obtain⟨y,hy,hv⟩:=h.get hp
  have hy:arr[off]? =some y:=by rw[<-Array.getElem?_toList];exact hy
  exact⟨y,by simp[Go.part,run_isAgg k,ha,hy],hv⟩
theorem load_sound (ok:EnvOk P E) {ρ:Rho} {h:Heap} {w:World} (hr:HR ρ h w) {t:TypeId} {id off k d:Nat} {v:CV} (hl:load E h t id off=some v) (hi:ρ id=some (k,d)):
  ∃x,(loadVar t (mk k (d+off))).run P w= .ok x w/\VR ρ v x:=by
 unfold load loadB at hl
 split at hl
 ·rename_i cs ro hb
  split at hl
  ·rename_i s hs
   obtain⟨ti,td,tz,tk⟩:=ok.row hs
   obtain⟨k',d',hi',hrel⟩:=hr.blk id _ hb
   rw[hi]at hi'
   cases hi'
   obtain⟨arr,ty,fz,g1,g2,g3,g4,g5⟩:=hrel
   have cell:∀j y,((arr.toList.drop d).take cs.length)[j]? =some y->w.cell? (mk k (d+j))=some y:=by
    intro j y hy
    have:arr.toList[d+j]? =some y:=by
     rw[List.getElem?_take]at hy
     split at hy
     ·rwa[List.getElem?_drop]at hy
     ·cases hy
    simp only[World.cell?,mk,g1,Option.isSome_none,Bool.false_eq_true,if_false]
    rwa[Array.getElem?_toList]at this
   unfold part at hl
   cases ha:s.agg with
   |true=>
    rw[ha]at hl
    simp only[cut_eq]at hl
    split at hl
    ·rename_i hle
     simp only[Option.map_some,Option.some.injEq]at hl
     subst hl
     have hv:=(g3.drop off).take s.size
     generalize hxs:((List.take cs.length (arr.toList.drop d)).drop off).take s.size=xs at hv
     have hxl:xs.length=s.size:=by rw[hv.1];simp;omega
     have hf:∀j,j<s.size->w.cell? ((mk k (d+off)).add j)=some (xs.getD j undef):=by
      intro j hj
      rw[mk_add,Nat.add_assoc]
      refine cell (off+j) _ ?_
      have hj2:j<xs.length:=by omega
      have e:xs[j]? =some (xs.getD j undef):=by simp[List.getD_eq_getElem?_getD,hj2]
      rw[<-e,<-hxs,List.getElem?_take (l:=List.drop off _),if_pos hj,List.getElem?_drop]
     have hl:=run_loadCells (P:=P) w (mk k (d+off)) s.size _ hf
     have e:((List.range s.size).map λj=>xs.getD j undef)=xs:=by
      apply List.ext_getElem
      ·simp[hxl]
      ·intro j h1 h2
       simp[List.getD_eq_getElem?_getD,h2]
     rw[e]at hl
     refine⟨.agg xs.toArray,by simp[loadVar,run_isAgg tk,run_sizeOf tk,ha,hl],VRs.agg (by simpa using hv) λc hc=>g4 c (List.mem_of_mem_drop (List.mem_of_mem_take hc))⟩
    ·cases hl
   |false=>
    rw[ha]at hl
    simp only[nth_eq]at hl
    obtain⟨y,hy,hv⟩:=g3.get hl
    exact⟨y,by simp[loadVar,run_isAgg tk,ha,cell off y hy],hv⟩
  ·cases hl
 ·cases hl
theorem cells_sound {ρ:Rho} {v:CV} {x:Value} (h:VR ρ v x) {cs:List CV} (hc:v.cells=some cs):VRs ρ cs x.cells.toList/\∀c∈cs,c.one=true:=by
 have one:∀{v:CV} {x:Value},VR ρ v x->x.cells= #[x]->v.one=true->VRs ρ [v] x.cells.toList/\∀c∈[v],c.one=true:=by
  intro v x h e h1
  rw[e]
  exact⟨VRs.cons h (VRs.nil ρ),λc hc=>by rw[List.mem_singleton]at hc;subst hc;exact h1⟩
 cases h with
 |undef=>cases hc
 |tup=>cases hc
 |agg cs' arr hl hr h1=>
  cases hc
  obtain⟨arr',e,h2,h3⟩:=(VR.agg _ arr hl hr h1).inv_agg
  cases e
  exact⟨h2,h3⟩
 |_=>cases hc;exact one (by first|exact .bool _|exact .int _ _|exact .str _|exact .nilptr|(exact .ptr _ _ _ _ ‹_›)|(exact .nilslice _ _ _ _ ‹_› ‹_› ‹_› ‹_›)|(exact .slice _ _ _ _ _ _ _ _ ‹_› ‹_› ‹_› ‹_› ‹_› ‹_›)|exact .nilmap|(exact .empty _ _ ‹_›)|exact .map _ _ ‹_› |(exact .yield _ _ ‹_›)|(exact .fn _ _ _ _ _ ‹_› ‹_› ‹_› ‹_›)|exact .nilFunc|exact .iface _ _ _ ‹_› |exact .nilIface) rfl rfl
theorem putCells_sound {ρ:Rho} {h h':Heap} {w:World} (hr:HR ρ h w) {id off k d:Nat} {vs:List CV} {xs:List Value} (hp:putCells h id off vs=some h') (hi:ρ id=some (k,d)) (hv:VRs ρ vs xs) (h1:∀c∈vs,c.one=true):
  ∃w',(storeCells (mk k (d+off)) xs).run P w= .ok () w'/\J ρ h w ρ h' w':=by
 unfold putCells at hp
 split at hp
 ·rename_i cs hb
  rw[setAt_eq]at hp
  split at hp
  ·rename_i hle
   simp only[Option.map_some,Option.some.injEq]at hp
   subst hp
   obtain⟨k',d',hi',hrel⟩:=hr.blk id _ hb
   rw[hi]at hi'
   cases hi'
   obtain⟨arr,ty,fz,g1,g2,g3,g4,g5⟩:=hrel
   have g5:=g5 rfl
   subst g5
   have hxl:=hv.1
   have hone:∀x∈xs,x.oneCell'=true:=by
    intro x hx
    obtain⟨j,hj,rfl⟩:=List.getElem_of_mem hx
    have hj2:j<vs.length:=by omega
    have:=hv.2 j hj2
    have e1:vs.getD j .undef=vs[j]:=by simp[List.getD_eq_getElem?_getD,hj2]
    have e2:xs.getD j undef=xs[j]:=by simp[List.getD_eq_getElem?_getD,hj]
    rw[e1,e2]at this
    exact this.oneCell (h1 _ (List.getElem_mem hj2))
   have hst:=run_storeCells_at P k (d+off) ty xs 0 arr w g1 (by omega) hone
   simp only[Nat.add_zero]at hst
   refine⟨_,hst,J.put hr hb rfl hi rfl rfl (by simp) (λx hx=>setRow_other w k x _ (by first|exact hx|exact Ne.symm hx)) ?_⟩
   refine⟨_,ty,(0,0),setRow_heap w k arr _ ty _ g1,?_,?_,?_,λ_=>rfl⟩
   ·simp;omega
   ·have hlen:(cs.take off++vs++cs.drop (off+vs.length)).length=cs.length:=by simp;omega
    rw[hlen]
    have e:List.take cs.length (List.drop d (arr.toList.take (d+off)++xs++arr.toList.drop (d+off+xs.length)))=
      ((List.take cs.length (arr.toList.drop d)).take off)++xs++((List.take cs.length (arr.toList.drop d)).drop (off+vs.length)):=by
     apply List.ext_getElem?
     intro j
     have hal:arr.toList.length=arr.size:=by simp
     simp only[List.getElem?_take,List.getElem?_drop,List.getElem?_append,List.length_append,List.length_take,List.length_drop,Array.length_toList]
     repeat' split
     all_goals first
      |omega
      |rfl
      |(congr 1;omega)
    simp only[e]
    exact((g3.take off).append hv).append (g3.drop (off+vs.length))
   ·intro c hc
    simp only[List.mem_append]at hc
    rcases hc with(hc|hc)|hc
    ·exact g4 c (List.mem_of_mem_take hc)
    ·exact h1 c hc
    ·exact g4 c (List.mem_of_mem_drop hc)
  ·cases hp
 ·cases hp
theorem store_sound (ok:EnvOk P E) {ρ:Rho} {h h':Heap} {w:World} (hr:HR ρ h w) {t:TypeId} {id off k d:Nat} {v:CV} {x:Value} (hs:store E h t id off v=some h') (hi:ρ id=some (k,d)) (hv:VR ρ v x):
  ∃w',(storeVar t (mk k (d+off)) x).run P w= .ok () w'/\J ρ h w ρ h' w':=by
 unfold store storeV at hs
 split at hs
 ·rename_i s hty
  split at hs
  ·rename_i vs hvs
   split at hs
   ·rename_i hn
    have hn:=Nat.eq_of_beq_eq_true hn
    rw[len_eq]at hn
    obtain⟨ti,td,tz,tk⟩:=ok.row hty
    obtain⟨h1,h2⟩:=cells_sound hv hvs
    obtain⟨w',h3,h4⟩:=putCells_sound (P:=P) hr hs hi h1 h2
    refine⟨w',?_,h4⟩
    have hsz:x.cells.size=s.size:=by rw[<-hn,<-h1.1];simp
    simp[storeVar,run_sizeOf tk,hsz,h3]
   ·cases hs
  ·cases hs
 ·cases hs
end
end Go.CM
