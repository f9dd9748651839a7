/- Parts of values, loads and stores: the model gives what the plain machine gives. No condition. -/
import Derived.Test.YtfheibkikpefkaaGreatDoorCmD
set_option linter.unusedVariables false
set_option linter.unusedSimpArgs false
noncomputable section
namespace Go.CM
structure CmpOk (P:Program) (t:TypeId):Prop where
 cmp:∀i,P.info? t=some i->i.comparable=true
 held:P.stoodInHeld t=false
 guard:P.eqGuardType P.depth t=false
structure EnvOk (P:Program) (E:Env):Prop where
 ty:∀t s,E.ty t=some s->tyOf P t s.cmp=some s/\(s.cmp=true->CmpOk P t)
 fn:∀f s,E.fn f=some s->∃fn,P.funcs[f]? =some fn/\fn.ntmps=s.ntmps/\fn.results.toList=s.results/\fn.body=s.body
structure TyOk (P:Program) (t:TypeId) (s:TyS) (i:TypeInfo) (d:TypeDesc) (z:Value):Prop where
 info:P.info? t=some i
 und:P.underlying t=some d
 zero:i.zero=some z
 cells:consts z.cells.toList=some s.zero
 len:s.zero.length=i.size
 kind:s.kind=kindOf d
 size:s.size=i.size
 bytes:s.bytes=i.bytes
 agg:s.agg=isAggD d
 meths:s.meths=methsOf i.methods.toList
 zagg:aggV z=isAggD d
section
variable {P:Program} {E:Env}
theorem EnvOk.row (ok:EnvOk P E) {t:TypeId} {s:TyS} (h:E.ty t=some s):∃i d z,TyOk P t s i d z:=by
 have h:=(ok.ty t s h).1;unfold tyOf at h;split at h
 ·rename_i i d hi hd
  split at h
  ·rename_i z hz
   split at h
   ·rename_i cs hc
    split at h
    ·rename_i hl
     simp only[Bool.and_eq_true,beq_iff_eq]at hl;obtain⟨hl,hza⟩:=hl;have hl:=Nat.eq_of_beq_eq_true hl;rw[len_eq]at hl;have e:=Option.some.inj h;refine⟨i,d,z,hi,hd,hz,?_,?_,?_,?_,?_,?_,?_,hza⟩<;>rw[<-e]<;>first|exact hc|exact hl|rfl
    ·cases h
   ·cases h
  ·cases h
 ·cases h
theorem run_isAgg {t:TypeId} {s:TyS} {i:TypeInfo} {d:TypeDesc} {z:Value} (k:TyOk P t s i d z) (w:World):(isAgg t).run P w= .ok s.agg w:=by
 unfold isAgg;rw[Sem.run_bind,run_underlying k.und w];simp only[Result.andThen_ok,k.agg];cases d<;>rfl
theorem run_sizeOf {t:TypeId} {s:TyS} {i:TypeInfo} {d:TypeDesc} {z:Value} (k:TyOk P t s i d z) (w:World):(sizeOf t).run P w= .ok s.size w:=by
 simp[sizeOf,typeInfo,k.info,k.size]
theorem VRs.agg {ρ:Rho} {cs:List CV} {arr:Array Value} (h:VRs ρ cs arr.toList) (h1:∀c∈cs,c.one=true):VR ρ (.agg cs) (.agg arr):=by
 refine .agg cs arr (by simpa using h.1) (λi hi=> ?_) (λi hi=> ?_)
 ·have:=h.2 i hi
  simpa[List.getD_eq_getElem?_getD,Array.getD_eq_getD_getElem?]using this
 ·have:cs.getD i .undef=cs[i]:=by simp[List.getD_eq_getElem?_getD,hi]
  rw[this];exact h1 _ (List.getElem_mem hi)
theorem VR.inv_agg {ρ:Rho} {cs:List CV} {x:Value} (h:VR ρ (.agg cs) x):∃arr:Array Value,x= .agg arr/\VRs ρ cs arr.toList/\∀c∈cs,c.one=true:=by
 cases h with
 |agg _ arr hl hr h1=>
  refine⟨arr,rfl,⟨by simpa using hl,λi hi=> ?_⟩,λc hc=> ?_⟩
  ·have:=hr i hi
   simpa[List.getD_eq_getElem?_getD,Array.getD_eq_getD_getElem?]using this
  ·obtain⟨i,hi,rfl⟩:=List.getElem_of_mem hc
   have:=h1 i hi;simpa[List.getD_eq_getElem?_getD,hi]using this
theorem VR.inv_tup {ρ:Rho} {cs:List CV} {x:Value} (h:VR ρ (.tup cs) x):∃arr:Array Value,x= .tuple arr/\VRs ρ cs arr.toList:=by
 cases h with
 |tup _ arr hl hr=>
  refine⟨arr,rfl,⟨by simpa using hl,λi hi=> ?_⟩⟩;have:=hr i hi;simpa[List.getD_eq_getElem?_getD,Array.getD_eq_getD_getElem?]using this
theorem VRs.tup {ρ:Rho} {cs:List CV} {arr:Array Value} (h:VRs ρ cs arr.toList):VR ρ (.tup cs) (.tuple arr):=by
 refine .tup cs arr (by simpa using h.1) (λi hi=> ?_);have:=h.2 i hi;simpa[List.getD_eq_getElem?_getD,Array.getD_eq_getD_getElem?]using this
theorem VR.inv_bool {ρ:Rho} {b:Bool} {x:Value} (h:VR ρ (.bool b) x):x= .bool b:=by cases h;rfl
theorem VR.inv_int {ρ:Rho} {k:IntKind} {n:Int} {x:Value} (h:VR ρ (.int k n) x):x= .int k n:=by cases h;rfl
theorem VR.inv_str {ρ:Rho} {s:List UInt8} {x:Value} (h:VR ρ (.str s) x):∃b:ByteArray,x= .string b/\b.data.toList=s:=by cases h with|str b=>exact⟨b,rfl,rfl⟩
theorem VR.inv_ptr {ρ:Rho} {i o:Nat} {x:Value} (h:VR ρ (.ptr (some (i,o))) x):∃k d,ρ i=some (k,d)/\x= .pointer (some (mk k (d+o))):=by cases h with|ptr _ _ k d h=>exact⟨k,d,h,rfl⟩
theorem VR.inv_nilptr {ρ:Rho} {x:Value} (h:VR ρ (.ptr none) x):x= .pointer none:=by cases h;rfl
theorem VR.inv_slice {ρ:Rho} {i o n c e:Nat} {x:Value} (h:VR ρ (.slice (some (i,o)) n c e) x):
  ∃k d c',ρ i=some (k,d)/\x= .slice (some (mk k (d+o))) n c'/\c<=c'/\(e=0->c'=c)/\n<=c/\c'<=9223372036854775807/\(e≠0->c'*e+o<=ρ.room i):=by
 cases h with|slice _ _ _ _ _ k d c' h1 h2 h3 h6 h4 h5=>exact⟨k,d,c',h1,rfl,h2,h3,h4,h5,h6⟩
theorem VR.inv_nilslice {ρ:Rho} {n c e:Nat} {x:Value} (h:VR ρ (.slice none n c e) x):
  ∃c',x= .slice none n c'/\c<=c'/\(e=0->c'=c)/\n<=c/\c'<=9223372036854775807:=by
 cases h with|nilslice _ _ _ c' h2 h3 h4 h5=>exact⟨c',rfl,h2,h3,h4,h5⟩
theorem VR.inv_empty {ρ:Rho} {x:Value} (h:VR ρ .empty x):∃p c',x= .slice (some p) 0 c'/\c'<=9223372036854775807:=by cases h with|empty p c' hm=>exact⟨p,c',rfl,hm⟩
theorem VR.inv_map {ρ:Rho} {i:Nat} {x:Value} (h:VR ρ (.map (some i)) x):∃k,ρ i=some (k,0)/\x= .map (some k):=by cases h with|map _ k h=>exact⟨k,h,rfl⟩
theorem VR.inv_nilmap {ρ:Rho} {x:Value} (h:VR ρ (.map none) x):x= .map none:=by cases h;rfl
theorem VR.inv_iface {ρ:Rho} {t:TypeId} {v:CV} {x:Value} (h:VR ρ (.iface t v) x):∃y,x= .iface t y/\VR ρ v y:=by cases h with|iface _ _ y h=>exact⟨y,rfl,h⟩
theorem VR.inv_yield {ρ:Rho} {i:Nat} {x:Value} (h:VR ρ (.yield i) x):∃l,ρ i=some (l,0)/\x= .func (.yield l) #[] #[]:=by cases h with|yield _ l h=>exact⟨l,h,rfl⟩
theorem VR.inv_nilIface {ρ:Rho} {x:Value} (h:VR ρ .nilIface x):x= .nilIface:=by cases h;rfl
theorem VR.inv_nilFunc {ρ:Rho} {x:Value} (h:VR ρ .nilFunc x):x= .nilFunc:=by cases h;rfl
theorem VR.inv_fn {ρ:Rho} {f:FuncId} {first caps:List CV} {x:Value} (h:VR ρ (.fn f first caps) x):∃a1 a2:Array Value,x= .func (.func f) a1 a2/\VRs ρ first a1.toList/\VRs ρ caps a2.toList:=by
 cases h with
 |fn _ _ _ a1 a2 hl1 hl2 hr1 hr2=>
  refine⟨a1,a2,rfl,⟨by simpa using hl1,λi hi=> ?_⟩,⟨by simpa using hl2,λi hi=> ?_⟩⟩
  ·have:=hr1 i hi
   simpa[List.getD_eq_getElem?_getD,Array.getD_eq_getD_getElem?]using this
  ·have:=hr2 i hi
   simpa[List.getD_eq_getElem?_getD,Array.getD_eq_getD_getElem?]using this
theorem VRs.fn {ρ:Rho} {f:FuncId} {first caps:List CV} {a1 a2:Array Value} (h1:VRs ρ first a1.toList) (h2:VRs ρ caps a2.toList):VR ρ (.fn f first caps) (.func (.func f) a1 a2):=by
 refine .fn f first caps a1 a2 (by simpa using h1.1) (by simpa using h2.1) (λi hi=> ?_) (λi hi=> ?_)
 ·have:=h1.2 i hi
  simpa[List.getD_eq_getElem?_getD,Array.getD_eq_getD_getElem?]using this
 ·have:=h2.2 i hi
  simpa[List.getD_eq_getElem?_getD,Array.getD_eq_getD_getElem?]using this
theorem part_sound {t:TypeId} {s:TyS} {i:TypeInfo} {d:TypeDesc} {z:Value} (k:TyOk P t s i d z) {ρ:Rho} {cs:List CV} {arr:Array Value} (h:VRs ρ cs arr.toList) (h1:∀c∈cs,c.one=true)
  {off:Nat} {v:CV} (hp:part cs off s.size s.agg=some v) (w:World):∃x,(Go.part t arr off).run P w= .ok x w/\VR ρ v x:=by
 unfold part at hp;cases ha:s.agg with
 |true=>
  rw[ha]at hp;simp only[cut_eq]at hp;split at hp
  ·rename_i hle
   simp only[Option.map_some,Option.some.injEq]at hp;subst hp;refine⟨.agg (arr.extract off (off+s.size)),by simp[Go.part,run_isAgg k,run_sizeOf k,ha],VRs.agg ?_ ?_⟩
   ·have:=(h.drop off).take s.size
    have e:(arr.extract off (off+s.size)).toList=(arr.toList.drop off).take s.size:=by
     simp[Array.toList_extract]
    rw[e];exact this
   ·intro c hc
    exact h1 c (List.mem_of_mem_drop (List.mem_of_mem_take hc))
  ·cases hp
 |false=>
  rw[ha]at hp;simp only[nth_eq]at hp;obtain⟨y,hy,hv⟩:=h.get hp;have hy:arr[off]? =some y:=by rw[<-Array.getElem?_toList];exact hy
  exact⟨y,by simp[Go.part,run_isAgg k,ha,hy],hv⟩
theorem load_sound (ok:EnvOk P E) {ρ:Rho} {h:Heap} {w:World} (hr:HR ρ h w) {t:TypeId} {id off k d:Nat} {v:CV} (hl:load E h t id off=some v) (hi:ρ id=some (k,d)):
  ∃x,(loadVar t (mk k (d+off))).run P w= .ok x w/\VR ρ v x:=by
 unfold load loadB at hl;split at hl
 ·rename_i cs ro hb
  split at hl
  ·rename_i s hs
   obtain⟨ti,td,tz,tk⟩:=ok.row hs;obtain⟨k',d',hi',hrel⟩:=hr.blk id _ hb;rw[hi]at hi';cases hi';obtain⟨arr,ty,fz,g1,g2,g3,g4,g5⟩:=hrel
   have cell:∀j y,((arr.toList.drop d).take cs.length)[j]? =some y->w.cell? (mk k (d+j))=some y:=by
    intro j y hy
    have:arr.toList[d+j]? =some y:=by
     rw[List.getElem?_take]at hy;split at hy
     ·rwa[List.getElem?_drop]at hy
     ·cases hy
    simp only[World.cell?,mk,g1,Option.isSome_none,Bool.false_eq_true,if_false];rwa[Array.getElem?_toList]at this
   unfold part at hl;cases ha:s.agg with
   |true=>
    rw[ha]at hl;simp only[cut_eq]at hl;split at hl
    ·rename_i hle
     simp only[Option.map_some,Option.some.injEq]at hl;subst hl;have hv:=(g3.drop off).take s.size;generalize hxs:((List.take cs.length (arr.toList.drop d)).drop off).take s.size=xs at hv;have hxl:xs.length=s.size:=by rw[hv.1];simp;omega
     have hf:∀j,j<s.size->w.cell? ((mk k (d+off)).add j)=some (xs.getD j undef):=by
      intro j hj;rw[mk_add,Nat.add_assoc];refine cell (off+j) _ ?_;have hj2:j<xs.length:=by omega
      have e:xs[j]? =some (xs.getD j undef):=by simp[List.getD_eq_getElem?_getD,hj2]
      rw[<-e,<-hxs,List.getElem?_take (l:=List.drop off _),if_pos hj,List.getElem?_drop]
     have hl:=run_loadCells (P:=P) w (mk k (d+off)) s.size _ hf
     have e:((List.range s.size).map λj=>xs.getD j undef)=xs:=by
      apply List.ext_getElem
      ·simp[hxl]
      ·intro j h1 h2
       simp[List.getD_eq_getElem?_getD,h2]
     rw[e]at hl;refine⟨.agg xs.toArray,by simp[loadVar,run_isAgg tk,run_sizeOf tk,ha,hl],VRs.agg (by simpa using hv) λc hc=>g4 c (List.mem_of_mem_drop (List.mem_of_mem_take hc))⟩
    ·cases hl
   |false=>
    rw[ha]at hl;simp only[nth_eq]at hl;obtain⟨y,hy,hv⟩:=g3.get hl;exact⟨y,by simp[loadVar,run_isAgg tk,ha,cell off y hy],hv⟩
  ·cases hl
 ·cases hl
theorem cells_sound {ρ:Rho} {v:CV} {x:Value} (h:VR ρ v x) {cs:List CV} (hc:v.cells=some cs):VRs ρ cs x.cells.toList/\∀c∈cs,c.one=true:=by
 have one:∀{v:CV} {x:Value},VR ρ v x->x.cells= #[x]->v.one=true->VRs ρ [v] x.cells.toList/\∀c∈[v],c.one=true:=by
  intro v x h e h1;rw[e];exact⟨VRs.cons h (VRs.nil ρ),λc hc=>by rw[List.mem_singleton]at hc;subst hc;exact h1⟩
 cases h with
 |undef=>cases hc
 |tup=>cases hc
 |agg cs' arr hl hr h1=>
  cases hc;obtain⟨arr',e,h2,h3⟩:=(VR.agg _ arr hl hr h1).inv_agg;cases e;exact⟨h2,h3⟩
 |_=>cases hc;exact one (by first|exact .bool _|exact .int _ _|exact .str _|exact .nilptr|(exact .ptr _ _ _ _ ‹_›)|(exact .nilslice _ _ _ _ ‹_› ‹_› ‹_› ‹_›)|(exact .slice _ _ _ _ _ _ _ _ ‹_› ‹_› ‹_› ‹_› ‹_› ‹_›)|exact .nilmap|(exact .empty _ _ ‹_›)|exact .map _ _ ‹_› |(exact .yield _ _ ‹_›)|(exact .fn _ _ _ _ _ ‹_› ‹_› ‹_› ‹_›)|exact .nilFunc|exact .iface _ _ _ ‹_› |exact .nilIface) rfl rfl
theorem putCells_sound {ρ:Rho} {h h':Heap} {w:World} (hr:HR ρ h w) {id off k d:Nat} {vs:List CV} {xs:List Value} (hp:putCells h id off vs=some h') (hi:ρ id=some (k,d)) (hv:VRs ρ vs xs) (h1:∀c∈vs,c.one=true):
  ∃w',(storeCells (mk k (d+off)) xs).run P w= .ok () w'/\J ρ h w ρ h' w':=by
 unfold putCells at hp;split at hp
 ·rename_i cs hb
  rw[setAt_eq]at hp;split at hp
  ·rename_i hle
   simp only[Option.map_some,Option.some.injEq]at hp;subst hp;obtain⟨k',d',hi',hrel⟩:=hr.blk id _ hb;rw[hi]at hi';cases hi';obtain⟨arr,ty,fz,g1,g2,g3,g4,g5⟩:=hrel;have g5:=g5 rfl;subst g5;have hxl:=hv.1
   have hone:∀x∈xs,x.oneCell'=true:=by
    intro x hx;obtain⟨j,hj,rfl⟩:=List.getElem_of_mem hx;have hj2:j<vs.length:=by omega
    have:=hv.2 j hj2;have e1:vs.getD j .undef=vs[j]:=by simp[List.getD_eq_getElem?_getD,hj2]
    have e2:xs.getD j undef=xs[j]:=by simp[List.getD_eq_getElem?_getD,hj]
    rw[e1,e2]at this;exact this.oneCell (h1 _ (List.getElem_mem hj2))
   have hst:=run_storeCells_at P k (d+off) ty xs 0 arr w g1 (by omega) hone;simp only[Nat.add_zero]at hst;refine⟨_,hst,J.put hr hb rfl hi rfl rfl (by simp) (λx hx=>setRow_other w k x _ (by first|exact hx|exact Ne.symm hx)) ?_⟩;refine⟨_,ty,(0,0),setRow_heap w k arr _ ty _ g1,?_,?_,?_,λ_=>rfl⟩
   ·simp;omega
   ·have hlen:(cs.take off++vs++cs.drop (off+vs.length)).length=cs.length:=by simp;omega
    rw[hlen]
    have e:List.take cs.length (List.drop d (arr.toList.take (d+off)++xs++arr.toList.drop (d+off+xs.length)))=
      ((List.take cs.length (arr.toList.drop d)).take off)++xs++((List.take cs.length (arr.toList.drop d)).drop (off+vs.length)):=by
     apply List.ext_getElem?;intro j;have hal:arr.toList.length=arr.size:=by simp
     simp only[List.getElem?_take,List.getElem?_drop,List.getElem?_append,List.length_append,List.length_take,List.length_drop,Array.length_toList];repeat' split
     all_goals first
      |omega
      |rfl
      |(congr 1;omega)
    simp only[e];exact((g3.take off).append hv).append (g3.drop (off+vs.length))
   ·intro c hc
    simp only[List.mem_append]at hc;rcases hc with(hc|hc)|hc
    ·exact g4 c (List.mem_of_mem_take hc)
    ·exact h1 c hc
    ·exact g4 c (List.mem_of_mem_drop hc)
  ·cases hp
 ·cases hp
theorem store_sound (ok:EnvOk P E) {ρ:Rho} {h h':Heap} {w:World} (hr:HR ρ h w) {t:TypeId} {id off k d:Nat} {v:CV} {x:Value} (hs:store E h t id off v=some h') (hi:ρ id=some (k,d)) (hv:VR ρ v x):
  ∃w',(storeVar t (mk k (d+off)) x).run P w= .ok () w'/\J ρ h w ρ h' w':=by
 unfold store storeV at hs;split at hs
 ·rename_i s hty
  split at hs
  ·rename_i vs hvs
   split at hs
   ·rename_i hn
    have hn:=Nat.eq_of_beq_eq_true hn;rw[len_eq]at hn;obtain⟨ti,td,tz,tk⟩:=ok.row hty;obtain⟨h1,h2⟩:=cells_sound hv hvs;obtain⟨w',h3,h4⟩:=putCells_sound (P:=P) hr hs hi h1 h2;refine⟨w',?_,h4⟩;have hsz:x.cells.size=s.size:=by rw[<-hn,<-h1.1];simp
    simp[storeVar,run_sizeOf tk,hsz,h3]
   ·cases hs
  ·cases hs
 ·cases hs
end
end Go.CM

noncomputable section
namespace Go.CM
def Gives (P:Program) (o:Oper) (a:Act) (w:World) (x:Value) (w':World):Prop:=
 (execOp a.eval o).run P w= .ok (.value x) w'\/((execOp a.eval o).run P w= .ok .skip w'/\x=undef)
def OpOk (P:Program) (o:Oper) (a:Act) (ρ:Rho) (h:Heap) (w:World) (v:CV) (h':Heap):Prop:=
 ∃x w' ρ',Gives P o a w x w'/\J ρ h w ρ' h' w'/\VR ρ' v x
section
variable {P:Program} {E:Env} {o:Oper} {a:Act} {ρ:Rho} {h h':Heap} {w:World} {v:CV} {f:Operand->CV}
theorem OpOk.val (hr:HR ρ h w) {x:Value} (hx:(execOp a.eval o).run P w= .ok (.value x) w) (hv:VR ρ v x):OpOk P o a ρ h w v h:=
 ⟨x,w,ρ,.inl hx,J.refl hr,hv⟩
theorem withH_some {r:Option CV} {p:CV×Heap} (e:withH h r=some p):r=some p.1/\p.2=h:=by
 unfold withH at e;split at e
 ·cases e;exact⟨rfl,rfl⟩
 ·cases e
theorem op_move {x:Operand} (ho:o.op= .move x) (hr:HR ρ h w) (hx:VR ρ v (a.eval x)):OpOk P o a ρ h w v h:= .val hr (by unfold execOp;simp[ho]) hx
theorem op_assign {x:Operand} (ho:o.op= .assign x) (hr:HR ρ h w) (hx:VR ρ v (a.eval x)):OpOk P o a ρ h w v h:= .val hr (by unfold execOp;simp[ho]) hx
theorem op_pick {c x y:Operand} {vc vx vy:CV} (ho:o.op= .pick c x y) (hr:HR ρ h w) (e:oPick vc vx vy h=some (v,h')) (hc:VR ρ vc (a.eval c)) (hx:VR ρ vx (a.eval x)) (hy:VR ρ vy (a.eval y)):OpOk P o a ρ h w v h':=by
 unfold oPick at e;split at e
 ·have hb:=hc.inv_bool
  split at e
  ·cases e;exact .val hr (by unfold execOp;simp[ho,hb,asBool]) hx
  ·cases e;exact .val hr (by unfold execOp;simp[ho,hb,asBool]) hy
 ·cases e
theorem const1_sound {ρ:Rho} {x:Value} {c:CV} (e:const1 x=some c):VR ρ c x/\c.one=true:=by
 unfold const1 at e;split at e<;>(try cases e)<;>refine⟨?_,rfl⟩
 ·exact .bool _
 ·exact .int _ _
 ·exact .str _
 ·exact .nilptr
 ·exact .nilslice 0 0 0 0 (Nat.le_refl _) (λ_=>rfl) (Nat.le_refl _) (by omega)
 ·exact .nilmap
 ·exact .nilFunc
 ·exact .nilIface
theorem consts_sound {ρ:Rho}:∀{l:List Value} {cs:List CV},consts l=some cs->VRs ρ cs l/\∀c∈cs,c.one=true
 |[],cs,e=>by cases e;exact⟨VRs.nil ρ,λc hc=>by cases hc⟩
 |x::r,cs,e=>by
  simp only[consts]at e;split at e
  ·rename_i c hc
   obtain⟨h1,h2⟩:=const1_sound (ρ:=ρ) hc;cases hr:consts r with
   |none=>rw[hr]at e;cases e
   |some cs'=>
    rw[hr]at e;simp only[Option.map_some,Option.some.injEq]at e;subst e;obtain⟨h3,h4⟩:=consts_sound (ρ:=ρ) hr;refine⟨VRs.cons h1 h3,λd hd=> ?_⟩;rcases List.mem_cons.1 hd with rfl|hd
    ·exact h2
    ·exact h4 d hd
  ·cases e
theorem constCV_sound {ρ:Rho} {x:Value} {c:CV} (e:constCV x=some c):VR ρ c x:=by
 unfold constCV at e;split at e
 ·rename_i cs
  cases hr:consts cs.toList with
  |none=>rw[hr]at e;cases e
  |some l=>
   rw[hr]at e;simp only[Option.map_some,Option.some.injEq]at e;subst e;obtain⟨h1,h2⟩:=consts_sound (ρ:=ρ) hr;exact VRs.agg h1 h2
 ·exact(const1_sound e).1
theorem J.alloc (hr:HR ρ h w) {cs:List CV} {arr:Array Value} (ty:TypeId) (h1:VRs ρ cs arr.toList) (h2:∀c∈cs,c.one=true) (w0:World) (e0:w0.heap=w.heap) (e1:w0.os=w.os) (e2:w0.output=w.output):
  J ρ h w (upd ρ h.next (w.heap.size,0) 0) (h.new (.cells cs false)) (w0.alloc (.cells arr ty)):=by
 have hs:=hr.sub (w.heap.size,0) 0;refine J.new hr 0 e1 e2 (by rw[World.size_alloc,e0];omega) (λx hx=> ?_) ?_
 ·rw[heap_alloc_old w0 _ x (by rw[e0];exact hx),e0]
 ·have hn:(w0.alloc (.cells arr ty)).heap[w.heap.size]? =some (.cells arr ty (0,0)):=by rw[<-e0];exact heap_alloc_new _ _
  have hl:=h1.1;simp only[Array.length_toList]at hl;refine⟨arr,ty,(0,0),hn,⟨by omega,by omega⟩,?_,h2,λ_=>rfl⟩;have e:(arr.toList.drop 0).take cs.length=arr.toList:=by rw[List.drop_zero,List.take_of_length_le (by simp;omega)]
  rw[e];exact h1.mono hs
theorem newPtr_some {cs:Option (List CV)} {p:CV×Heap} (e:newPtr h cs=some p):∃l,cs=some l/\p=(.ptr (some (h.next,0)),h.new (.cells l false)):=by
 unfold newPtr at e;split at e
 ·cases e;exact⟨_,rfl,rfl⟩
 ·cases e
theorem VR.new (ρ:Rho) (n k:Nat):VR (upd ρ n (k,0) 0) (.ptr (some (n,0))) (.pointer (some (mk k 0))):=by
 have:=VR.ptr (ρ:=upd ρ n (k,0) 0) n 0 k 0 (upd_same _ _ _ _);simpa using this
theorem op_alloc (ok:EnvOk P E) {t:TypeId} (ho:o.op= .alloc t) (hr:HR ρ h w) (e:newPtr h ((E.ty t).map (·.zero))=some (v,h')):OpOk P o a ρ h w v h':=by
 obtain⟨l,hl,e⟩:=newPtr_some e;cases e;cases hs:E.ty t with
 |none=>rw[hs]at hl;cases hl
 |some s=>
  rw[hs]at hl;cases hl;obtain⟨i,d,z,k⟩:=ok.row hs;obtain⟨h1,h2⟩:=consts_sound (ρ:=ρ) k.cells;refine⟨_,_,_,.inl ?_,J.alloc hr t h1 h2 w rfl rfl rfl,VR.new _ _ _⟩;unfold execOp;simp[ho,Instr.alloc,zeroValue,typeInfo,k.info,k.zero,newVar,newRow,mk]
theorem op_box {t:TypeId} {x:Operand} {vx:CV} (ho:o.op= .box t x) (hr:HR ρ h w) (e:newPtr h vx.cells=some (v,h')) (hx:VR ρ vx (a.eval x)):OpOk P o a ρ h w v h':=by
 obtain⟨l,hl,e⟩:=newPtr_some e;cases e;obtain⟨h1,h2⟩:=cells_sound hx hl;refine⟨_,_,_,.inl ?_,J.alloc hr t h1 h2 w rfl rfl rfl,VR.new _ _ _⟩;unfold execOp;simp[ho,Instr.box,newVar,newRow,mk]
theorem op_load (ok:EnvOk P E) {t:TypeId} {x:Operand} {vx:CV} (ho:o.op= .load t x) (hr:HR ρ h w) (e:oLoad E t vx h=some (v,h')) (hx:VR ρ vx (a.eval x)):OpOk P o a ρ h w v h':=by
 unfold oLoad at e;split at e
 ·rename_i p
  obtain⟨e1,e2⟩:=withH_some e;simp only at e1 e2;subst e2;obtain⟨i,off⟩:=p;obtain⟨k,d,hi,hxe⟩:=hx.inv_ptr;obtain⟨y,h1,h2⟩:=load_sound ok hr e1 hi;exact .val hr (by unfold execOp;simp[ho,Instr.loadAt,Instr.sureAddr,hxe,h1]) h2
 ·cases e
theorem op_store (ok:EnvOk P E) {t:TypeId} {x y:Operand} {vx vy:CV} (ho:o.op= .store t x y) (hr:HR ρ h w) (e:oStore E t vx vy h=some (v,h')) (hx:VR ρ vx (a.eval x)) (hy:VR ρ vy (a.eval y)):OpOk P o a ρ h w v h':=by
 unfold oStore ofH at e;split at e
 ·rename_i p
  split at e
  ·rename_i h2 hs
   cases e;obtain⟨i,off⟩:=p;obtain⟨k,d,hi,hxe⟩:=hx.inv_ptr;obtain⟨w',h3,h4⟩:=store_sound ok hr hs hi hy;exact⟨undef,w',ρ,.inr ⟨by unfold execOp;simp[ho,Instr.storeAt,Instr.sureAddr,hxe,h3],rfl⟩,h4,.undef _⟩
  ·cases e
 ·cases e
theorem op_nil {x:Operand} {vx:CV} (ho:o.op= .nilCheck x) (hr:HR ρ h w) (e:oNil vx h=some (v,h')) (hx:VR ρ vx (a.eval x)):OpOk P o a ρ h w v h':=by
 unfold oNil at e;split at e
 ·rename_i p
  cases e;obtain⟨i,off⟩:=p;obtain⟨k,d,hi,hxe⟩:=hx.inv_ptr;exact .val hr (by unfold execOp;simp[ho,hxe]) (hxe▸hx)
 ·cases e
  obtain⟨a1,a2,hxe,_⟩:=hx.inv_fn;exact .val hr (by unfold execOp;simp[ho,hxe]) (hxe▸hx)
 ·cases e
  obtain⟨l,_,hxe⟩:=hx.inv_yield;exact .val hr (by unfold execOp;simp[ho,hxe]) (hxe▸hx)
 ·cases e
  obtain⟨y,hxe,_⟩:=hx.inv_iface;exact .val hr (by unfold execOp;simp[ho,hxe]) (hxe▸hx)
 ·cases e
theorem foldl_put (off:Nat):∀(l:List Value) (k:Nat) (arr:Array Value),
  ((l.zipIdx k).foldl (λ(cs:Array Value) (p:Value×Nat)=>cs.setIfInBounds (off+p.2) p.1) arr).size=arr.size/\
  ∀i,((l.zipIdx k).foldl (λ(cs:Array Value) (p:Value×Nat)=>cs.setIfInBounds (off+p.2) p.1) arr).getD i undef=
   if off+k<=i/\i<off+k+l.length/\i<arr.size then l.getD (i-(off+k)) undef else arr.getD i undef
 |[],k,arr=>by
  refine⟨rfl,λi=> ?_⟩;rw[if_neg (by simp;omega)];rfl
 |v::l,k,arr=>by
  have ih:=foldl_put off l (k+1) (arr.setIfInBounds (off+k) v);simp only[List.zipIdx_cons,List.foldl_cons];refine⟨by rw[ih.1];simp,λi=> ?_⟩;rw[ih.2 i];simp only[Array.size_setIfInBounds,List.length_cons];by_cases h1:off+(k+1)<=i/\i<off+(k+1)+l.length/\i<arr.size
  ·rw[if_pos h1,if_pos (by omega)]
   have:i-(off+k)=(i-(off+(k+1)))+1:=by omega
   rw[this];simp
  ·rw[if_neg h1]
   by_cases h2:i=off+k
   ·subst h2
    by_cases h3:off+k<arr.size
    ·rw[if_pos (by omega)]
     simp[h3]
    ·rw[if_neg (by omega)]
     simp[h3]
   ·rw[if_neg (by omega)]
    simp[Ne.symm h2]
theorem put_list (off:Nat) (xs arr:Array Value) (hle:off+xs.size<=arr.size):
  (xs.zipIdx.foldl (λcs (c,j)=>cs.setIfInBounds (off+j) c) arr).toList=arr.toList.take off++xs.toList++arr.toList.drop (off+xs.size):=by
 have e:(xs.zipIdx.foldl (λ(cs:Array Value) (p:Value×Nat)=>cs.setIfInBounds (off+p.2) p.1) arr)=(xs.toList.zipIdx 0).foldl (λ(cs:Array Value) (p:Value×Nat)=>cs.setIfInBounds (off+p.2) p.1) arr:=by
  rw[<-Array.foldl_toList];simp
 have hf:=foldl_put off xs.toList 0 arr;show(xs.zipIdx.foldl (λ(cs:Array Value) (p:Value×Nat)=>cs.setIfInBounds (off+p.2) p.1) arr).toList=_;rw[e];generalize ((xs.toList.zipIdx 0).foldl (λ(cs:Array Value) (p:Value×Nat)=>cs.setIfInBounds (off+p.2) p.1) arr)=r at hf;obtain⟨h1,h2⟩:=hf;apply List.ext_getElem
 ·simp;omega
 ·intro j g1 g2
  have hj:j<r.size:=by simpa using g1
  have:=h2 j;simp only[Nat.add_zero,Array.length_toList]at this;have e1:r.getD j undef=r[j]:=by simp[hj]
  rw[e1]at this;rw[Array.getElem_toList,this];simp only[List.getElem_append,List.length_take,List.getElem_take,List.length_append,Array.length_toList];have hm:min off arr.size=off:=by omega
  simp only[hm];by_cases c1:j<off
  ·rw[dif_pos (by omega),dif_pos c1,if_neg (by omega)]
   have:j<arr.size:=by omega
   simp[this]
  ·by_cases c2:j<off+xs.size
   ·rw[dif_pos c2,dif_neg c1,if_pos (by omega)]
    have:j-off<xs.size:=by omega
    simp[List.getD_eq_getElem?_getD,this]
   ·rw[dif_neg c2,if_neg (by omega)]
    have:j<arr.size:=by omega
    simp only[List.getElem_drop,Array.getElem_toList];simp[this]
    congr 1;omega
def PartsR (ρ:Rho):List (Nat×CV)->List (Nat×Value)->Prop
 |[],[]=>True
 |p::ps,q::qs=>p.1=q.1/\VR ρ p.2 q.2/\PartsR ρ ps qs
 |_,_=>False
theorem fill_sound (pl:Nat->Option (Nat×Nat)):∀(ps:List (Nat×CV)) (qs:List (Nat×Value)) (cs cs':List CV) (arr:Array Value),
  fillAt pl cs ps=some cs'->VRs ρ cs arr.toList->(∀c∈cs,c.one=true)->PartsR ρ ps qs->∃arr',Instr.fill pl arr qs=some arr'/\VRs ρ cs' arr'.toList/\(∀c∈cs',c.one=true)
 |[],[],cs,cs',arr,e,h1,h2,_=>by
  simp only[fillAt,Option.some.injEq]at e;subst e;exact⟨arr,rfl,h1,h2⟩
 |(i,v)::ps,(j,x)::qs,cs,cs',arr,e,h1,h2,hp=>by
  obtain⟨e0,hv,hp⟩:=hp;simp only at e0 hv;subst e0;simp only[fillAt]at e;simp only[Instr.fill];split at e
  ·cases e
  ·rename_i off size hpl
   split at e
   ·cases e
   ·rename_i vs hvs
    split at e
    ·cases e
    ·rename_i hn
     have hn:=Nat.eq_of_beq_eq_true hn;rw[len_eq]at hn;rw[setAt_eq]at e;obtain⟨h3,h4⟩:=cells_sound hv hvs;have hxs:x.cells.size=size:=by have:=h3.1;simp at this;omega
     have hcl:=h1.1;simp only[Array.length_toList]at hcl;by_cases hle:off+vs.length<=cs.length
     ·rw[if_pos hle]at e
      simp only at e;rw[hpl];simp only;rw[if_neg (by simp[hxs];omega)];refine fill_sound pl ps qs _ cs' _ e ?_ ?_ hp
      ·rw[put_list off x.cells arr (by omega)]
       have e2:off+x.cells.size=off+vs.length:=by omega
       rw[e2];exact((h1.take off).append h3).append (h1.drop _)
      ·intro c hc
       simp only[List.mem_append]at hc;rcases hc with(hc|hc)|hc
       ·exact h2 c (List.mem_of_mem_take hc)
       ·exact h4 c hc
       ·exact h2 c (List.mem_of_mem_drop hc)
     ·rw[if_neg hle]at e;cases e
 |[],_::_,_,_,_,_,_,_,hp=>hp.elim
 |_::_,[],_,_,_,_,_,_,hp=>hp.elim
theorem parts_sound {ps:Array (Nat×Operand)} (hx:∀x,x∈ps.toList.map (·.2)->VR ρ (f x) (a.eval x)):PartsR ρ (parts f ps.toList) (ps.map λ(i,x)=>(i,a.eval x)).toList:=by
 rw[Array.toList_map];generalize ps.toList=l at hx;unfold parts
 induction l with
 |nil=>trivial
 |cons p l ih=>exact⟨rfl,hx p.2 (by simp),ih λx hx'=>hx x (by simp at hx' ⊢;exact .inr hx')⟩
theorem sizeOf_row (ok:EnvOk P E) {t:TypeId} {n:Nat} (e:sizeOf? E t=some n) (w:World):(sizeOf t).run P w= .ok n w:=by
 unfold sizeOf? at e;cases hs:E.ty t with
 |none=>rw[hs]at e;cases e
 |some s=>
  rw[hs]at e;cases e;obtain⟨i,d,z,k⟩:=ok.row hs;exact run_sizeOf k w
theorem places_sound (ok:EnvOk P E) (w:World):∀(l:List Field) (pl:List (Nat×Nat)),placesOf E (l.map λf=>(f.type,f.offset))=some pl->
  (l.mapM λf=>(do pure (f.offset,<-sizeOf f.type):Sem (Nat×Nat))).run P w= .ok pl w
 |[],pl,e=>by simp only[List.map_nil,placesOf,Option.some.injEq]at e;subst e;simp
 |fl::l,pl,e=>by
  simp only[List.map_cons,placesOf]at e;split at e
  ·rename_i n hn
   split at e
   ·rename_i r hr
    cases e;have:=places_sound ok w l r hr;simp only[List.mapM_cons,Sem.run_bind,sizeOf_row ok hn,Result.andThen_ok,Sem.run_pure];rw[this];simp
   ·cases e
  ·cases e
theorem kind_struct {d:TypeDesc} {fs:List (TypeId×Nat)} (e:kindOf d= .struct fs):∃l:Array Field,d= .struct l/\fs=l.toList.map (λf=>(f.type,f.offset))/\∀f∈l.toList,f.name≠ "_" :=by
 unfold kindOf at e;split at e<;>try cases e
 rename_i l;split at e
 ·rename_i hb
  cases e;refine⟨l,rfl,rfl,λf hf=> ?_⟩;rw[List.all_eq_true]at hb;simpa using hb f hf
 ·cases e
theorem kind_array {d:TypeDesc} {n:Nat} {t:TypeId} (e:kindOf d= .array n t):d= .array n t:=by
 unfold kindOf at e;split at e<;>first|(cases e;rfl)|cases e|(split at e<;>cases e)
theorem kind_slice {d:TypeDesc} {t:TypeId} (e:kindOf d= .slice t):d= .slice t:=by
 unfold kindOf at e;split at e<;>first|(cases e;rfl)|cases e|(split at e<;>cases e)
theorem kind_map {d:TypeDesc} {k t:TypeId} (e:kindOf d= .map k t):d= .map k t:=by
 unfold kindOf at e;split at e<;>first|(cases e;rfl)|cases e|(split at e<;>cases e)
theorem kind_pointer {d:TypeDesc} {t:TypeId} (e:kindOf d= .pointer t):d= .pointer t:=by
 unfold kindOf at e;split at e<;>first|(cases e;rfl)|cases e|(split at e<;>cases e)
theorem kind_int {d:TypeDesc} {t:IntKind} (e:kindOf d= .int t):d= .int t:=by
 unfold kindOf at e;split at e<;>first|(cases e;rfl)|cases e|(split at e<;>cases e)
theorem kind_bool {d:TypeDesc} (e:kindOf d= .bool):d= .bool:=by
 unfold kindOf at e;split at e<;>first|rfl|cases e|(split at e<;>cases e)
theorem kind_string {d:TypeDesc} (e:kindOf d= .string):d= .string:=by
 unfold kindOf at e;split at e<;>first|rfl|cases e|(split at e<;>cases e)
theorem kind_iface {d:TypeDesc} (e:kindOf d= .iface):∃ms,d= .interface ms:=by
 unfold kindOf at e;split at e<;>first|exact⟨_,rfl⟩|cases e|(split at e<;>cases e)
theorem kind_func {d:TypeDesc} (e:kindOf d= .func):∃p r v,d= .func p r v:=by
 unfold kindOf at e;split at e<;>first|exact⟨_,_,_,rfl⟩|cases e|(split at e<;>cases e)
theorem op_build (ok:EnvOk P E) {t:TypeId} {ps:Array (Nat×Operand)} (ho:o.op= .build t ps) (hr:HR ρ h w) (e:oBuild E (E.ty t) (parts f ps.toList) h=some (v,h'))
  (hx:∀x,x∈ps.toList.map (·.2)->VR ρ (f x) (a.eval x)):OpOk P o a ρ h w v h':=by
 have hp:=parts_sound hx;unfold oBuild at e;split at e
 ·rename_i s hs
  obtain⟨i,d,z,k⟩:=ok.row hs;obtain⟨h1,h2⟩:=consts_sound (ρ:=ρ) k.cells;split at e
  ·rename_i fs hk
   split at e
   ·rename_i pl hpl
    obtain⟨e1,e2⟩:=withH_some e;simp only at e1 e2;subst e2;cases hf:fillAt (nth pl) s.zero (parts f ps.toList)with
    |none=>rw[hf]at e1;cases e1
    |some cs=>
     rw[hf]at e1;simp only[Option.map_some,Option.some.injEq]at e1;subst e1;obtain⟨l,rfl,rfl,_⟩:=kind_struct (k.kind.symm.trans hk);obtain⟨arr',g1,g2,g3⟩:=fill_sound (nth pl) _ _ _ _ z.cells hf h1 h2 hp;have hpr:=places_sound ok w l.toList pl hpl;refine .val (x:= .agg arr') hr ?_ (VRs.agg g2 g3);have e3:(nth pl)=λi=>(pl.toArray)[i]? :=by funext i;rw[nth_eq];simp
     rw[e3]at g1
     have hpa:(l.mapM λf=>(do pure (f.offset,<-sizeOf f.type):Sem (Nat×Nat))).run P w= .ok pl.toArray w:=by
      rw[Array.mapM_eq_mapM_toList,Sem.run_map,hpr];rfl
     unfold execOp;simp only[ho,Instr.build,Sem.run_bind,zeroValue,typeInfo,k.info,k.zero,run_program,Sem.run_pure,Result.andThen_ok,run_underlying k.und];rw[hpa];simp only[Result.andThen_ok];rw[g1];rfl
   ·cases e
  ·rename_i n el hk
   split at e
   ·rename_i m hm
    obtain⟨e1,e2⟩:=withH_some e;simp only at e1 e2;subst e2;cases hf:fillAt (λi=>some (i*m,m)) s.zero (parts f ps.toList)with
    |none=>rw[hf]at e1;cases e1
    |some cs=>
     rw[hf]at e1;simp only[Option.map_some,Option.some.injEq]at e1;subst e1;have hd:=kind_array (k.kind.symm.trans hk);subst hd;obtain⟨arr',g1,g2,g3⟩:=fill_sound _ _ _ _ _ z.cells hf h1 h2 hp;refine .val (x:= .agg arr') hr ?_ (VRs.agg g2 g3);unfold execOp;simp only[ho,Instr.build,Sem.run_bind,zeroValue,typeInfo,k.info,k.zero,run_program,Sem.run_pure,Result.andThen_ok,run_underlying k.und,sizeOf_row ok hm];rw[g1];rfl
   ·cases e
  ·cases e
 ·cases e
end
end Go.CM
