/- Writes to maps: the model gives what the plain machine gives. No condition. -/
import Derived.Test.YtmgpjfnlciapkaaGreatDoorCmL
import Derived.MapKept
set_option linter.unusedVariables false
set_option linter.unusedSimpArgs false
noncomputable section
namespace Go.CM
section
variable {P:Program} {E:Env} {o:Oper} {a:Act} {ρ:Rho} {h h':Heap} {w:World} {v:CV}
theorem run_keyStays {X Y:Value} (hb:Instr.sameBits 10000 Y X=true) (w:World):(Instr.keyThatStays Y X).run P w= .ok X w:=by
 simp[Instr.keyThatStays,hb]
theorem MapR.modify {f:ME->ME} {g:MapEntry->MapEntry} (hf:∀e m,VR ρ e.key m.key->VR ρ e.val m.val->e.born=m.born->VR ρ (f e).key (g m).key/\VR ρ (f e).val (g m).val/\(f e).born=(g m).born):
  ∀(es:List ME) (ms:List MapEntry) (i:Nat),MapR ρ es ms->MapR ρ (setME es f i) (ms.modify i g)
 |[],ms,i,r=>by rw[r.of_nil];cases i<;>exact⟨VRs.nil _,VRs.nil _,rfl⟩
 |e::es,ms,0,r=>by
  obtain⟨m,l,rfl,g1,g2,g3,g4⟩:=r.head
  obtain⟨f1,f2,f3⟩:=hf e m g1 g2 g3
  exact MapR.cons f1 f2 f3 g4
 |e::es,ms,i+1,r=>by
  obtain⟨m,l,rfl,g1,g2,g3,g4⟩:=r.head
  exact MapR.cons g1 g2 g3 (MapR.modify hf es l i g4)
theorem MapR.push {es:List ME} {ms:List MapEntry} (r:MapR ρ es ms) {e:ME} {m:MapEntry} (h1:VR ρ e.key m.key) (h2:VR ρ e.val m.val) (h3:e.born=m.born):MapR ρ (es++[e]) (ms++[m]):=by
 obtain⟨r1,r2,r3⟩:=r
 refine⟨?_,?_,by simp[r3,h3]⟩
 ·simp only[List.map_append,List.map_cons,List.map_nil]
  exact r1.append (VRs.cons h1 (VRs.nil _))
 ·simp only[List.map_append,List.map_cons,List.map_nil]
  exact r2.append (VRs.cons h2 (VRs.nil _))
theorem map_put (hr:HR ρ h w) {r clock:Nat} {es:List ME} (hb:h.get r=some (.map es clock)) {x:Value} (hx:VR ρ (.map (some r)) x):
  ∃(k:Nat) (ms:Array MapEntry),x= .map (some k)/\w.heap[k]? =some (.map ms clock)/\MapR ρ es ms.toList/\
   ∀(es':List ME) (ms':Array MapEntry) (clock':Nat),MapR ρ es' ms'.toList->J ρ h w ρ (h.put r (.map es' clock')) {w with heap:=w.heap.setIfInBounds k (.map ms' clock')}:=by
 obtain⟨k,hi,hxe⟩:=hx.inv_map
 obtain⟨k',d',hi',hd0,ms,g1,g2,g3,g4⟩:=hr.blk r _ hb
 rw[hi]at hi'
 cases hi'
 refine⟨k,ms,hxe,g1,⟨g2,g3,g4⟩,λes' ms' clock' hm=> ?_⟩
 have hlt:k<w.heap.size:=(Array.getElem?_eq_some_iff.1 g1).1
 refine J.put hr hb rfl hi rfl rfl (by simp) (λy hy=> ?_) ⟨rfl,ms',?_,hm.1,hm.2.1,hm.2.2⟩
 ·show(w.heap.setIfInBounds k _)[y]? =_
  rw[Array.getElem?_setIfInBounds_ne (Ne.symm hy)]
 ·show(w.heap.setIfInBounds k _)[k]? =_
  simp[hlt]
theorem op_mapUpd (ok:EnvOk P E) {t:TypeId} {x y z:Operand} {vx vy vz:CV} (ho:o.op= .mapUpdate t x y z\/o.op= .insert t x y z) (hr:HR ρ h w) (e:oMapUpd E (E.ty t) vx vy vz h=some (v,h')) (hx:VR ρ vx (a.eval x)) (hy:VR ρ vy (a.eval y)) (hz:VR ρ vz (a.eval z)):OpOk P o a ρ h w v h':=by
 unfold oMapUpd at e
 split at e
 ·rename_i s hs
  obtain⟨i,d,zz,k⟩:=ok.row hs
  split at e
  ·rename_i kt et hk
   have hd:=kind_map (k.kind.symm.trans hk)
   subst hd
   split at e
   ·rename_i hko
    have hck:=λb=>key_check (P:=P) ok hko hy b w
    split at e
    ·rename_i r
     split at e
     ·rename_i es clock hb
      obtain⟨kk,ms,q1,q2,hmr,put⟩:=map_put hr hb hx
      split at e
      ·rename_i p hf
       cases e
       obtain⟨e0,m,hrun,f3,f4,f5,f6,f7⟩:=find_run ok hko hy hf hmr w
       have hm4:ms[p.1]? =some m:=by simpa using f4
       refine⟨undef,_,ρ,.inr ⟨?_,rfl⟩,put _ (ms.modify p.1 λe=>{e with key:=a.eval y,val:=a.eval z}) clock ?_,.undef _⟩
       ·unfold execOp
        rcases ho with ho|ho<;>
         simp[ho,Instr.mapUpdate,run_underlying k.und,q1,run_getMap (P:=P) q2,hck,hrun,hm4,run_keyStays f7,run_setMap (P:=P) q2]
       ·rw[Array.toList_modify]
        exact MapR.modify (f:=λe=>⟨vy,vz,e.born⟩) (g:=λe=>{e with key:=a.eval y,val:=a.eval z}) (λe m _ _ hb=>⟨hy,hz,hb⟩) _ _ _ hmr
      ·rename_i hf
       cases e
       have hrun:(Instr.findKey kt (a.eval y) ms.toList).run P w= .ok none w:=find_run ok hko hy hf hmr w
       refine⟨undef,_,ρ,.inr ⟨?_,rfl⟩,put _ (ms.push {key:=a.eval y,val:=a.eval z,born:=clock}) (clock+1) ?_,.undef _⟩
       ·unfold execOp
        rcases ho with ho|ho<;>
         simp[ho,Instr.mapUpdate,run_underlying k.und,q1,run_getMap (P:=P) q2,hck,hrun,run_setMap (P:=P) q2]
       ·rw[Array.toList_push]
        exact hmr.push hy hz rfl
      ·cases e
     ·cases e
    ·cases e
   ·cases e
  ·cases e
 ·cases e
theorem op_mapEntry (ok:EnvOk P E) {t:TypeId} {x y:Operand} {vx vy:CV} (ho:o.op= .mapEntry t x y) (hr:HR ρ h w) (e:oMapEntry E (E.ty t) vx vy h=some (v,h')) (hx:VR ρ vx (a.eval x)) (hy:VR ρ vy (a.eval y)):OpOk P o a ρ h w v h':=by
 unfold oMapEntry at e
 split at e
 ·rename_i s hs
  obtain⟨i,d,zz,k⟩:=ok.row hs
  split at e
  ·rename_i kt et hk
   have hd:=kind_map (k.kind.symm.trans hk)
   subst hd
   split at e
   ·rename_i hko
    have hck:=λb=>key_check (P:=P) ok hko hy b w
    split at e
    ·rename_i r
     split at e
     ·rename_i es clock hb
      obtain⟨kk,ms,q1,q2,hmr,put⟩:=map_put hr hb hx
      split at e
      ·rename_i p hf
       split at e
       ·rename_i e1 he1
        cases e
        obtain⟨e0,m,hrun,f3,f4,f5,f6,f7⟩:=find_run ok hko hy hf hmr w
        have hm4:ms[p.1]? =some m:=by simpa using f4
        have he0:e1=e0:=by
         rw[nth_eq]at he1
         rw[he1]at f3
         exact Option.some.inj f3
        subst he0
        refine⟨.tuple #[m.val,goInt m.born],_,ρ,.inl ?_,put _ (ms.modify p.1 λe=>{e with key:=a.eval y}) clock ?_,?_⟩
        ·unfold execOp
         simp[ho,Instr.mapEntry,run_underlying k.und,q1,run_getMap (P:=P) q2,hck,hrun,hm4,run_keyStays f7,run_setMap (P:=P) q2]
        ·rw[Array.toList_modify]
         exact MapR.modify (f:=λe=>⟨vy,e.val,e.born⟩) (g:=λe=>{e with key:=a.eval y}) (λe m _ hv hb=>⟨hy,hv,hb⟩) _ _ _ hmr
        ·rw[f6]
         exact VRs.tup (VRs.cons f5 (VRs.cons (.int _ _) (VRs.nil _)))
       ·cases e
      ·rename_i hf
       split at e
       ·rename_i z0 hz0
        cases e
        have hrun:(Instr.findKey kt (a.eval y) ms.toList).run P w= .ok none w:=find_run ok hko hy hf hmr w
        obtain⟨Z,z1,z2⟩:=zeroV_sound (ρ:=ρ) ok hz0 w
        refine⟨.tuple #[Z,goInt clock],_,ρ,.inl ?_,put _ (ms.push {key:=a.eval y,val:=Z,born:=clock}) (clock+1) ?_,?_⟩
        ·unfold execOp
         simp[ho,Instr.mapEntry,run_underlying k.und,q1,run_getMap (P:=P) q2,hck,hrun,z1,run_setMap (P:=P) q2]
        ·rw[Array.toList_push]
         exact hmr.push hy z2 rfl
        ·exact VRs.tup (VRs.cons z2 (VRs.cons (.int _ _) (VRs.nil _)))
       ·cases e
      ·cases e
     ·cases e
    ·cases e
   ·cases e
  ·cases e
 ·cases e
theorem findBorn_sound (n:Int):∀(es:List ME) (ms:List MapEntry) (i j:Nat),findBorn n es i=some j->es.map (·.born)=ms.map (·.born)->i<=j/\ms.findIdx? (λe=>(e.born:Int)==n)=some (j-i)
 |[],_,_,_,e,_=>by cases e
 |x::es,ms,i,j,e,hb=>by
  cases ms with
  |nil=>cases hb
  |cons m ms=>
   simp only[List.map_cons,List.cons.injEq]at hb
   simp only[findBorn]at e
   rw[List.findIdx?_cons]
   split at e
   ·rename_i he
    cases e
    rw[intEq_eq]at he
    refine⟨Nat.le_refl _,?_⟩
    have:((m.born:Int)==n)=true:=by rw[<-hb.1];exact he
    rw[this]
    simp
   ·rename_i he
    rw[intEq_eq]at he
    obtain⟨h1,h2⟩:=findBorn_sound n es ms (i+1) j e hb.2
    have:((m.born:Int)==n)=false:=by rw[<-hb.1];exact he
    rw[this,h2]
    refine⟨by omega,?_⟩
    simp
    omega
theorem op_entryStore {t:TypeId} {x y z:Operand} {vx vy vz:CV} (ho:o.op= .entryStore t x y z) (hr:HR ρ h w) (e:oEntryStore vx vy vz h=some (v,h')) (hx:VR ρ vx (a.eval x)) (hy:VR ρ vy (a.eval y)) (hz:VR ρ vz (a.eval z)):OpOk P o a ρ h w v h':=by
 unfold oEntryStore at e
 split at e
 ·rename_i r
  split at e
  ·rename_i es clock hb
   obtain⟨kk,ms,q1,q2,hmr,put⟩:=map_put hr hb hx
   split at e
   ·rename_i kn n
    split at e
    ·rename_i i hf
     cases e
     obtain⟨_,h2⟩:=findBorn_sound n es ms.toList 0 i hf hmr.2.2
     rw[Nat.sub_zero]at h2
     have h3:ms.findIdx? (λe=>(e.born:Int)==n)=some i:=by obtain⟨l⟩:=ms;simpa using h2
     refine⟨undef,_,ρ,.inr ⟨?_,rfl⟩,put _ (ms.modify i λe=>{e with val:=a.eval z}) clock ?_,.undef _⟩
     ·unfold execOp
      simp[ho,Instr.entryStore,q1,hy.inv_int,asInt,asIntOf,run_getMap (P:=P) q2,h3,run_setMap (P:=P) q2]
     ·rw[Array.toList_modify]
      exact MapR.modify (f:=λe=>⟨e.key,vz,e.born⟩) (g:=λe=>{e with val:=a.eval z}) (λe m hk _ hb=>⟨hk,hz,hb⟩) _ _ _ hmr
    ·cases e
   ·cases e
  ·cases e
 ·cases e
end
end Go.CM
