/- Drawn regions that write nothing, run with inputs. No condition. -/
import Derived.Test.YtmgpjfnlciapkaaDoorCmZ
import Derived.Test.YtmgpjfnlciapkaaDoorCmQ
import Derived.KernelRfl
import Derived.Test.YtmgpjfnlciapkaaDoorCmV
noncomputable section
namespace Go.CM
set_option linter.unusedVariables false
set_option linter.unusedSimpArgs false
section
variable {E : Env} {bs : List Bits} {all rest : List Oper} {o : Oper} {i n0 : Nat} {recs : List Rec} {tm : Tm} {h : Heap} {v : CV} {Q : R → Prop}

/-- Cells lie there. -/
def CellsAt (h : Heap) (k : Nat) : Prop := ∃ cs ro, h.get k = some (.cells cs ro)
/-- What has been done so far: looks at cells, and calls that have turned no cells that were there; the calls' numbers. -/
def RecOk (h : Heap) (n0 : Nat) (calls : List Nat) (r : Rec) : Prop :=
  (∃ i fp lo, r = .op i fp false lo lo ∧ ∀ k ∈ fp, k < n0 ∧ CellsAt h k) ∨ (∃ i d d', r = .call i d d' ∧ i ∈ calls ∧ ∀ k, k < n0 → CellsAt h k → blkEq (d.get k) (d'.get k) = true)
def RecsR (h : Heap) (n0 : Nat) (idx calls : List Nat) (recs : List Rec) : Prop := ∀ r ∈ recs, RecOk h n0 calls r ∧ recIdx r ∈ idx
theorem RecsR.nil {idx calls : List Nat} : RecsR h n0 idx calls [] := fun _ h => by cases h

theorem RecsR.start : RecsR h h.next [] [] [] := RecsR.nil

theorem within_self (k n : Nat) : within k n n = false := by
  unfold within
  cases h1 : Nat.ble n k with
  | false => rfl
  | true =>
    cases h2 : Nat.blt k n with
    | false => rfl
    | true =>
      have := Nat.le_of_ble_eq_true h1
      rw [Nat.blt_eq] at h2
      omega
theorem all1_of {l : List Nat} {p : Nat → Bool} (h : ∀ k ∈ l, p k = true) : all1 l p = true := by
  induction l with
  | nil => rfl
  | cons x l ih =>
    show (match p x with | true => all1 l p | false => false) = true
    rw [h x (by simp)]
    exact ih fun k hk => h k (List.mem_cons_of_mem _ hk)
def opApart (fp' : List Nat) (wr : Bool) (lo hi k : Nat) : Bool := match within k lo hi with
  | true => false
  | false => match wr with
    | true => !mem k fp'
    | false => true
def callApart (d d' : Heap) (wr : Bool) (k : Nat) : Bool := match blkEq (d.get k) (d'.get k) with
  | true => match wr with
    | true => isNo (d.get k)
    | false => true
  | false => false
def both (a b : Bool) : Bool := match a with
  | true => b
  | false => false
theorem okPair_op {fp fp' news : List Nat} {wr wr' : Bool} {i lo hi : Nat} : okPair fp wr news (.op i fp' wr' lo hi) = both (all1 fp (opApart fp' (wr || wr') lo hi)) (all1 news fun k => !mem k fp') := rfl
theorem okPair_call {fp news : List Nat} {wr : Bool} {i : Nat} {d d' : Heap} : okPair fp wr news (.call i d d') = both (all1 fp (callApart d d' wr)) (all1 news fun k => match isNo (d.get k) with | true => isNo (d'.get k) | false => false) := rfl
theorem okPair_read {calls fp : List Nat} {r : Rec} (hfp : ∀ k ∈ fp, k < n0 ∧ CellsAt h k) (hr : RecOk h n0 calls r) : okPair fp false [] r = true := by
  rcases hr with ⟨i, fp', lo, rfl, _⟩ | ⟨i, d, d', rfl, _, hd⟩
  · rw [okPair_op, all1_of fun k _ => by unfold opApart; rw [within_self]; rfl]
    rfl
  · rw [okPair_call, all1_of fun k hk => by unfold callApart; rw [hd k (hfp k hk).1 (hfp k hk).2]]
    rfl
theorem okPairs_read {idx calls : List Nat} {ahead : Bits} {fp : List Nat} (hfp : ∀ k ∈ fp, k < n0 ∧ CellsAt h k) : ∀ {recs : List Rec}, RecsR h n0 idx calls recs → okPairs ahead fp false [] recs = true
  | [], _ => rfl
  | r :: rs, hr => by
    unfold okPairs
    rw [okPair_read hfp (hr r (by simp)).1]
    exact okPairs_read hfp fun x hx => hr x (List.mem_cons_of_mem _ hx)
theorem okPairs_ahead {ahead : Bits} {fp : List Nat} {wr : Bool} {news : List Nat} : ∀ {recs : List Rec}, (∀ r ∈ recs, bit (recIdx r) ahead = true) → okPairs ahead fp wr news recs = true
  | [], _ => rfl
  | r :: rs, hr => by
    unfold okPairs
    have ih := okPairs_ahead (fp := fp) (wr := wr) (news := news) fun x hx => hr x (List.mem_cons_of_mem _ hx)
    rw [hr r (by simp), ih]
    cases okPair fp wr news r <;> rfl

theorem W.dnil (q : Q (.code .normal tm h)) : W E (.draw bs all [] i recs) tm h Q := ⟨_, .step ⟨0, fun _ _ => rfl⟩, q⟩
theorem W.doff (hg : guardOn all tm o = some false) (w : W E (.draw bs all rest (i + 1) recs) (putTmp tm o.dst (.tup [])) h Q) : W E (.draw bs all (o :: rest) i recs) tm h Q := by
  obtain ⟨r, ⟨N, e⟩, q⟩ := w
  refine ⟨r, .step ⟨N, fun m hm => ?_⟩, q⟩
  show (match guardOn all tm o with
      | some true => dOp E (run E m) bs all rest o i recs tm h
      | some false => run E m (.draw bs all rest (i + 1) recs) (putTmp tm o.dst (.tup [])) h
      | none => .stop) = r
  rw [hg]
  exact e m hm
/-- The operation's own part of the memory. -/
def fpAny (E : Env) (o : Oper) (tm : Tm) : List Nat := fpOf o.op (cvOf E.globs tm)
theorem dOp_any {E : Env} {run : Run} {bs : List Bits} {all r : List Oper} {o : Oper} {i : Nat} {recs : List Rec} {tm : Tm} {h : Heap} {p : CV × Heap} (ho : opAny E o tm (only h (fpAny E o tm)) = some p) :
    dOp E run bs all r o i recs tm h = dNext run bs all r i recs o.dst tm h (fpAny E o tm) (wrOf o.op) (some p) := by
  unfold opAny at ho
  unfold dOp
  split at ho
  · rename_i c hc
    rw [hc]
    simp only
    split at ho
    · rename_i b hb
      rw [hb]
      simp only
      unfold fpAny at ho ⊢
      rw [hc] at ho ⊢
      rw [ho]
    · cases ho
  · cases ho
  · rename_i hc hp
    split
    · rename_i c hcc; exact absurd hcc (hc c)
    · unfold fpAny at ho ⊢
      rw [ho]
/-- An operation that asks no memory. -/
theorem W.dop (hg : guardOn all tm o = some true) (hfp : fpAny E o tm = []) (ho : opAny E o tm ⟨.leaf, h.next, none⟩ = some (v, ⟨.leaf, h.next, none⟩)) (w : W E (.draw bs all rest (i + 1) recs) (putTmp tm o.dst v) h Q) : W E (.draw bs all (o :: rest) i recs) tm h Q := by
  obtain ⟨r, ⟨N, e⟩, q⟩ := w
  refine ⟨r, .step ⟨N, fun m hm => ?_⟩, q⟩
  show (match guardOn all tm o with
      | some true => dOp E (run E m) bs all rest o i recs tm h
      | some false => run E m (.draw bs all rest (i + 1) recs) (putTmp tm o.dst (.tup [])) h
      | none => .stop) = r
  rw [hg]
  have e1 : opAny E o tm (only h (fpAny E o tm)) = some (v, ⟨.leaf, h.next, none⟩) := by rw [hfp]; exact ho
  show dOp E (run E m) bs all rest o i recs tm h = r
  rw [dOp_any e1, hfp]
  show (match isNil ([] : List Nat) && Nat.beq h.next h.next with
    | true => run E m (.draw bs all rest (i + 1) recs) (putTmp tm o.dst v) h
    | false => _) = r
  rw [Nat.beq_refl]
  exact e m hm

/-- The same memory. -/
structure Same (h h' : Heap) : Prop where
  next : h'.next = h.next
  get : ∀ k, h'.get k = h.get k
theorem Same.ext {h h' : Heap} (s : Same h h') : Ext h h' := ⟨Nat.le_of_eq s.next.symm, fun k _ => s.get k, fun f k hk => (s.get k).trans (f k (by rw [← s.next]; exact hk))⟩
theorem CellsAt.of {h h' : Heap} {k : Nat} (e : h'.get k = h.get k) (c : CellsAt h k) : CellsAt h' k := by
  obtain ⟨cs, ro, hc⟩ := c
  exact ⟨cs, ro, e.trans hc⟩
theorem RecOk.of {calls : List Nat} {h h' : Heap} {r : Rec} (e : ∀ k, k < n0 → h'.get k = h.get k) (hr : RecOk h n0 calls r) : RecOk h' n0 calls r := by
  rcases hr with ⟨i, fp, lo, rfl, h1⟩ | ⟨i, d, d', rfl, h1, h2⟩
  · exact .inl ⟨i, fp, lo, rfl, fun k hk => ⟨(h1 k hk).1, (h1 k hk).2.of (e k (h1 k hk).1)⟩⟩
  · exact .inr ⟨i, d, d', rfl, h1, fun k hk hc => h2 k hk (hc.of (e k hk).symm)⟩

/-- A load. -/
theorem W.dld {idx calls : List Nat} {t : TypeId} {x : Operand} {id off : Nat} {cs : List CV} {ro : Bool} {s : TyS} (hr : RecsR h n0 idx calls recs) (hgd : guardOn all tm o = some true) (hop : o.op = .load t x) (hx : cvOf E.globs tm x = .ptr (some (id, off))) (hg : h.get id = some (.cells cs ro)) (hid : id < n0) (hs : E.ty t = some s) (hp : part cs off s.size s.agg = some v)
    (w : ∀ recs' h', RecsR h' n0 (i :: idx) calls recs' → Same h h' → W E (.draw bs all rest (i + 1) recs') (putTmp tm o.dst v) h' Q) : W E (.draw bs all (o :: rest) i recs) tm h Q := by
  have hfp : fpAny E o tm = [id] := by
    unfold fpAny
    rw [hop]
    show idOf (cvOf E.globs tm x) = [id]
    rw [hx]; rfl
  have hwr : wrOf o.op = false := by rw [hop]; rfl
  have hget : (only h [id]).get id = some (.cells cs ro) := by rw [only_get]; simpa using hg
  have ho : opAny E o tm (only h (fpAny E o tm)) = some (v, only h [id]) := by
    rw [hfp]
    unfold opAny
    rw [hop]
    show oLoad E t (cvOf E.globs tm x) (only h [id]) = _
    rw [hx]
    unfold oLoad CM.load loadB
    simp only [hget, hs, hp, withH]
  have hsame : Same h (back h (only h [id]) ([id] ++ span h.next 0)) := by
    refine ⟨by rw [back_next, only_next], fun k => ?_⟩
    rw [back_get]
    split
    · rename_i hk
      have : k = id := by
        have hk : k ∈ [id] := hk
        simpa using hk
      subst this
      rw [hget, hg]
    · rfl
  have hfc : ∀ k ∈ [id], k < n0 ∧ CellsAt h k := fun k hk => by rw [List.mem_singleton] at hk; subst hk; exact ⟨hid, cs, ro, hg⟩
  have hrec : RecsR (back h (only h [id]) ([id] ++ span h.next 0)) n0 (i :: idx) calls (.op i [id] false h.next h.next :: recs) := by
    intro r hm
    rcases List.mem_cons.1 hm with rfl | hm
    · exact ⟨RecOk.of (h := h) (fun k _ => hsame.get k) (.inl ⟨i, [id], h.next, rfl, hfc⟩), by simp [recIdx]⟩
    · exact ⟨RecOk.of (h := h) (fun k _ => hsame.get k) (hr r hm).1, List.mem_cons_of_mem _ (hr r hm).2⟩
  obtain ⟨r, ⟨N, e⟩, q⟩ := w _ _ hrec hsame
  refine ⟨r, .step ⟨N, fun m hm => ?_⟩, q⟩
  show (match guardOn all tm o with
      | some true => dOp E (run E m) bs all rest o i recs tm h
      | some false => run E m (.draw bs all rest (i + 1) recs) (putTmp tm o.dst (.tup [])) h
      | none => .stop) = r
  rw [hgd]
  show dOp E (run E m) bs all rest o i recs tm h = r
  rw [dOp_any ho, hfp, hwr]
  have hnx : (only h [id]).next = h.next := only_next _ _
  show (match okPairs ((nth bs i).getD Bits.nil) [id] false (span h.next ((only h [id]).next - h.next)) recs with
    | true => run E m (.draw bs all rest (i + 1) (.op i [id] false h.next (only h [id]).next :: recs)) (putTmp tm o.dst v) (back h (only h [id]) ([id] ++ span h.next ((only h [id]).next - h.next)))
    | false => .stop) = r
  rw [hnx, Nat.sub_self]
  have : okPairs ((nth bs i).getD Bits.nil) [id] false (span h.next 0) recs = true := okPairs_read hfc hr
  rw [this]
  exact e m hm
/-- An element's address. -/
theorem W.dix {t : TypeId} {x y : Operand} {s : TyS} {e id off len c ex z j : Nat} {kk : IntKind} {n : Int} (hgd : guardOn all tm o = some true) (hop : o.op = .indexAddr t x y) (hx : cvOf E.globs tm x = .slice (some (id, off)) len c ex) (hy : cvOf E.globs tm y = .int kk n) (hs : E.ty t = some s) (hk : s.kind = .slice e) (hz : sizeOf? E e = some z) (hn : place n len = some j)
    (w : W E (.draw bs all rest (i + 1) recs) (putTmp tm o.dst (.ptr (some (id, off + j * z)))) h Q) : W E (.draw bs all (o :: rest) i recs) tm h Q := by
  refine W.dop hgd (v := .ptr (some (id, off + j * z))) ?_ ?_ w
  · unfold fpAny; rw [hop]; rfl
  · unfold opAny
    rw [hop]
    show oIndexAddr E (E.ty t) (cvOf E.globs tm x) (cvOf E.globs tm y) _ = _
    rw [hx, hy, hs]
    unfold oIndexAddr
    simp only [hk, hz, hn, addrAt]

mutual
theorem cvEq_refl : ∀ (c : CV), cvEq c c = true
  | .undef => rfl
  | .bool b => by simp [cvEq]
  | .int k n => by simp [cvEq, kindEq_iff, intEq_eq]
  | .str s => by simp [cvEq, bytesEq_eq]
  | .ptr none => rfl
  | .ptr (some p) => by simp [cvEq, Nat.beq_refl]
  | .slice none n c x => by simp [cvEq, Nat.beq_refl]
  | .slice (some p) n c x => by simp [cvEq, Nat.beq_refl]
  | .empty => rfl
  | .map none => rfl
  | .map (some r) => by simp [cvEq, Nat.beq_refl]
  | .fn f a b => by simp [cvEq, Nat.beq_refl, cvsEq_refl a, cvsEq_refl b]
  | .yield l => by simp [cvEq, Nat.beq_refl]
  | .nilFunc => rfl
  | .iface t v => by simp [cvEq, Nat.beq_refl, cvEq_refl v]
  | .nilIface => rfl
  | .agg a => by simp [cvEq, cvsEq_refl a]
  | .tup a => by simp [cvEq, cvsEq_refl a]
theorem cvsEq_refl : ∀ (l : List CV), cvsEq l l = true
  | [] => rfl
  | c :: l => by simp [cvsEq, cvEq_refl c, cvsEq_refl l]
end
theorem blkEq_cells {cs : List CV} {ro : Bool} : blkEq (some (.cells cs ro)) (some (.cells cs ro)) = true := by
  simp [blkEq, cvsEq_refl]

theorem hides_read {idx calls : List Nat} {ahead : Bits} (hc : ∀ j ∈ calls, bit j ahead = true) : ∀ {recs : List Rec}, RecsR h n0 idx calls recs → hides ahead recs = some []
  | [], _ => rfl
  | r :: rs, hr => by
    unfold hides
    rw [hides_read hc fun x hx => hr x (List.mem_cons_of_mem _ hx)]
    rcases (hr r (by simp)).1 with ⟨i, fp, lo, rfl, _⟩ | ⟨i, d, d', rfl, h1, _⟩
    · simp only [Nat.sub_self]
      split <;> rfl
    · have : bit (recIdx (.call i d d')) ahead = true := hc i h1
      simp only [this]
theorem looks_read {idx calls : List Nat} {ahead : Bits} {d d' : Heap} (hc : ∀ j ∈ calls, bit j ahead = true) (hd : ∀ k, k < n0 → CellsAt h k → blkEq (d.get k) (d'.get k) = true) : ∀ {recs : List Rec}, RecsR h n0 idx calls recs → looks ahead d d' recs = true
  | [], _ => rfl
  | r :: rs, hr => by
    unfold looks
    have ih := looks_read hc hd fun x hx => hr x (List.mem_cons_of_mem _ hx)
    rcases (hr r (by simp)).1 with ⟨i, fp, lo, rfl, h1⟩ | ⟨i, e, e', rfl, h1, _⟩
    · split
      · exact ih
      · rw [Bool.and_eq_true]
        exact ⟨all1_of fun k hk => hd k (h1 k hk).1 (h1 k hk).2, ih⟩
    · have : bit (recIdx (.call i e e')) ahead = true := hc i h1
      rw [this]
      exact ih

/-- A call that turns nothing that was there. -/
def DCallQ (E : Env) (bs : List Bits) (all rest : List Oper) (i n0 : Nat) (idx calls : List Nat) (dst : Option Nat) (tm : Tm) (h : Heap) (Q : R → Prop) (r : R) : Prop := match r with
  | .val v d => Ext h d ∧ ∀ recs' h', RecsR h' n0 (i :: idx) (i :: calls) recs' → Same d h' → W E (.draw bs all rest (i + 1) recs') (putTmp tm dst v) h' Q
  | _ => False
theorem DCallQ.val {idx calls : List Nat} {dst : Option Nat} {d : Heap} (hx : Ext h d) (w : ∀ recs' h', RecsR h' n0 (i :: idx) (i :: calls) recs' → Same d h' → W E (.draw bs all rest (i + 1) recs') (putTmp tm dst v) h' Q) : DCallQ E bs all rest i n0 idx calls dst tm h Q (.val v d) := ⟨hx, w⟩
theorem W.dcall {idx calls : List Nat} {c : Call} {f : Operand} (hr : RecsR h n0 idx calls recs) (hn : n0 ≤ h.next) (hgd : guardOn all tm o = some true) (hop : o.op = .call c) (hf : c.callee = .value f) (hc0 : (calls.all fun j => bit j ((nth bs i).getD Bits.nil)) = true)
    (w : W E (.call (cvOf E.globs tm f) (c.args.toList.map (cvOf E.globs tm))) .leaf h (DCallQ E bs all rest i n0 idx calls o.dst tm h Q)) : W E (.draw bs all (o :: rest) i recs) tm h Q := by
  have hc : ∀ j ∈ calls, bit j ((nth bs i).getD Bits.nil) = true := fun j hj => List.all_eq_true.1 hc0 j hj
  obtain ⟨r0, ⟨N1, e1⟩, q⟩ := w
  cases r0 with
  | val v d =>
    obtain ⟨hx, q⟩ := q
    have hd : ∀ k, k < n0 → CellsAt h k → blkEq (h.get k) (d.get k) = true := by
      intro k hk ⟨cs, ro, hcs⟩
      rw [hx.old k (Nat.lt_of_lt_of_le hk hn), hcs]
      exact blkEq_cells
    have hsame : Same d ⟨d.t, d.next, none⟩ := ⟨rfl, fun _ => rfl⟩
    have hrec : RecsR ⟨d.t, d.next, none⟩ n0 (i :: idx) (i :: calls) (.call i h d :: recs) := by
      intro r hm
      rcases List.mem_cons.1 hm with rfl | hm
      · exact ⟨RecOk.of (h := h) (fun k hk => hx.old k (Nat.lt_of_lt_of_le hk hn)) (.inr ⟨i, h, d, rfl, by simp, hd⟩), by simp [recIdx]⟩
      · refine ⟨RecOk.of (h := h) (fun k hk => hx.old k (Nat.lt_of_lt_of_le hk hn)) ?_, List.mem_cons_of_mem _ (hr r hm).2⟩
        rcases (hr r hm).1 with h1 | ⟨i', e, e', rfl, h1, h2⟩
        · exact .inl h1
        · exact .inr ⟨i', e, e', rfl, List.mem_cons_of_mem _ h1, h2⟩
    obtain ⟨r, ⟨N2, e2⟩, q2⟩ := q _ _ hrec hsame
    refine ⟨r, .step ⟨max N1 N2, fun m hm => ?_⟩, q2⟩
    show (match guardOn all tm o with
      | some true => dOp E (run E m) bs all rest o i recs tm h
      | some false => run E m (.draw bs all rest (i + 1) recs) (putTmp tm o.dst (.tup [])) h
      | none => .stop) = r
    rw [hgd]
    show dOp E (run E m) bs all rest o i recs tm h = r
    unfold dOp
    rw [hop]
    simp only [hf, isBuiltin]
    rw [hides_read hc hr]
    unfold dHid
    simp only [hf, sCallee]
    show dCall (run E m) bs all rest i recs o.dst tm h h [] (run E m (.call (cvOf E.globs tm f) (c.args.toList.map (cvOf E.globs tm))) .leaf h) = r
    rw [e1 m (by omega)]
    show (match Nat.ble h.next d.next && (looks ((nth bs i).getD Bits.nil) h d recs && true) with
      | true => run E m (.draw bs all rest (i + 1) (.call i h d :: recs)) (putTmp tm o.dst v) ⟨d.t, d.next, none⟩
      | false => .stop) = r
    rw [looks_read hc hd hr, Nat.ble_eq_true_of_le hx.next]
    exact e2 m (by omega)
  | _ => exact q.elim

/-- A store behind all that was done. -/
theorem W.dst {idx : List Nat} {t : TypeId} {x y : Operand} {id off : Nat} {cs cs' vs : List CV} {s : TyS} (hri : ∀ r ∈ recs, recIdx r ∈ idx) (hid : (idx.all fun j => bit j ((nth bs i).getD Bits.nil)) = true) (hgd : guardOn all tm o = some true) (hop : o.op = .store t x y) (hx : cvOf E.globs tm x = .ptr (some (id, off))) (hy : (cvOf E.globs tm y).cells = some vs)
    (hs : E.ty t = some s) (hl : Nat.beq (len vs) s.size = true) (hg : h.get id = some (.cells cs false)) (hp : setAt cs vs off = some cs')
    (w : ∀ recs' h', (∀ r ∈ recs', recIdx r ∈ i :: idx) → Same (h.put id (.cells cs' false)) h' → W E (.draw bs all rest (i + 1) recs') (putTmp tm o.dst .undef) h' Q) : W E (.draw bs all (o :: rest) i recs) tm h Q := by
  have hfp : fpAny E o tm = [id] := by
    unfold fpAny
    rw [hop]
    show idOf (cvOf E.globs tm x) = [id]
    rw [hx]; rfl
  have hwr : wrOf o.op = true := by rw [hop]; rfl
  have hget : (only h [id]).get id = some (.cells cs false) := by rw [only_get]; simpa using hg
  have ho : opAny E o tm (only h (fpAny E o tm)) = some (.undef, (only h [id]).put id (.cells cs' false)) := by
    rw [hfp]
    unfold opAny
    rw [hop]
    show oStore E t (cvOf E.globs tm x) (cvOf E.globs tm y) (only h [id]) = _
    rw [hx]
    unfold oStore CM.store storeV
    simp only [hs, hy, hl]
    unfold putCells
    simp only [hget, hp, Option.map_some, ofH]
  have hnx : ((only h [id]).put id (.cells cs' false)).next = h.next := only_next _ _
  have hsame : Same (h.put id (.cells cs' false)) (back h ((only h [id]).put id (.cells cs' false)) ([id] ++ span h.next 0)) := by
    refine ⟨by rw [back_next, hnx]; rfl, fun k => ?_⟩
    rw [back_get, Heap.get_put, Heap.get_put]
    split
    · rename_i hk
      have : k = id := by
        have hk : k ∈ [id] := hk
        simpa using hk
      subst this
      simp
    · rename_i hk
      have : ¬ id = k := by
        intro e; subst e
        exact hk (by show id ∈ [id]; simp)
      rw [if_neg this]
  have hall : ∀ r ∈ recs, bit (recIdx r) ((nth bs i).getD Bits.nil) = true := fun r hm => List.all_eq_true.1 hid _ (hri r hm)
  obtain ⟨r, ⟨N, e⟩, q⟩ := w (.op i [id] true h.next h.next :: recs) _ (fun r hm => by
    rcases List.mem_cons.1 hm with rfl | hm
    · simp [recIdx]
    · exact List.mem_cons_of_mem _ (hri r hm)) hsame
  refine ⟨r, .step ⟨N, fun m hm => ?_⟩, q⟩
  show (match guardOn all tm o with
      | some true => dOp E (run E m) bs all rest o i recs tm h
      | some false => run E m (.draw bs all rest (i + 1) recs) (putTmp tm o.dst (.tup [])) h
      | none => .stop) = r
  rw [hgd]
  show dOp E (run E m) bs all rest o i recs tm h = r
  rw [dOp_any ho, hfp, hwr]
  show (match okPairs ((nth bs i).getD Bits.nil) [id] true (span h.next (((only h [id]).put id (.cells cs' false)).next - h.next)) recs with
    | true => run E m (.draw bs all rest (i + 1) (.op i [id] true h.next ((only h [id]).put id (.cells cs' false)).next :: recs)) (putTmp tm o.dst .undef) (back h ((only h [id]).put id (.cells cs' false)) ([id] ++ span h.next (((only h [id]).put id (.cells cs' false)).next - h.next)))
    | false => .stop) = r
  rw [hnx, Nat.sub_self, okPairs_ahead hall]
  exact e m hm
/- The same, the temporaries told anew. -/
theorem W.dopn {a0 a1 a2 a3 a4 a5 a6 a7 a8 a9 a10 a11 a12 a13 a14 a15 : NA} {a16 : Tree CV} (hg : guardOn all tm o = some true) (hfp : fpAny E o tm = []) (ho : opAny E o tm ⟨.leaf, h.next, none⟩ = some (v, ⟨.leaf, h.next, none⟩)) (ht : putTmp tm o.dst v = (Tm.mk a0 a1 a2 a3 a4 a5 a6 a7 a8 a9 a10 a11 a12 a13 a14 a15 a16)) (w : W E (.draw bs all rest (i + 1) recs) (Tm.mk a0 a1 a2 a3 a4 a5 a6 a7 a8 a9 a10 a11 a12 a13 a14 a15 a16) h Q) : W E (.draw bs all (o :: rest) i recs) tm h Q := W.dop hg hfp ho (by rw [ht]; exact w)
theorem W.doffn {a0 a1 a2 a3 a4 a5 a6 a7 a8 a9 a10 a11 a12 a13 a14 a15 : NA} {a16 : Tree CV} (hg : guardOn all tm o = some false) (ht : putTmp tm o.dst (.tup []) = (Tm.mk a0 a1 a2 a3 a4 a5 a6 a7 a8 a9 a10 a11 a12 a13 a14 a15 a16)) (w : W E (.draw bs all rest (i + 1) recs) (Tm.mk a0 a1 a2 a3 a4 a5 a6 a7 a8 a9 a10 a11 a12 a13 a14 a15 a16) h Q) : W E (.draw bs all (o :: rest) i recs) tm h Q := W.doff hg (by rw [ht]; exact w)
end
end Go.CM

noncomputable section
namespace Go.CM
set_option linter.unusedVariables false
set_option linter.unusedSimpArgs false

noncomputable def lk {α : Type} : List (Nat × α) → Nat → Option α
  | [], _ => none
  | p :: r, t => match Nat.beq p.1 t with
    | true => some p.2
    | false => lk r t
noncomputable def fnOf (f : Func) : FnS := ⟨f.ntmps, f.results.toList, f.body⟩

section
variable {α : Type} {a b : Int} {h : α}
theorem op_lss : some (CV.bool (!intLe b a), h) = some (CV.bool (decide (a < b)), h) := by
  rw [intLe_eq]
  by_cases hx : a < b
  · rw [decide_eq_true hx, decide_eq_false (by omega)]; rfl
  · rw [decide_eq_false hx, decide_eq_true (by omega)]; rfl
theorem op_leq : some (CV.bool (intLe a b), h) = some (CV.bool (decide (a ≤ b)), h) := by rw [intLe_eq]
theorem op_gtr : some (CV.bool (!intLe a b), h) = some (CV.bool (decide (b < a)), h) := op_lss
theorem op_geq : some (CV.bool (intLe b a), h) = some (CV.bool (decide (b ≤ a)), h) := op_leq
theorem op_eql : some (CV.bool (intEq a b), h) = some (CV.bool (decide (a = b)), h) := by
  rw [intEq_eq]
  by_cases hx : a = b
  · rw [decide_eq_true hx]; simp [hx]
  · rw [decide_eq_false hx]; simp [hx]
theorem op_neq : some (CV.bool (!intEq a b), h) = some (CV.bool (decide (a ≠ b)), h) := by
  rw [intEq_eq]
  by_cases hx : a = b
  · rw [decide_eq_false (by simpa using hx)]; simp [hx]
  · rw [decide_eq_true hx]; simp [hx]
theorem op_add (hl : -9223372036854775808 ≤ a + b) (hu : a + b ≤ 9223372036854775807) : some (CV.int .i64 (IntKind.i64.wrap (a + b)), h) = some (CV.int .i64 (a + b), h) := by
  rw [show IntKind.i64.wrap (a + b) = a + b from IntWalk.i64_in _ (by omega)]
theorem op_sub (hl : -9223372036854775808 ≤ a - b) (hu : a - b ≤ 9223372036854775807) : some (CV.int .i64 (IntKind.i64.wrap (a - b)), h) = some (CV.int .i64 (a - b), h) := by
  rw [show IntKind.i64.wrap (a - b) = a - b from IntWalk.i64_in _ (by omega)]
end

/-- A slice of numbers. -/
def SlI (h : Heap) (v : CV) (l : List Int) : Prop :=
  (v = .slice none 0 0 0 ∧ l = []) ∨ ∃ i o c x cs ro, v = .slice (some (i, o)) l.length c x ∧ i < h.next ∧ h.get i = some (.cells cs ro) ∧ ∀ j n, l[j]? = some n → nth cs (o + j * 1) = some (.int .i64 n)
theorem SlI.ext {h h' : Heap} (e : Ext h h') {v : CV} {l : List Int} (s : SlI h v l) : SlI h' v l := by
  rcases s with s | ⟨i, o, c, x, cs, ro, h1, h2, h3, h4⟩
  · exact .inl s
  · exact .inr ⟨i, o, c, x, cs, ro, h1, Nat.lt_of_lt_of_le h2 e.next, (e.old i h2).trans h3, h4⟩
/-- Where there is an element. -/
theorem SlI.at {h : Heap} {v : CV} {l : List Int} (s : SlI h v l) {j : Nat} (hj : j < l.length) : ∃ i o c x cs ro, v = .slice (some (i, o)) l.length c x ∧ i < h.next ∧ h.get i = some (.cells cs ro) ∧ ∀ j n, l[j]? = some n → nth cs (o + j * 1) = some (.int .i64 n) := by
  rcases s with ⟨_, rfl⟩ | s
  · simp at hj
  · exact s
/-- Its length. -/
theorem SlI.len {h : Heap} {v : CV} {l : List Int} (s : SlI h v l) : ∃ p c x, v = .slice p l.length c x := by
  rcases s with ⟨rfl, rfl⟩ | ⟨i, o, c, x, cs, ro, h1, _⟩
  · exact ⟨none, 0, 0, rfl⟩
  · exact ⟨_, c, x, h1⟩

theorem cut_ints {cs : List CV} {o : Nat} {l : List Int} (h : ∀ j n, l[j]? = some n → nth cs (o + j * 1) = some (.int .i64 n)) : l ≠ [] → cut cs o (l.length * 1) = some (l.map (CV.int .i64)) := by
  intro hne
  rw [cut_eq]
  have hlen : o + l.length * 1 ≤ cs.length := by
    have hpos : 0 < l.length := List.length_pos_iff.2 hne
    have := h (l.length - 1) (l[l.length - 1]'(by omega)) (by rw [List.getElem?_eq_getElem])
    rw [nth_eq] at this
    obtain ⟨hlt, _⟩ := List.getElem?_eq_some_iff.1 this
    omega
  rw [if_pos hlen]
  congr 1
  apply List.ext_getElem?
  intro j
  rw [List.getElem?_take, List.getElem?_map]
  by_cases hj : j < l.length
  · rw [if_pos (by omega), List.getElem?_drop, List.getElem?_eq_getElem hj]
    have := h j l[j] (List.getElem?_eq_getElem hj)
    rw [nth_eq, Nat.mul_one] at this
    exact this
  · rw [if_neg (by omega), List.getElem?_eq_none (by omega)]; rfl

/-- A copy of a row, behind a row of length nought. -/
theorem W.cp {E : Env} {tm : Tm} {h : Heap} {all rest : List Oper} {o : Oper} {Q : R → Prop} {c : Call} {t t2 e : TypeId} {ts es t2s : TyS} {p : Nat × Nat} {i oo n cap ex : Nat} {cs news : List CV} {ro : Bool}
    (hgd : guardOn all tm o = some true) (hop : o.op = .call c) (hb : isBuiltin c.callee = some .append) (hty : c.argTypes.toList = [t, t2]) (ha : c.args.toList.map (cvOf E.globs tm) = [.slice (some p) 0 0 0, .slice (some (i, oo)) n cap ex])
    (hts : E.ty t = some ts) (hk : ts.kind = .slice e) (hes : E.ty e = some es) (hz : es.size = 1) (hbb : es.bytes = 8) (ht2 : E.ty t2 = some t2s) (hk2 : t2s.kind = .slice e) (hg : h.get i = some (.cells cs ro)) (hcut : cut cs oo (n * 1) = some news) (hn : 1 ≤ n) (hm : n ≤ 1099511627776)
    (w : W E (.ops all rest) (putTmp tm o.dst (.slice (some (h.next, 0)) n n 1)) (h.new (.cells news false)) Q) : W E (.ops all (o :: rest)) tm h Q := by
  refine W.op hgd (v := .slice (some (h.next, 0)) n n 1) (h1 := h.new (.cells news false)) ?_ w
  unfold opAny
  rw [hop]
  simp only [hb]
  show builtinV E h .append c.argTypes.toList (c.args.toList.map (cvOf E.globs tm)) = _
  rw [hty, ha]
  show oAppend E h (E.ty t) (E.ty t2) (.slice (some p) 0 0 0) (.slice (some (i, oo)) n cap ex) = _
  unfold oAppend
  simp only [hts, hk, hes, hz, hbb, ht2, hk2]
  obtain ⟨n, rfl⟩ : ∃ m, n = m + 1 := ⟨n - 1, by omega⟩
  have hc : srcCells h 1 (n + 1) (.slice (some (i, oo)) (n + 1) cap ex) = some news := by
    show (match h.get i with | some (.cells cs _) => cut cs oo ((n + 1) * 1) | _ => none) = _
    rw [hg]; exact hcut
  have h1 : Nat.ble (0 + (n + 1)) 0 = false := rfl
  have h2 : Nat.ble ((0 + (n + 1)) * 8) 70368744177664 = true := Nat.ble_eq_true_of_le (by omega)
  simp only [show (Nat.beq 1 0 || Nat.beq 8 0) = false from rfl, srcLen, hc, appendAt, h1, h2]
  simp [srcCells, growTo]

/-- A function that gives a variable's cells, and a temporary. -/
theorem BodyQ.cell {E : Env} {tm : Tm} {h : Heap} {Q : R → Prop} {rs : List ResultVar} {a b i off : Nat} {t : TypeId} {s : TyS} {cs : List CV} {ro : Bool} {v u : CV} (hrs : rs = [.cell a t, .tmp b]) (ha : tm.look a = .ptr (some (i, off))) (hb : tm.look b = u) (hg : h.get i = some (.cells cs ro)) (hs : E.ty t = some s) (hp : part cs off s.size s.agg = some v)
    (q : Q (.val (.tup [v, u]) h)) : BodyQ E rs Q (.code .ret tm h) := by
  show Q (kBody E rs (.code .ret tm h))
  have e : resultVals E h tm rs = some [v, u] := by
    subst hrs
    have hl : CM.load E h t i off = some v := by
      unfold CM.load loadB
      simp only [hg, hs, hp]
    have h2 : resultVals E h tm [.tmp b] = some [u] := by
      show some [(tm.get b).getD .undef] = _
      have : (tm.get b).getD .undef = tm.look b := rfl
      rw [this, hb]
    have h3 : tm.get a = some (.ptr (some (i, off))) := by
      have : tm.get a = some (tm.look a) := rfl
      rw [this, ha]
    unfold resultVals
    simp only [h3, hl, h2]
  unfold kBody
  simp only [e]
  exact q

theorem Ext.put {h h' : Heap} (x : Ext h h') {i : Nat} (hi : h.next ≤ i) (hi2 : i < h'.next) (b : Blk) : Ext h (h'.put i b) := ⟨x.next, fun j hj => by
  rw [Heap.get_put, if_neg (by omega)]
  exact x.old j hj, fun f k hk => by
  have hk : h'.next ≤ k := hk
  rw [Heap.get_put, if_neg (by omega)]
  exact x.fr f k hk⟩
theorem put_same (h : Heap) (i : Nat) (b : Blk) : (h.put i b).get i = some b := by rw [Heap.get_put]; simp
theorem put_old {h : Heap} {i j : Nat} {b x : Blk} (hn : i ≠ j) (hg : h.get j = some x) : (h.put i b).get j = some x := by rw [Heap.get_put, if_neg hn]; exact hg

theorem set_ints {l : List Int} {k : Nat} {x : Int} (hk : k < l.length) : setAt (l.map (CV.int .i64)) [.int .i64 x] (0 + k * 1) = some ((l.set k x).map (CV.int .i64)) := by
  rw [setAt_eq]
  have e : 0 + k * 1 = k := by omega
  rw [e, if_pos (by simp only [List.length_map, List.length_cons, List.length_nil]; omega)]
  congr 1
  apply List.ext_getElem?
  intro j
  simp only [List.length_cons, List.length_nil, List.getElem?_map, List.getElem?_set, List.getElem?_append, List.length_append, List.length_take, List.length_map, List.getElem?_take, List.getElem?_drop]
  by_cases h1 : j < k
  · rw [if_pos (by omega), if_pos (by omega), if_pos h1, if_neg (by omega)]
  · by_cases h2 : j = k
    · subst h2
      rw [if_pos (by omega), if_neg (by omega), if_pos rfl, if_pos hk]
      have : j - min j l.length = 0 := by omega
      rw [this]; rfl
    · rw [if_neg (by omega), if_neg (by omega)]
      congr 2; omega
theorem nth_ints {l : List Int} {k : Nat} (hk : k < l.length) : nth (l.map (CV.int .i64)) (0 + k * 1) = some (.int .i64 (l.getD k 0)) := by
  rw [nth_eq, List.getElem?_map, show 0 + k * 1 = k by omega, List.getElem?_eq_getElem hk, List.getD_eq_getElem?_getD, List.getElem?_eq_getElem hk]; rfl
/-- A row of one's own. -/
theorem SlI.own {h : Heap} {i : Nat} {l : List Int} {c x : Nat} (hi : i < h.next) (hg : h.get i = some (.cells (l.map (CV.int .i64)) false)) : SlI h (.slice (some (i, 0)) l.length c x) l :=
  .inr ⟨i, 0, c, x, _, false, rfl, hi, hg, fun j n hj => by
    rw [nth_eq, List.getElem?_map, show 0 + j * 1 = j by omega, hj]; rfl⟩
end Go.CM

noncomputable section
namespace Go.CM
set_option linter.unusedVariables false
set_option linter.unusedSimpArgs false

theorem lk_mem {α : Type} : ∀ {l : List (Nat × α)} {t : Nat} {x : α}, lk l t = some x → (t, x) ∈ l
  | [], _, _, h => by cases h
  | p :: r, t, x, h => by
    unfold lk at h
    cases hb : Nat.beq p.1 t with
    | true =>
      rw [hb] at h
      have e := Nat.eq_of_beq_eq_true hb
      cases h
      subst e
      simp
    | false =>
      rw [hb] at h
      exact List.mem_cons_of_mem _ (lk_mem h)

theorem envW_small {P : Program} {tyL : List (Nat × TyS)} {fnL : List (Nat × FnS)} {g : Nat} {kn : List KE} {rows : List (Nat × List CV)} (ht : ∀ p ∈ tyL, tyOf P p.1 false = some p.2)
    (hf : ∀ p ∈ fnL, ∃ fn, P.funcs[p.1]? = some fn ∧ p.2 = fnOf fn ∧ fnGood fn = true) (hm : P.follows .mixedOrders = true) (hr : rowsGood g rows = true) (hk : ∀ e ∈ kn, KnownOk P g rows e) : EnvW P ⟨lk tyL, lk fnL, g, kn, rows⟩ := by
  have row : ∀ f s, lk fnL f = some s → ∃ fn, P.funcs[f]? = some fn ∧ s = ⟨fn.ntmps, fn.results.toList, fn.body⟩ ∧ fnGood fn = true := by
    intro f s h
    obtain ⟨fn, h1, h2, h3⟩ := hf _ (lk_mem h)
    exact ⟨fn, h1, h2, h3⟩
  refine ⟨⟨fun t s h => ?_, fun f s h => ?_⟩, fun f s c h hb => ?_, fun f s fn h hfn => ?_, hm, hk, fun r hmm => ?_⟩
  · have h1 := ht _ (lk_mem h)
    have h2 := tyOf_cmp h1
    simp only at h1 h2
    rw [h2]
    exact ⟨h1, fun e => by cases e⟩
  · obtain ⟨fn, h1, rfl, _⟩ := row f s h
    exact ⟨fn, h1, rfl, rfl, rfl⟩
  · obtain ⟨fn, h1, rfl, h2⟩ := row f s h
    unfold fnGood at h2
    rw [Bool.and_eq_true] at h2
    have hb : fn.body = some c := hb
    rw [hb] at h2
    exact h2.2
  · obtain ⟨fn', h1, rfl, h2⟩ := row f s h
    rw [h1] at hfn
    cases hfn
    unfold fnGood at h2
    rw [Bool.and_eq_true] at h2
    simpa using h2.1
  · have := List.all_eq_true.1 hr r hmm
    rw [Bool.and_eq_true] at this
    exact ⟨by have := this.1; rw [Nat.blt_eq] at this; exact this, this.2⟩

/-- Cells of arguments: block, first cell, what lies there. -/
structure ArgB where
  blk : Nat
  off : Nat
  cs : List CV
/-- Where the ids of arguments are. -/
def rhoA (g : Nat) (l : List ArgB) : Rho := ⟨fun i => if i < g then some (i, 0) else (l[i - g]?).map fun b => (b.blk, b.off), fun _ => 0⟩
theorem hr_args {w : World} {g : Nat} {rows : List (Nat × List CV)} {l : List ArgB} (hg : g ≤ w.heap.size) (hrows : ∀ r ∈ rows, r.1 < g ∧ r.2.all CV.plain = true) (hat : RowsAt w rows (rho0 g))
    (hl : ∀ b ∈ l, ∃ arr ty fz, w.heap[b.blk]? = some (.cells arr ty fz) ∧ b.off + b.cs.length ≤ arr.size ∧ VRs (rhoA g l) b.cs ((arr.toList.drop b.off).take b.cs.length) ∧ ∀ c ∈ b.cs, c.one = true) :
    HR (rhoA g l) (heapOf g rows (l.map (·.cs))) w := by
  have ro : ∀ (j : Nat) (b : Blk), (heapOf g rows (l.map (·.cs))).get j = some b → b.ro = true := by
    intro j b hb
    rcases heapOf_get hb with ⟨_, _, _, _, rfl⟩ | ⟨_, _, rfl⟩ <;> rfl
  refine ⟨fun j b hb => ?_, fun i j k d e bx cy hi hj hn _ _ => ?_, fun j hj => ?_, fun j k d hj => ?_⟩
  · rcases heapOf_get hb with ⟨n, cs, rfl, hn, rfl⟩ | ⟨cs, hmem, rfl⟩
    · rw [List.getElem?_map, Option.map_eq_some_iff] at hn
      obtain ⟨x, hx, rfl⟩ := hn
      obtain ⟨arr, ty, fz, r1, r2, r3, r4⟩ := hl x (List.mem_of_getElem? hx)
      refine ⟨x.blk, x.off, ?_, arr, ty, fz, r1, ⟨r2, by show x.off + 0 ≤ arr.size; omega⟩, r3, r4, fun e => by cases e⟩
      show (if g + n < g then _ else (l[g + n - g]?).map fun b => (b.blk, b.off)) = _
      rw [if_neg (by omega), show g + n - g = n by omega, hx]; rfl
    · obtain ⟨hlt, hpl⟩ := hrows _ hmem
      obtain ⟨arr, ty, fz, r1, r2, r3, r4⟩ := hat _ hmem
      refine ⟨j, 0, by show (if j < g then _ else _) = _; rw [if_pos hlt], arr, ty, fz, r1, ⟨by simpa using r2, Nat.zero_le _⟩, by simpa using r3.plain hpl, r4, fun e => by cases e⟩
  · rcases hn with hn | hn
    · rw [ro i bx hi] at hn; cases hn
    · rw [ro j cy hj] at hn; cases hn
  · have hj : g + len (l.map (·.cs)) ≤ j := hj
    rw [len_eq, List.length_map] at hj
    show (if j < g then _ else (l[j - g]?).map fun b => (b.blk, b.off)) = none
    rw [if_neg (by omega), List.getElem?_eq_none (by omega)]; rfl
  · have hj : (if j < g then some (j, 0) else (l[j - g]?).map fun b => (b.blk, b.off)) = some (k, d) := hj
    split at hj
    · cases hj; omega
    · rw [Option.map_eq_some_iff] at hj
      obtain ⟨x, hx, he⟩ := hj
      obtain ⟨arr, ty, fz, r1, _⟩ := hl x (List.mem_of_getElem? hx)
      cases he
      exact (Array.getElem?_eq_some_iff.1 r1).1

/-- What a call with arguments comes to: by what the plain machine makes of it. -/
theorem run_args {P : Program} {E : Env} {f : FuncId} {vs : List CV} {l : List ArgB} {v : CV} (W : EnvW P E) (hrun : CM.W E (.call (.fn f [] []) vs) .leaf (heapOf E.globs E.rows (l.map (·.cs))) (fun r => ∃ h', r = .val v h')) (hv : v.plain = true)
    {w : World} {xs : List Value} (hH : HR (rhoA E.globs l) (heapOf E.globs E.rows (l.map (·.cs))) w) (hx : VRs (rhoA E.globs l) vs xs) : Calls P f xs.toArray w fun e w' => ∃ x, e = .returned x ∧ VR (rho0 E.globs) v x ∧ Keep (fun _ => False) w w' := by
  obtain ⟨r, ⟨N, e⟩, h', rfl⟩ := hrun
  exact run_closed W (e N (Nat.le_refl _)) hv hH (fun i hi => by show (if i < E.globs then _ else _) = _; rw [if_pos hi]) hx
end Go.CM
