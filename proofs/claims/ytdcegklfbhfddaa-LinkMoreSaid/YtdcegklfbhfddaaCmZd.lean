/- Drawn regions that write nothing, run with inputs. No condition. -/
import Derived.Test.YtdcegklfbhfddaaCmZ
import Derived.Test.YtdcegklfbhfddaaCmQ
noncomputable section
namespace Go.CM
set_option linter.unusedVariables false
set_option linter.unusedSimpArgs false
section
variable {E : Env} {bs : List Bits} {all rest : List Oper} {o : Oper} {i n0 : Nat} {recs : List Rec} {tm : Tm} {h : Heap} {v : CV} {Q : R → Prop}

/-- Cells lie there. -/
def CellsAt (h : Heap) (k : Nat) : Prop := ∃ cs ro, h.get k = some (.cells cs ro)
/-- What has been done so far: looks at cells, and calls that have turned no cells that were there; the calls' numbers. -/
def RecOk (h : Heap) (n0 : Nat) (calls : List Nat) (r : Rec) : Prop :=
  (∃ i fp lo, r = .op i fp false lo lo ∧ ∀ k ∈ fp, k < n0 ∧ CellsAt h k) ∨ (∃ i d d', r = .call i d d' ∧ i ∈ calls ∧ ∀ k, k < n0 → CellsAt h k → blkEq (d.get k) (d'.get k) = true)
def RecsR (h : Heap) (n0 : Nat) (idx calls : List Nat) (recs : List Rec) : Prop := ∀ r ∈ recs, RecOk h n0 calls r ∧ recIdx r ∈ idx
theorem RecsR.nil {idx calls : List Nat} : RecsR h n0 idx calls [] := fun _ h => by cases h

theorem RecsR.start : RecsR h h.next [] [] [] := RecsR.nil

theorem within_self (k n : Nat) : within k n n = false := by
  unfold within
  cases h1 : Nat.ble n k with
  | false => rfl
  | true =>
    cases h2 : Nat.blt k n with
    | false => rfl
    | true =>
      have := Nat.le_of_ble_eq_true h1
      rw [Nat.blt_eq] at h2
      omega
theorem all1_of {l : List Nat} {p : Nat → Bool} (h : ∀ k ∈ l, p k = true) : all1 l p = true := by
  induction l with
  | nil => rfl
  | cons x l ih =>
    show (match p x with | true => all1 l p | false => false) = true
    rw [h x (by simp)]
    exact ih fun k hk => h k (List.mem_cons_of_mem _ hk)
def opApart (fp' : List Nat) (wr : Bool) (lo hi k : Nat) : Bool := match within k lo hi with
  | true => false
  | false => match wr with
    | true => !mem k fp'
    | false => true
def callApart (d d' : Heap) (wr : Bool) (k : Nat) : Bool := match blkEq (d.get k) (d'.get k) with
  | true => match wr with
    | true => isNo (d.get k)
    | false => true
  | false => false
def both (a b : Bool) : Bool := match a with
  | true => b
  | false => false
theorem okPair_op {fp fp' news : List Nat} {wr wr' : Bool} {i lo hi : Nat} : okPair fp wr news (.op i fp' wr' lo hi) = both (all1 fp (opApart fp' (wr || wr') lo hi)) (all1 news fun k => !mem k fp') := rfl
theorem okPair_call {fp news : List Nat} {wr : Bool} {i : Nat} {d d' : Heap} : okPair fp wr news (.call i d d') = both (all1 fp (callApart d d' wr)) (all1 news fun k => match isNo (d.get k) with | true => isNo (d'.get k) | false => false) := rfl
theorem okPair_read {calls fp : List Nat} {r : Rec} (hfp : ∀ k ∈ fp, k < n0 ∧ CellsAt h k) (hr : RecOk h n0 calls r) : okPair fp false [] r = true := by
  rcases hr with ⟨i, fp', lo, rfl, _⟩ | ⟨i, d, d', rfl, _, hd⟩
  · rw [okPair_op, all1_of fun k _ => by unfold opApart; rw [within_self]; rfl]
    rfl
  · rw [okPair_call, all1_of fun k hk => by unfold callApart; rw [hd k (hfp k hk).1 (hfp k hk).2]]
    rfl
theorem okPairs_read {idx calls : List Nat} {ahead : Bits} {fp : List Nat} (hfp : ∀ k ∈ fp, k < n0 ∧ CellsAt h k) : ∀ {recs : List Rec}, RecsR h n0 idx calls recs → okPairs ahead fp false [] recs = true
  | [], _ => rfl
  | r :: rs, hr => by
    unfold okPairs
    rw [okPair_read hfp (hr r (by simp)).1]
    exact okPairs_read hfp fun x hx => hr x (List.mem_cons_of_mem _ hx)
theorem okPairs_ahead {ahead : Bits} {fp : List Nat} {wr : Bool} {news : List Nat} : ∀ {recs : List Rec}, (∀ r ∈ recs, bit (recIdx r) ahead = true) → okPairs ahead fp wr news recs = true
  | [], _ => rfl
  | r :: rs, hr => by
    unfold okPairs
    have ih := okPairs_ahead (fp := fp) (wr := wr) (news := news) fun x hx => hr x (List.mem_cons_of_mem _ hx)
    rw [hr r (by simp), ih]
    cases okPair fp wr news r <;> rfl

theorem W.dnil (q : Q (.code .normal tm h)) : W E (.draw bs all [] i recs) tm h Q := ⟨_, .step ⟨0, fun _ _ => rfl⟩, q⟩
theorem W.doff (hg : guardOn all tm o = some false) (w : W E (.draw bs all rest (i + 1) recs) (putTmp tm o.dst (.tup [])) h Q) : W E (.draw bs all (o :: rest) i recs) tm h Q := by
  obtain ⟨r, ⟨N, e⟩, q⟩ := w
  refine ⟨r, .step ⟨N, fun m hm => ?_⟩, q⟩
  show (match guardOn all tm o with
      | some true => dOp E (run E m) bs all rest o i recs tm h
      | some false => run E m (.draw bs all rest (i + 1) recs) (putTmp tm o.dst (.tup [])) h
      | none => .stop) = r
  rw [hg]
  exact e m hm
/-- The operation's own part of the memory. -/
def fpAny (E : Env) (o : Oper) (tm : Tm) : List Nat := fpOf o.op (cvOf E.globs tm)
theorem dOp_any {E : Env} {run : Run} {bs : List Bits} {all r : List Oper} {o : Oper} {i : Nat} {recs : List Rec} {tm : Tm} {h : Heap} {p : CV × Heap} (ho : opAny E o tm (only h (fpAny E o tm)) = some p) :
    dOp E run bs all r o i recs tm h = dNext run bs all r i recs o.dst tm h (fpAny E o tm) (wrOf o.op) (some p) := by
  unfold opAny at ho
  unfold dOp
  split at ho
  · rename_i c hc
    rw [hc]
    simp only
    split at ho
    · rename_i b hb
      rw [hb]
      simp only
      unfold fpAny at ho ⊢
      rw [hc] at ho ⊢
      rw [ho]
    · cases ho
  · cases ho
  · rename_i hc hp
    split
    · rename_i c hcc; exact absurd hcc (hc c)
    · unfold fpAny at ho ⊢
      rw [ho]
/-- An operation that asks no memory. -/
theorem W.dop (hg : guardOn all tm o = some true) (hfp : fpAny E o tm = []) (ho : opAny E o tm ⟨.leaf, h.next, none⟩ = some (v, ⟨.leaf, h.next, none⟩)) (w : W E (.draw bs all rest (i + 1) recs) (putTmp tm o.dst v) h Q) : W E (.draw bs all (o :: rest) i recs) tm h Q := by
  obtain ⟨r, ⟨N, e⟩, q⟩ := w
  refine ⟨r, .step ⟨N, fun m hm => ?_⟩, q⟩
  show (match guardOn all tm o with
      | some true => dOp E (run E m) bs all rest o i recs tm h
      | some false => run E m (.draw bs all rest (i + 1) recs) (putTmp tm o.dst (.tup [])) h
      | none => .stop) = r
  rw [hg]
  have e1 : opAny E o tm (only h (fpAny E o tm)) = some (v, ⟨.leaf, h.next, none⟩) := by rw [hfp]; exact ho
  show dOp E (run E m) bs all rest o i recs tm h = r
  rw [dOp_any e1, hfp]
  show (match isNil ([] : List Nat) && Nat.beq h.next h.next with
    | true => run E m (.draw bs all rest (i + 1) recs) (putTmp tm o.dst v) h
    | false => _) = r
  rw [Nat.beq_refl]
  exact e m hm

/-- The same memory. -/
structure Same (h h' : Heap) : Prop where
  next : h'.next = h.next
  get : ∀ k, h'.get k = h.get k
theorem Same.ext {h h' : Heap} (s : Same h h') : Ext h h' := ⟨Nat.le_of_eq s.next.symm, fun k _ => s.get k, fun f k hk => (s.get k).trans (f k (by rw [← s.next]; exact hk))⟩
theorem CellsAt.of {h h' : Heap} {k : Nat} (e : h'.get k = h.get k) (c : CellsAt h k) : CellsAt h' k := by
  obtain ⟨cs, ro, hc⟩ := c
  exact ⟨cs, ro, e.trans hc⟩
theorem RecOk.of {calls : List Nat} {h h' : Heap} {r : Rec} (e : ∀ k, k < n0 → h'.get k = h.get k) (hr : RecOk h n0 calls r) : RecOk h' n0 calls r := by
  rcases hr with ⟨i, fp, lo, rfl, h1⟩ | ⟨i, d, d', rfl, h1, h2⟩
  · exact .inl ⟨i, fp, lo, rfl, fun k hk => ⟨(h1 k hk).1, (h1 k hk).2.of (e k (h1 k hk).1)⟩⟩
  · exact .inr ⟨i, d, d', rfl, h1, fun k hk hc => h2 k hk (hc.of (e k hk).symm)⟩

/-- A load. -/
theorem W.dld {idx calls : List Nat} {t : TypeId} {x : Operand} {id off : Nat} {cs : List CV} {ro : Bool} {s : TyS} (hr : RecsR h n0 idx calls recs) (hgd : guardOn all tm o = some true) (hop : o.op = .load t x) (hx : cvOf E.globs tm x = .ptr (some (id, off))) (hg : h.get id = some (.cells cs ro)) (hid : id < n0) (hs : E.ty t = some s) (hp : part cs off s.size s.agg = some v)
    (w : ∀ recs' h', RecsR h' n0 (i :: idx) calls recs' → Same h h' → W E (.draw bs all rest (i + 1) recs') (putTmp tm o.dst v) h' Q) : W E (.draw bs all (o :: rest) i recs) tm h Q := by
  have hfp : fpAny E o tm = [id] := by
    unfold fpAny
    rw [hop]
    show idOf (cvOf E.globs tm x) = [id]
    rw [hx]; rfl
  have hwr : wrOf o.op = false := by rw [hop]; rfl
  have hget : (only h [id]).get id = some (.cells cs ro) := by rw [only_get]; simpa using hg
  have ho : opAny E o tm (only h (fpAny E o tm)) = some (v, only h [id]) := by
    rw [hfp]
    unfold opAny
    rw [hop]
    show oLoad E t (cvOf E.globs tm x) (only h [id]) = _
    rw [hx]
    unfold oLoad CM.load loadB
    simp only [hget, hs, hp, withH]
  have hsame : Same h (back h (only h [id]) ([id] ++ span h.next 0)) := by
    refine ⟨by rw [back_next, only_next], fun k => ?_⟩
    rw [back_get]
    split
    · rename_i hk
      have : k = id := by
        have hk : k ∈ [id] := hk
        simpa using hk
      subst this
      rw [hget, hg]
    · rfl
  have hfc : ∀ k ∈ [id], k < n0 ∧ CellsAt h k := fun k hk => by rw [List.mem_singleton] at hk; subst hk; exact ⟨hid, cs, ro, hg⟩
  have hrec : RecsR (back h (only h [id]) ([id] ++ span h.next 0)) n0 (i :: idx) calls (.op i [id] false h.next h.next :: recs) := by
    intro r hm
    rcases List.mem_cons.1 hm with rfl | hm
    · exact ⟨RecOk.of (h := h) (fun k _ => hsame.get k) (.inl ⟨i, [id], h.next, rfl, hfc⟩), by simp [recIdx]⟩
    · exact ⟨RecOk.of (h := h) (fun k _ => hsame.get k) (hr r hm).1, List.mem_cons_of_mem _ (hr r hm).2⟩
  obtain ⟨r, ⟨N, e⟩, q⟩ := w _ _ hrec hsame
  refine ⟨r, .step ⟨N, fun m hm => ?_⟩, q⟩
  show (match guardOn all tm o with
      | some true => dOp E (run E m) bs all rest o i recs tm h
      | some false => run E m (.draw bs all rest (i + 1) recs) (putTmp tm o.dst (.tup [])) h
      | none => .stop) = r
  rw [hgd]
  show dOp E (run E m) bs all rest o i recs tm h = r
  rw [dOp_any ho, hfp, hwr]
  have hnx : (only h [id]).next = h.next := only_next _ _
  show (match okPairs ((nth bs i).getD Bits.nil) [id] false (span h.next ((only h [id]).next - h.next)) recs with
    | true => run E m (.draw bs all rest (i + 1) (.op i [id] false h.next (only h [id]).next :: recs)) (putTmp tm o.dst v) (back h (only h [id]) ([id] ++ span h.next ((only h [id]).next - h.next)))
    | false => .stop) = r
  rw [hnx, Nat.sub_self]
  have : okPairs ((nth bs i).getD Bits.nil) [id] false (span h.next 0) recs = true := okPairs_read hfc hr
  rw [this]
  exact e m hm
/-- An element's address. -/
theorem W.dix {t : TypeId} {x y : Operand} {s : TyS} {e id off len c ex z j : Nat} {kk : IntKind} {n : Int} (hgd : guardOn all tm o = some true) (hop : o.op = .indexAddr t x y) (hx : cvOf E.globs tm x = .slice (some (id, off)) len c ex) (hy : cvOf E.globs tm y = .int kk n) (hs : E.ty t = some s) (hk : s.kind = .slice e) (hz : sizeOf? E e = some z) (hn : place n len = some j)
    (w : W E (.draw bs all rest (i + 1) recs) (putTmp tm o.dst (.ptr (some (id, off + j * z)))) h Q) : W E (.draw bs all (o :: rest) i recs) tm h Q := by
  refine W.dop hgd (v := .ptr (some (id, off + j * z))) ?_ ?_ w
  · unfold fpAny; rw [hop]; rfl
  · unfold opAny
    rw [hop]
    show oIndexAddr E (E.ty t) (cvOf E.globs tm x) (cvOf E.globs tm y) _ = _
    rw [hx, hy, hs]
    unfold oIndexAddr
    simp only [hk, hz, hn, addrAt]

mutual
theorem cvEq_refl : ∀ (c : CV), cvEq c c = true
  | .undef => rfl
  | .bool b => by simp [cvEq]
  | .int k n => by simp [cvEq, kindEq_iff, intEq_eq]
  | .str s => by simp [cvEq, bytesEq_eq]
  | .ptr none => rfl
  | .ptr (some p) => by simp [cvEq, Nat.beq_refl]
  | .slice none n c x => by simp [cvEq, Nat.beq_refl]
  | .slice (some p) n c x => by simp [cvEq, Nat.beq_refl]
  | .empty => rfl
  | .map none => rfl
  | .map (some r) => by simp [cvEq, Nat.beq_refl]
  | .fn f a b => by simp [cvEq, Nat.beq_refl, cvsEq_refl a, cvsEq_refl b]
  | .yield l => by simp [cvEq, Nat.beq_refl]
  | .nilFunc => rfl
  | .iface t v => by simp [cvEq, Nat.beq_refl, cvEq_refl v]
  | .nilIface => rfl
  | .agg a => by simp [cvEq, cvsEq_refl a]
  | .tup a => by simp [cvEq, cvsEq_refl a]
theorem cvsEq_refl : ∀ (l : List CV), cvsEq l l = true
  | [] => rfl
  | c :: l => by simp [cvsEq, cvEq_refl c, cvsEq_refl l]
end
theorem blkEq_cells {cs : List CV} {ro : Bool} : blkEq (some (.cells cs ro)) (some (.cells cs ro)) = true := by
  simp [blkEq, cvsEq_refl]

theorem hides_read {idx calls : List Nat} {ahead : Bits} (hc : ∀ j ∈ calls, bit j ahead = true) : ∀ {recs : List Rec}, RecsR h n0 idx calls recs → hides ahead recs = some []
  | [], _ => rfl
  | r :: rs, hr => by
    unfold hides
    rw [hides_read hc fun x hx => hr x (List.mem_cons_of_mem _ hx)]
    rcases (hr r (by simp)).1 with ⟨i, fp, lo, rfl, _⟩ | ⟨i, d, d', rfl, h1, _⟩
    · simp only [Nat.sub_self]
      split <;> rfl
    · have : bit (recIdx (.call i d d')) ahead = true := hc i h1
      simp only [this]
theorem looks_read {idx calls : List Nat} {ahead : Bits} {d d' : Heap} (hc : ∀ j ∈ calls, bit j ahead = true) (hd : ∀ k, k < n0 → CellsAt h k → blkEq (d.get k) (d'.get k) = true) : ∀ {recs : List Rec}, RecsR h n0 idx calls recs → looks ahead d d' recs = true
  | [], _ => rfl
  | r :: rs, hr => by
    unfold looks
    have ih := looks_read hc hd fun x hx => hr x (List.mem_cons_of_mem _ hx)
    rcases (hr r (by simp)).1 with ⟨i, fp, lo, rfl, h1⟩ | ⟨i, e, e', rfl, h1, _⟩
    · split
      · exact ih
      · rw [Bool.and_eq_true]
        exact ⟨all1_of fun k hk => hd k (h1 k hk).1 (h1 k hk).2, ih⟩
    · have : bit (recIdx (.call i e e')) ahead = true := hc i h1
      rw [this]
      exact ih

/-- A call that turns nothing that was there. -/
def DCallQ (E : Env) (bs : List Bits) (all rest : List Oper) (i n0 : Nat) (idx calls : List Nat) (dst : Option Nat) (tm : Tm) (h : Heap) (Q : R → Prop) (r : R) : Prop := match r with
  | .val v d => Ext h d ∧ ∀ recs' h', RecsR h' n0 (i :: idx) (i :: calls) recs' → Same d h' → W E (.draw bs all rest (i + 1) recs') (putTmp tm dst v) h' Q
  | _ => False
theorem DCallQ.val {idx calls : List Nat} {dst : Option Nat} {d : Heap} (hx : Ext h d) (w : ∀ recs' h', RecsR h' n0 (i :: idx) (i :: calls) recs' → Same d h' → W E (.draw bs all rest (i + 1) recs') (putTmp tm dst v) h' Q) : DCallQ E bs all rest i n0 idx calls dst tm h Q (.val v d) := ⟨hx, w⟩
theorem W.dcall {idx calls : List Nat} {c : Call} {f : Operand} (hr : RecsR h n0 idx calls recs) (hn : n0 ≤ h.next) (hgd : guardOn all tm o = some true) (hop : o.op = .call c) (hf : c.callee = .value f) (hc0 : (calls.all fun j => bit j ((nth bs i).getD Bits.nil)) = true)
    (w : W E (.call (cvOf E.globs tm f) (c.args.toList.map (cvOf E.globs tm))) .leaf h (DCallQ E bs all rest i n0 idx calls o.dst tm h Q)) : W E (.draw bs all (o :: rest) i recs) tm h Q := by
  have hc : ∀ j ∈ calls, bit j ((nth bs i).getD Bits.nil) = true := fun j hj => List.all_eq_true.1 hc0 j hj
  obtain ⟨r0, ⟨N1, e1⟩, q⟩ := w
  cases r0 with
  | val v d =>
    obtain ⟨hx, q⟩ := q
    have hd : ∀ k, k < n0 → CellsAt h k → blkEq (h.get k) (d.get k) = true := by
      intro k hk ⟨cs, ro, hcs⟩
      rw [hx.old k (Nat.lt_of_lt_of_le hk hn), hcs]
      exact blkEq_cells
    have hsame : Same d ⟨d.t, d.next, none⟩ := ⟨rfl, fun _ => rfl⟩
    have hrec : RecsR ⟨d.t, d.next, none⟩ n0 (i :: idx) (i :: calls) (.call i h d :: recs) := by
      intro r hm
      rcases List.mem_cons.1 hm with rfl | hm
      · exact ⟨RecOk.of (h := h) (fun k hk => hx.old k (Nat.lt_of_lt_of_le hk hn)) (.inr ⟨i, h, d, rfl, by simp, hd⟩), by simp [recIdx]⟩
      · refine ⟨RecOk.of (h := h) (fun k hk => hx.old k (Nat.lt_of_lt_of_le hk hn)) ?_, List.mem_cons_of_mem _ (hr r hm).2⟩
        rcases (hr r hm).1 with h1 | ⟨i', e, e', rfl, h1, h2⟩
        · exact .inl h1
        · exact .inr ⟨i', e, e', rfl, List.mem_cons_of_mem _ h1, h2⟩
    obtain ⟨r, ⟨N2, e2⟩, q2⟩ := q _ _ hrec hsame
    refine ⟨r, .step ⟨max N1 N2, fun m hm => ?_⟩, q2⟩
    show (match guardOn all tm o with
      | some true => dOp E (run E m) bs all rest o i recs tm h
      | some false => run E m (.draw bs all rest (i + 1) recs) (putTmp tm o.dst (.tup [])) h
      | none => .stop) = r
    rw [hgd]
    show dOp E (run E m) bs all rest o i recs tm h = r
    unfold dOp
    rw [hop]
    simp only [hf, isBuiltin]
    rw [hides_read hc hr]
    unfold dHid
    simp only [hf, sCallee]
    show dCall (run E m) bs all rest i recs o.dst tm h h [] (run E m (.call (cvOf E.globs tm f) (c.args.toList.map (cvOf E.globs tm))) .leaf h) = r
    rw [e1 m (by omega)]
    show (match Nat.ble h.next d.next && (looks ((nth bs i).getD Bits.nil) h d recs && true) with
      | true => run E m (.draw bs all rest (i + 1) (.call i h d :: recs)) (putTmp tm o.dst v) ⟨d.t, d.next, none⟩
      | false => .stop) = r
    rw [looks_read hc hd hr, Nat.ble_eq_true_of_le hx.next]
    exact e2 m (by omega)
  | _ => exact q.elim

/-- A store behind all that was done. -/
theorem W.dst {idx : List Nat} {t : TypeId} {x y : Operand} {id off : Nat} {cs cs' vs : List CV} {s : TyS} (hri : ∀ r ∈ recs, recIdx r ∈ idx) (hid : (idx.all fun j => bit j ((nth bs i).getD Bits.nil)) = true) (hgd : guardOn all tm o = some true) (hop : o.op = .store t x y) (hx : cvOf E.globs tm x = .ptr (some (id, off))) (hy : (cvOf E.globs tm y).cells = some vs)
    (hs : E.ty t = some s) (hl : Nat.beq (len vs) s.size = true) (hg : h.get id = some (.cells cs false)) (hp : setAt cs vs off = some cs')
    (w : ∀ recs' h', (∀ r ∈ recs', recIdx r ∈ i :: idx) → Same (h.put id (.cells cs' false)) h' → W E (.draw bs all rest (i + 1) recs') (putTmp tm o.dst .undef) h' Q) : W E (.draw bs all (o :: rest) i recs) tm h Q := by
  have hfp : fpAny E o tm = [id] := by
    unfold fpAny
    rw [hop]
    show idOf (cvOf E.globs tm x) = [id]
    rw [hx]; rfl
  have hwr : wrOf o.op = true := by rw [hop]; rfl
  have hget : (only h [id]).get id = some (.cells cs false) := by rw [only_get]; simpa using hg
  have ho : opAny E o tm (only h (fpAny E o tm)) = some (.undef, (only h [id]).put id (.cells cs' false)) := by
    rw [hfp]
    unfold opAny
    rw [hop]
    show oStore E t (cvOf E.globs tm x) (cvOf E.globs tm y) (only h [id]) = _
    rw [hx]
    unfold oStore CM.store storeV
    simp only [hs, hy, hl]
    unfold putCells
    simp only [hget, hp, Option.map_some, ofH]
  have hnx : ((only h [id]).put id (.cells cs' false)).next = h.next := only_next _ _
  have hsame : Same (h.put id (.cells cs' false)) (back h ((only h [id]).put id (.cells cs' false)) ([id] ++ span h.next 0)) := by
    refine ⟨by rw [back_next, hnx]; rfl, fun k => ?_⟩
    rw [back_get, Heap.get_put, Heap.get_put]
    split
    · rename_i hk
      have : k = id := by
        have hk : k ∈ [id] := hk
        simpa using hk
      subst this
      simp
    · rename_i hk
      have : ¬ id = k := by
        intro e; subst e
        exact hk (by show id ∈ [id]; simp)
      rw [if_neg this]
  have hall : ∀ r ∈ recs, bit (recIdx r) ((nth bs i).getD Bits.nil) = true := fun r hm => List.all_eq_true.1 hid _ (hri r hm)
  obtain ⟨r, ⟨N, e⟩, q⟩ := w (.op i [id] true h.next h.next :: recs) _ (fun r hm => by
    rcases List.mem_cons.1 hm with rfl | hm
    · simp [recIdx]
    · exact List.mem_cons_of_mem _ (hri r hm)) hsame
  refine ⟨r, .step ⟨N, fun m hm => ?_⟩, q⟩
  show (match guardOn all tm o with
      | some true => dOp E (run E m) bs all rest o i recs tm h
      | some false => run E m (.draw bs all rest (i + 1) recs) (putTmp tm o.dst (.tup [])) h
      | none => .stop) = r
  rw [hgd]
  show dOp E (run E m) bs all rest o i recs tm h = r
  rw [dOp_any ho, hfp, hwr]
  show (match okPairs ((nth bs i).getD Bits.nil) [id] true (span h.next (((only h [id]).put id (.cells cs' false)).next - h.next)) recs with
    | true => run E m (.draw bs all rest (i + 1) (.op i [id] true h.next ((only h [id]).put id (.cells cs' false)).next :: recs)) (putTmp tm o.dst .undef) (back h ((only h [id]).put id (.cells cs' false)) ([id] ++ span h.next (((only h [id]).put id (.cells cs' false)).next - h.next)))
    | false => .stop) = r
  rw [hnx, Nat.sub_self, okPairs_ahead hall]
  exact e m hm
/- The same, the temporaries told anew. -/
theorem W.dopn {a0 a1 a2 a3 a4 a5 a6 a7 a8 a9 a10 a11 a12 a13 a14 a15 : NA} {a16 : Tree CV} (hg : guardOn all tm o = some true) (hfp : fpAny E o tm = []) (ho : opAny E o tm ⟨.leaf, h.next, none⟩ = some (v, ⟨.leaf, h.next, none⟩)) (ht : putTmp tm o.dst v = (Tm.mk a0 a1 a2 a3 a4 a5 a6 a7 a8 a9 a10 a11 a12 a13 a14 a15 a16)) (w : W E (.draw bs all rest (i + 1) recs) (Tm.mk a0 a1 a2 a3 a4 a5 a6 a7 a8 a9 a10 a11 a12 a13 a14 a15 a16) h Q) : W E (.draw bs all (o :: rest) i recs) tm h Q := W.dop hg hfp ho (by rw [ht]; exact w)
theorem W.doffn {a0 a1 a2 a3 a4 a5 a6 a7 a8 a9 a10 a11 a12 a13 a14 a15 : NA} {a16 : Tree CV} (hg : guardOn all tm o = some false) (ht : putTmp tm o.dst (.tup []) = (Tm.mk a0 a1 a2 a3 a4 a5 a6 a7 a8 a9 a10 a11 a12 a13 a14 a15 a16)) (w : W E (.draw bs all rest (i + 1) recs) (Tm.mk a0 a1 a2 a3 a4 a5 a6 a7 a8 a9 a10 a11 a12 a13 a14 a15 a16) h Q) : W E (.draw bs all (o :: rest) i recs) tm h Q := W.doff hg (by rw [ht]; exact w)
end
end Go.CM
