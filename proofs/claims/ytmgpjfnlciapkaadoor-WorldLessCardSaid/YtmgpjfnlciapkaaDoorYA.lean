/- The plain data of timetables, and what cells say of them. No condition, no program. (Printed by gs.py.) -/
import Derived.Test.YtmgpjfnlciapkaaDoorXT
import Derived.Test.YtmgpjfnlciapkaaDoorProg
noncomputable section
namespace Go.CM.Tt
set_option linter.unusedVariables false
set_option linter.unusedSimpArgs false

structure Times where
  frm : Int
  evr : Int
  len : Int
instance : DecidableEq Times := fun a b =>
  if h0 : a.frm = b.frm then
  if h1 : a.evr = b.evr then
  if h2 : a.len = b.len then
    isTrue (by cases a; cases b; simp_all)
  else isFalse (fun h => h2 (by rw [h]))
  else isFalse (fun h => h1 (by rw [h]))
  else isFalse (fun h => h0 (by rw [h]))
def Times.enc (d : Times) : List CV := [.int .i64 d.frm, .int .i64 d.evr, .int .i64 d.len]
instance : Rp Times := ⟨3, fun _ cs d => cs = d.enc, fun _ h => h, fun h => by rw [h]; rfl⟩
theorem Times.flat (h : Heap) (cs : List CV) (d : Times) : Rp.R h cs d ↔ cs = d.enc := Iff.rfl
instance : Flat Times := ⟨Times.enc, Times.flat⟩

structure PathS where
  name : Str
  a : Str
  b : Str
  len : Int
instance : DecidableEq PathS := fun a b =>
  if h0 : a.name = b.name then
  if h1 : a.a = b.a then
  if h2 : a.b = b.b then
  if h3 : a.len = b.len then
    isTrue (by cases a; cases b; simp_all)
  else isFalse (fun h => h3 (by rw [h]))
  else isFalse (fun h => h2 (by rw [h]))
  else isFalse (fun h => h1 (by rw [h]))
  else isFalse (fun h => h0 (by rw [h]))
def PathS.enc (d : PathS) : List CV := [.str d.name, .str d.a, .str d.b, .int .i64 d.len]
instance : Rp PathS := ⟨4, fun _ cs d => cs = d.enc, fun _ h => h, fun h => by rw [h]; rfl⟩
theorem PathS.flat (h : Heap) (cs : List CV) (d : PathS) : Rp.R h cs d ↔ cs = d.enc := Iff.rfl
instance : Flat PathS := ⟨PathS.enc, PathS.flat⟩

structure DoorS where
  name : Str
  a : Str
  b : Str
  len : Int
  times : Times
instance : DecidableEq DoorS := fun a b =>
  if h0 : a.name = b.name then
  if h1 : a.a = b.a then
  if h2 : a.b = b.b then
  if h3 : a.len = b.len then
  if h4 : a.times = b.times then
    isTrue (by cases a; cases b; simp_all)
  else isFalse (fun h => h4 (by rw [h]))
  else isFalse (fun h => h3 (by rw [h]))
  else isFalse (fun h => h2 (by rw [h]))
  else isFalse (fun h => h1 (by rw [h]))
  else isFalse (fun h => h0 (by rw [h]))
def DoorS.enc (d : DoorS) : List CV := [.str d.name, .str d.a, .str d.b, .int .i64 d.len, .int .i64 d.times.frm, .int .i64 d.times.evr, .int .i64 d.times.len]
instance : Rp DoorS := ⟨7, fun _ cs d => cs = d.enc, fun _ h => h, fun h => by rw [h]; rfl⟩
theorem DoorS.flat (h : Heap) (cs : List CV) (d : DoorS) : Rp.R h cs d ↔ cs = d.enc := Iff.rfl
instance : Flat DoorS := ⟨DoorS.enc, DoorS.flat⟩

structure RouteS where
  name : Str
  stops : List Str
  rides : List Int
  stays : List Int
instance : DecidableEq RouteS := fun a b =>
  if h0 : a.name = b.name then
  if h1 : a.stops = b.stops then
  if h2 : a.rides = b.rides then
  if h3 : a.stays = b.stays then
    isTrue (by cases a; cases b; simp_all)
  else isFalse (fun h => h3 (by rw [h]))
  else isFalse (fun h => h2 (by rw [h]))
  else isFalse (fun h => h1 (by rw [h]))
  else isFalse (fun h => h0 (by rw [h]))
def RouteS.Cells (h : Heap) (cs : List CV) (d : RouteS) : Prop := ∃ v1 v2 v3, cs = [.str d.name, v1, v2, v3] ∧ Sl h v1 d.stops ∧ Sl h v2 d.rides ∧ Sl h v3 d.stays
instance : Rp RouteS := ⟨4, RouteS.Cells, fun x ⟨v1, v2, v3, e, s1, s2, s3⟩ => ⟨v1, v2, v3, e, s1.ext x, s2.ext x, s3.ext x⟩, fun ⟨v1, v2, v3, e, _, _, _⟩ => by rw [e]; rfl⟩

structure TripS where
  name : Str
  route : Str
  frm : Int
  evr : Int
  untl : Int
instance : DecidableEq TripS := fun a b =>
  if h0 : a.name = b.name then
  if h1 : a.route = b.route then
  if h2 : a.frm = b.frm then
  if h3 : a.evr = b.evr then
  if h4 : a.untl = b.untl then
    isTrue (by cases a; cases b; simp_all)
  else isFalse (fun h => h4 (by rw [h]))
  else isFalse (fun h => h3 (by rw [h]))
  else isFalse (fun h => h2 (by rw [h]))
  else isFalse (fun h => h1 (by rw [h]))
  else isFalse (fun h => h0 (by rw [h]))
def TripS.enc (d : TripS) : List CV := [.str d.name, .str d.route, .int .i64 d.frm, .int .i64 d.evr, .int .i64 d.untl]
instance : Rp TripS := ⟨5, fun _ cs d => cs = d.enc, fun _ h => h, fun h => by rw [h]; rfl⟩
theorem TripS.flat (h : Heap) (cs : List CV) (d : TripS) : Rp.R h cs d ↔ cs = d.enc := Iff.rfl
instance : Flat TripS := ⟨TripS.enc, TripS.flat⟩

structure HazS where
  name : Str
  on : Str
  times : Times
instance : DecidableEq HazS := fun a b =>
  if h0 : a.name = b.name then
  if h1 : a.on = b.on then
  if h2 : a.times = b.times then
    isTrue (by cases a; cases b; simp_all)
  else isFalse (fun h => h2 (by rw [h]))
  else isFalse (fun h => h1 (by rw [h]))
  else isFalse (fun h => h0 (by rw [h]))
def HazS.enc (d : HazS) : List CV := [.str d.name, .str d.on, .int .i64 d.times.frm, .int .i64 d.times.evr, .int .i64 d.times.len]
instance : Rp HazS := ⟨5, fun _ cs d => cs = d.enc, fun _ h => h, fun h => by rw [h]; rfl⟩
theorem HazS.flat (h : Heap) (cs : List CV) (d : HazS) : Rp.R h cs d ↔ cs = d.enc := Iff.rfl
instance : Flat HazS := ⟨HazS.enc, HazS.flat⟩

structure SheetD where
  hz : Int
  stops : List Str
  paths : List PathS
  doors : List DoorS
  routes : List RouteS
  trips : List TripS
  hazards : List HazS
instance : DecidableEq SheetD := fun a b =>
  if h0 : a.hz = b.hz then
  if h1 : a.stops = b.stops then
  if h2 : a.paths = b.paths then
  if h3 : a.doors = b.doors then
  if h4 : a.routes = b.routes then
  if h5 : a.trips = b.trips then
  if h6 : a.hazards = b.hazards then
    isTrue (by cases a; cases b; simp_all)
  else isFalse (fun h => h6 (by rw [h]))
  else isFalse (fun h => h5 (by rw [h]))
  else isFalse (fun h => h4 (by rw [h]))
  else isFalse (fun h => h3 (by rw [h]))
  else isFalse (fun h => h2 (by rw [h]))
  else isFalse (fun h => h1 (by rw [h]))
  else isFalse (fun h => h0 (by rw [h]))
def SheetD.Cells (h : Heap) (cs : List CV) (d : SheetD) : Prop := ∃ v1 v2 v3 v4 v5 v6, cs = [.int .i64 d.hz, v1, v2, v3, v4, v5, v6] ∧ Sl h v1 d.stops ∧ Sl h v2 d.paths ∧ Sl h v3 d.doors ∧ Sl h v4 d.routes ∧ Sl h v5 d.trips ∧ Sl h v6 d.hazards
instance : Rp SheetD := ⟨7, SheetD.Cells, fun x ⟨v1, v2, v3, v4, v5, v6, e, s1, s2, s3, s4, s5, s6⟩ => ⟨v1, v2, v3, v4, v5, v6, e, s1.ext x, s2.ext x, s3.ext x, s4.ext x, s5.ext x, s6.ext x⟩, fun ⟨v1, v2, v3, v4, v5, v6, e, _, _, _, _, _, _⟩ => by rw [e]; rfl⟩

structure PathW where
  a : Int
  b : Int
  len : Int
instance : DecidableEq PathW := fun a b =>
  if h0 : a.a = b.a then
  if h1 : a.b = b.b then
  if h2 : a.len = b.len then
    isTrue (by cases a; cases b; simp_all)
  else isFalse (fun h => h2 (by rw [h]))
  else isFalse (fun h => h1 (by rw [h]))
  else isFalse (fun h => h0 (by rw [h]))
def PathW.enc (d : PathW) : List CV := [.int .i64 d.a, .int .i64 d.b, .int .i64 d.len]
instance : Rp PathW := ⟨3, fun _ cs d => cs = d.enc, fun _ h => h, fun h => by rw [h]; rfl⟩
theorem PathW.flat (h : Heap) (cs : List CV) (d : PathW) : Rp.R h cs d ↔ cs = d.enc := Iff.rfl
instance : Flat PathW := ⟨PathW.enc, PathW.flat⟩

structure DoorW where
  a : Int
  b : Int
  len : Int
  times : Times
instance : DecidableEq DoorW := fun a b =>
  if h0 : a.a = b.a then
  if h1 : a.b = b.b then
  if h2 : a.len = b.len then
  if h3 : a.times = b.times then
    isTrue (by cases a; cases b; simp_all)
  else isFalse (fun h => h3 (by rw [h]))
  else isFalse (fun h => h2 (by rw [h]))
  else isFalse (fun h => h1 (by rw [h]))
  else isFalse (fun h => h0 (by rw [h]))
def DoorW.enc (d : DoorW) : List CV := [.int .i64 d.a, .int .i64 d.b, .int .i64 d.len, .int .i64 d.times.frm, .int .i64 d.times.evr, .int .i64 d.times.len]
instance : Rp DoorW := ⟨6, fun _ cs d => cs = d.enc, fun _ h => h, fun h => by rw [h]; rfl⟩
theorem DoorW.flat (h : Heap) (cs : List CV) (d : DoorW) : Rp.R h cs d ↔ cs = d.enc := Iff.rfl
instance : Flat DoorW := ⟨DoorW.enc, DoorW.flat⟩

structure RouteW where
  stops : List Int
  rides : List Int
  stays : List Int
instance : DecidableEq RouteW := fun a b =>
  if h0 : a.stops = b.stops then
  if h1 : a.rides = b.rides then
  if h2 : a.stays = b.stays then
    isTrue (by cases a; cases b; simp_all)
  else isFalse (fun h => h2 (by rw [h]))
  else isFalse (fun h => h1 (by rw [h]))
  else isFalse (fun h => h0 (by rw [h]))
def RouteW.Cells (h : Heap) (cs : List CV) (d : RouteW) : Prop := ∃ v1 v2 v3, cs = [v1, v2, v3] ∧ Sl h v1 d.stops ∧ Sl h v2 d.rides ∧ Sl h v3 d.stays
instance : Rp RouteW := ⟨3, RouteW.Cells, fun x ⟨v1, v2, v3, e, s1, s2, s3⟩ => ⟨v1, v2, v3, e, s1.ext x, s2.ext x, s3.ext x⟩, fun ⟨v1, v2, v3, e, _, _, _⟩ => by rw [e]; rfl⟩

structure TripW where
  route : Int
  frm : Int
  evr : Int
  untl : Int
instance : DecidableEq TripW := fun a b =>
  if h0 : a.route = b.route then
  if h1 : a.frm = b.frm then
  if h2 : a.evr = b.evr then
  if h3 : a.untl = b.untl then
    isTrue (by cases a; cases b; simp_all)
  else isFalse (fun h => h3 (by rw [h]))
  else isFalse (fun h => h2 (by rw [h]))
  else isFalse (fun h => h1 (by rw [h]))
  else isFalse (fun h => h0 (by rw [h]))
def TripW.enc (d : TripW) : List CV := [.int .i64 d.route, .int .i64 d.frm, .int .i64 d.evr, .int .i64 d.untl]
instance : Rp TripW := ⟨4, fun _ cs d => cs = d.enc, fun _ h => h, fun h => by rw [h]; rfl⟩
theorem TripW.flat (h : Heap) (cs : List CV) (d : TripW) : Rp.R h cs d ↔ cs = d.enc := Iff.rfl
instance : Flat TripW := ⟨TripW.enc, TripW.flat⟩

structure HazW where
  stop : Bool
  on : Int
  times : Times
instance : DecidableEq HazW := fun a b =>
  if h0 : a.stop = b.stop then
  if h1 : a.on = b.on then
  if h2 : a.times = b.times then
    isTrue (by cases a; cases b; simp_all)
  else isFalse (fun h => h2 (by rw [h]))
  else isFalse (fun h => h1 (by rw [h]))
  else isFalse (fun h => h0 (by rw [h]))
def HazW.enc (d : HazW) : List CV := [.bool d.stop, .int .i64 d.on, .int .i64 d.times.frm, .int .i64 d.times.evr, .int .i64 d.times.len]
instance : Rp HazW := ⟨5, fun _ cs d => cs = d.enc, fun _ h => h, fun h => by rw [h]; rfl⟩
theorem HazW.flat (h : Heap) (cs : List CV) (d : HazW) : Rp.R h cs d ↔ cs = d.enc := Iff.rfl
instance : Flat HazW := ⟨HazW.enc, HazW.flat⟩

structure NamesD where
  stops : List Str
  paths : List Str
  doors : List Str
  routes : List Str
  trips : List Str
  hazards : List Str
instance : DecidableEq NamesD := fun a b =>
  if h0 : a.stops = b.stops then
  if h1 : a.paths = b.paths then
  if h2 : a.doors = b.doors then
  if h3 : a.routes = b.routes then
  if h4 : a.trips = b.trips then
  if h5 : a.hazards = b.hazards then
    isTrue (by cases a; cases b; simp_all)
  else isFalse (fun h => h5 (by rw [h]))
  else isFalse (fun h => h4 (by rw [h]))
  else isFalse (fun h => h3 (by rw [h]))
  else isFalse (fun h => h2 (by rw [h]))
  else isFalse (fun h => h1 (by rw [h]))
  else isFalse (fun h => h0 (by rw [h]))
def NamesD.Cells (h : Heap) (cs : List CV) (d : NamesD) : Prop := ∃ v1 v2 v3 v4 v5 v6, cs = [v1, v2, v3, v4, v5, v6] ∧ Sl h v1 d.stops ∧ Sl h v2 d.paths ∧ Sl h v3 d.doors ∧ Sl h v4 d.routes ∧ Sl h v5 d.trips ∧ Sl h v6 d.hazards
instance : Rp NamesD := ⟨6, NamesD.Cells, fun x ⟨v1, v2, v3, v4, v5, v6, e, s1, s2, s3, s4, s5, s6⟩ => ⟨v1, v2, v3, v4, v5, v6, e, s1.ext x, s2.ext x, s3.ext x, s4.ext x, s5.ext x, s6.ext x⟩, fun ⟨v1, v2, v3, v4, v5, v6, e, _, _, _, _, _, _⟩ => by rw [e]; rfl⟩

structure WorldD where
  hz : Int
  names : NamesD
  paths : List PathW
  doors : List DoorW
  routes : List RouteW
  trips : List TripW
  hazards : List HazW
instance : DecidableEq WorldD := fun a b =>
  if h0 : a.hz = b.hz then
  if h1 : a.names = b.names then
  if h2 : a.paths = b.paths then
  if h3 : a.doors = b.doors then
  if h4 : a.routes = b.routes then
  if h5 : a.trips = b.trips then
  if h6 : a.hazards = b.hazards then
    isTrue (by cases a; cases b; simp_all)
  else isFalse (fun h => h6 (by rw [h]))
  else isFalse (fun h => h5 (by rw [h]))
  else isFalse (fun h => h4 (by rw [h]))
  else isFalse (fun h => h3 (by rw [h]))
  else isFalse (fun h => h2 (by rw [h]))
  else isFalse (fun h => h1 (by rw [h]))
  else isFalse (fun h => h0 (by rw [h]))
def WorldD.Cells (h : Heap) (cs : List CV) (d : WorldD) : Prop := ∃ v1 v2 v3 v4 v5 v6 v7 v8 v9 v10 v11, cs = [.int .i64 d.hz, v1, v2, v3, v4, v5, v6, v7, v8, v9, v10, v11] ∧ Sl h v1 d.names.stops ∧ Sl h v2 d.names.paths ∧ Sl h v3 d.names.doors ∧ Sl h v4 d.names.routes ∧ Sl h v5 d.names.trips ∧ Sl h v6 d.names.hazards ∧ Sl h v7 d.paths ∧ Sl h v8 d.doors ∧ Sl h v9 d.routes ∧ Sl h v10 d.trips ∧ Sl h v11 d.hazards
instance : Rp WorldD := ⟨12, WorldD.Cells, fun x ⟨v1, v2, v3, v4, v5, v6, v7, v8, v9, v10, v11, e, s1, s2, s3, s4, s5, s6, s7, s8, s9, s10, s11⟩ => ⟨v1, v2, v3, v4, v5, v6, v7, v8, v9, v10, v11, e, s1.ext x, s2.ext x, s3.ext x, s4.ext x, s5.ext x, s6.ext x, s7.ext x, s8.ext x, s9.ext x, s10.ext x, s11.ext x⟩, fun ⟨v1, v2, v3, v4, v5, v6, v7, v8, v9, v10, v11, e, _, _, _, _, _, _, _, _, _, _, _⟩ => by rw [e]; rfl⟩

structure WrongD where
  err : Int
  kind : Int
  pos : Int
instance : DecidableEq WrongD := fun a b =>
  if h0 : a.err = b.err then
  if h1 : a.kind = b.kind then
  if h2 : a.pos = b.pos then
    isTrue (by cases a; cases b; simp_all)
  else isFalse (fun h => h2 (by rw [h]))
  else isFalse (fun h => h1 (by rw [h]))
  else isFalse (fun h => h0 (by rw [h]))
def WrongD.enc (d : WrongD) : List CV := [.int .i64 d.err, .int .i64 d.kind, .int .i64 d.pos]
instance : Rp WrongD := ⟨3, fun _ cs d => cs = d.enc, fun _ h => h, fun h => by rw [h]; rfl⟩
theorem WrongD.flat (h : Heap) (cs : List CV) (d : WrongD) : Rp.R h cs d ↔ cs = d.enc := Iff.rfl
instance : Flat WrongD := ⟨WrongD.enc, WrongD.flat⟩

structure WinD where
  frm : Int
  to : Int
instance : DecidableEq WinD := fun a b =>
  if h0 : a.frm = b.frm then
  if h1 : a.to = b.to then
    isTrue (by cases a; cases b; simp_all)
  else isFalse (fun h => h1 (by rw [h]))
  else isFalse (fun h => h0 (by rw [h]))
def WinD.enc (d : WinD) : List CV := [.int .i64 d.frm, .int .i64 d.to]
instance : Rp WinD := ⟨2, fun _ cs d => cs = d.enc, fun _ h => h, fun h => by rw [h]; rfl⟩
theorem WinD.flat (h : Heap) (cs : List CV) (d : WinD) : Rp.R h cs d ↔ cs = d.enc := Iff.rfl
instance : Flat WinD := ⟨WinD.enc, WinD.flat⟩
end Go.CM.Tt

noncomputable section
namespace Go.CM.Tt
set_option linter.unusedVariables false
set_option linter.unusedSimpArgs false

def Wrong0 : WrongD := ⟨0, 0, 0⟩
def NamesD.none : NamesD := ⟨[], [], [], [], [], []⟩
def WorldD.none : WorldD := ⟨0, NamesD.none, [], [], [], [], []⟩

/- Bytes: 1 a letter, 2 a digit, 3 what joins, 0 any other. -/
def classB (c : Nat) : Int := if 97 ≤ c ∧ c ≤ 122 then 1 else if 48 ≤ c ∧ c ≤ 57 then 2 else if c = 45 ∨ c = 95 then 3 else 0
/-- The reserved words. -/
def reserved : List Str := [[104, 111, 114, 105, 122, 111, 110], [115, 116, 111, 112], [112, 97, 116, 104], [100, 111, 111, 114], [114, 111, 117, 116, 101], [116, 114, 105, 112], [104, 97, 122, 97, 114, 100], [102, 114, 111, 109], [101, 118, 101, 114, 121], [111, 112, 101, 110], [99, 108, 111, 115, 101, 100], [111, 102], [111, 110], [117, 110, 116, 105, 108], [115, 116, 97, 121]]
/-- Is it a name? -/
def NameOk (s : Str) : Prop := s ≠ [] ∧ s.length ≤ 24 ∧ (∀ c, s[0]? = some c → classB c.toNat = 1) ∧ s ∉ reserved ∧ ∀ c ∈ s, classB c.toNat ≠ 0
def TickOk (t : Int) : Prop := 0 ≤ t ∧ t ≤ 1099511627776

/-- All names of a sheet, all its numbers. -/
def SheetD.all (x : SheetD) : List Str :=
  x.stops ++ (x.paths.flatMap fun p => [p.name, p.a, p.b]) ++ (x.doors.flatMap fun d => [d.name, d.a, d.b]) ++ (x.routes.flatMap fun r => r.name :: r.stops) ++ (x.trips.flatMap fun t => [t.name, t.route]) ++ (x.hazards.flatMap fun h => [h.name, h.on])
def Times.nums (t : Times) : List Int := [t.frm, t.evr, t.len]
def SheetD.nums (x : SheetD) : List Int :=
  [x.hz] ++ (x.paths.map fun p => p.len) ++ (x.doors.flatMap fun d => d.len :: d.times.nums) ++ (x.routes.flatMap fun r => r.rides ++ r.stays) ++ (x.trips.flatMap fun t => [t.frm, t.evr, t.untl]) ++ (x.hazards.flatMap fun h => h.times.nums)
def RouteS.ok (r : RouteS) : Prop := 2 ≤ r.stops.length ∧ r.stops.length ≤ 32 ∧ r.rides.length + 1 = r.stops.length ∧ r.stays.length + 2 = r.stops.length
def SheetD.few (x : SheetD) : Prop := x.stops.length ≤ 256 ∧ x.paths.length ≤ 1024 ∧ x.doors.length ≤ 256 ∧ x.routes.length ≤ 256 ∧ x.trips.length ≤ 1024 ∧ x.hazards.length ≤ 256
open Classical in
/-- What is wrong with a sheet as such. -/
def SheetD.err (x : SheetD) : Int :=
  if ¬ x.few then 3 else if ¬ ∀ s ∈ x.all, NameOk s then 7 else if ¬ ∀ n ∈ x.nums, TickOk n then 9 else if ¬ ∀ r ∈ x.routes, r.ok then 2 else 0

/-- Where a name stands; -1. -/
def place : List Str → Str → Int
  | [], _ => -1
  | a :: l, s => if a = s then 0 else if place l s < 0 then -1 else place l s + 1
def PathS.num (l : List Str) (p : PathS) : PathW := ⟨place l p.a, place l p.b, p.len⟩
def DoorS.num (l : List Str) (d : DoorS) : DoorW := ⟨place l d.a, place l d.b, d.len, d.times⟩
def RouteS.num (l : List Str) (r : RouteS) : RouteW := ⟨r.stops.map (place l), r.rides, r.stays⟩
def TripS.num (l : List Str) (t : TripS) : TripW := ⟨place l t.route, t.frm, t.evr, t.untl⟩
def HazS.num (l m : List Str) (h : HazS) : HazW := if 0 ≤ place l h.on then ⟨true, place l h.on, h.times⟩ else ⟨false, place m h.on, h.times⟩
def SheetD.names (x : SheetD) : NamesD := ⟨x.stops, x.paths.map (·.name), x.doors.map (·.name), x.routes.map (·.name), x.trips.map (·.name), x.hazards.map (·.name)⟩
/-- With numbers in the place of names. -/
def SheetD.num (x : SheetD) : WorldD :=
  ⟨x.hz, x.names, x.paths.map (·.num x.stops), x.doors.map (·.num x.stops), x.routes.map (·.num x.stops), x.trips.map (·.num x.names.routes), x.hazards.map (·.num x.stops x.names.paths)⟩

def NamesD.lists (n : NamesD) : List (List Str) := [[], n.stops, n.paths, n.doors, n.routes, n.trips, n.hazards]
/-- The first name that was there already. -/
def dupIn (seen : List Str) : List Str → Nat → Option Nat
  | [], _ => none
  | a :: l, i => if a ∈ seen then some i else dupIn (seen ++ [a]) l (i + 1)
def dups (seen : List Str) : List (List Str) → Int → Option WrongD
  | [], _ => none
  | l :: r, k => match dupIn seen l 0 with
    | some i => some ⟨6, k, i⟩
    | none => dups (seen ++ l) r (k + 1)
/-- The first thing that has an error. -/
def firstErr {α : Type} (f : α → Int) : List α → Nat → Option (Int × Nat)
  | [], _ => none
  | a :: l, i => if f a = 0 then firstErr f l (i + 1) else some (f a, i)
def wayErr (a b n : Int) : Int := if a < 0 ∨ b < 0 then 5 else if a = b ∨ n < 1 then 2 else 0
/-- When times may be; how many windows come. -/
def Times.ok (t : Times) : Prop := TickOk t.frm ∧ 1 ≤ t.len ∧ t.len ≤ 1099511627776 ∧ (t.evr = 0 ∨ (t.len ≤ t.evr ∧ t.evr ≤ 1099511627776))
def countT (frm evr hz : Int) : Int := if hz < frm then 0 else if evr = 0 then 1 else (hz - frm) / evr + 1
open Classical in
def Times.err (t : Times) (hz : Int) : Int := if ¬ t.ok then 2 else if ¬ TickOk hz then 9 else if 256 < countT t.frm t.evr hz then 3 else 0
def PathW.err (p : PathW) : Int := wayErr p.a p.b p.len
def DoorW.err (hz : Int) (d : DoorW) : Int := if wayErr d.a d.b d.len = 0 then d.times.err hz else wayErr d.a d.b d.len
def RouteW.badAt (r : RouteW) (k : Nat) : Prop := r.rides.getD k 0 < 1 ∨ r.stops.getD k 0 = r.stops.getD (k + 1) 0
open Classical in
def RouteW.err (r : RouteW) : Int := if (-1 : Int) ∈ r.stops then 5 else if ∃ k, k < r.rides.length ∧ r.badAt k then 2 else 0
def TripW.err (t : TripW) : Int := if t.route < 0 then 5 else if t.untl < t.frm then 2 else 0
def HazW.err (hz : Int) (h : HazW) : Int := if h.on < 0 then 5 else h.times.err hz
def atKind (k : Int) : Option (Int × Nat) → Option WrongD
  | none => none
  | some (e, i) => some ⟨e, k, i⟩
/-- What is wrong with a world that was numbered. -/
def WorldD.wrong (w : WorldD) : WrongD :=
  (dups [] w.names.lists 0).getD <|
  (atKind 2 (firstErr PathW.err w.paths 0)).getD <|
  (atKind 3 (firstErr (DoorW.err w.hz) w.doors 0)).getD <|
  (atKind 4 (firstErr RouteW.err w.routes 0)).getD <|
  (atKind 5 (firstErr TripW.err w.trips 0)).getD <|
  (atKind 6 (firstErr (HazW.err w.hz) w.hazards 0)).getD Wrong0
/-- What is made of a sheet. -/
def SheetD.make (x : SheetD) : WorldD × WrongD :=
  if x.err = 0 then if x.num.wrong.err = 0 then (x.num, Wrong0) else (WorldD.none, x.num.wrong) else (WorldD.none, ⟨x.err, 0, 0⟩)
end Go.CM.Tt
namespace Go.CM.Tt
def classI (c : Int) : Int := if 97 ≤ c ∧ c ≤ 122 then 1 else if 48 ≤ c ∧ c ≤ 57 then 2 else if c = 45 ∨ c = 95 then 3 else 0
end Go.CM.Tt

namespace Go.CM.Tt
theorem place_ge : ∀ (l : List Str) (s : Str), -1 ≤ place l s
  | [], _ => Int.le_refl _
  | a :: l, s => by
    have := place_ge l s
    unfold place
    split
    · omega
    · split <;> omega
theorem place_none : ∀ {l : List Str} {s : Str}, (∀ (j : Nat) (a : Str), l[j]? = some a → a ≠ s) → place l s = -1
  | [], _, _ => rfl
  | a :: l, s, h => by
    have h0 := h 0 a rfl
    have ih := place_none (l := l) (s := s) fun j b hj => h (j + 1) b (by simpa using hj)
    unfold place
    rw [if_neg h0, ih]; rfl
theorem place_some : ∀ {l : List Str} {s : Str} {k : Nat}, l[k]? = some s → (∀ (j : Nat), j < k → ∀ (a : Str), l[j]? = some a → a ≠ s) → place l s = k
  | [], _, _, h, _ => by simp at h
  | a :: l, s, 0, h, _ => by
    have : a = s := by simpa using h
    unfold place
    rw [if_pos this]; rfl
  | a :: l, s, k + 1, h, hn => by
    have h0 := hn 0 (by omega) a rfl
    have ih := place_some (l := l) (s := s) (k := k) (by simpa using h) fun j hj b hb => hn (j + 1) (by omega) b (by simpa using hb)
    unfold place
    rw [if_neg h0, ih, if_neg (by omega)]; omega
theorem place_mem : ∀ {l : List Str} {s : Str}, 0 ≤ place l s ↔ s ∈ l
  | [], s => by unfold place; simp
  | a :: l, s => by
    have ih := place_mem (l := l) (s := s)
    have := place_ge l s
    unfold place
    by_cases c : a = s
    · rw [if_pos c, c]; simp
    · rw [if_neg c, List.mem_cons]
      by_cases d : place l s < 0
      · rw [if_pos d]
        exact Iff.intro (fun h => by omega) (fun h => by
          rcases h with h | h
          · exact absurd h.symm c
          · have := ih.2 h; omega)
      · rw [if_neg d]
        exact Iff.intro (fun _ => .inr (ih.1 (by omega))) (fun _ => by omega)
theorem classI_nat (c : UInt8) : classI (c.toNat : Int) = classB c.toNat := by
  unfold classI classB
  have e1 : (97 ≤ (c.toNat : Int) ∧ (c.toNat : Int) ≤ 122) ↔ (97 ≤ c.toNat ∧ c.toNat ≤ 122) := by omega
  have e2 : (48 ≤ (c.toNat : Int) ∧ (c.toNat : Int) ≤ 57) ↔ (48 ≤ c.toNat ∧ c.toNat ≤ 57) := by omega
  have e3 : ((c.toNat : Int) = 45 ∨ (c.toNat : Int) = 95) ↔ (c.toNat = 45 ∨ c.toNat = 95) := by omega
  simp only [e1, e2, e3]
end Go.CM.Tt
namespace Go.CM.Tt
/-- No route is long. -/
def SheetD.slim (x : SheetD) : Prop := ∀ r ∈ x.routes, r.stops.length ≤ 1000 ∧ r.rides.length ≤ 1000 ∧ r.stays.length ≤ 1000
theorem flat_bound {α β : Type} {f : α → List β} {c : Nat} : ∀ {l : List α}, (∀ a ∈ l, (f a).length ≤ c) → (l.flatMap f).length ≤ l.length * c
  | [], _ => by simp
  | a :: l, h => by
    have ih := flat_bound (l := l) fun b hb => h b (List.mem_cons_of_mem _ hb)
    have := h a (by simp)
    rw [List.flatMap_cons, List.length_append, List.length_cons, Nat.succ_mul]
    omega
theorem SheetD.all_len {x : SheetD} (few : x.few) (sl : x.slim) : x.all.length ≤ 1073741824 := by
  obtain ⟨f1, f2, f3, f4, f5, f6⟩ := few
  have h1 := flat_bound (l := x.paths) (f := fun p => [p.name, p.a, p.b]) (c := 3) fun a _ => Nat.le_refl _
  have h2 := flat_bound (l := x.doors) (f := fun p => [p.name, p.a, p.b]) (c := 3) fun a _ => Nat.le_refl _
  have h3 := flat_bound (l := x.routes) (f := fun r => r.name :: r.stops) (c := 1001) fun a ha => by have := (sl a ha).1; simp only [List.length_cons]; omega
  have h4 := flat_bound (l := x.trips) (f := fun t => [t.name, t.route]) (c := 2) fun a _ => Nat.le_refl _
  have h5 := flat_bound (l := x.hazards) (f := fun h => [h.name, h.on]) (c := 2) fun a _ => Nat.le_refl _
  unfold SheetD.all
  simp only [List.length_append]
  omega
theorem SheetD.nums_len {x : SheetD} (few : x.few) (sl : x.slim) : x.nums.length ≤ 1073741824 := by
  obtain ⟨f1, f2, f3, f4, f5, f6⟩ := few
  have h2 := flat_bound (l := x.doors) (f := fun d => d.len :: d.times.nums) (c := 4) fun a _ => Nat.le_refl _
  have h3 := flat_bound (l := x.routes) (f := fun r => r.rides ++ r.stays) (c := 2000) fun a ha => by have := sl a ha; simp only [List.length_append]; omega
  have h4 := flat_bound (l := x.trips) (f := fun t => [t.frm, t.evr, t.untl]) (c := 3) fun a _ => Nat.le_refl _
  have h5 := flat_bound (l := x.hazards) (f := fun h => h.times.nums) (c := 3) fun a _ => Nat.le_refl _
  unfold SheetD.nums
  simp only [List.length_append, List.length_map, List.length_cons, List.length_nil]
  omega
end Go.CM.Tt

namespace Go.Proofs.YtmgpjfnlciapkaaDoor
set_option linter.unusedVariables false
set_option linter.unusedSimpArgs false
open Go Go.CM
noncomputable section
def tyL : List (Nat × TyS) := [(3, ⟨.int .i64, 1, 8, [.int .i64 0], false, false, []⟩),
 (22, ⟨.slice 9, 1, 24, [.slice none 0 0 0], false, false, []⟩),
 (4, ⟨.bool, 1, 1, [.bool false], false, false, []⟩),
 (9, ⟨.string, 1, 16, [.str []], false, false, []⟩),
 (2, ⟨.int .i64, 1, 8, [.int .i64 0], false, false, []⟩),
 (41, ⟨.int .i64, 1, 8, [.int .i64 0], false, false, []⟩),
 (65, ⟨.slice 2, 1, 24, [.slice none 0 0 0], false, false, []⟩),
 (67, ⟨.struct [(9, 0), (22, 1), (65, 2), (65, 3)], 4, 88, [.str [], .slice none 0 0 0, .slice none 0 0 0, .slice none 0 0 0], true, false, []⟩),
 (40, ⟨.struct [(2, 0), (33, 1), (34, 7), (35, 8), (36, 9), (37, 10), (38, 11)], 12, 272, [.int .i64 0, .slice none 0 0 0, .slice none 0 0 0, .slice none 0 0 0, .slice none 0 0 0, .slice none 0 0 0, .slice none 0 0 0, .slice none 0 0 0, .slice none 0 0 0, .slice none 0 0 0, .slice none 0 0 0, .slice none 0 0 0], true, false, []⟩),
 (24, ⟨.slice 58, 1, 24, [.slice none 0 0 0], false, false, []⟩),
 (25, ⟨.slice 67, 1, 24, [.slice none 0 0 0], false, false, []⟩),
 (26, ⟨.slice 50, 1, 24, [.slice none 0 0 0], false, false, []⟩),
 (27, ⟨.slice 55, 1, 24, [.slice none 0 0 0], false, false, []⟩),
 (53, ⟨.struct [(2, 0), (2, 1), (2, 2)], 3, 24, [.int .i64 0, .int .i64 0, .int .i64 0], true, false, []⟩),
 (23, ⟨.slice 62, 1, 24, [.slice none 0 0 0], false, false, []⟩),
 (29, ⟨.struct [(2, 0), (22, 1), (23, 2), (24, 3), (25, 4), (26, 5), (27, 6)], 7, 152, [.int .i64 0, .slice none 0 0 0, .slice none 0 0 0, .slice none 0 0 0, .slice none 0 0 0, .slice none 0 0 0, .slice none 0 0 0], true, false, []⟩),
 (50, ⟨.struct [(9, 0), (9, 1), (2, 2), (2, 3), (2, 4)], 5, 56, [.str [], .str [], .int .i64 0, .int .i64 0, .int .i64 0], true, false, []⟩),
 (55, ⟨.struct [(9, 0), (9, 1), (53, 2)], 5, 56, [.str [], .str [], .int .i64 0, .int .i64 0, .int .i64 0], true, false, []⟩),
 (58, ⟨.struct [(9, 0), (9, 1), (9, 2), (2, 3), (53, 4)], 7, 80, [.str [], .str [], .str [], .int .i64 0, .int .i64 0, .int .i64 0, .int .i64 0], true, false, []⟩),
 (62, ⟨.struct [(9, 0), (9, 1), (9, 2), (2, 3)], 4, 56, [.str [], .str [], .str [], .int .i64 0], true, false, []⟩),
 (79, ⟨.pointer 40, 1, 8, [.ptr none], false, false, []⟩),
 (133, ⟨.pointer 138, 1, 8, [.ptr none], false, false, [("Add", none), ("Len", none), ("timetable/world.door", some (69, true)), ("timetable/world.fine", some (67, true)), ("timetable/world.hazard", some (72, true)), ("timetable/world.path", some (68, true)), ("timetable/world.route", some (70, true)), ("timetable/world.times", some (85, true)), ("timetable/world.trip", some (71, true))]⟩),
 (138, ⟨.struct [(136, 0), (79, 1)], 2, 16, [.ptr none, .ptr none], true, false, [("Add", none), ("Len", none)]⟩),
 (33, ⟨.struct [(22, 0), (22, 1), (22, 2), (22, 3), (22, 4), (22, 5)], 6, 144, [.slice none 0 0 0, .slice none 0 0 0, .slice none 0 0 0, .slice none 0 0 0, .slice none 0 0 0, .slice none 0 0 0], true, false, []⟩),
 (94, ⟨.slice 3, 1, 24, [.slice none 0 0 0], false, false, []⟩),
 (120, ⟨.func, 1, 8, [.nilFunc], false, false, []⟩),
 (34, ⟨.slice 74, 1, 24, [.slice none 0 0 0], false, false, []⟩),
 (35, ⟨.slice 87, 1, 24, [.slice none 0 0 0], false, false, []⟩),
 (37, ⟨.slice 90, 1, 24, [.slice none 0 0 0], false, false, []⟩),
 (38, ⟨.slice 93, 1, 24, [.slice none 0 0 0], false, false, []⟩),
 (36, ⟨.slice 96, 1, 24, [.slice none 0 0 0], false, false, []⟩),
 (43, ⟨.struct [(41, 0), (3, 1), (3, 2)], 3, 24, [.int .i64 0, .int .i64 0, .int .i64 0], true, true, []⟩),
 (108, ⟨.pointer 33, 1, 8, [.ptr none], false, false, []⟩),
 (134, ⟨.pointer 160, 1, 8, [.ptr none], false, false, [("Add", some (66, true)), ("Len", some (116, true))]⟩),
 (74, ⟨.struct [(3, 0), (3, 1), (2, 2)], 3, 24, [.int .i64 0, .int .i64 0, .int .i64 0], true, false, []⟩),
 (87, ⟨.struct [(3, 0), (3, 1), (2, 2), (53, 3)], 6, 48, [.int .i64 0, .int .i64 0, .int .i64 0, .int .i64 0, .int .i64 0, .int .i64 0], true, false, []⟩),
 (90, ⟨.struct [(3, 0), (2, 1), (2, 2), (2, 3)], 4, 32, [.int .i64 0, .int .i64 0, .int .i64 0, .int .i64 0], true, false, []⟩),
 (93, ⟨.struct [(4, 0), (3, 1), (53, 2)], 5, 40, [.bool false, .int .i64 0, .int .i64 0, .int .i64 0, .int .i64 0], true, false, []⟩),
 (96, ⟨.struct [(94, 0), (65, 1), (65, 2)], 3, 72, [.slice none 0 0 0, .slice none 0 0 0, .slice none 0 0 0], true, false, []⟩),
 (101, ⟨.func, 1, 8, [.nilFunc], false, false, []⟩),
 (105, ⟨.func, 1, 8, [.nilFunc], false, false, []⟩),
 (107, ⟨.func, 1, 8, [.nilFunc], false, false, []⟩),
 (142, ⟨.array 7 141, 7, 56, [.ptr none, .ptr none, .ptr none, .ptr none, .ptr none, .ptr none, .ptr none], true, false, []⟩),
 (156, ⟨.map 9 3, 1, 8, [.map none], false, false, []⟩),
 (158, ⟨.struct [(22, 0), (156, 1)], 2, 32, [.slice none 0 0 0, .map none], true, false, []⟩),
 (160, ⟨.struct [(158, 0)], 2, 32, [.slice none 0 0 0, .map none], true, false, []⟩),
 (167, ⟨.slice 186, 1, 24, [.slice none 0 0 0], false, false, []⟩),
 (177, ⟨.func, 1, 8, [.nilFunc], false, false, []⟩),
 (186, ⟨.struct [(2, 0), (2, 1)], 2, 16, [.int .i64 0, .int .i64 0], true, false, []⟩),
 (5, ⟨.int .u8, 1, 1, [.int .u8 0], false, false, []⟩),
 (110, ⟨.func, 1, 8, [.nilFunc], false, false, []⟩),
 (112, ⟨.func, 1, 8, [.nilFunc], false, false, []⟩),
 (114, ⟨.func, 1, 8, [.nilFunc], false, false, []⟩),
 (116, ⟨.func, 1, 8, [.nilFunc], false, false, []⟩),
 (118, ⟨.func, 1, 8, [.nilFunc], false, false, []⟩),
 (122, ⟨.func, 1, 8, [.nilFunc], false, false, []⟩),
 (124, ⟨.func, 1, 8, [.nilFunc], false, false, []⟩),
 (128, ⟨.func, 1, 8, [.nilFunc], false, false, []⟩),
 (130, ⟨.func, 1, 8, [.nilFunc], false, false, []⟩),
 (132, ⟨.func, 1, 8, [.nilFunc], false, false, []⟩),
 (136, ⟨.struct [(134, 0)], 1, 8, [.ptr none], true, false, [("Add", none), ("Len", none)]⟩),
 (141, ⟨.pointer 22, 1, 8, [.ptr none], false, false, []⟩),
 (147, ⟨.array 7 146, 7, 56, [.nilFunc, .nilFunc, .nilFunc, .nilFunc, .nilFunc, .nilFunc, .nilFunc], true, false, []⟩),
 (151, ⟨.func, 1, 8, [.nilFunc], false, false, []⟩),
 (187, ⟨.func, 1, 8, [.nilFunc], false, false, []⟩),
 (146, ⟨.func, 1, 8, [.nilFunc], false, false, []⟩)]
def fnL : List (Nat × FnS) := [(3, fnOf Tryd.f3), (4, fnOf Tryd.f4), (6, fnOf Tryd.f6), (7, fnOf Tryd.f7), (8, fnOf Tryd.f8), (9, fnOf Tryd.f9), (10, fnOf Tryd.f10), (11, fnOf Tryd.f11), (12, fnOf Tryd.f12), (13, fnOf Tryd.f13), (15, fnOf Tryd.f15), (16, fnOf Tryd.f16), (17, fnOf Tryd.f17), (18, fnOf Tryd.f18), (19, fnOf Tryd.f19), (20, fnOf Tryd.f20), (21, fnOf Tryd.f21), (22, fnOf Tryd.f22), (23, fnOf Tryd.f23), (24, fnOf Tryd.f24), (25, fnOf Tryd.f25), (26, fnOf Tryd.f26), (27, fnOf Tryd.f27), (28, fnOf Tryd.f28), (29, fnOf Tryd.f29), (30, fnOf Tryd.f30), (31, fnOf Tryd.f31), (32, fnOf Tryd.f32), (33, fnOf Tryd.f33), (34, fnOf Tryd.f34), (35, fnOf Tryd.f35), (36, fnOf Tryd.f36), (37, fnOf Tryd.f37), (38, fnOf Tryd.f38), (39, fnOf Tryd.f39), (40, fnOf Tryd.f40), (41, fnOf Tryd.f41), (42, fnOf Tryd.f42), (43, fnOf Tryd.f43), (44, fnOf Tryd.f44), (45, fnOf Tryd.f45), (46, fnOf Tryd.f46), (47, fnOf Tryd.f47), (48, fnOf Tryd.f48), (49, fnOf Tryd.f49), (50, fnOf Tryd.f50), (51, fnOf Tryd.f51), (52, fnOf Tryd.f52), (53, fnOf Tryd.f53), (54, fnOf Tryd.f54), (55, fnOf Tryd.f55), (56, fnOf Tryd.f56), (57, fnOf Tryd.f57), (58, fnOf Tryd.f58), (59, fnOf Tryd.f59), (60, fnOf Tryd.f60), (61, fnOf Tryd.f61), (62, fnOf Tryd.f62), (63, fnOf Tryd.f63), (64, fnOf Tryd.f64), (65, fnOf Tryd.f65), (66, fnOf Tryd.f66), (67, fnOf Tryd.f67), (68, fnOf Tryd.f68), (69, fnOf Tryd.f69), (70, fnOf Tryd.f70), (71, fnOf Tryd.f71), (72, fnOf Tryd.f72), (73, fnOf Tryd.f73), (74, fnOf Tryd.f74), (75, fnOf Tryd.f75), (76, fnOf Tryd.f76), (77, fnOf Tryd.f77), (78, fnOf Tryd.f78), (79, fnOf Tryd.f79), (80, fnOf Tryd.f80), (81, fnOf Tryd.f81), (82, fnOf Tryd.f82), (83, fnOf Tryd.f83), (84, fnOf Tryd.f84), (85, fnOf Tryd.f85), (86, fnOf Tryd.f86), (87, fnOf Tryd.f87), (89, fnOf Tryd.f89), (90, fnOf Tryd.f90), (93, fnOf Tryd.f93), (94, fnOf Tryd.f94), (95, fnOf Tryd.f95), (96, fnOf Tryd.f96), (98, fnOf Tryd.f98), (116, fnOf Tryd.f116)]
def ascii : List Int := [0, 0, 0, 0, 0, 0, 0, 0, 0, 1, 1, 1, 1, 1, 0, 0, 0, 0, 0, 0, 0, 0, 0, 0, 0, 0, 0, 0, 0, 0, 0, 0, 1] ++ List.replicate 223 0
def rows : List (Nat × List CM.CV) := [(0, ascii.map (CM.CV.int .u8))]
def nglob : Nat := 1
/-- The chapter's examples. -/
def livesE : KE := ⟨5, [], [], .bool true, []⟩
/-- The reserved words, cut from a text. -/
def fieldsE : KE := ⟨88, [.str [104, 111, 114, 105, 122, 111, 110, 32, 115, 116, 111, 112, 32, 112, 97, 116, 104, 32, 100, 111, 111, 114, 32, 114, 111, 117, 116, 101, 32, 116, 114, 105, 112, 32, 104, 97, 122, 97, 114, 100, 32, 102, 114, 111, 109, 32, 101, 118, 101, 114, 121, 32, 111, 112, 101, 110, 32, 99, 108, 111, 115, 101, 100, 32, 111, 102, 32, 111, 110, 32, 117, 110, 116, 105, 108, 32, 115, 116, 97, 121]], [], .slice (some (nglob, 0)) 15 15 0, [Tt.reserved.map fun s => .str s]⟩
def known : List KE := [livesE, fieldsE]

def E1 : Env := ⟨lk tyL, lk fnL, nglob, known, rows⟩
end
end Go.Proofs.YtmgpjfnlciapkaaDoor
