/-
  Messages and records as bytes and back, in plain words.
-/
import Derived.Test.YtdekgkmbcdlekaaRowP
namespace Api
open Go Leg Codec

def kRow (k : Int) : Bool := decide (k = 0 ∨ k = 2 ∨ k = 9)
def kAsk (k : Int) : Bool := decide (k = 3 ∨ k = 6)
/-- The message that comes next; false: its row, its view may not be. -/
def readMsgP : Ps (MsgT × Bool) := pb (smallP 10) fun k =>
  if kRow k then pb (smallP 5) fun w => pb rowP fun x => pr (⟨k, w, x, 0, 0, .zero, .zero, .zero, .zero⟩, rightR x)
  else if k = 1 then pb numP fun n => pr (⟨k, 0, .zero, n, 0, .zero, .zero, .zero, .zero⟩, true)
  else if kAsk k then pb numP fun n => pb ballotP fun b => pr (⟨k, 0, .zero, 0, n, b, .zero, .zero, .zero⟩, true)
  else if k = 4 then pb numP fun n => pb ballotP fun b => pb ballotP fun d => pb changeP fun c => pr (⟨k, 0, .zero, 0, n, b, d, c, .zero⟩, true)
  else if k = 5 then pb numP fun n => pb ballotP fun b => pb changeP fun c => pr (⟨k, 0, .zero, 0, n, b, .zero, c, .zero⟩, true)
  else if k = 7 then pb viewP fun v => pr (⟨k, 0, .zero, 0, 0, .zero, .zero, .zero, v⟩, rightV v)
  else if k = 8 then pb (smallP 5) fun w => pb viewP fun v => pr (⟨k, w, .zero, 0, 0, .zero, .zero, .zero, v⟩, rightV v)
  else pr (⟨k, 0, .zero, 0, 0, .zero, .zero, .zero, .zero⟩, true)
def readRecP : Ps (RecT × Bool) := pb (smallP 6) fun k =>
  if k = 0 then pb rowP fun x => pr (⟨k, 0, x, 0, .zero, .zero, .zero⟩, rightR x)
  else if k = 1 then pb (smallP 5) fun w => pb rowP fun x => pr (⟨k, w, x, 0, .zero, .zero, .zero⟩, rightR x)
  else if k = 2 then pb (smallP 5) fun w => pr (⟨k, w, .zero, 0, .zero, .zero, .zero⟩, true)
  else if k = 3 then pb numP fun n => pb ballotP fun b => pr (⟨k, 0, .zero, n, b, .zero, .zero⟩, true)
  else if k = 4 then pb numP fun n => pb ballotP fun b => pb changeP fun c => pr (⟨k, 0, .zero, n, b, c, .zero⟩, true)
  else if k = 5 then pb viewP fun v => pr (⟨k, 0, .zero, 0, .zero, .zero, v⟩, rightV v)
  else pr (⟨k, 0, .zero, 0, .zero, .zero, .zero⟩, true)
def decM (bs : List UInt8) : MsgT × Int := match readMsgP bs with
  | some ((m, true), []) => (m, 0)
  | _ => (.zero, 1)
def decR (bs : List UInt8) : RecT × Int := match readRecP bs with
  | some ((m, true), []) => (m, 0)
  | _ => (.zero, 1)
/-- A message's bytes. -/
def encM (m : MsgT) : List UInt8 :=
  if kRow m.kind then encs [m.kind, m.whose] ++ encRow m.row
  else if m.kind = 1 then encs [m.kind, m.version]
  else if kAsk m.kind then encs [m.kind, m.epoch] ++ encs m.ballot.flat
  else if m.kind = 4 then encs [m.kind, m.epoch] ++ encs m.ballot.flat ++ encs m.had.flat ++ encs m.change.flat
  else if m.kind = 5 then encs [m.kind, m.epoch] ++ encs m.ballot.flat ++ encs m.change.flat
  else if m.kind = 7 then encs [m.kind] ++ encs m.view.flat
  else if m.kind = 8 then encs [m.kind, m.whose] ++ encs m.view.flat
  else []
def encR (m : RecT) : List UInt8 :=
  if m.kind = 0 then encs [m.kind] ++ encRow m.row
  else if m.kind = 1 then encs [m.kind, m.whose] ++ encRow m.row
  else if m.kind = 2 then encs [m.kind, m.whose]
  else if m.kind = 3 then encs [m.kind, m.epoch] ++ encs m.ballot.flat
  else if m.kind = 4 then encs [m.kind, m.epoch] ++ encs m.ballot.flat ++ encs m.change.flat
  else if m.kind = 5 then encs [m.kind] ++ encs m.view.flat
  else []
theorem view_rng {v : ViewT} {bs r : List UInt8} (h : viewP bs = some (v, r)) : Rng v := fun i hi => by
  have := (view_spec h).1.2.2 i hi
  exact ⟨this.1, by omega⟩
theorem row_wf {x : RowT} {bs r : List UInt8} (h : rowP bs = some (x, r)) : WF x.flat := (row_spec h).1.wf
end Api
