/- Frames, as their cells. No condition. -/
import Derived.Test.YtbbnmgakmcppdaaGreatVgI
import Derived.Test.YtbbnmgakmcppdaaGreatOps
namespace Go.Proofs.YtbbnmgakmcppdaaGreat.Api
open Go Go.Proofs.YtbbnmgakmcppdaaGreat.Vg Go.Proofs.YtbbnmgakmcppdaaGreat.T

structure ResM where
  code : Int
  value : ByteArray
  version : Int
  at_ : Int
structure EntryM where
  index : Int
  client : Int
  seq : Int
  op : OpM
structure FrameM where
  kind : Int
  epoch : Int
  client : Int
  seq : Int
  try_ : Int
  cls : Int
  deadline : Int
  op : OpM
  res : ResM
  reason : Int
  entry : EntryM
  cepoch : Int
  drain : Int
  index : Int
  grant : Int
  have_ : Int
/-- Where no members lie, and how many there would be room for. -/
abbrev MemS := Option Addr × Nat
def FrameM.cells (f : FrameM) (m : MemS) : List Value :=
  [.int .i64 f.kind, .int .i64 f.epoch, .int .i64 f.client, .int .i64 f.seq, .int .i64 f.try_, .int .i64 f.cls, .int .i64 f.deadline,
   .int .i64 f.op.kind, .string f.op.key, .string f.op.value, .int .i64 f.op.version,
   .int .i64 f.res.code, .string f.res.value, .int .i64 f.res.version, .int .i64 f.res.at_, .int .i64 f.reason,
   .int .i64 f.entry.index, .int .i64 f.entry.client, .int .i64 f.entry.seq, .int .i64 f.entry.op.kind, .string f.entry.op.key, .string f.entry.op.value, .int .i64 f.entry.op.version,
   .int .i64 f.cepoch, .slice m.1 0 m.2, .int .i64 f.drain, .int .i64 f.index, .int .i64 f.grant, .int .i64 f.have_]
abbrev FM := FrameM × MemS
def fmc (p : FM) : List Value := p.1.cells p.2
theorem fmc_len (p : FM) : (fmc p).length = 29 := rfl
theorem fmc_one (p : FM) : (fmc p).all Value.oneCell' = true := rfl
def opZ : OpM := ⟨0, ⟨#[]⟩, ⟨#[]⟩, 0⟩
def FrameM.zero : FrameM := ⟨0, 0, 0, 0, 0, 0, 0, opZ, ⟨0, ⟨#[]⟩, 0, 0⟩, 0, ⟨0, 0, 0, opZ⟩, 0, 0, 0, 0, 0⟩
def fmz : FM := (FrameM.zero, none, 0)
theorem fmz_cells : T.t46.zs = fmc fmz := rfl
end Go.Proofs.YtbbnmgakmcppdaaGreat.Api
