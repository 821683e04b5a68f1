/- A thread: its blocks, told at once; its methods, walked. -/
import Derived.Test.YtocmdcjbjhpooaaPFrameOrdersx1
import Derived.Test.YtocmdcjbjhpooaaBxs
import Derived.Lib.SliceRun
import Derived.BigQuiet
set_option linter.unusedVariables false
set_option linter.unusedSimpArgs false
namespace Go.Proofs.Ytocmdcjbjhpooaa.FrW
open Go Go.RowKit Go.Proofs.YtocmdcjbjhpooaaW.PrintWords Go.Proofs.YtocmdcjbjhpooaaW.PrintLast Go.Proofs.YtocmdcjbjhpooaaW.PrintMore Go.Proofs.Ytocmdcjbjhpooaa.PFrameOrders Go.Proofs.Ytocmdcjbjhpooaa.GRow Go.Proofs.Ytocmdcjbjhpooaa.Num Go.Proofs.Ytocmdcjbjhpooaa.Bxs
/-- Words, one behind the other. -/
def ws (n : Nat) (r : Nat → Int) : List Value := (List.range n).map fun i => .int .u64 (r i)
/-- A session. -/
structure Ses where
  jo : Bool
  pi : Bool
  en : Bool
  pa : Int
  vv : Int
  ti : Int
  lo : Int
  hi : Int
  ba : Int
  tp : Int
  pt : Int
  li : Int
def Ses.zero : Ses := ⟨false, false, false, 0, 0, 0, 0, 0, 0, 0, 0, 0⟩
def sesC (s : Ses) : List Value := [.bool s.jo, .bool s.pi, .bool s.en, .int .u64 s.pa, .int .u64 s.vv, .int .u64 s.ti, .int .i64 s.lo, .int .i64 s.hi, .int .i64 s.ba, .int .i64 s.tp, .int .i64 s.pt, .int .i64 s.li]
/-- A frame, and the block in which it lies. -/
structure Fr where
  bk : Nat
  fn : Int
  pc : Int
  R : Nat → Int
def frC (f : Fr) : List Value := .int .i64 f.fn :: .int .i64 f.pc :: ws 24 f.R
def thC (r : Nat → Int) (s : Ses) (vF vR vS : Value) : List Value := ws 12 r ++ (sesC s ++ [vF, vR, vS])
def ptr (f : Fr) : List Value := [.pointer (some ⟨f.bk, 0, none⟩)]
/-- A thread's own blocks. -/
def own (b : Nat) (vF vS : Value) (fs : List Fr) (k : Nat) : Prop := k = b ∨ (∃ f ∈ fs, f.bk = k) ∨ vF.ownBlock = some k ∨ vS.ownBlock = some k
structure Th (W : World) (base : Nat) (P : Nat → Prop) (b : Nat) (r : Nat → Int) (s : Ses) (vF vR vS : Value) (fs : List Fr) (row : List S37) (st : List Int) : Prop where
  blk : W.heap[b]? = some (.cells (thC r s vF vR vS).toArray 57 (0, 0))
  fo : OV 46 1 W base vF (fs.map ptr)
  fb : ∀ f ∈ fs, W.heap[f.bk]? = some (.cells (frC f).toArray 50 (0, 0))
  nd : (fs.map Fr.bk).Nodup
  so : OV 27 1 W base vS (st.map fun x => [.int .u64 x])
  ro : Kd.V k37 37 W 0 (fun k => base ≤ k ∧ ¬ P k) vR row
  ge : ∀ k, own b vF vS fs k → base ≤ k ∧ P k
end Go.Proofs.Ytocmdcjbjhpooaa.FrW
