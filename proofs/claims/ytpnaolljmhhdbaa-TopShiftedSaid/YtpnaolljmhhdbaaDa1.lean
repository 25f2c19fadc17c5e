/- Data. No condition beyond those that each theorem says. -/
import Derived.Test.YtpnaolljmhhdbaaBa0
namespace Go.Proofs.Ytpnaolljmhhdbaa
open Go Go.Gm
set_option linter.unusedVariables false
set_option linter.unusedSimpArgs false
set_option maxHeartbeats 4000000
set_option maxRecDepth 8000

structure OpD where
  read : Bool
  key : Int
  tx : Int
  nth : Int
  deriving DecidableEq, Inhabited
structure TxD where
  id : Int
  done : Bool
  ops : List OpD
  deriving DecidableEq, Inhabited
structure OrdD where
  key : Int
  txs : List Int
  deriving DecidableEq, Inhabited
structure HistD where
  txs : List TxD
  orders : List OrdD
  deriving DecidableEq, Inhabited
structure DeltaD where
  was : List TxD
  now : List TxD
  old : List OrdD
  new : List OrdD
  deriving DecidableEq, Inhabited
def rOp (o : OpD) : List PV := [.bool o.read, .int .i64 o.key, .int .i64 o.tx, .int .i64 o.nth]
def rTx (t : TxD) : List PV := [.int .i64 t.id, .bool t.done, .sl rOp t.ops]
def rOrd (o : OrdD) : List PV := [.int .i64 o.key, .sl rInt o.txs]
def rHist (h : HistD) : List PV := [.sl rTx h.txs, .sl rOrd h.orders]
end Go.Proofs.Ytpnaolljmhhdbaa
