/- The program's structures as plain Lean structures. -/
import Derived.Test.YtoiafcpnhhplnaaFx9
namespace Go.Fx
structure Posting where
  Gram : ByteArray
  Texts : (List Int)
  deriving DecidableEq, Inhabited
structure TrigramIndex where
  Texts : (List Int)
  Postings : (List Posting)
  deriving DecidableEq, Inhabited
structure TrigramIndex_r where
  Texts : (List Int)
  Postings : Value
structure Fault where
  Code : Int
  Index : Int
  deriving DecidableEq, Inhabited
end Go.Fx
