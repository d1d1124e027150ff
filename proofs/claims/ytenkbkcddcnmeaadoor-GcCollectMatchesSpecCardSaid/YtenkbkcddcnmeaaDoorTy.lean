/- The program's structures as plain Lean structures. -/
import Derived.Test.YtenkbkcddcnmeaaDoorFx12
namespace Go.Fx
structure Object where
  Kind : Int
  Links : (List Int)
  Data : (List UInt8)
  deriving DecidableEq, Inhabited
structure StoredObject where
  Digest : Int
  Object : Object
  deriving DecidableEq, Inhabited
structure Fault where
  Code : Int
  Index : Int
  deriving DecidableEq, Inhabited
structure ObjectStore where
  Objects : (List StoredObject)
  deriving DecidableEq, Inhabited
structure ObjectStore_r where
  Objects : Value
structure RefTy where
  Name : ByteArray
  Target : Int
  deriving DecidableEq, Inhabited
structure RefStore where
  Refs : (List RefTy)
  deriving DecidableEq, Inhabited
structure Lease where
  Digest : Int
  Until : Int
  deriving DecidableEq, Inhabited
end Go.Fx
