/- The program's structures as plain Lean structures. -/
import Derived.Test.YtilodamhgepjoaaFx9
namespace Go.Fx
structure Commit where
  Parents : (List Int)
  Author : Int
  Time : Int
  Tree : Int
  Message : ByteArray
  deriving DecidableEq, Inhabited
structure Fault where
  Code : Int
  Index : Int
  deriving DecidableEq, Inhabited
end Go.Fx
