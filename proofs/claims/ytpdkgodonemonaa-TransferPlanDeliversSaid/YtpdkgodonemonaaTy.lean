/- The program's structures as plain Lean structures. -/
import Derived.Test.YtpdkgodonemonaaFx9
namespace Go.Fx
structure Fault where
  Code : Int
  Index : Int
  deriving DecidableEq, Inhabited
structure Transfer_link where
  frames : (List (List UInt8))
  sent : (List Int)
  acks : (List Int)
  count : Int
  acked : Int
  deriving DecidableEq, Inhabited
structure Transfer_link_r where
  frames : (List (List UInt8))
  sent : Value
  acks : Value
  count : Int
  acked : Int
structure LinkEvent where
  Kind : Int
  N : Int
  deriving DecidableEq, Inhabited
end Go.Fx
