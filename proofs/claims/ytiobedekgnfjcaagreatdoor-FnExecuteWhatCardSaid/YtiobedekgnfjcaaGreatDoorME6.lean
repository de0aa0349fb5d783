/- What both Executes come to: contracts and plain laws, for the laws on Execute. No conditions. (Part 7 of 28.) -/
import Derived.Test.YtiobedekgnfjcaaGreatDoorME1
import Derived.Test.YtiobedekgnfjcaaGreatDoorME2
namespace Go.Proofs.YtiobedekgnfjcaaGreatDoorW.aq
open Go.RowKit
namespace Kd
section
variable {α:Type} {d:Kd α} {e base g o n cap:Nat} {ok bp:Nat→Prop} {w W:World} {v:Value} {xs:List α}
end
section
variable {α:Type} {enc:α→Value} {h1:∀x,(enc x).oneCell'=true} {e base g o n cap:Nat} {ok:Nat→Prop} {W:World} {xs:List α}
end
end Kd
end Go.Proofs.YtiobedekgnfjcaaGreatDoorW.aq
