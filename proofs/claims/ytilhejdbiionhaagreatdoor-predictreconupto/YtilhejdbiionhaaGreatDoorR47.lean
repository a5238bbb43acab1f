/- Part 47 of a proof: OC -/
import Derived.Test.YtilhejdbiionhaaGreatDoorR39
import Derived.Test.YtilhejdbiionhaaGreatDoorR46
set_option linter.all false

set_option maxRecDepth 8000
namespace Go.Proofs.YtilhejdbiionhaaGreatDoor
open Go Go.Abs Go.Cw
section
variable {H:Type} {enc:TypeId×Value→H} {w:World}
theorem runIn_of{p:Proc}{args:List V}{st:List Pr}(hp:gProc p)(ha:gSl qcx args)(hs:gSl gP st):RunIn qbc p args st:=⟨qcp,hp.2.2.2,ha.2,fun q hq=>(hs.2 q hq).2⟩
end
end Go.Proofs.YtilhejdbiionhaaGreatDoor
