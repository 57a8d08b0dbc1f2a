/- Part L7 of the proof: see the last text of the claim. No condition of its own. -/
import Derived.Test.YtddagflhafkbnaaGreatDoorQ3
import Derived.Test.YtddagflhafkbnaaGreatDoorK8
import Derived.Test.YtddagflhafkbnaaGreatDoorL2
set_option linter.all false
set_option autoImplicit false
namespace Go.Abs
end Go.Abs
namespace Go.Abs
def digs36:List UInt8:=[48,49,50,51,52,53,54,55,56,57,97,98,99,100,101,102,103,104,105,106,107,108,109,110,111,112,113,114,115,116,117,118,119,120,121,122]
def dig (n:Int):UInt8:=digs36.getD n.toNat 0
def hexT (n:Int):List UInt8:=
 if n < 16 then [dig n] else if n < 256 then [dig (n / 16),dig (n % 16)] else if n < 4096 then [dig (n / 256),dig (n / 16 % 16),dig (n % 16)]
 else [dig (n / 4096),dig (n / 256 % 16),dig (n / 16 % 16),dig (n % 16)]
end Go.Abs
namespace Go.Abs
def YEg (sep:UInt8):List (List UInt8)->List UInt8
 | []=> []
 | [x]=> x
 | x::y::l=> x++sep::YEg sep (y::l)
def told (l:List Int):List UInt8:=YEg 58 (l.map hexT)
end Go.Abs
namespace Go.Abs
end Go.Abs
namespace Go.Abs
end Go.Abs
namespace Go.Abs
end Go.Abs
