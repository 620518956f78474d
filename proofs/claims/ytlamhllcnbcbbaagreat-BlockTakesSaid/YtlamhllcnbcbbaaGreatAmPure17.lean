import Derived.Test.YtlamhllcnbcbbaaGreatAmWords
/- PRINTED by gen/ of this repo: the functions of the seat as pure functions. -/
namespace Go.AM.Pure
open Go.AM
def cmp_isNaN_int (x:Int):Bool:=
 (neI x x)
def Zkh (c:(Int×(Int×ByteArray))):Int:=
 bif (eqI c.1 0) then
 bif (!((eqI c.1 c.1) && ((eqI c.2.1 0) && (eqS c.2.2 eB)))) then
 1
 else
 bif (ltI 32 (lenS c.2.2)) then
 1
 else
 0
 else
 bif (eqI c.1 1) then
 bif (!((eqI c.1 c.1) && ((eqI c.2.1 c.2.1) && (eqS c.2.2 eB)))) then
 1
 else
 bif (ltI 32 (lenS c.2.2)) then
 1
 else
 0
 else
 bif (eqI c.1 2) then
 bif (!((eqI c.1 c.1) && ((eqI c.2.1 0) && (eqS c.2.2 c.2.2)))) then
 1
 else
 bif (ltI 32 (lenS c.2.2)) then
 1
 else
 0
 else
 1
def Zkh.o (c:(Int×(Int×ByteArray))):Option (Int):=
 bif (eqI c.1 0) then
 bif (!((eqI c.1 c.1) && ((eqI c.2.1 0) && (eqS c.2.2 eB)))) then
 some 1
 else
 bif (ltI 32 (lenS c.2.2)) then
 some 1
 else
 some 0
 else
 bif (eqI c.1 1) then
 bif (!((eqI c.1 c.1) && ((eqI c.2.1 c.2.1) && (eqS c.2.2 eB)))) then
 some 1
 else
 bif (ltI 32 (lenS c.2.2)) then
 some 1
 else
 some 0
 else
 bif (eqI c.1 2) then
 bif (!((eqI c.1 c.1) && ((eqI c.2.1 0) && (eqS c.2.2 c.2.2)))) then
 some 1
 else
 bif (ltI 32 (lenS c.2.2)) then
 some 1
 else
 some 0
 else
 some 1
def Zie (c:(Int×(Int×ByteArray))):Bool:=
 bif (eqI c.1 0) then
 bif (eqI c.2.1 0) then
 (eqS c.2.2 eB)
 else
 false
 else
 bif (eqI c.1 1) then
 (eqS c.2.2 eB)
 else
 bif (eqI c.1 2) then
 bif (eqI c.2.1 0) then
 (leI (lenS c.2.2) 32)
 else
 false
 else
 false
def Zie.o (c:(Int×(Int×ByteArray))):Option (Bool):=
 bif (eqI c.1 0) then
 bif (eqI c.2.1 0) then
 some (eqS c.2.2 eB)
 else
 some false
 else
 bif (eqI c.1 1) then
 some (eqS c.2.2 eB)
 else
 bif (eqI c.1 2) then
 bif (eqI c.2.1 0) then
 some (leI (lenS c.2.2) 32)
 else
 some false
 else
 some false
end Go.AM.Pure
