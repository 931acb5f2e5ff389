/- What functions of the program come to, row by row (made by a program of the workplace). -/
import Derived.Test.YtepaifhehlpbaaaDoorTXh
import Derived.Test.YtepaifhehlpbaaaDoorProg
import Derived.Test.YtepaifhehlpbaaaDoorNq
namespace Go.SX
open Go.Proofs
set_option maxRecDepth 100000

def laws_FnExactStartMachine_a0 (x3 : List (Int × ByteArray × Int)) (x4 : List (Int × Int)) : Bool :=
  ltI (laws_szCode_0 (1048576 : Int) x3 x4) (0 : Int)

def laws_FnExactStartMachine_a1 (x3 : List (Int × ByteArray × Int)) (x4 : List (Int × Int)) (x5 : List Int) (x6 : List (Int × Int × Int)) : Bool :=
  ltI (laws_szMemory_0 (laws_szCode_0 (1048576 : Int) x3 x4) x5 x6) (0 : Int)

def laws_FnExactStartMachine_a2 (x0 : Int) (x1 : Int) (x2 : Int) (x3 : List (Int × ByteArray × Int)) (x4 : List (Int × Int)) (x5 : List Int) (x6 : List (Int × Int × Int)) : Bool :=
  !laws_eqMachine_0 (0 : Int) (0 : Int) [] (smV x0 x1 x2 x3 x4 x5 x6) (smO x0 x1 x2 x3 x4 x5 x6) (smS x0 x1 x2 x3 x4 x5 x6) []
    (smV x0 x1 x2 x3 x4 x5 x6) (smO x0 x1 x2 x3 x4 x5 x6) (smS x0 x1 x2 x3 x4 x5 x6)

def laws_FnExactStartMachine_a3 (x0 : Int) (x1 : Int) (x2 : Int) (x3 : List (Int × ByteArray × Int)) (x4 : List (Int × Int)) (x5 : List Int) (x6 : List (Int × Int × Int)) : Bool :=
  smCode x0 x1 x2 x3 x4 x5 x6 != smCode x0 x1 x2 x3 x4 x5 x6

def laws_FnExactStartMachine_a4 (x0 : Int) (x1 : Int) (x2 : Int) (x3 : List (Int × ByteArray × Int)) (x4 : List (Int × Int)) (x5 : List Int) (x6 : List (Int × Int × Int)) : Bool :=
  bif laws_FnExactStartMachine_a2 x0 x1 x2 x3 x4 x5 x6 then true else laws_FnExactStartMachine_a3 x0 x1 x2 x3 x4 x5 x6

def laws_FnExactStartMachine_a5 (x3 : List (Int × ByteArray × Int)) (x4 : List (Int × Int)) (x5 : List Int) (x6 : List (Int × Int × Int)) : Bool :=
  ltI (laws_markMemory_0 (laws_markCode_0 (1 : Int) x3 x4) x5 x6) (0 : Int)

def laws_FnExactStartMachine_a6 (x0 : Int) (x1 : Int) (x2 : Int) (x3 : List (Int × ByteArray × Int)) (x4 : List (Int × Int)) (x5 : List Int) (x6 : List (Int × Int × Int)) : Bool :=
  bif bif laws_FnExactStartMachine_a5 x3 x4 x5 x6 then true else laws_FnExactStartMachine_a2 x0 x1 x2 x3 x4 x5 x6 then true
  else laws_FnExactStartMachine_a3 x0 x1 x2 x3 x4 x5 x6

def laws_FnExactStartMachine_a7 (x3 : List (Int × ByteArray × Int)) (x4 : List (Int × Int)) (x5 : List Int) (x6 : List (Int × Int × Int)) : List Int :=
  bif !laws_FnExactStartMachine_a5 x3 x4 x5 x6 && true then [] else []

def laws_FnExactStartMachine_a8 (x0 : Int) (x1 : Int) (x2 : Int) (x3 : List (Int × ByteArray × Int)) (x4 : List (Int × Int)) (x5 : List Int) (x6 : List (Int × Int × Int)) : List Int :=
  bif !laws_FnExactStartMachine_a5 x3 x4 x5 x6 && true then smV x0 x1 x2 x3 x4 x5 x6 else smV x0 x1 x2 x3 x4 x5 x6

def laws_FnExactStartMachine_a9 (x0 : Int) (x1 : Int) (x2 : Int) (x3 : List (Int × ByteArray × Int)) (x4 : List (Int × Int)) (x5 : List Int) (x6 : List (Int × Int × Int)) : List Int :=
  laws_markMachine_2 (1 : Int) (laws_FnExactStartMachine_a7 x3 x4 x5 x6) (laws_FnExactStartMachine_a8 x0 x1 x2 x3 x4 x5 x6)

def laws_FnExactStartMachine_a10 (x0 : Int) (x1 : Int) (x2 : Int) (x3 : List (Int × ByteArray × Int)) (x4 : List (Int × Int)) (x5 : List Int) (x6 : List (Int × Int × Int)) : List Int :=
  bif !laws_FnExactStartMachine_a5 x3 x4 x5 x6 && true then smO x0 x1 x2 x3 x4 x5 x6 else smO x0 x1 x2 x3 x4 x5 x6

def laws_FnExactStartMachine_a11 (x0 : Int) (x1 : Int) (x2 : Int) (x3 : List (Int × ByteArray × Int)) (x4 : List (Int × Int)) (x5 : List Int) (x6 : List (Int × Int × Int)) : List Int :=
  laws_markMachine_3 (1 : Int) (laws_FnExactStartMachine_a7 x3 x4 x5 x6) (laws_FnExactStartMachine_a8 x0 x1 x2 x3 x4 x5 x6)
  (laws_FnExactStartMachine_a10 x0 x1 x2 x3 x4 x5 x6)

def laws_FnExactStartMachine_a12 (x0 : Int) (x1 : Int) (x2 : Int) (x3 : List (Int × ByteArray × Int)) (x4 : List (Int × Int)) (x5 : List Int) (x6 : List (Int × Int × Int)) : List (Int × Int × Int) :=
  bif !laws_FnExactStartMachine_a5 x3 x4 x5 x6 && true then smS x0 x1 x2 x3 x4 x5 x6 else smS x0 x1 x2 x3 x4 x5 x6

def laws_FnExactStartMachine_a13 (x0 : Int) (x1 : Int) (x2 : Int) (x3 : List (Int × ByteArray × Int)) (x4 : List (Int × Int)) (x5 : List Int) (x6 : List (Int × Int × Int)) : List (Int × Int × Int) :=
  laws_markMachine_4 (1 : Int) (laws_FnExactStartMachine_a7 x3 x4 x5 x6) (laws_FnExactStartMachine_a8 x0 x1 x2 x3 x4 x5 x6)
  (laws_FnExactStartMachine_a10 x0 x1 x2 x3 x4 x5 x6) (laws_FnExactStartMachine_a12 x0 x1 x2 x3 x4 x5 x6)

def laws_FnExactStartMachine_a14 (x0 : Int) (x1 : Int) (x2 : Int) (x3 : List (Int × ByteArray × Int)) (x4 : List (Int × Int)) (x5 : List Int) (x6 : List (Int × Int × Int)) : Int :=
  laws_heldMachine_0 (1 : Int) (laws_markMachine_1 (1 : Int) (laws_FnExactStartMachine_a7 x3 x4 x5 x6))
  (laws_FnExactStartMachine_a9 x0 x1 x2 x3 x4 x5 x6) (laws_FnExactStartMachine_a11 x0 x1 x2 x3 x4 x5 x6)
  (laws_FnExactStartMachine_a13 x0 x1 x2 x3 x4 x5 x6)

def laws_FnExactStartMachine_a15 (x0 : Int) (x1 : Int) (x2 : Int) (x3 : List (Int × ByteArray × Int)) (x4 : List (Int × Int)) (x5 : List Int) (x6 : List (Int × Int × Int)) : Bool :=
  ltI (laws_FnExactStartMachine_a14 x0 x1 x2 x3 x4 x5 x6) (0 : Int)

def laws_FnExactStartMachine_a16 (x0 : Int) (x1 : Int) (x2 : Int) (x3 : List (Int × ByteArray × Int)) (x4 : List (Int × Int)) (x5 : List Int) (x6 : List (Int × Int × Int)) : Bool :=
  laws_FnExactStartMachine_a14 x0 x1 x2 x3 x4 x5 x6 !=
  laws_markMachine_0 (1 : Int) (laws_FnExactStartMachine_a7 x3 x4 x5 x6) (laws_FnExactStartMachine_a8 x0 x1 x2 x3 x4 x5 x6)
    (laws_FnExactStartMachine_a10 x0 x1 x2 x3 x4 x5 x6) (laws_FnExactStartMachine_a12 x0 x1 x2 x3 x4 x5 x6)

def laws_FnExactStartMachine_a17 (x0 : Int) (x1 : Int) (x2 : Int) (x3 : List (Int × ByteArray × Int)) (x4 : List (Int × Int)) (x5 : List Int) (x6 : List (Int × Int × Int)) : Bool :=
  bif
    !laws_eqMachine_0 (0 : Int) (0 : Int) [] (smV x0 x1 x2 x3 x4 x5 x6) (smO x0 x1 x2 x3 x4 x5 x6) (smS x0 x1 x2 x3 x4 x5 x6)
        (laws_FnExactStartMachine_a7 x3 x4 x5 x6) (laws_FnExactStartMachine_a8 x0 x1 x2 x3 x4 x5 x6)
        (laws_FnExactStartMachine_a10 x0 x1 x2 x3 x4 x5 x6) (laws_FnExactStartMachine_a12 x0 x1 x2 x3 x4 x5 x6) then
  true
  else laws_FnExactStartMachine_a3 x0 x1 x2 x3 x4 x5 x6

def laws_FnExactStartMachine_a18 (x3 : List (Int × ByteArray × Int)) (x4 : List (Int × Int)) (x5 : List Int) (x6 : List (Int × Int × Int)) : Bool :=
  laws_FnExactStartMachine_a0 x3 x4 || (laws_FnExactStartMachine_a1 x3 x4 x5 x6 || laws_toCode_0 x3 x4)

def laws_FnExactStartMachine_a19 (x3 : List (Int × ByteArray × Int)) (x4 : List (Int × Int)) (x5 : List Int) (x6 : List (Int × Int × Int)) : Bool :=
  laws_FnExactStartMachine_a0 x3 x4 || (laws_FnExactStartMachine_a1 x3 x4 x5 x6 || laws_toMemory_0 x5 x6)

def laws_FnExactStartMachine_a20 (x3 : List (Int × ByteArray × Int)) (x4 : List (Int × Int)) (x5 : List Int) (x6 : List (Int × Int × Int)) : Bool :=
  laws_FnExactStartMachine_a0 x3 x4 || (laws_FnExactStartMachine_a1 x3 x4 x5 x6 || smNd x3 x5 x6)

def laws_FnExactStartMachine_a21 (x0 : Int) (x1 : Int) (x2 : Int) (x3 : List (Int × ByteArray × Int)) (x4 : List (Int × Int)) (x5 : List Int) (x6 : List (Int × Int × Int)) : Bool :=
  laws_eqMachine_1 (0 : Int) (0 : Int) [] (smV x0 x1 x2 x3 x4 x5 x6) (smO x0 x1 x2 x3 x4 x5 x6) (smS x0 x1 x2 x3 x4 x5 x6) [] (smV x0 x1 x2 x3 x4 x5 x6)
  (smO x0 x1 x2 x3 x4 x5 x6)

def laws_FnExactStartMachine_a22 (x0 : Int) (x1 : Int) (x2 : Int) (x3 : List (Int × ByteArray × Int)) (x4 : List (Int × Int)) (x5 : List Int) (x6 : List (Int × Int × Int)) : Bool :=
  laws_heldMachine_1 (1 : Int) (laws_markMachine_1 (1 : Int) (laws_FnExactStartMachine_a7 x3 x4 x5 x6))
  (laws_FnExactStartMachine_a9 x0 x1 x2 x3 x4 x5 x6) (laws_FnExactStartMachine_a11 x0 x1 x2 x3 x4 x5 x6)
  (laws_FnExactStartMachine_a13 x0 x1 x2 x3 x4 x5 x6)

def laws_FnExactStartMachine_0 (x0 : Int) (x1 : Int) (x2 : Int) (x3 : List (Int × ByteArray × Int)) (x4 : List (Int × Int)) (x5 : List Int) (x6 : List (Int × Int × Int)) : Bool :=
  bif laws_FnExactStartMachine_a0 x3 x4 then true
  else
  bif laws_FnExactStartMachine_a1 x3 x4 x5 x6 then true
  else
    bif laws_FnExactStartMachine_a4 x0 x1 x2 x3 x4 x5 x6 then false
    else
      bif !laws_eqCode_0 x0 x1 x2 x0 x1 x2 x3 x4 x3 x4 then false
      else
        bif !laws_eqMemory_0 x5 x6 x5 x6 then false
        else
          bif laws_FnExactStartMachine_a6 x0 x1 x2 x3 x4 x5 x6 then false
          else
            bif laws_FnExactStartMachine_a15 x0 x1 x2 x3 x4 x5 x6 then false
            else
              bif laws_FnExactStartMachine_a16 x0 x1 x2 x3 x4 x5 x6 then false
              else
                bif laws_FnExactStartMachine_a17 x0 x1 x2 x3 x4 x5 x6 then false
                else
                  bif laws_FnExactStartMachine_a15 x0 x1 x2 x3 x4 x5 x6 then false
                  else bif laws_FnExactStartMachine_a16 x0 x1 x2 x3 x4 x5 x6 then false else true

def laws_FnExactStartMachine_1 (x0 : Int) (x1 : Int) (x2 : Int) (x3 : List (Int × ByteArray × Int)) (x4 : List (Int × Int)) (x5 : List Int) (x6 : List (Int × Int × Int)) : Bool :=
  allT
  [laws_szCode_1 (1048576 : Int) x3 x4, laws_FnExactStartMachine_a0 x3 x4 || laws_szMemory_1 (laws_szCode_0 (1048576 : Int) x3 x4) x5 x6,
    laws_FnExactStartMachine_a18 x3 x4 x5 x6, laws_FnExactStartMachine_a19 x3 x4 x5 x6, laws_FnExactStartMachine_a20 x3 x4 x5 x6,
    laws_FnExactStartMachine_a18 x3 x4 x5 x6, laws_FnExactStartMachine_a19 x3 x4 x5 x6, laws_FnExactStartMachine_a20 x3 x4 x5 x6,
    laws_FnExactStartMachine_a0 x3 x4 || (laws_FnExactStartMachine_a1 x3 x4 x5 x6 || laws_FnExactStartMachine_a21 x0 x1 x2 x3 x4 x5 x6),
    laws_FnExactStartMachine_a0 x3 x4 ||
      (laws_FnExactStartMachine_a1 x3 x4 x5 x6 || (laws_FnExactStartMachine_a4 x0 x1 x2 x3 x4 x5 x6 || laws_toCode_0 x3 x4)),
    laws_FnExactStartMachine_a0 x3 x4 ||
      (laws_FnExactStartMachine_a1 x3 x4 x5 x6 || (laws_FnExactStartMachine_a4 x0 x1 x2 x3 x4 x5 x6 || laws_eqCode_1 x0 x1 x2 x0 x1 x2 x3 x4 x3)),
    laws_FnExactStartMachine_a0 x3 x4 ||
      (laws_FnExactStartMachine_a1 x3 x4 x5 x6 ||
        (laws_FnExactStartMachine_a4 x0 x1 x2 x3 x4 x5 x6 || (!laws_eqCode_0 x0 x1 x2 x0 x1 x2 x3 x4 x3 x4 || laws_toMemory_0 x5 x6))),
    laws_FnExactStartMachine_a0 x3 x4 ||
      (laws_FnExactStartMachine_a1 x3 x4 x5 x6 ||
        (laws_FnExactStartMachine_a4 x0 x1 x2 x3 x4 x5 x6 || (!laws_eqCode_0 x0 x1 x2 x0 x1 x2 x3 x4 x3 x4 || laws_eqMemory_1 x5 x6 x5))),
    laws_FnExactStartMachine_a0 x3 x4 ||
      (laws_FnExactStartMachine_a1 x3 x4 x5 x6 ||
        (laws_FnExactStartMachine_a4 x0 x1 x2 x3 x4 x5 x6 ||
          (!laws_eqCode_0 x0 x1 x2 x0 x1 x2 x3 x4 x3 x4 || (!laws_eqMemory_0 x5 x6 x5 x6 || laws_markCode_3 (1 : Int) x3 x4)))),
    laws_FnExactStartMachine_a0 x3 x4 ||
      (laws_FnExactStartMachine_a1 x3 x4 x5 x6 ||
        (laws_FnExactStartMachine_a4 x0 x1 x2 x3 x4 x5 x6 ||
          (!laws_eqCode_0 x0 x1 x2 x0 x1 x2 x3 x4 x3 x4 ||
            (!laws_eqMemory_0 x5 x6 x5 x6 || laws_markMemory_3 (laws_markCode_0 (1 : Int) x3 x4) x5 x6)))),
    laws_FnExactStartMachine_a0 x3 x4 ||
      (laws_FnExactStartMachine_a1 x3 x4 x5 x6 ||
        (laws_FnExactStartMachine_a4 x0 x1 x2 x3 x4 x5 x6 ||
          (!laws_eqCode_0 x0 x1 x2 x0 x1 x2 x3 x4 x3 x4 ||
            (!laws_eqMemory_0 x5 x6 x5 x6 ||
              (!(!laws_FnExactStartMachine_a5 x3 x4 x5 x6 && true) || laws_FnExactStartMachine_a21 x0 x1 x2 x3 x4 x5 x6))))),
    laws_FnExactStartMachine_a0 x3 x4 ||
      (laws_FnExactStartMachine_a1 x3 x4 x5 x6 ||
        (laws_FnExactStartMachine_a4 x0 x1 x2 x3 x4 x5 x6 ||
          (!laws_eqCode_0 x0 x1 x2 x0 x1 x2 x3 x4 x3 x4 ||
            (!laws_eqMemory_0 x5 x6 x5 x6 ||
              (laws_FnExactStartMachine_a6 x0 x1 x2 x3 x4 x5 x6 ||
                laws_markMachine_5 (1 : Int) (laws_FnExactStartMachine_a7 x3 x4 x5 x6) (laws_FnExactStartMachine_a8 x0 x1 x2 x3 x4 x5 x6)
                  (laws_FnExactStartMachine_a10 x0 x1 x2 x3 x4 x5 x6) (laws_FnExactStartMachine_a12 x0 x1 x2 x3 x4 x5 x6)))))),
    laws_FnExactStartMachine_a0 x3 x4 ||
      (laws_FnExactStartMachine_a1 x3 x4 x5 x6 ||
        (laws_FnExactStartMachine_a4 x0 x1 x2 x3 x4 x5 x6 ||
          (!laws_eqCode_0 x0 x1 x2 x0 x1 x2 x3 x4 x3 x4 ||
            (!laws_eqMemory_0 x5 x6 x5 x6 ||
              (laws_FnExactStartMachine_a6 x0 x1 x2 x3 x4 x5 x6 || laws_FnExactStartMachine_a22 x0 x1 x2 x3 x4 x5 x6))))),
    laws_FnExactStartMachine_a0 x3 x4 ||
      (laws_FnExactStartMachine_a1 x3 x4 x5 x6 ||
        (laws_FnExactStartMachine_a4 x0 x1 x2 x3 x4 x5 x6 ||
          (!laws_eqCode_0 x0 x1 x2 x0 x1 x2 x3 x4 x3 x4 ||
            (!laws_eqMemory_0 x5 x6 x5 x6 ||
              (laws_FnExactStartMachine_a6 x0 x1 x2 x3 x4 x5 x6 ||
                (laws_FnExactStartMachine_a15 x0 x1 x2 x3 x4 x5 x6 ||
                  (laws_FnExactStartMachine_a16 x0 x1 x2 x3 x4 x5 x6 || laws_toCode_0 x3 x4))))))),
    laws_FnExactStartMachine_a0 x3 x4 ||
      (laws_FnExactStartMachine_a1 x3 x4 x5 x6 ||
        (laws_FnExactStartMachine_a4 x0 x1 x2 x3 x4 x5 x6 ||
          (!laws_eqCode_0 x0 x1 x2 x0 x1 x2 x3 x4 x3 x4 ||
            (!laws_eqMemory_0 x5 x6 x5 x6 ||
              (laws_FnExactStartMachine_a6 x0 x1 x2 x3 x4 x5 x6 ||
                (laws_FnExactStartMachine_a15 x0 x1 x2 x3 x4 x5 x6 ||
                  (laws_FnExactStartMachine_a16 x0 x1 x2 x3 x4 x5 x6 || laws_toMemory_0 x5 x6))))))),
    laws_FnExactStartMachine_a0 x3 x4 ||
      (laws_FnExactStartMachine_a1 x3 x4 x5 x6 ||
        (laws_FnExactStartMachine_a4 x0 x1 x2 x3 x4 x5 x6 ||
          (!laws_eqCode_0 x0 x1 x2 x0 x1 x2 x3 x4 x3 x4 ||
            (!laws_eqMemory_0 x5 x6 x5 x6 ||
              (laws_FnExactStartMachine_a6 x0 x1 x2 x3 x4 x5 x6 ||
                (laws_FnExactStartMachine_a15 x0 x1 x2 x3 x4 x5 x6 || (laws_FnExactStartMachine_a16 x0 x1 x2 x3 x4 x5 x6 || smNd x3 x5 x6))))))),
    laws_FnExactStartMachine_a0 x3 x4 ||
      (laws_FnExactStartMachine_a1 x3 x4 x5 x6 ||
        (laws_FnExactStartMachine_a4 x0 x1 x2 x3 x4 x5 x6 ||
          (!laws_eqCode_0 x0 x1 x2 x0 x1 x2 x3 x4 x3 x4 ||
            (!laws_eqMemory_0 x5 x6 x5 x6 ||
              (laws_FnExactStartMachine_a6 x0 x1 x2 x3 x4 x5 x6 ||
                (laws_FnExactStartMachine_a15 x0 x1 x2 x3 x4 x5 x6 ||
                  (laws_FnExactStartMachine_a16 x0 x1 x2 x3 x4 x5 x6 ||
                    laws_eqMachine_1 (0 : Int) (0 : Int) [] (smV x0 x1 x2 x3 x4 x5 x6) (smO x0 x1 x2 x3 x4 x5 x6) (smS x0 x1 x2 x3 x4 x5 x6)
                      (laws_FnExactStartMachine_a7 x3 x4 x5 x6) (laws_FnExactStartMachine_a8 x0 x1 x2 x3 x4 x5 x6)
                      (laws_FnExactStartMachine_a10 x0 x1 x2 x3 x4 x5 x6)))))))),
    laws_FnExactStartMachine_a0 x3 x4 ||
      (laws_FnExactStartMachine_a1 x3 x4 x5 x6 ||
        (laws_FnExactStartMachine_a4 x0 x1 x2 x3 x4 x5 x6 ||
          (!laws_eqCode_0 x0 x1 x2 x0 x1 x2 x3 x4 x3 x4 ||
            (!laws_eqMemory_0 x5 x6 x5 x6 ||
              (laws_FnExactStartMachine_a6 x0 x1 x2 x3 x4 x5 x6 ||
                (laws_FnExactStartMachine_a15 x0 x1 x2 x3 x4 x5 x6 ||
                  (laws_FnExactStartMachine_a16 x0 x1 x2 x3 x4 x5 x6 ||
                    (laws_FnExactStartMachine_a17 x0 x1 x2 x3 x4 x5 x6 || laws_FnExactStartMachine_a22 x0 x1 x2 x3 x4 x5 x6))))))))]

def F_laws_FnExactStartMachine : List SV → List Entry → Option Out
  | [.one ⟨true, [.val (.int .i64 x0), .val (.int .i64 x1), .val (.int .i64 x2), .ref 0, .ref 1]⟩, .one ⟨true, [.ref 2, .ref 3]⟩], [.row false 23 (.pair (.int .i64) (.pair (.str) (.int .i64))) x3, .row false 146 (.pair (.int .i64) (.int .i64)) x4, .row false 2 (.int .i64) x5, .row false 25 (.pair (.int .i64) (.pair (.int .i64) (.int .i64))) x6] => some ⟨(.one ⟨false, [(.val (.bool (laws_FnExactStartMachine_0 x0 x1 x2 x3 x4 x5 x6)))]⟩), [(.row false 23 (CTy.pair (CTy.int IntKind.i64) (CTy.pair CTy.str (CTy.int IntKind.i64))) x3), (.row false 146 (CTy.pair (CTy.int IntKind.i64) (CTy.int IntKind.i64)) x4), (.row false 2 (CTy.int IntKind.i64) x5), (.row false 25 (CTy.pair (CTy.int IntKind.i64) (CTy.pair (CTy.int IntKind.i64) (CTy.int IntKind.i64))) x6)], [], [(laws_FnExactStartMachine_1 x0 x1 x2 x3 x4 x5 x6)]⟩
  | _, _ => none

def p_laws_FnExactStartMachine : PF Tryd.prog := PF.ofG Tryd.prog [p_laws_szCode, PF.lend p_laws_szCode, PF.fz p_laws_szCode, p_laws_szMemory, PF.lend p_laws_szMemory, PF.fz p_laws_szMemory, n_spec_StartMachine, PF.lend n_spec_StartMachine, PF.fz n_spec_StartMachine, p_laws_toCode, PF.lend p_laws_toCode, PF.fz p_laws_toCode, p_laws_toMemory, PF.lend p_laws_toMemory, PF.fz p_laws_toMemory, n_impl_StartMachine, PF.lend n_impl_StartMachine, PF.fz n_impl_StartMachine, p_laws_eqMachine, PF.lend p_laws_eqMachine, PF.fz p_laws_eqMachine, p_laws_eqCode, PF.lend p_laws_eqCode, PF.fz p_laws_eqCode, p_laws_eqMemory, PF.lend p_laws_eqMemory, PF.fz p_laws_eqMemory, p_laws_markCode, PF.lend p_laws_markCode, PF.fz p_laws_markCode, p_laws_markMemory, PF.lend p_laws_markMemory, PF.fz p_laws_markMemory, p_laws_markMachine, PF.lend p_laws_markMachine, PF.fz p_laws_markMachine, p_laws_heldMachine, PF.lend p_laws_heldMachine, PF.fz p_laws_heldMachine] [] hmix 9 Tryd.f9 Tryd.func9 (fun c _ => LOk.nil c) F_laws_FnExactStartMachine (by
  intro vs es r h; unfold F_laws_FnExactStartMachine at h; split at h
  · cases h; kernel_rfl
  · cases h)

end Go.SX
