/- The abstract forms of the functions that are needed, each checked against the translation. No condition. -/
import Derived.Lib.TrailingZeros
import Derived.Test.YtjjndoigkhabdaaDoorAm1
import Derived.Test.YtjjndoigkhabdaaDoorProg
namespace Go.Proofs.YtjjndoigkhabdaaDoor
open Go Go.AM Go.Proofs

/-- the seat's program; the types whose comparison is taken; the functions that may write to what is older -/
def tzP : List AV → Option AV
  | [.int .u64 n] => if 0 ≤ n ∧ n ≤ 18446744073709551615 then some (.i (Lib.ctz 64 n.toNat : Nat)) else none
  | _ => none
def kd : Nat → Kd := fun f => if [69, 73, 78, 79, 83, 98, 101, 104, 105].contains f then .wrt else if [24].contains f then .closed else if f = 87 then .prim tzP else .ro
noncomputable def C : Cfg := { P := Tryd.prog, eqT := fun t => if t == 72 then some 2 else none, kd := kd }
/-- congou/congoulaw07.SquaresTells -/
def f4A : AFunc :=
{ nargs := 4, res := [.t 8], body :=
  (.seq
   (.reg none [⟨(some 8), .mv (.c (.b false)), none⟩])
   (.seq
    (.reg none [⟨(some 16), .mv (.t 0), none⟩,
      ⟨(some 17), .mv (.t 1), none⟩,
      ⟨(some 18), .call 19 [(.t 17)], none⟩,
      ⟨(some 19), .mv (.t 2), none⟩,
      ⟨(some 20), .mv (.t 3), none⟩,
      ⟨(some 21), .call 26 [(.t 16), (.t 18), (.t 19), (.t 20)], none⟩,
      ⟨(some 15), .mv (.t 21), none⟩,
      ⟨(some 22), .extr (.t 15) 0, none⟩,
      ⟨(some 23), .extr (.t 15) 1, none⟩,
      ⟨(some 24), .extr (.t 15) 2, none⟩,
      ⟨(some 9), .mv (.t 22), none⟩,
      ⟨(some 10), .mv (.t 23), none⟩,
      ⟨(some 11), .mv (.t 24), none⟩])
    (.seq
     (.seq
      (.reg none [⟨(some 25), .mv (.t 0), none⟩,
        ⟨(some 26), .mv (.t 1), none⟩,
        ⟨(some 27), .call 23 [(.t 25), (.t 26)], none⟩,
        ⟨(some 28), .un .not (.t 27), none⟩,
        ⟨(some 29), .mv (.t 28), none⟩,
        ⟨(some 30), .mv (.t 0), some (29, false)⟩,
        ⟨(some 31), .mv (.t 2), some (29, false)⟩,
        ⟨(some 32), .call 20 [(.t 30), (.t 31)], some (29, false)⟩,
        ⟨(some 33), .un .not (.t 32), some (29, false)⟩,
        ⟨(some 34), .pick (.t 29) (.c (.b true)) (.t 33), none⟩,
        ⟨(some 35), .mv (.t 34), none⟩,
        ⟨(some 36), .mv (.t 0), some (35, false)⟩,
        ⟨(some 37), .mv (.t 3), some (35, false)⟩,
        ⟨(some 38), .call 20 [(.t 36), (.t 37)], some (35, false)⟩,
        ⟨(some 39), .un .not (.t 38), some (35, false)⟩,
        ⟨(some 40), .pick (.t 35) (.c (.b true)) (.t 39), none⟩,
        ⟨(some 41), .mv (.t 40), none⟩,
        ⟨(some 42), .mv (.t 2), some (41, false)⟩,
        ⟨(some 43), .mv (.t 3), some (41, false)⟩,
        ⟨(some 44), .bin .and (.t 42) (.t 43), some (41, false)⟩,
        ⟨(some 45), .bin .neq (.t 44) (.c (.int .i64 0)), some (41, false)⟩,
        ⟨(some 46), .pick (.t 41) (.c (.b true)) (.t 45), none⟩])
      (.cond (.t 46)
       (.seq
        (.reg none [⟨(some 47), .mv (.t 9), none⟩,
          ⟨(some 48), .bin .eql (.t 47) (.c (.int .i64 0)), none⟩,
          ⟨(some 49), .mv (.t 48), none⟩,
          ⟨(some 50), .mv (.t 10), some (49, true)⟩,
          ⟨(some 51), .bin .eql (.t 50) (.c (.int .i64 0)), some (49, true)⟩,
          ⟨(some 52), .pick (.t 49) (.t 51) (.c (.b false)), none⟩,
          ⟨(some 53), .mv (.t 52), none⟩,
          ⟨(some 54), .mv (.t 11), some (53, true)⟩,
          ⟨(some 55), .bin .eql (.t 54) (.c (.int .i64 2)), some (53, true)⟩,
          ⟨(some 56), .pick (.t 53) (.t 55) (.c (.b false)), none⟩,
          ⟨(some 57), .mv (.t 56), none⟩,
          ⟨(some 58), .call 24 [], some (57, true)⟩,
          ⟨(some 59), .pick (.t 57) (.t 58) (.c (.b false)), none⟩,
          ⟨(some 8), .mv (.t 59), none⟩])
        .ret)
       .skip))
     (.seq
      (.reg none [⟨(some 61), .mv (.t 0), none⟩,
        ⟨(some 62), .mv (.t 1), none⟩,
        ⟨(some 63), .mv (.t 2), none⟩,
        ⟨(some 64), .mv (.t 3), none⟩,
        ⟨(some 65), .call 27 [(.t 61), (.t 62), (.t 63), (.t 64)], none⟩,
        ⟨(some 60), .mv (.t 65), none⟩,
        ⟨(some 66), .extr (.t 60) 0, none⟩,
        ⟨(some 67), .extr (.t 60) 1, none⟩,
        ⟨(some 68), .extr (.t 60) 2, none⟩,
        ⟨(some 12), .mv (.t 66), none⟩,
        ⟨(some 13), .mv (.t 67), none⟩,
        ⟨(some 14), .mv (.t 68), none⟩])
      (.seq
       (.reg none [⟨(some 69), .mv (.t 9), none⟩,
         ⟨(some 70), .mv (.t 12), none⟩,
         ⟨(some 71), .bin .eql (.t 69) (.t 70), none⟩,
         ⟨(some 72), .mv (.t 71), none⟩,
         ⟨(some 73), .mv (.t 10), some (72, true)⟩,
         ⟨(some 74), .mv (.t 13), some (72, true)⟩,
         ⟨(some 75), .bin .eql (.t 73) (.t 74), some (72, true)⟩,
         ⟨(some 76), .pick (.t 72) (.t 75) (.c (.b false)), none⟩,
         ⟨(some 77), .mv (.t 76), none⟩,
         ⟨(some 78), .mv (.t 11), some (77, true)⟩,
         ⟨(some 79), .mv (.t 14), some (77, true)⟩,
         ⟨(some 80), .bin .eql (.t 78) (.t 79), some (77, true)⟩,
         ⟨(some 81), .pick (.t 77) (.t 80) (.c (.b false)), none⟩,
         ⟨(some 82), .mv (.t 81), none⟩,
         ⟨(some 83), .call 24 [], some (82, true)⟩,
         ⟨(some 84), .pick (.t 82) (.t 83) (.c (.b false)), none⟩,
         ⟨(some 8), .mv (.t 84), none⟩])
       .ret))))) }
theorem f4P : prepF C Tryd.f4 = some f4A := by kernel_rfl

/-- congou/squares.Blocks -/
def f17A : AFunc :=
{ nargs := 2, res := [.t 4, .t 5], body :=
  (.seq
   (.reg none [⟨(some 4), .mv (.c .nils), none⟩,
     ⟨(some 5), .mv (.c (.int .i64 0)), none⟩])
   (.seq
    (.seq
     (.reg none [⟨(some 6), .mv (.t 0), none⟩,
       ⟨(some 7), .mv (.t 1), none⟩,
       ⟨(some 8), .call 55 [(.t 6), (.t 7)], none⟩,
       ⟨(some 9), .un .not (.t 8), none⟩])
     (.cond (.t 9)
      (.seq
       (.reg none [⟨(some 4), .mv (.c .nils), none⟩,
         ⟨(some 5), .mv (.c (.int .i64 2)), none⟩])
       .ret)
      .skip))
    (.seq
     (.reg none [⟨(some 10), .mv (.t 1), none⟩,
       ⟨(some 11), .call 56 [(.t 10)], none⟩,
       ⟨(some 4), .mv (.t 11), none⟩,
       ⟨(some 5), .mv (.c (.int .i64 0)), none⟩])
     .ret))) }
theorem f17P : prepF C Tryd.f17 = some f17A := by kernel_rfl

/-- congou/congoulaw07.list -/
def f19A : AFunc :=
{ nargs := 1, res := [.t 2], body :=
  (.seq
   (.reg none [⟨(some 2), .mv (.c .nils), none⟩])
   (.seq
    (.reg none [⟨(some 3), .mv (.t 0), none⟩,
      ⟨(some 4), .mv (.t 0), none⟩,
      ⟨(some 5), .len (.t 4), none⟩,
      ⟨(some 6), .mn [(.t 5), (.c (.int .i64 8))], none⟩,
      ⟨(some 7), .slice 1 (.t 3) none (some (.t 6)) none, none⟩,
      ⟨(some 8), .call 33 [(.t 7)], none⟩,
      ⟨(some 2), .mv (.t 8), none⟩])
    .ret)) }
theorem f19P : prepF C Tryd.f19 = some f19A := by kernel_rfl

/-- congou/congouref07.Set -/
def f20A : AFunc :=
{ nargs := 2, res := [.t 4], body :=
  (.seq
   (.reg none [⟨(some 4), .mv (.c (.b false)), none⟩])
   (.seq
    (.reg none [⟨(some 5), .mv (.t 0), none⟩,
      ⟨(some 6), .call 59 [(.t 5)], none⟩,
      ⟨(some 7), .mv (.t 6), none⟩,
      ⟨(some 8), .mv (.t 1), some (7, true)⟩,
      ⟨(some 9), .bin .geq (.t 8) (.c (.int .i64 0)), some (7, true)⟩,
      ⟨(some 10), .pick (.t 7) (.t 9) (.c (.b false)), none⟩,
      ⟨(some 11), .mv (.t 10), none⟩,
      ⟨(some 12), .mv (.t 1), some (11, true)⟩,
      ⟨(some 13), .mv (.t 0), some (11, true)⟩,
      ⟨(some 14), .bin .shl (.c (.int .i64 1)) (.t 13), some (11, true)⟩,
      ⟨(some 15), .bin .lss (.t 12) (.t 14), some (11, true)⟩,
      ⟨(some 16), .pick (.t 11) (.t 15) (.c (.b false)), none⟩,
      ⟨(some 4), .mv (.t 16), none⟩])
    .ret)) }
theorem f20P : prepF C Tryd.f20 = some f20A := by kernel_rfl

/-- slices.Equal[[]int,int] -/
def f21A : AFunc :=
{ nargs := 2, res := [.t 4], body :=
  (.seq
   (.reg none [⟨(some 4), .mv (.c (.b false)), none⟩])
   (.seq
    (.seq
     (.reg none [⟨(some 6), .mv (.t 0), none⟩,
       ⟨(some 7), .len (.t 6), none⟩,
       ⟨(some 8), .mv (.t 1), none⟩,
       ⟨(some 9), .len (.t 8), none⟩,
       ⟨(some 10), .bin .neq (.t 7) (.t 9), none⟩])
     (.cond (.t 10)
      (.seq
       (.reg none [⟨(some 4), .mv (.c (.b false)), none⟩])
       .ret)
      .skip))
    (.seq
     (.seq
      (.reg none [⟨(some 11), .mv (.t 0), none⟩,
        ⟨(some 12), .len (.t 11), none⟩,
        ⟨(some 13), .mv (.c (.int .i64 0)), none⟩])
      (.block 0
       (.loop
        (.seq
         (.reg none [⟨(some 14), .bin .lss (.t 13) (.t 12), none⟩])
         (.seq
          (.cond (.t 14)
           .skip
           (.exit 0))
          (.seq
           (.block 1
            (.seq
             (.reg none [⟨(some 15), .mv (.t 13), none⟩,
               ⟨(some 5), .mv (.t 15), none⟩])
             (.seq
              (.reg (some []) [⟨(some 16), .mv (.t 0), none⟩,
                ⟨(some 17), .mv (.t 5), none⟩,
                ⟨(some 18), .iaddr 1 (.t 16) (.t 17), none⟩,
                ⟨(some 19), .load none (.t 18), none⟩,
                ⟨(some 20), .mv (.t 1), none⟩,
                ⟨(some 21), .mv (.t 5), none⟩,
                ⟨(some 22), .iaddr 1 (.t 20) (.t 21), none⟩,
                ⟨(some 23), .load none (.t 22), none⟩,
                ⟨(some 24), .bin .neq (.t 19) (.t 23), none⟩])
              (.cond (.t 24)
               (.seq
                (.reg none [⟨(some 4), .mv (.c (.b false)), none⟩])
                .ret)
               .skip))))
           (.reg none [⟨(some 25), .bin .add (.t 13) (.c (.int .i64 1)), none⟩,
             ⟨(some 13), .mv (.t 25), none⟩])))))))
     (.seq
      (.reg none [⟨(some 4), .mv (.c (.b true)), none⟩])
      .ret)))) }
theorem f21P : prepF C Tryd.f21 = some f21A := by kernel_rfl

/-- congou/congouref07.Blocks -/
def f22A : AFunc :=
{ nargs := 2, res := [.t 4], body :=
  (.seq
   (.reg none [⟨(some 4), .mv (.c .nils), none⟩])
   (.seq
    (.reg none [⟨(some 5), .mv (.c .nils), none⟩])
    (.seq
     (.reg none [⟨(some 6), .mv (.c (.int .i64 0)), none⟩])
     (.seq
      (.seq
       (.reg none [⟨(some 8), .mv (.t 0), none⟩,
         ⟨(some 9), .bin .add (.t 8) (.c (.int .i64 1)), none⟩,
         ⟨(some 10), .mv (.c (.int .i64 0)), none⟩])
       (.block 0
        (.loop
         (.seq
          (.reg none [⟨(some 11), .bin .lss (.t 10) (.t 9), none⟩])
          (.seq
           (.cond (.t 11)
            .skip
            (.exit 0))
           (.seq
            (.block 1
             (.seq
              (.reg none [⟨(some 12), .mv (.t 10), none⟩,
                ⟨(some 7), .mv (.t 12), none⟩])
              (.seq
               (.seq
                (.reg none [⟨(some 13), .mv (.t 1), none⟩,
                  ⟨(some 14), .mv (.t 7), none⟩,
                  ⟨(some 15), .bin .shr (.t 13) (.t 14), none⟩,
                  ⟨(some 16), .bin .and (.t 15) (.c (.int .i64 1)), none⟩,
                  ⟨(some 17), .bin .eql (.t 16) (.c (.int .i64 1)), none⟩])
                (.cond (.t 17)
                 (.seq
                  (.reg none [⟨(some 18), .mv (.t 6), none⟩,
                    ⟨(some 19), .bin .add (.t 18) (.c (.int .i64 1)), none⟩,
                    ⟨(some 6), .mv (.t 19), none⟩])
                  (.exit 1))
                 .skip))
               (.seq
                (.seq
                 (.reg none [⟨(some 20), .mv (.t 6), none⟩,
                   ⟨(some 21), .bin .gtr (.t 20) (.c (.int .i64 0)), none⟩])
                 (.cond (.t 21)
                  (.reg none [⟨(some 22), .mv (.t 5), none⟩,
                    ⟨(some 23), .mv (.t 6), none⟩,
                    ⟨(some 24), .bslice [(.int .i64 0)] 1 1 [(0, (.t 23))], none⟩,
                    ⟨(some 25), .append 1 8 (.t 22) (.t 24), none⟩,
                    ⟨(some 5), .mv (.t 25), none⟩])
                  .skip))
                (.reg none [⟨(some 6), .mv (.c (.int .i64 0)), none⟩])))))
            (.reg none [⟨(some 26), .bin .add (.t 10) (.c (.int .i64 1)), none⟩,
              ⟨(some 10), .mv (.t 26), none⟩])))))))
      (.seq
       (.reg none [⟨(some 27), .mv (.t 5), none⟩,
         ⟨(some 4), .mv (.t 27), none⟩])
       .ret))))) }
theorem f22P : prepF C Tryd.f22 = some f22A := by kernel_rfl

/-- congou/congouref07.Clue -/
def f23A : AFunc :=
{ nargs := 2, res := [.t 4], body :=
  (.seq
   (.reg none [⟨(some 4), .mv (.c (.b false)), none⟩])
   (.seq
    (.reg none [⟨(some 5), .mv (.t 0), none⟩,
      ⟨(some 6), .call 59 [(.t 5)], none⟩,
      ⟨(some 7), .mv (.t 6), none⟩,
      ⟨(some 8), .mv (.t 0), some (7, true)⟩,
      ⟨(some 9), .mv (.t 1), some (7, true)⟩,
      ⟨(some 10), .call 25 [(.t 8), (.t 9)], some (7, true)⟩,
      ⟨(some 11), .len (.t 10), some (7, true)⟩,
      ⟨(some 12), .bin .gtr (.t 11) (.c (.int .i64 0)), some (7, true)⟩,
      ⟨(some 13), .pick (.t 7) (.t 12) (.c (.b false)), none⟩,
      ⟨(some 4), .mv (.t 13), none⟩])
    .ret)) }
theorem f23P : prepF C Tryd.f23 = some f23A := by kernel_rfl

/-- congou/congoulaw07.awake -/
def f24A : AFunc :=
{ nargs := 0, res := [.t 0], body :=
  (.seq
   (.reg none [⟨(some 0), .mv (.c (.b false)), none⟩])
   (.seq
    (.reg none [⟨(some 4), .call 17 [(.c (.int .i64 5)), (.c (.int .i64 23))], none⟩,
      ⟨(some 3), .mv (.t 4), none⟩,
      ⟨(some 5), .extr (.t 3) 0, none⟩,
      ⟨(some 6), .extr (.t 3) 1, none⟩,
      ⟨(some 1), .mv (.t 5), none⟩,
      ⟨(some 2), .mv (.t 6), none⟩])
    (.seq
     (.reg none [⟨(some 7), .mv (.t 2), none⟩,
       ⟨(some 8), .bin .eql (.t 7) (.c (.int .i64 0)), none⟩,
       ⟨(some 9), .mv (.t 8), none⟩,
       ⟨(some 10), .mv (.t 1), some (9, true)⟩,
       ⟨(some 11), .bslice [(.int .i64 0)] 2 1 [(0, (.c (.int .i64 3))), (1, (.c (.int .i64 1)))], some (9, true)⟩,
       ⟨(some 12), .call 21 [(.t 10), (.t 11)], some (9, true)⟩,
       ⟨(some 13), .pick (.t 9) (.t 12) (.c (.b false)), none⟩,
       ⟨(some 0), .mv (.t 13), none⟩])
     .ret))) }
theorem f24P : prepF C Tryd.f24 = some f24A := by kernel_rfl

/-- congou/congouref07.Lines -/
def f25A : AFunc :=
{ nargs := 2, res := [.t 4], body :=
  (.seq
   (.reg none [⟨(some 4), .mv (.c .nils), none⟩])
   (.seq
    (.reg none [⟨(some 5), .mv (.c .nils), none⟩])
    (.seq
     (.seq
      (.reg none [⟨(some 7), .mv (.t 0), none⟩,
        ⟨(some 8), .bin .shl (.c (.int .i64 1)) (.t 7), none⟩,
        ⟨(some 9), .mv (.c (.int .i64 0)), none⟩])
      (.block 0
       (.loop
        (.seq
         (.reg none [⟨(some 10), .bin .lss (.t 9) (.t 8), none⟩])
         (.seq
          (.cond (.t 10)
           .skip
           (.exit 0))
          (.seq
           (.block 1
            (.seq
             (.reg none [⟨(some 11), .mv (.t 9), none⟩,
               ⟨(some 6), .mv (.t 11), none⟩])
             (.seq
              (.reg none [⟨(some 12), .mv (.t 0), none⟩,
                ⟨(some 13), .mv (.t 6), none⟩,
                ⟨(some 14), .call 22 [(.t 12), (.t 13)], none⟩,
                ⟨(some 15), .mv (.t 1), none⟩,
                ⟨(some 16), .call 60 [(.t 14), (.t 15)], none⟩])
              (.cond (.t 16)
               (.reg none [⟨(some 17), .mv (.t 5), none⟩,
                 ⟨(some 18), .mv (.t 6), none⟩,
                 ⟨(some 19), .bslice [(.int .i64 0)] 1 1 [(0, (.t 18))], none⟩,
                 ⟨(some 20), .append 1 8 (.t 17) (.t 19), none⟩,
                 ⟨(some 5), .mv (.t 20), none⟩])
               .skip))))
           (.reg none [⟨(some 21), .bin .add (.t 9) (.c (.int .i64 1)), none⟩,
             ⟨(some 9), .mv (.t 21), none⟩])))))))
     (.seq
      (.reg none [⟨(some 22), .mv (.t 5), none⟩,
        ⟨(some 4), .mv (.t 22), none⟩])
      .ret)))) }
theorem f25P : prepF C Tryd.f25 = some f25A := by kernel_rfl

/-- congou/squares.Tell -/
def f26A : AFunc :=
{ nargs := 4, res := [.t 8, .t 9, .t 10], body :=
  (.seq
   (.reg none [⟨(some 8), .mv (.c (.int .i64 0)), none⟩,
     ⟨(some 9), .mv (.c (.int .i64 0)), none⟩,
     ⟨(some 10), .mv (.c (.int .i64 0)), none⟩])
   (.seq
    (.seq
     (.reg none [⟨(some 13), .mv (.t 0), none⟩,
       ⟨(some 14), .mv (.t 1), none⟩,
       ⟨(some 15), .call 57 [(.t 13), (.t 14)], none⟩,
       ⟨(some 16), .un .not (.t 15), none⟩,
       ⟨(some 17), .mv (.t 16), none⟩,
       ⟨(some 18), .mv (.t 0), some (17, false)⟩,
       ⟨(some 19), .mv (.t 2), some (17, false)⟩,
       ⟨(some 20), .call 55 [(.t 18), (.t 19)], some (17, false)⟩,
       ⟨(some 21), .un .not (.t 20), some (17, false)⟩,
       ⟨(some 22), .pick (.t 17) (.c (.b true)) (.t 21), none⟩,
       ⟨(some 23), .mv (.t 22), none⟩,
       ⟨(some 24), .mv (.t 0), some (23, false)⟩,
       ⟨(some 25), .mv (.t 3), some (23, false)⟩,
       ⟨(some 26), .call 55 [(.t 24), (.t 25)], some (23, false)⟩,
       ⟨(some 27), .un .not (.t 26), some (23, false)⟩,
       ⟨(some 28), .pick (.t 23) (.c (.b true)) (.t 27), none⟩,
       ⟨(some 29), .mv (.t 28), none⟩,
       ⟨(some 30), .mv (.t 2), some (29, false)⟩,
       ⟨(some 31), .mv (.t 3), some (29, false)⟩,
       ⟨(some 32), .bin .and (.t 30) (.t 31), some (29, false)⟩,
       ⟨(some 33), .bin .neq (.t 32) (.c (.int .i64 0)), some (29, false)⟩,
       ⟨(some 34), .pick (.t 29) (.c (.b true)) (.t 33), none⟩])
     (.cond (.t 34)
      (.seq
       (.reg none [⟨(some 8), .mv (.c (.int .i64 0)), none⟩,
         ⟨(some 9), .mv (.c (.int .i64 0)), none⟩,
         ⟨(some 10), .mv (.c (.int .i64 2)), none⟩])
       .ret)
      .skip))
    (.seq
     (.reg none [⟨(some 36), .mv (.t 0), none⟩,
       ⟨(some 37), .mv (.t 1), none⟩,
       ⟨(some 38), .mv (.t 2), none⟩,
       ⟨(some 39), .mv (.t 3), none⟩,
       ⟨(some 40), .build [(.int .i64 0), (.int .i64 0)] [(0, 1, (.t 38)), (1, 1, (.t 39))], none⟩,
       ⟨(some 41), .call 61 [(.t 36), (.t 37), (.t 40)], none⟩,
       ⟨(some 35), .mv (.t 41), none⟩,
       ⟨(some 42), .extr (.t 35) 0, none⟩,
       ⟨(some 43), .extr (.t 35) 1, none⟩,
       ⟨(some 11), .alloc [(.int .i64 0), (.int .i64 0)], none⟩,
       ⟨none, .store 2 (.t 11) (.t 42), none⟩,
       ⟨(some 12), .mv (.t 43), none⟩])
     (.seq
      (.seq
       (.reg none [⟨(some 44), .mv (.t 12), none⟩,
         ⟨(some 45), .un .not (.t 44), none⟩])
       (.cond (.t 45)
        (.seq
         (.reg none [⟨(some 8), .mv (.c (.int .i64 0)), none⟩,
           ⟨(some 9), .mv (.c (.int .i64 0)), none⟩,
           ⟨(some 10), .mv (.c (.int .i64 4)), none⟩])
         .ret)
        .skip))
      (.seq
       (.reg (some []) [⟨(some 46), .faddr 0 (.t 11), none⟩,
         ⟨(some 47), .load none (.t 46), none⟩,
         ⟨(some 48), .faddr 1 (.t 11), none⟩,
         ⟨(some 49), .load none (.t 48), none⟩,
         ⟨(some 8), .mv (.t 47), none⟩,
         ⟨(some 9), .mv (.t 49), none⟩,
         ⟨(some 10), .mv (.c (.int .i64 0)), none⟩])
       .ret))))) }
theorem f26P : prepF C Tryd.f26 = some f26A := by kernel_rfl

/-- congou/congouref07.Tell -/
def f27A : AFunc :=
{ nargs := 4, res := [.t 8, .t 9, .t 10], body :=
  (.seq
   (.reg none [⟨(some 8), .mv (.c (.int .i64 0)), none⟩,
     ⟨(some 9), .mv (.c (.int .i64 0)), none⟩,
     ⟨(some 10), .mv (.c (.int .i64 0)), none⟩])
   (.seq
    (.reg none [⟨(some 17), .mv (.t 0), none⟩,
      ⟨(some 18), .bin .shl (.c (.int .i64 1)) (.t 17), none⟩,
      ⟨(some 19), .bin .sub (.t 18) (.c (.int .i64 1)), none⟩,
      ⟨(some 11), .mv (.t 19), none⟩])
    (.seq
     (.reg none [⟨(some 20), .mv (.t 11), none⟩,
       ⟨(some 21), .mv (.t 11), none⟩,
       ⟨(some 12), .mv (.t 20), none⟩,
       ⟨(some 13), .mv (.t 21), none⟩,
       ⟨(some 14), .mv (.c (.b false)), none⟩])
     (.seq
      (.seq
       (.reg none [⟨(some 22), .mv (.t 0), none⟩,
         ⟨(some 23), .mv (.t 1), none⟩,
         ⟨(some 24), .call 25 [(.t 22), (.t 23)], none⟩,
         ⟨(some 25), .len (.t 24), none⟩,
         ⟨(some 26), .mv (.c (.int .i64 0)), none⟩])
       (.block 0
        (.loop
         (.seq
          (.reg none [⟨(some 27), .bin .lss (.t 26) (.t 25), none⟩])
          (.seq
           (.cond (.t 27)
            .skip
            (.exit 0))
           (.seq
            (.block 1
             (.seq
              (.reg none [⟨(some 28), .iaddr 1 (.t 24) (.t 26), none⟩,
                ⟨(some 29), .load none (.t 28), none⟩,
                ⟨(some 16), .mv (.t 29), none⟩])
              (.seq
               (.reg none [⟨(some 30), .mv (.t 16), none⟩,
                 ⟨(some 31), .mv (.t 2), none⟩,
                 ⟨(some 32), .bin .and (.t 30) (.t 31), none⟩,
                 ⟨(some 33), .mv (.t 2), none⟩,
                 ⟨(some 34), .bin .eql (.t 32) (.t 33), none⟩,
                 ⟨(some 35), .mv (.t 34), none⟩,
                 ⟨(some 36), .mv (.t 16), some (35, true)⟩,
                 ⟨(some 37), .mv (.t 3), some (35, true)⟩,
                 ⟨(some 38), .bin .and (.t 36) (.t 37), some (35, true)⟩,
                 ⟨(some 39), .bin .eql (.t 38) (.c (.int .i64 0)), some (35, true)⟩,
                 ⟨(some 40), .pick (.t 35) (.t 39) (.c (.b false)), none⟩])
               (.cond (.t 40)
                (.seq
                 (.reg none [⟨(some 41), .mv (.t 12), none⟩,
                   ⟨(some 42), .mv (.t 16), none⟩,
                   ⟨(some 43), .bin .and (.t 41) (.t 42), none⟩,
                   ⟨(some 12), .mv (.t 43), none⟩])
                 (.seq
                  (.reg none [⟨(some 44), .mv (.t 13), none⟩,
                    ⟨(some 45), .mv (.t 11), none⟩,
                    ⟨(some 46), .mv (.t 16), none⟩,
                    ⟨(some 47), .bin .andNot (.t 45) (.t 46), none⟩,
                    ⟨(some 48), .bin .and (.t 44) (.t 47), none⟩,
                    ⟨(some 13), .mv (.t 48), none⟩])
                  (.reg none [⟨(some 14), .mv (.c (.b true)), none⟩])))
                .skip))))
            (.reg none [⟨(some 49), .bin .add (.t 26) (.c (.int .i64 1)), none⟩,
              ⟨(some 26), .mv (.t 49), none⟩])))))))
      (.seq
       (.seq
        (.reg none [⟨(some 50), .mv (.t 14), none⟩,
          ⟨(some 51), .un .not (.t 50), none⟩])
        (.cond (.t 51)
         (.seq
          (.reg none [⟨(some 8), .mv (.c (.int .i64 0)), none⟩,
            ⟨(some 9), .mv (.c (.int .i64 0)), none⟩,
            ⟨(some 10), .mv (.c (.int .i64 4)), none⟩])
          .ret)
         .skip))
       (.seq
        (.reg none [⟨(some 52), .mv (.t 12), none⟩,
          ⟨(some 53), .mv (.t 13), none⟩,
          ⟨(some 8), .mv (.t 52), none⟩,
          ⟨(some 9), .mv (.t 53), none⟩,
          ⟨(some 10), .mv (.c (.int .i64 0)), none⟩])
        .ret)))))) }
theorem f27P : prepF C Tryd.f27 = some f27A := by kernel_rfl

/-- slices.Clone[[]int,int] -/
def f33A : AFunc :=
{ nargs := 1, res := [.t 2], body :=
  (.seq
   (.reg none [⟨(some 2), .mv (.c .nils), none⟩])
   (.seq
    (.seq
     (.reg none [⟨(some 3), .mv (.t 0), none⟩,
       ⟨(some 4), .seq false (.t 3) (.c .nils), none⟩])
     (.cond (.t 4)
      (.seq
       (.reg none [⟨(some 2), .mv (.c .nils), none⟩])
       .ret)
      .skip))
    (.seq
     (.reg none [⟨(some 5), .bslice [(.int .i64 0)] 0 1 [], none⟩,
       ⟨(some 6), .mv (.t 0), none⟩,
       ⟨(some 7), .append 1 8 (.t 5) (.t 6), none⟩,
       ⟨(some 2), .mv (.t 7), none⟩])
     .ret))) }
theorem f33P : prepF C Tryd.f33 = some f33A := by kernel_rfl

/-- congou/squares.isSet -/
def f55A : AFunc :=
{ nargs := 2, res := [.t 4], body :=
  (.seq
   (.reg none [⟨(some 4), .mv (.c (.b false)), none⟩])
   (.seq
    (.reg none [⟨(some 5), .mv (.t 0), none⟩,
      ⟨(some 6), .call 86 [(.t 5)], none⟩,
      ⟨(some 7), .mv (.t 6), none⟩,
      ⟨(some 8), .mv (.t 1), some (7, true)⟩,
      ⟨(some 9), .bin .geq (.t 8) (.c (.int .i64 0)), some (7, true)⟩,
      ⟨(some 10), .pick (.t 7) (.t 9) (.c (.b false)), none⟩,
      ⟨(some 11), .mv (.t 10), none⟩,
      ⟨(some 12), .mv (.t 1), some (11, true)⟩,
      ⟨(some 13), .mv (.t 0), some (11, true)⟩,
      ⟨(some 14), .bin .shl (.c (.int .i64 1)) (.t 13), some (11, true)⟩,
      ⟨(some 15), .bin .lss (.t 12) (.t 14), some (11, true)⟩,
      ⟨(some 16), .pick (.t 11) (.t 15) (.c (.b false)), none⟩,
      ⟨(some 4), .mv (.t 16), none⟩])
    .ret)) }
theorem f55P : prepF C Tryd.f55 = some f55A := by kernel_rfl

/-- congou/squares.blocks -/
def f56A : AFunc :=
{ nargs := 1, res := [.t 2], body :=
  (.seq
   (.reg none [⟨(some 2), .mv (.c .nils), none⟩])
   (.seq
    (.reg none [⟨(some 3), .mv (.c .nils), none⟩])
    (.seq
     (.seq
      (.reg none [⟨(some 6), .mv (.t 0), none⟩,
        ⟨(some 7), .conv .u64 (.t 6), none⟩,
        ⟨(some 4), .mv (.t 7), none⟩])
      (.block 0
       (.loop
        (.seq
         (.seq
          (.reg none [⟨(some 8), .mv (.t 4), none⟩,
            ⟨(some 9), .bin .neq (.t 8) (.c (.int .u64 0)), none⟩])
          (.cond (.t 9)
           .skip
           (.exit 0)))
         (.block 1
          (.seq
           (.reg none [⟨(some 10), .mv (.t 4), none⟩,
             ⟨(some 11), .mv (.t 4), none⟩,
             ⟨(some 12), .call 87 [(.t 11)], none⟩,
             ⟨(some 13), .bin .shr (.t 10) (.t 12), none⟩,
             ⟨(some 4), .mv (.t 13), none⟩])
           (.seq
            (.reg none [⟨(some 14), .mv (.t 4), none⟩,
              ⟨(some 15), .un .xor (.t 14), none⟩,
              ⟨(some 16), .call 87 [(.t 15)], none⟩,
              ⟨(some 5), .mv (.t 16), none⟩])
            (.seq
             (.reg none [⟨(some 17), .mv (.t 3), none⟩,
               ⟨(some 18), .mv (.t 5), none⟩,
               ⟨(some 19), .bslice [(.int .i64 0)] 1 1 [(0, (.t 18))], none⟩,
               ⟨(some 20), .append 1 8 (.t 17) (.t 19), none⟩,
               ⟨(some 3), .mv (.t 20), none⟩])
             (.reg none [⟨(some 21), .mv (.t 4), none⟩,
               ⟨(some 22), .mv (.t 5), none⟩,
               ⟨(some 23), .bin .shr (.t 21) (.t 22), none⟩,
               ⟨(some 4), .mv (.t 23), none⟩])))))))))
     (.seq
      (.reg none [⟨(some 24), .mv (.t 3), none⟩,
        ⟨(some 2), .mv (.t 24), none⟩])
      .ret)))) }
theorem f56P : prepF C Tryd.f56 = some f56A := by kernel_rfl

/-- congou/squares.isClue -/
def f57A : AFunc :=
{ nargs := 2, res := [.t 4], body :=
  (.seq
   (.reg none [⟨(some 4), .mv (.c (.b false)), none⟩])
   (.seq
    (.reg none [⟨(some 5), .mv (.t 0), none⟩,
      ⟨(some 6), .call 86 [(.t 5)], none⟩,
      ⟨(some 7), .mv (.t 6), none⟩,
      ⟨(some 8), .mv (.t 0), some (7, true)⟩,
      ⟨(some 9), .mv (.t 1), some (7, true)⟩,
      ⟨(some 10), .call 58 [(.t 8), (.t 9)], some (7, true)⟩,
      ⟨(some 11), .len (.t 10), some (7, true)⟩,
      ⟨(some 12), .bin .gtr (.t 11) (.c (.int .i64 0)), some (7, true)⟩,
      ⟨(some 13), .pick (.t 7) (.t 12) (.c (.b false)), none⟩,
      ⟨(some 4), .mv (.t 13), none⟩])
    .ret)) }
theorem f57P : prepF C Tryd.f57 = some f57A := by kernel_rfl

/-- congou/squares.lines -/
def f58A : AFunc :=
{ nargs := 2, res := [.t 4], body :=
  (.seq
   (.reg none [⟨(some 4), .mv (.c .nils), none⟩])
   (.seq
    (.reg none [⟨(some 5), .mv (.c .nils), none⟩])
    (.seq
     (.seq
      (.reg none [⟨(some 7), .mv (.t 0), none⟩,
        ⟨(some 8), .bin .shl (.c (.int .i64 1)) (.t 7), none⟩,
        ⟨(some 9), .mv (.c (.int .i64 0)), none⟩])
      (.block 0
       (.loop
        (.seq
         (.reg none [⟨(some 10), .bin .lss (.t 9) (.t 8), none⟩])
         (.seq
          (.cond (.t 10)
           .skip
           (.exit 0))
          (.seq
           (.block 1
            (.seq
             (.reg none [⟨(some 11), .mv (.t 9), none⟩,
               ⟨(some 6), .mv (.t 11), none⟩])
             (.seq
              (.reg none [⟨(some 12), .mv (.t 6), none⟩,
                ⟨(some 13), .call 56 [(.t 12)], none⟩,
                ⟨(some 14), .mv (.t 1), none⟩,
                ⟨(some 15), .call 21 [(.t 13), (.t 14)], none⟩])
              (.cond (.t 15)
               (.reg none [⟨(some 16), .mv (.t 5), none⟩,
                 ⟨(some 17), .mv (.t 6), none⟩,
                 ⟨(some 18), .bslice [(.int .i64 0)] 1 1 [(0, (.t 17))], none⟩,
                 ⟨(some 19), .append 1 8 (.t 16) (.t 18), none⟩,
                 ⟨(some 5), .mv (.t 19), none⟩])
               .skip))))
           (.reg none [⟨(some 20), .bin .add (.t 9) (.c (.int .i64 1)), none⟩,
             ⟨(some 9), .mv (.t 20), none⟩])))))))
     (.seq
      (.reg none [⟨(some 21), .mv (.t 5), none⟩,
        ⟨(some 4), .mv (.t 21), none⟩])
      .ret)))) }
theorem f58P : prepF C Tryd.f58 = some f58A := by kernel_rfl

/-- congou/congouref07.Size -/
def f59A : AFunc :=
{ nargs := 1, res := [.t 2], body :=
  (.seq
   (.reg none [⟨(some 2), .mv (.c (.b false)), none⟩])
   (.seq
    (.reg none [⟨(some 3), .mv (.t 0), none⟩,
      ⟨(some 4), .bin .geq (.t 3) (.c (.int .i64 1)), none⟩,
      ⟨(some 5), .mv (.t 4), none⟩,
      ⟨(some 6), .mv (.t 0), some (5, true)⟩,
      ⟨(some 7), .bin .leq (.t 6) (.c (.int .i64 5)), some (5, true)⟩,
      ⟨(some 8), .pick (.t 5) (.t 7) (.c (.b false)), none⟩,
      ⟨(some 2), .mv (.t 8), none⟩])
    .ret)) }
theorem f59P : prepF C Tryd.f59 = some f59A := by kernel_rfl

/-- congou/congouref07.same -/
def f60A : AFunc :=
{ nargs := 2, res := [.t 4], body :=
  (.seq
   (.reg none [⟨(some 4), .mv (.c (.b false)), none⟩])
   (.seq
    (.seq
     (.reg none [⟨(some 7), .mv (.t 0), none⟩,
       ⟨(some 8), .len (.t 7), none⟩,
       ⟨(some 9), .mv (.t 1), none⟩,
       ⟨(some 10), .len (.t 9), none⟩,
       ⟨(some 11), .bin .neq (.t 8) (.t 10), none⟩])
     (.cond (.t 11)
      (.seq
       (.reg none [⟨(some 4), .mv (.c (.b false)), none⟩])
       .ret)
      .skip))
    (.seq
     (.seq
      (.reg none [⟨(some 12), .mv (.t 0), none⟩,
        ⟨(some 13), .len (.t 12), none⟩,
        ⟨(some 14), .mv (.c (.int .i64 0)), none⟩])
      (.block 0
       (.loop
        (.seq
         (.reg none [⟨(some 15), .bin .lss (.t 14) (.t 13), none⟩])
         (.seq
          (.cond (.t 15)
           .skip
           (.exit 0))
          (.seq
           (.block 1
            (.seq
             (.reg none [⟨(some 16), .mv (.t 14), none⟩,
               ⟨(some 17), .iaddr 1 (.t 12) (.t 14), none⟩,
               ⟨(some 18), .load none (.t 17), none⟩,
               ⟨(some 5), .mv (.t 16), none⟩,
               ⟨(some 6), .mv (.t 18), none⟩])
             (.seq
              (.reg none [⟨(some 19), .mv (.t 6), none⟩,
                ⟨(some 20), .mv (.t 1), none⟩,
                ⟨(some 21), .mv (.t 5), none⟩,
                ⟨(some 22), .iaddr 1 (.t 20) (.t 21), none⟩,
                ⟨(some 23), .load none (.t 22), none⟩,
                ⟨(some 24), .bin .neq (.t 19) (.t 23), none⟩])
              (.cond (.t 24)
               (.seq
                (.reg none [⟨(some 4), .mv (.c (.b false)), none⟩])
                .ret)
               .skip))))
           (.reg none [⟨(some 25), .bin .add (.t 14) (.c (.int .i64 1)), none⟩,
             ⟨(some 14), .mv (.t 25), none⟩])))))))
     (.seq
      (.reg none [⟨(some 4), .mv (.c (.b true)), none⟩])
      .ret)))) }
theorem f60P : prepF C Tryd.f60 = some f60A := by kernel_rfl

/-- congou/squares.settle -/
def f61A : AFunc :=
{ nargs := 3, res := [.c 6 (some 2), .t 7], body :=
  (.seq
   (.reg none [⟨(some 5), .box (.t 2), none⟩,
     ⟨(some 6), .alloc [(.int .i64 0), (.int .i64 0)], none⟩,
     ⟨(some 7), .mv (.c (.b false)), none⟩])
   (.seq
    (.reg none [⟨(some 11), .mv (.t 0), none⟩,
      ⟨(some 12), .bin .shl (.c (.int .i64 1)) (.t 11), none⟩,
      ⟨(some 13), .bin .sub (.t 12) (.c (.int .i64 1)), none⟩,
      ⟨(some 8), .mv (.t 13), none⟩])
    (.seq
     (.reg none [⟨(some 14), .mv (.t 8), none⟩,
       ⟨(some 15), .mv (.t 8), none⟩,
       ⟨(some 16), .build [(.int .i64 0), (.int .i64 0)] [(0, 1, (.t 14)), (1, 1, (.t 15))], none⟩,
       ⟨none, .store 2 (.t 6) (.t 16), none⟩])
     (.seq
      (.seq
       (.reg none [⟨(some 17), .mv (.t 0), none⟩,
         ⟨(some 18), .mv (.t 1), none⟩,
         ⟨(some 19), .call 58 [(.t 17), (.t 18)], none⟩,
         ⟨(some 20), .len (.t 19), none⟩,
         ⟨(some 21), .mv (.c (.int .i64 0)), none⟩])
       (.block 0
        (.loop
         (.seq
          (.reg none [⟨(some 22), .bin .lss (.t 21) (.t 20), none⟩])
          (.seq
           (.cond (.t 22)
            .skip
            (.exit 0))
           (.seq
            (.block 1
             (.seq
              (.reg none [⟨(some 23), .iaddr 1 (.t 19) (.t 21), none⟩,
                ⟨(some 24), .load none (.t 23), none⟩,
                ⟨(some 10), .mv (.t 24), none⟩])
              (.seq
               (.reg none [⟨(some 25), .load (some 2) (.t 5), none⟩,
                 ⟨(some 26), .mv (.t 10), none⟩,
                 ⟨(some 27), .call 88 [(.t 25), (.t 26)], none⟩])
               (.cond (.t 27)
                (.seq
                 (.reg none [⟨(some 28), .faddr 0 (.t 6), none⟩,
                   ⟨(some 29), .load none (.t 28), none⟩,
                   ⟨(some 30), .mv (.t 10), none⟩,
                   ⟨(some 31), .bin .and (.t 29) (.t 30), none⟩,
                   ⟨(some 32), .faddr 0 (.t 6), none⟩,
                   ⟨none, .store 1 (.t 32) (.t 31), none⟩])
                 (.seq
                  (.reg none [⟨(some 33), .faddr 1 (.t 6), none⟩,
                    ⟨(some 34), .load none (.t 33), none⟩,
                    ⟨(some 35), .mv (.t 10), none⟩,
                    ⟨(some 36), .bin .andNot (.t 34) (.t 35), none⟩,
                    ⟨(some 37), .faddr 1 (.t 6), none⟩,
                    ⟨none, .store 1 (.t 37) (.t 36), none⟩])
                  (.reg none [⟨(some 7), .mv (.c (.b true)), none⟩])))
                .skip))))
            (.reg none [⟨(some 38), .bin .add (.t 21) (.c (.int .i64 1)), none⟩,
              ⟨(some 21), .mv (.t 38), none⟩])))))))
      (.seq
       (.reg none [⟨(some 39), .load (some 2) (.t 6), none⟩,
         ⟨(some 40), .mv (.t 7), none⟩,
         ⟨none, .store 2 (.t 6) (.t 39), none⟩,
         ⟨(some 7), .mv (.t 40), none⟩])
       .ret))))) }
theorem f61P : prepF C Tryd.f61 = some f61A := by kernel_rfl

/-- congou/squares.isSize -/
def f86A : AFunc :=
{ nargs := 1, res := [.t 2], body :=
  (.seq
   (.reg none [⟨(some 2), .mv (.c (.b false)), none⟩])
   (.seq
    (.reg none [⟨(some 3), .mv (.t 0), none⟩,
      ⟨(some 4), .bin .geq (.t 3) (.c (.int .i64 1)), none⟩,
      ⟨(some 5), .mv (.t 4), none⟩,
      ⟨(some 6), .mv (.t 0), some (5, true)⟩,
      ⟨(some 7), .bin .leq (.t 6) (.c (.int .i64 5)), some (5, true)⟩,
      ⟨(some 8), .pick (.t 5) (.t 7) (.c (.b false)), none⟩,
      ⟨(some 2), .mv (.t 8), none⟩])
    .ret)) }
theorem f86P : prepF C Tryd.f86 = some f86A := by kernel_rfl

/-- math/bits.TrailingZeros -/
def f87A : AFunc :=
{ nargs := 1, res := [.t 2], body :=
  (.seq
   (.reg none [⟨(some 2), .mv (.c (.int .i64 0)), none⟩])
   (.seq
    (.cond (.c (.b false))
     (.seq
      (.reg none [⟨(some 3), .mv (.t 0), none⟩,
        ⟨(some 4), .conv .u32 (.t 3), none⟩,
        ⟨(some 5), .call 108 [(.t 4)], none⟩,
        ⟨(some 2), .mv (.t 5), none⟩])
      .ret)
     .skip)
    (.seq
     (.reg none [⟨(some 6), .mv (.t 0), none⟩,
       ⟨(some 7), .call 109 [(.t 6)], none⟩,
       ⟨(some 2), .mv (.t 7), none⟩])
     .ret))) }
theorem f87P : prepF C Tryd.f87 = some f87A := by kernel_rfl

/-- (congou/squares.known).agrees -/
def f88A : AFunc :=
{ nargs := 2, res := [.t 4], body :=
  (.seq
   (.reg none [⟨(some 2), .box (.t 0), none⟩,
     ⟨(some 4), .mv (.c (.b false)), none⟩])
   (.seq
    (.reg none [⟨(some 5), .mv (.t 1), none⟩,
      ⟨(some 6), .faddr 0 (.t 2), none⟩,
      ⟨(some 7), .load none (.t 6), none⟩,
      ⟨(some 8), .bin .and (.t 5) (.t 7), none⟩,
      ⟨(some 9), .faddr 0 (.t 2), none⟩,
      ⟨(some 10), .load none (.t 9), none⟩,
      ⟨(some 11), .bin .eql (.t 8) (.t 10), none⟩,
      ⟨(some 12), .mv (.t 11), none⟩,
      ⟨(some 13), .mv (.t 1), some (12, true)⟩,
      ⟨(some 14), .faddr 1 (.t 2), some (12, true)⟩,
      ⟨(some 15), .load none (.t 14), some (12, true)⟩,
      ⟨(some 16), .bin .and (.t 13) (.t 15), some (12, true)⟩,
      ⟨(some 17), .bin .eql (.t 16) (.c (.int .i64 0)), some (12, true)⟩,
      ⟨(some 18), .pick (.t 12) (.t 17) (.c (.b false)), none⟩,
      ⟨(some 4), .mv (.t 18), none⟩])
    .ret)) }
theorem f88P : prepF C Tryd.f88 = some f88A := by kernel_rfl

end Go.Proofs.YtjjndoigkhabdaaDoor
