/- The abstract forms of the functions that are needed, each checked against the translation. No condition. -/
import Derived.Lib.TrailingZeros
import Derived.Test.YtjjndoigkhabdaaDoorAm1
import Derived.Test.YtjjndoigkhabdaaDoorProg
namespace Go.Proofs.YtjjndoigkhabdaaDoor
open Go Go.AM Go.Proofs

/-- the seat's program; the types whose comparison is taken; the functions that may write to what is older -/
def tzP : List AV → Option AV
  | [.int .u64 n] => if 0 ≤ n ∧ n ≤ 18446744073709551615 then some (.i (Lib.ctz 64 n.toNat : Nat)) else none
  | _ => none
def kd : Nat → Kd := fun f => if [69, 73, 78, 79, 83, 98, 101, 104, 105].contains f then .wrt else if [24].contains f then .closed else if f = 87 then .prim tzP else .ro
noncomputable def C : Cfg := { P := Tryd.prog, eqT := fun t => if t == 72 then some 2 else none, kd := kd }
/-- congou/congoulaw07.SquaresLines -/
def f3A : AFunc :=
{ nargs := 3, res := [.t 6], body :=
  (.seq
   (.reg none [⟨(some 6), .mv (.c (.b false)), none⟩])
   (.seq
    (.reg none [⟨(some 12), .mv (.t 0), none⟩,
      ⟨(some 13), .mv (.t 1), none⟩,
      ⟨(some 14), .call 17 [(.t 12), (.t 13)], none⟩,
      ⟨(some 11), .mv (.t 14), none⟩,
      ⟨(some 15), .extr (.t 11) 0, none⟩,
      ⟨(some 16), .extr (.t 11) 1, none⟩,
      ⟨(some 7), .mv (.t 15), none⟩,
      ⟨(some 8), .mv (.t 16), none⟩])
    (.seq
     (.reg none [⟨(some 18), .mv (.t 0), none⟩,
       ⟨(some 19), .mv (.t 2), none⟩,
       ⟨(some 20), .call 19 [(.t 19)], none⟩,
       ⟨(some 21), .call 18 [(.t 18), (.t 20)], none⟩,
       ⟨(some 17), .mv (.t 21), none⟩,
       ⟨(some 22), .extr (.t 17) 0, none⟩,
       ⟨(some 23), .extr (.t 17) 1, none⟩,
       ⟨(some 9), .mv (.t 22), none⟩,
       ⟨(some 10), .mv (.t 23), none⟩])
     (.seq
      (.seq
       (.reg none [⟨(some 24), .mv (.t 0), none⟩,
         ⟨(some 25), .mv (.t 1), none⟩,
         ⟨(some 26), .call 20 [(.t 24), (.t 25)], none⟩])
       (.cond (.t 26)
        (.seq
         (.reg none [⟨(some 27), .mv (.t 7), none⟩,
           ⟨(some 28), .mv (.t 0), none⟩,
           ⟨(some 29), .mv (.t 1), none⟩,
           ⟨(some 30), .call 22 [(.t 28), (.t 29)], none⟩,
           ⟨(some 31), .call 21 [(.t 27), (.t 30)], none⟩,
           ⟨(some 32), .un .not (.t 31), none⟩,
           ⟨(some 33), .mv (.t 32), none⟩,
           ⟨(some 34), .mv (.t 8), some (33, false)⟩,
           ⟨(some 35), .bin .neq (.t 34) (.c (.int .i64 0)), some (33, false)⟩,
           ⟨(some 36), .pick (.t 33) (.c (.b true)) (.t 35), none⟩])
         (.cond (.t 36)
          (.seq
           (.reg none [⟨(some 6), .mv (.c (.b false)), none⟩])
           .ret)
          .skip))
        (.seq
         (.reg none [⟨(some 37), .mv (.t 7), none⟩,
           ⟨(some 38), .len (.t 37), none⟩,
           ⟨(some 39), .bin .neq (.t 38) (.c (.int .i64 0)), none⟩,
           ⟨(some 40), .mv (.t 39), none⟩,
           ⟨(some 41), .mv (.t 8), some (40, false)⟩,
           ⟨(some 42), .bin .neq (.t 41) (.c (.int .i64 2)), some (40, false)⟩,
           ⟨(some 43), .pick (.t 40) (.c (.b true)) (.t 42), none⟩])
         (.cond (.t 43)
          (.seq
           (.reg none [⟨(some 6), .mv (.c (.b false)), none⟩])
           .ret)
          .skip))))
      (.seq
       (.seq
        (.reg none [⟨(some 44), .mv (.t 0), none⟩,
          ⟨(some 45), .mv (.t 2), none⟩,
          ⟨(some 46), .call 23 [(.t 44), (.t 45)], none⟩,
          ⟨(some 47), .un .not (.t 46), none⟩])
        (.cond (.t 47)
         (.seq
          (.reg none [⟨(some 48), .mv (.t 9), none⟩,
            ⟨(some 49), .len (.t 48), none⟩,
            ⟨(some 50), .bin .eql (.t 49) (.c (.int .i64 0)), none⟩,
            ⟨(some 51), .mv (.t 50), none⟩,
            ⟨(some 52), .mv (.t 10), some (51, true)⟩,
            ⟨(some 53), .bin .eql (.t 52) (.c (.int .i64 2)), some (51, true)⟩,
            ⟨(some 54), .pick (.t 51) (.t 53) (.c (.b false)), none⟩,
            ⟨(some 55), .mv (.t 54), none⟩,
            ⟨(some 56), .call 24 [], some (55, true)⟩,
            ⟨(some 57), .pick (.t 55) (.t 56) (.c (.b false)), none⟩,
            ⟨(some 6), .mv (.t 57), none⟩])
          .ret)
         .skip))
       (.seq
        (.reg none [⟨(some 58), .mv (.t 9), none⟩,
          ⟨(some 59), .mv (.t 0), none⟩,
          ⟨(some 60), .mv (.t 2), none⟩,
          ⟨(some 61), .call 25 [(.t 59), (.t 60)], none⟩,
          ⟨(some 62), .call 21 [(.t 58), (.t 61)], none⟩,
          ⟨(some 63), .mv (.t 62), none⟩,
          ⟨(some 64), .mv (.t 10), some (63, true)⟩,
          ⟨(some 65), .bin .eql (.t 64) (.c (.int .i64 0)), some (63, true)⟩,
          ⟨(some 66), .pick (.t 63) (.t 65) (.c (.b false)), none⟩,
          ⟨(some 67), .mv (.t 66), none⟩,
          ⟨(some 68), .call 24 [], some (67, true)⟩,
          ⟨(some 69), .pick (.t 67) (.t 68) (.c (.b false)), none⟩,
          ⟨(some 6), .mv (.t 69), none⟩])
        .ret)))))) }
theorem f3P : prepF C Tryd.f3 = some f3A := by kernel_rfl

/-- congou/squares.Blocks -/
def f17A : AFunc :=
{ nargs := 2, res := [.t 4, .t 5], body :=
  (.seq
   (.reg none [⟨(some 4), .mv (.c .nils), none⟩,
     ⟨(some 5), .mv (.c (.int .i64 0)), none⟩])
   (.seq
    (.seq
     (.reg none [⟨(some 6), .mv (.t 0), none⟩,
       ⟨(some 7), .mv (.t 1), none⟩,
       ⟨(some 8), .call 55 [(.t 6), (.t 7)], none⟩,
       ⟨(some 9), .un .not (.t 8), none⟩])
     (.cond (.t 9)
      (.seq
       (.reg none [⟨(some 4), .mv (.c .nils), none⟩,
         ⟨(some 5), .mv (.c (.int .i64 2)), none⟩])
       .ret)
      .skip))
    (.seq
     (.reg none [⟨(some 10), .mv (.t 1), none⟩,
       ⟨(some 11), .call 56 [(.t 10)], none⟩,
       ⟨(some 4), .mv (.t 11), none⟩,
       ⟨(some 5), .mv (.c (.int .i64 0)), none⟩])
     .ret))) }
theorem f17P : prepF C Tryd.f17 = some f17A := by kernel_rfl

/-- congou/squares.Lines -/
def f18A : AFunc :=
{ nargs := 2, res := [.t 4, .t 5], body :=
  (.seq
   (.reg none [⟨(some 4), .mv (.c .nils), none⟩,
     ⟨(some 5), .mv (.c (.int .i64 0)), none⟩])
   (.seq
    (.seq
     (.reg none [⟨(some 6), .mv (.t 0), none⟩,
       ⟨(some 7), .mv (.t 1), none⟩,
       ⟨(some 8), .call 57 [(.t 6), (.t 7)], none⟩,
       ⟨(some 9), .un .not (.t 8), none⟩])
     (.cond (.t 9)
      (.seq
       (.reg none [⟨(some 4), .mv (.c .nils), none⟩,
         ⟨(some 5), .mv (.c (.int .i64 2)), none⟩])
       .ret)
      .skip))
    (.seq
     (.reg none [⟨(some 10), .mv (.t 0), none⟩,
       ⟨(some 11), .mv (.t 1), none⟩,
       ⟨(some 12), .call 58 [(.t 10), (.t 11)], none⟩,
       ⟨(some 4), .mv (.t 12), none⟩,
       ⟨(some 5), .mv (.c (.int .i64 0)), none⟩])
     .ret))) }
theorem f18P : prepF C Tryd.f18 = some f18A := by kernel_rfl

/-- congou/congoulaw07.list -/
def f19A : AFunc :=
{ nargs := 1, res := [.t 2], body :=
  (.seq
   (.reg none [⟨(some 2), .mv (.c .nils), none⟩])
   (.seq
    (.reg none [⟨(some 3), .mv (.t 0), none⟩,
      ⟨(some 4), .mv (.t 0), none⟩,
      ⟨(some 5), .len (.t 4), none⟩,
      ⟨(some 6), .mn [(.t 5), (.c (.int .i64 8))], none⟩,
      ⟨(some 7), .slice 1 (.t 3) none (some (.t 6)) none, none⟩,
      ⟨(some 8), .call 33 [(.t 7)], none⟩,
      ⟨(some 2), .mv (.t 8), none⟩])
    .ret)) }
theorem f19P : prepF C Tryd.f19 = some f19A := by kernel_rfl

/-- congou/congouref07.Set -/
def f20A : AFunc :=
{ nargs := 2, res := [.t 4], body :=
  (.seq
   (.reg none [⟨(some 4), .mv (.c (.b false)), none⟩])
   (.seq
    (.reg none [⟨(some 5), .mv (.t 0), none⟩,
      ⟨(some 6), .call 59 [(.t 5)], none⟩,
      ⟨(some 7), .mv (.t 6), none⟩,
      ⟨(some 8), .mv (.t 1), some (7, true)⟩,
      ⟨(some 9), .bin .geq (.t 8) (.c (.int .i64 0)), some (7, true)⟩,
      ⟨(some 10), .pick (.t 7) (.t 9) (.c (.b false)), none⟩,
      ⟨(some 11), .mv (.t 10), none⟩,
      ⟨(some 12), .mv (.t 1), some (11, true)⟩,
      ⟨(some 13), .mv (.t 0), some (11, true)⟩,
      ⟨(some 14), .bin .shl (.c (.int .i64 1)) (.t 13), some (11, true)⟩,
      ⟨(some 15), .bin .lss (.t 12) (.t 14), some (11, true)⟩,
      ⟨(some 16), .pick (.t 11) (.t 15) (.c (.b false)), none⟩,
      ⟨(some 4), .mv (.t 16), none⟩])
    .ret)) }
theorem f20P : prepF C Tryd.f20 = some f20A := by kernel_rfl

/-- slices.Equal[[]int,int] -/
def f21A : AFunc :=
{ nargs := 2, res := [.t 4], body :=
  (.seq
   (.reg none [⟨(some 4), .mv (.c (.b false)), none⟩])
   (.seq
    (.seq
     (.reg none [⟨(some 6), .mv (.t 0), none⟩,
       ⟨(some 7), .len (.t 6), none⟩,
       ⟨(some 8), .mv (.t 1), none⟩,
       ⟨(some 9), .len (.t 8), none⟩,
       ⟨(some 10), .bin .neq (.t 7) (.t 9), none⟩])
     (.cond (.t 10)
      (.seq
       (.reg none [⟨(some 4), .mv (.c (.b false)), none⟩])
       .ret)
      .skip))
    (.seq
     (.seq
      (.reg none [⟨(some 11), .mv (.t 0), none⟩,
        ⟨(some 12), .len (.t 11), none⟩,
        ⟨(some 13), .mv (.c (.int .i64 0)), none⟩])
      (.block 0
       (.loop
        (.seq
         (.reg none [⟨(some 14), .bin .lss (.t 13) (.t 12), none⟩])
         (.seq
          (.cond (.t 14)
           .skip
           (.exit 0))
          (.seq
           (.block 1
            (.seq
             (.reg none [⟨(some 15), .mv (.t 13), none⟩,
               ⟨(some 5), .mv (.t 15), none⟩])
             (.seq
              (.reg (some []) [⟨(some 16), .mv (.t 0), none⟩,
                ⟨(some 17), .mv (.t 5), none⟩,
                ⟨(some 18), .iaddr 1 (.t 16) (.t 17), none⟩,
                ⟨(some 19), .load none (.t 18), none⟩,
                ⟨(some 20), .mv (.t 1), none⟩,
                ⟨(some 21), .mv (.t 5), none⟩,
                ⟨(some 22), .iaddr 1 (.t 20) (.t 21), none⟩,
                ⟨(some 23), .load none (.t 22), none⟩,
                ⟨(some 24), .bin .neq (.t 19) (.t 23), none⟩])
              (.cond (.t 24)
               (.seq
                (.reg none [⟨(some 4), .mv (.c (.b false)), none⟩])
                .ret)
               .skip))))
           (.reg none [⟨(some 25), .bin .add (.t 13) (.c (.int .i64 1)), none⟩,
             ⟨(some 13), .mv (.t 25), none⟩])))))))
     (.seq
      (.reg none [⟨(some 4), .mv (.c (.b true)), none⟩])
      .ret)))) }
theorem f21P : prepF C Tryd.f21 = some f21A := by kernel_rfl

/-- congou/congouref07.Blocks -/
def f22A : AFunc :=
{ nargs := 2, res := [.t 4], body :=
  (.seq
   (.reg none [⟨(some 4), .mv (.c .nils), none⟩])
   (.seq
    (.reg none [⟨(some 5), .mv (.c .nils), none⟩])
    (.seq
     (.reg none [⟨(some 6), .mv (.c (.int .i64 0)), none⟩])
     (.seq
      (.seq
       (.reg none [⟨(some 8), .mv (.t 0), none⟩,
         ⟨(some 9), .bin .add (.t 8) (.c (.int .i64 1)), none⟩,
         ⟨(some 10), .mv (.c (.int .i64 0)), none⟩])
       (.block 0
        (.loop
         (.seq
          (.reg none [⟨(some 11), .bin .lss (.t 10) (.t 9), none⟩])
          (.seq
           (.cond (.t 11)
            .skip
            (.exit 0))
           (.seq
            (.block 1
             (.seq
              (.reg none [⟨(some 12), .mv (.t 10), none⟩,
                ⟨(some 7), .mv (.t 12), none⟩])
              (.seq
               (.seq
                (.reg none [⟨(some 13), .mv (.t 1), none⟩,
                  ⟨(some 14), .mv (.t 7), none⟩,
                  ⟨(some 15), .bin .shr (.t 13) (.t 14), none⟩,
                  ⟨(some 16), .bin .and (.t 15) (.c (.int .i64 1)), none⟩,
                  ⟨(some 17), .bin .eql (.t 16) (.c (.int .i64 1)), none⟩])
                (.cond (.t 17)
                 (.seq
                  (.reg none [⟨(some 18), .mv (.t 6), none⟩,
                    ⟨(some 19), .bin .add (.t 18) (.c (.int .i64 1)), none⟩,
                    ⟨(some 6), .mv (.t 19), none⟩])
                  (.exit 1))
                 .skip))
               (.seq
                (.seq
                 (.reg none [⟨(some 20), .mv (.t 6), none⟩,
                   ⟨(some 21), .bin .gtr (.t 20) (.c (.int .i64 0)), none⟩])
                 (.cond (.t 21)
                  (.reg none [⟨(some 22), .mv (.t 5), none⟩,
                    ⟨(some 23), .mv (.t 6), none⟩,
                    ⟨(some 24), .bslice [(.int .i64 0)] 1 1 [(0, (.t 23))], none⟩,
                    ⟨(some 25), .append 1 8 (.t 22) (.t 24), none⟩,
                    ⟨(some 5), .mv (.t 25), none⟩])
                  .skip))
                (.reg none [⟨(some 6), .mv (.c (.int .i64 0)), none⟩])))))
            (.reg none [⟨(some 26), .bin .add (.t 10) (.c (.int .i64 1)), none⟩,
              ⟨(some 10), .mv (.t 26), none⟩])))))))
      (.seq
       (.reg none [⟨(some 27), .mv (.t 5), none⟩,
         ⟨(some 4), .mv (.t 27), none⟩])
       .ret))))) }
theorem f22P : prepF C Tryd.f22 = some f22A := by kernel_rfl

/-- congou/congouref07.Clue -/
def f23A : AFunc :=
{ nargs := 2, res := [.t 4], body :=
  (.seq
   (.reg none [⟨(some 4), .mv (.c (.b false)), none⟩])
   (.seq
    (.reg none [⟨(some 5), .mv (.t 0), none⟩,
      ⟨(some 6), .call 59 [(.t 5)], none⟩,
      ⟨(some 7), .mv (.t 6), none⟩,
      ⟨(some 8), .mv (.t 0), some (7, true)⟩,
      ⟨(some 9), .mv (.t 1), some (7, true)⟩,
      ⟨(some 10), .call 25 [(.t 8), (.t 9)], some (7, true)⟩,
      ⟨(some 11), .len (.t 10), some (7, true)⟩,
      ⟨(some 12), .bin .gtr (.t 11) (.c (.int .i64 0)), some (7, true)⟩,
      ⟨(some 13), .pick (.t 7) (.t 12) (.c (.b false)), none⟩,
      ⟨(some 4), .mv (.t 13), none⟩])
    .ret)) }
theorem f23P : prepF C Tryd.f23 = some f23A := by kernel_rfl

/-- congou/congoulaw07.awake -/
def f24A : AFunc :=
{ nargs := 0, res := [.t 0], body :=
  (.seq
   (.reg none [⟨(some 0), .mv (.c (.b false)), none⟩])
   (.seq
    (.reg none [⟨(some 4), .call 17 [(.c (.int .i64 5)), (.c (.int .i64 23))], none⟩,
      ⟨(some 3), .mv (.t 4), none⟩,
      ⟨(some 5), .extr (.t 3) 0, none⟩,
      ⟨(some 6), .extr (.t 3) 1, none⟩,
      ⟨(some 1), .mv (.t 5), none⟩,
      ⟨(some 2), .mv (.t 6), none⟩])
    (.seq
     (.reg none [⟨(some 7), .mv (.t 2), none⟩,
       ⟨(some 8), .bin .eql (.t 7) (.c (.int .i64 0)), none⟩,
       ⟨(some 9), .mv (.t 8), none⟩,
       ⟨(some 10), .mv (.t 1), some (9, true)⟩,
       ⟨(some 11), .bslice [(.int .i64 0)] 2 1 [(0, (.c (.int .i64 3))), (1, (.c (.int .i64 1)))], some (9, true)⟩,
       ⟨(some 12), .call 21 [(.t 10), (.t 11)], some (9, true)⟩,
       ⟨(some 13), .pick (.t 9) (.t 12) (.c (.b false)), none⟩,
       ⟨(some 0), .mv (.t 13), none⟩])
     .ret))) }
theorem f24P : prepF C Tryd.f24 = some f24A := by kernel_rfl

/-- congou/congouref07.Lines -/
def f25A : AFunc :=
{ nargs := 2, res := [.t 4], body :=
  (.seq
   (.reg none [⟨(some 4), .mv (.c .nils), none⟩])
   (.seq
    (.reg none [⟨(some 5), .mv (.c .nils), none⟩])
    (.seq
     (.seq
      (.reg none [⟨(some 7), .mv (.t 0), none⟩,
        ⟨(some 8), .bin .shl (.c (.int .i64 1)) (.t 7), none⟩,
        ⟨(some 9), .mv (.c (.int .i64 0)), none⟩])
      (.block 0
       (.loop
        (.seq
         (.reg none [⟨(some 10), .bin .lss (.t 9) (.t 8), none⟩])
         (.seq
          (.cond (.t 10)
           .skip
           (.exit 0))
          (.seq
           (.block 1
            (.seq
             (.reg none [⟨(some 11), .mv (.t 9), none⟩,
               ⟨(some 6), .mv (.t 11), none⟩])
             (.seq
              (.reg none [⟨(some 12), .mv (.t 0), none⟩,
                ⟨(some 13), .mv (.t 6), none⟩,
                ⟨(some 14), .call 22 [(.t 12), (.t 13)], none⟩,
                ⟨(some 15), .mv (.t 1), none⟩,
                ⟨(some 16), .call 60 [(.t 14), (.t 15)], none⟩])
              (.cond (.t 16)
               (.reg none [⟨(some 17), .mv (.t 5), none⟩,
                 ⟨(some 18), .mv (.t 6), none⟩,
                 ⟨(some 19), .bslice [(.int .i64 0)] 1 1 [(0, (.t 18))], none⟩,
                 ⟨(some 20), .append 1 8 (.t 17) (.t 19), none⟩,
                 ⟨(some 5), .mv (.t 20), none⟩])
               .skip))))
           (.reg none [⟨(some 21), .bin .add (.t 9) (.c (.int .i64 1)), none⟩,
             ⟨(some 9), .mv (.t 21), none⟩])))))))
     (.seq
      (.reg none [⟨(some 22), .mv (.t 5), none⟩,
        ⟨(some 4), .mv (.t 22), none⟩])
      .ret)))) }
theorem f25P : prepF C Tryd.f25 = some f25A := by kernel_rfl

/-- slices.Clone[[]int,int] -/
def f33A : AFunc :=
{ nargs := 1, res := [.t 2], body :=
  (.seq
   (.reg none [⟨(some 2), .mv (.c .nils), none⟩])
   (.seq
    (.seq
     (.reg none [⟨(some 3), .mv (.t 0), none⟩,
       ⟨(some 4), .seq false (.t 3) (.c .nils), none⟩])
     (.cond (.t 4)
      (.seq
       (.reg none [⟨(some 2), .mv (.c .nils), none⟩])
       .ret)
      .skip))
    (.seq
     (.reg none [⟨(some 5), .bslice [(.int .i64 0)] 0 1 [], none⟩,
       ⟨(some 6), .mv (.t 0), none⟩,
       ⟨(some 7), .append 1 8 (.t 5) (.t 6), none⟩,
       ⟨(some 2), .mv (.t 7), none⟩])
     .ret))) }
theorem f33P : prepF C Tryd.f33 = some f33A := by kernel_rfl

/-- congou/squares.isSet -/
def f55A : AFunc :=
{ nargs := 2, res := [.t 4], body :=
  (.seq
   (.reg none [⟨(some 4), .mv (.c (.b false)), none⟩])
   (.seq
    (.reg none [⟨(some 5), .mv (.t 0), none⟩,
      ⟨(some 6), .call 86 [(.t 5)], none⟩,
      ⟨(some 7), .mv (.t 6), none⟩,
      ⟨(some 8), .mv (.t 1), some (7, true)⟩,
      ⟨(some 9), .bin .geq (.t 8) (.c (.int .i64 0)), some (7, true)⟩,
      ⟨(some 10), .pick (.t 7) (.t 9) (.c (.b false)), none⟩,
      ⟨(some 11), .mv (.t 10), none⟩,
      ⟨(some 12), .mv (.t 1), some (11, true)⟩,
      ⟨(some 13), .mv (.t 0), some (11, true)⟩,
      ⟨(some 14), .bin .shl (.c (.int .i64 1)) (.t 13), some (11, true)⟩,
      ⟨(some 15), .bin .lss (.t 12) (.t 14), some (11, true)⟩,
      ⟨(some 16), .pick (.t 11) (.t 15) (.c (.b false)), none⟩,
      ⟨(some 4), .mv (.t 16), none⟩])
    .ret)) }
theorem f55P : prepF C Tryd.f55 = some f55A := by kernel_rfl

/-- congou/squares.blocks -/
def f56A : AFunc :=
{ nargs := 1, res := [.t 2], body :=
  (.seq
   (.reg none [⟨(some 2), .mv (.c .nils), none⟩])
   (.seq
    (.reg none [⟨(some 3), .mv (.c .nils), none⟩])
    (.seq
     (.seq
      (.reg none [⟨(some 6), .mv (.t 0), none⟩,
        ⟨(some 7), .conv .u64 (.t 6), none⟩,
        ⟨(some 4), .mv (.t 7), none⟩])
      (.block 0
       (.loop
        (.seq
         (.seq
          (.reg none [⟨(some 8), .mv (.t 4), none⟩,
            ⟨(some 9), .bin .neq (.t 8) (.c (.int .u64 0)), none⟩])
          (.cond (.t 9)
           .skip
           (.exit 0)))
         (.block 1
          (.seq
           (.reg none [⟨(some 10), .mv (.t 4), none⟩,
             ⟨(some 11), .mv (.t 4), none⟩,
             ⟨(some 12), .call 87 [(.t 11)], none⟩,
             ⟨(some 13), .bin .shr (.t 10) (.t 12), none⟩,
             ⟨(some 4), .mv (.t 13), none⟩])
           (.seq
            (.reg none [⟨(some 14), .mv (.t 4), none⟩,
              ⟨(some 15), .un .xor (.t 14), none⟩,
              ⟨(some 16), .call 87 [(.t 15)], none⟩,
              ⟨(some 5), .mv (.t 16), none⟩])
            (.seq
             (.reg none [⟨(some 17), .mv (.t 3), none⟩,
               ⟨(some 18), .mv (.t 5), none⟩,
               ⟨(some 19), .bslice [(.int .i64 0)] 1 1 [(0, (.t 18))], none⟩,
               ⟨(some 20), .append 1 8 (.t 17) (.t 19), none⟩,
               ⟨(some 3), .mv (.t 20), none⟩])
             (.reg none [⟨(some 21), .mv (.t 4), none⟩,
               ⟨(some 22), .mv (.t 5), none⟩,
               ⟨(some 23), .bin .shr (.t 21) (.t 22), none⟩,
               ⟨(some 4), .mv (.t 23), none⟩])))))))))
     (.seq
      (.reg none [⟨(some 24), .mv (.t 3), none⟩,
        ⟨(some 2), .mv (.t 24), none⟩])
      .ret)))) }
theorem f56P : prepF C Tryd.f56 = some f56A := by kernel_rfl

/-- congou/squares.isClue -/
def f57A : AFunc :=
{ nargs := 2, res := [.t 4], body :=
  (.seq
   (.reg none [⟨(some 4), .mv (.c (.b false)), none⟩])
   (.seq
    (.reg none [⟨(some 5), .mv (.t 0), none⟩,
      ⟨(some 6), .call 86 [(.t 5)], none⟩,
      ⟨(some 7), .mv (.t 6), none⟩,
      ⟨(some 8), .mv (.t 0), some (7, true)⟩,
      ⟨(some 9), .mv (.t 1), some (7, true)⟩,
      ⟨(some 10), .call 58 [(.t 8), (.t 9)], some (7, true)⟩,
      ⟨(some 11), .len (.t 10), some (7, true)⟩,
      ⟨(some 12), .bin .gtr (.t 11) (.c (.int .i64 0)), some (7, true)⟩,
      ⟨(some 13), .pick (.t 7) (.t 12) (.c (.b false)), none⟩,
      ⟨(some 4), .mv (.t 13), none⟩])
    .ret)) }
theorem f57P : prepF C Tryd.f57 = some f57A := by kernel_rfl

/-- congou/squares.lines -/
def f58A : AFunc :=
{ nargs := 2, res := [.t 4], body :=
  (.seq
   (.reg none [⟨(some 4), .mv (.c .nils), none⟩])
   (.seq
    (.reg none [⟨(some 5), .mv (.c .nils), none⟩])
    (.seq
     (.seq
      (.reg none [⟨(some 7), .mv (.t 0), none⟩,
        ⟨(some 8), .bin .shl (.c (.int .i64 1)) (.t 7), none⟩,
        ⟨(some 9), .mv (.c (.int .i64 0)), none⟩])
      (.block 0
       (.loop
        (.seq
         (.reg none [⟨(some 10), .bin .lss (.t 9) (.t 8), none⟩])
         (.seq
          (.cond (.t 10)
           .skip
           (.exit 0))
          (.seq
           (.block 1
            (.seq
             (.reg none [⟨(some 11), .mv (.t 9), none⟩,
               ⟨(some 6), .mv (.t 11), none⟩])
             (.seq
              (.reg none [⟨(some 12), .mv (.t 6), none⟩,
                ⟨(some 13), .call 56 [(.t 12)], none⟩,
                ⟨(some 14), .mv (.t 1), none⟩,
                ⟨(some 15), .call 21 [(.t 13), (.t 14)], none⟩])
              (.cond (.t 15)
               (.reg none [⟨(some 16), .mv (.t 5), none⟩,
                 ⟨(some 17), .mv (.t 6), none⟩,
                 ⟨(some 18), .bslice [(.int .i64 0)] 1 1 [(0, (.t 17))], none⟩,
                 ⟨(some 19), .append 1 8 (.t 16) (.t 18), none⟩,
                 ⟨(some 5), .mv (.t 19), none⟩])
               .skip))))
           (.reg none [⟨(some 20), .bin .add (.t 9) (.c (.int .i64 1)), none⟩,
             ⟨(some 9), .mv (.t 20), none⟩])))))))
     (.seq
      (.reg none [⟨(some 21), .mv (.t 5), none⟩,
        ⟨(some 4), .mv (.t 21), none⟩])
      .ret)))) }
theorem f58P : prepF C Tryd.f58 = some f58A := by kernel_rfl

/-- congou/congouref07.Size -/
def f59A : AFunc :=
{ nargs := 1, res := [.t 2], body :=
  (.seq
   (.reg none [⟨(some 2), .mv (.c (.b false)), none⟩])
   (.seq
    (.reg none [⟨(some 3), .mv (.t 0), none⟩,
      ⟨(some 4), .bin .geq (.t 3) (.c (.int .i64 1)), none⟩,
      ⟨(some 5), .mv (.t 4), none⟩,
      ⟨(some 6), .mv (.t 0), some (5, true)⟩,
      ⟨(some 7), .bin .leq (.t 6) (.c (.int .i64 5)), some (5, true)⟩,
      ⟨(some 8), .pick (.t 5) (.t 7) (.c (.b false)), none⟩,
      ⟨(some 2), .mv (.t 8), none⟩])
    .ret)) }
theorem f59P : prepF C Tryd.f59 = some f59A := by kernel_rfl

/-- congou/congouref07.same -/
def f60A : AFunc :=
{ nargs := 2, res := [.t 4], body :=
  (.seq
   (.reg none [⟨(some 4), .mv (.c (.b false)), none⟩])
   (.seq
    (.seq
     (.reg none [⟨(some 7), .mv (.t 0), none⟩,
       ⟨(some 8), .len (.t 7), none⟩,
       ⟨(some 9), .mv (.t 1), none⟩,
       ⟨(some 10), .len (.t 9), none⟩,
       ⟨(some 11), .bin .neq (.t 8) (.t 10), none⟩])
     (.cond (.t 11)
      (.seq
       (.reg none [⟨(some 4), .mv (.c (.b false)), none⟩])
       .ret)
      .skip))
    (.seq
     (.seq
      (.reg none [⟨(some 12), .mv (.t 0), none⟩,
        ⟨(some 13), .len (.t 12), none⟩,
        ⟨(some 14), .mv (.c (.int .i64 0)), none⟩])
      (.block 0
       (.loop
        (.seq
         (.reg none [⟨(some 15), .bin .lss (.t 14) (.t 13), none⟩])
         (.seq
          (.cond (.t 15)
           .skip
           (.exit 0))
          (.seq
           (.block 1
            (.seq
             (.reg none [⟨(some 16), .mv (.t 14), none⟩,
               ⟨(some 17), .iaddr 1 (.t 12) (.t 14), none⟩,
               ⟨(some 18), .load none (.t 17), none⟩,
               ⟨(some 5), .mv (.t 16), none⟩,
               ⟨(some 6), .mv (.t 18), none⟩])
             (.seq
              (.reg none [⟨(some 19), .mv (.t 6), none⟩,
                ⟨(some 20), .mv (.t 1), none⟩,
                ⟨(some 21), .mv (.t 5), none⟩,
                ⟨(some 22), .iaddr 1 (.t 20) (.t 21), none⟩,
                ⟨(some 23), .load none (.t 22), none⟩,
                ⟨(some 24), .bin .neq (.t 19) (.t 23), none⟩])
              (.cond (.t 24)
               (.seq
                (.reg none [⟨(some 4), .mv (.c (.b false)), none⟩])
                .ret)
               .skip))))
           (.reg none [⟨(some 25), .bin .add (.t 14) (.c (.int .i64 1)), none⟩,
             ⟨(some 14), .mv (.t 25), none⟩])))))))
     (.seq
      (.reg none [⟨(some 4), .mv (.c (.b true)), none⟩])
      .ret)))) }
theorem f60P : prepF C Tryd.f60 = some f60A := by kernel_rfl

/-- congou/squares.isSize -/
def f86A : AFunc :=
{ nargs := 1, res := [.t 2], body :=
  (.seq
   (.reg none [⟨(some 2), .mv (.c (.b false)), none⟩])
   (.seq
    (.reg none [⟨(some 3), .mv (.t 0), none⟩,
      ⟨(some 4), .bin .geq (.t 3) (.c (.int .i64 1)), none⟩,
      ⟨(some 5), .mv (.t 4), none⟩,
      ⟨(some 6), .mv (.t 0), some (5, true)⟩,
      ⟨(some 7), .bin .leq (.t 6) (.c (.int .i64 5)), some (5, true)⟩,
      ⟨(some 8), .pick (.t 5) (.t 7) (.c (.b false)), none⟩,
      ⟨(some 2), .mv (.t 8), none⟩])
    .ret)) }
theorem f86P : prepF C Tryd.f86 = some f86A := by kernel_rfl

/-- math/bits.TrailingZeros -/
def f87A : AFunc :=
{ nargs := 1, res := [.t 2], body :=
  (.seq
   (.reg none [⟨(some 2), .mv (.c (.int .i64 0)), none⟩])
   (.seq
    (.cond (.c (.b false))
     (.seq
      (.reg none [⟨(some 3), .mv (.t 0), none⟩,
        ⟨(some 4), .conv .u32 (.t 3), none⟩,
        ⟨(some 5), .call 108 [(.t 4)], none⟩,
        ⟨(some 2), .mv (.t 5), none⟩])
      .ret)
     .skip)
    (.seq
     (.reg none [⟨(some 6), .mv (.t 0), none⟩,
       ⟨(some 7), .call 109 [(.t 6)], none⟩,
       ⟨(some 2), .mv (.t 7), none⟩])
     .ret))) }
theorem f87P : prepF C Tryd.f87 = some f87A := by kernel_rfl

end Go.Proofs.YtjjndoigkhabdaaDoor
