/- The abstract forms of the functions that are needed, each checked against the translation. No condition. -/
import Derived.Lib.TrailingZeros
import Derived.Test.YtjjndoigkhabdaaDoorAm1
import Derived.Test.YtjjndoigkhabdaaDoorProg
namespace Go.Proofs.YtjjndoigkhabdaaDoor
open Go Go.AM Go.Proofs

/-- the seat's program; the types whose comparison is taken; the functions that may write to what is older -/
def tzP : List AV → Option AV
  | [.int .u64 n] => if 0 ≤ n ∧ n ≤ 18446744073709551615 then some (.i (Lib.ctz 64 n.toNat : Nat)) else none
  | _ => none
def kd : Nat → Kd := fun f => if [69, 73, 78, 79, 83, 98, 101, 104, 105].contains f then .wrt else if [24].contains f then .closed else if f = 87 then .prim tzP else .ro
noncomputable def C : Cfg := { P := Tryd.prog, eqT := fun t => if t == 72 then some 2 else none, kd := kd }
/-- congou/congoulaw07.SquaresTries -/
def f14A : AFunc :=
{ nargs := 1, res := [.t 2], body :=
  (.seq
   (.reg none [⟨(some 1), .box (.t 0), none⟩,
     ⟨(some 2), .mv (.c (.b false)), none⟩])
   (.seq
    (.reg none [⟨(some 8), .load (some 2) (.t 1), none⟩,
      ⟨(some 9), .call 37 [(.t 8)], none⟩,
      ⟨(some 10), .call 53 [(.t 9)], none⟩,
      ⟨(some 7), .mv (.t 10), none⟩,
      ⟨(some 11), .extr (.t 7) 0, none⟩,
      ⟨(some 12), .extr (.t 7) 1, none⟩,
      ⟨(some 3), .mv (.t 11), none⟩,
      ⟨(some 4), .mv (.t 12), none⟩])
    (.seq
     (.seq
      (.reg none [⟨(some 13), .load (some 2) (.t 1), none⟩,
        ⟨(some 14), .call 38 [(.t 13)], none⟩,
        ⟨(some 15), .un .not (.t 14), none⟩])
      (.cond (.t 15)
       (.seq
        (.reg none [⟨(some 16), .mv (.t 3), none⟩,
          ⟨(some 17), .bin .eql (.t 16) (.c (.int .i64 0)), none⟩,
          ⟨(some 18), .mv (.t 17), none⟩,
          ⟨(some 19), .mv (.t 4), some (18, true)⟩,
          ⟨(some 20), .bin .eql (.t 19) (.c (.int .i64 2)), some (18, true)⟩,
          ⟨(some 21), .pick (.t 18) (.t 20) (.c (.b false)), none⟩,
          ⟨(some 22), .mv (.t 21), none⟩,
          ⟨(some 23), .call 24 [], some (22, true)⟩,
          ⟨(some 24), .pick (.t 22) (.t 23) (.c (.b false)), none⟩,
          ⟨(some 2), .mv (.t 24), none⟩])
        .ret)
       .skip))
     (.seq
      (.reg none [⟨(some 26), .load (some 2) (.t 1), none⟩,
        ⟨(some 27), .call 54 [(.t 26)], none⟩,
        ⟨(some 25), .mv (.t 27), none⟩,
        ⟨(some 28), .extr (.t 25) 0, none⟩,
        ⟨(some 29), .extr (.t 25) 1, none⟩,
        ⟨(some 5), .mv (.t 28), none⟩,
        ⟨(some 6), .mv (.t 29), none⟩])
      (.seq
       (.reg none [⟨(some 30), .mv (.t 3), none⟩,
         ⟨(some 31), .mv (.t 5), none⟩,
         ⟨(some 32), .bin .eql (.t 30) (.t 31), none⟩,
         ⟨(some 33), .mv (.t 32), none⟩,
         ⟨(some 34), .mv (.t 4), some (33, true)⟩,
         ⟨(some 35), .mv (.t 6), some (33, true)⟩,
         ⟨(some 36), .bin .eql (.t 34) (.t 35), some (33, true)⟩,
         ⟨(some 37), .pick (.t 33) (.t 36) (.c (.b false)), none⟩,
         ⟨(some 38), .mv (.t 37), none⟩,
         ⟨(some 39), .call 24 [], some (38, true)⟩,
         ⟨(some 40), .pick (.t 38) (.t 39) (.c (.b false)), none⟩,
         ⟨(some 2), .mv (.t 40), none⟩])
       .ret))))) }
theorem f14P : prepF C Tryd.f14 = some f14A := by kernel_rfl

/-- congou/squares.Blocks -/
def f17A : AFunc :=
{ nargs := 2, res := [.t 4, .t 5], body :=
  (.seq
   (.reg none [⟨(some 4), .mv (.c .nils), none⟩,
     ⟨(some 5), .mv (.c (.int .i64 0)), none⟩])
   (.seq
    (.seq
     (.reg none [⟨(some 6), .mv (.t 0), none⟩,
       ⟨(some 7), .mv (.t 1), none⟩,
       ⟨(some 8), .call 55 [(.t 6), (.t 7)], none⟩,
       ⟨(some 9), .un .not (.t 8), none⟩])
     (.cond (.t 9)
      (.seq
       (.reg none [⟨(some 4), .mv (.c .nils), none⟩,
         ⟨(some 5), .mv (.c (.int .i64 2)), none⟩])
       .ret)
      .skip))
    (.seq
     (.reg none [⟨(some 10), .mv (.t 1), none⟩,
       ⟨(some 11), .call 56 [(.t 10)], none⟩,
       ⟨(some 4), .mv (.t 11), none⟩,
       ⟨(some 5), .mv (.c (.int .i64 0)), none⟩])
     .ret))) }
theorem f17P : prepF C Tryd.f17 = some f17A := by kernel_rfl

/-- congou/congoulaw07.list -/
def f19A : AFunc :=
{ nargs := 1, res := [.t 2], body :=
  (.seq
   (.reg none [⟨(some 2), .mv (.c .nils), none⟩])
   (.seq
    (.reg none [⟨(some 3), .mv (.t 0), none⟩,
      ⟨(some 4), .mv (.t 0), none⟩,
      ⟨(some 5), .len (.t 4), none⟩,
      ⟨(some 6), .mn [(.t 5), (.c (.int .i64 8))], none⟩,
      ⟨(some 7), .slice 1 (.t 3) none (some (.t 6)) none, none⟩,
      ⟨(some 8), .call 33 [(.t 7)], none⟩,
      ⟨(some 2), .mv (.t 8), none⟩])
    .ret)) }
theorem f19P : prepF C Tryd.f19 = some f19A := by kernel_rfl

/-- slices.Equal[[]int,int] -/
def f21A : AFunc :=
{ nargs := 2, res := [.t 4], body :=
  (.seq
   (.reg none [⟨(some 4), .mv (.c (.b false)), none⟩])
   (.seq
    (.seq
     (.reg none [⟨(some 6), .mv (.t 0), none⟩,
       ⟨(some 7), .len (.t 6), none⟩,
       ⟨(some 8), .mv (.t 1), none⟩,
       ⟨(some 9), .len (.t 8), none⟩,
       ⟨(some 10), .bin .neq (.t 7) (.t 9), none⟩])
     (.cond (.t 10)
      (.seq
       (.reg none [⟨(some 4), .mv (.c (.b false)), none⟩])
       .ret)
      .skip))
    (.seq
     (.seq
      (.reg none [⟨(some 11), .mv (.t 0), none⟩,
        ⟨(some 12), .len (.t 11), none⟩,
        ⟨(some 13), .mv (.c (.int .i64 0)), none⟩])
      (.block 0
       (.loop
        (.seq
         (.reg none [⟨(some 14), .bin .lss (.t 13) (.t 12), none⟩])
         (.seq
          (.cond (.t 14)
           .skip
           (.exit 0))
          (.seq
           (.block 1
            (.seq
             (.reg none [⟨(some 15), .mv (.t 13), none⟩,
               ⟨(some 5), .mv (.t 15), none⟩])
             (.seq
              (.reg (some []) [⟨(some 16), .mv (.t 0), none⟩,
                ⟨(some 17), .mv (.t 5), none⟩,
                ⟨(some 18), .iaddr 1 (.t 16) (.t 17), none⟩,
                ⟨(some 19), .load none (.t 18), none⟩,
                ⟨(some 20), .mv (.t 1), none⟩,
                ⟨(some 21), .mv (.t 5), none⟩,
                ⟨(some 22), .iaddr 1 (.t 20) (.t 21), none⟩,
                ⟨(some 23), .load none (.t 22), none⟩,
                ⟨(some 24), .bin .neq (.t 19) (.t 23), none⟩])
              (.cond (.t 24)
               (.seq
                (.reg none [⟨(some 4), .mv (.c (.b false)), none⟩])
                .ret)
               .skip))))
           (.reg none [⟨(some 25), .bin .add (.t 13) (.c (.int .i64 1)), none⟩,
             ⟨(some 13), .mv (.t 25), none⟩])))))))
     (.seq
      (.reg none [⟨(some 4), .mv (.c (.b true)), none⟩])
      .ret)))) }
theorem f21P : prepF C Tryd.f21 = some f21A := by kernel_rfl

/-- congou/congouref07.Blocks -/
def f22A : AFunc :=
{ nargs := 2, res := [.t 4], body :=
  (.seq
   (.reg none [⟨(some 4), .mv (.c .nils), none⟩])
   (.seq
    (.reg none [⟨(some 5), .mv (.c .nils), none⟩])
    (.seq
     (.reg none [⟨(some 6), .mv (.c (.int .i64 0)), none⟩])
     (.seq
      (.seq
       (.reg none [⟨(some 8), .mv (.t 0), none⟩,
         ⟨(some 9), .bin .add (.t 8) (.c (.int .i64 1)), none⟩,
         ⟨(some 10), .mv (.c (.int .i64 0)), none⟩])
       (.block 0
        (.loop
         (.seq
          (.reg none [⟨(some 11), .bin .lss (.t 10) (.t 9), none⟩])
          (.seq
           (.cond (.t 11)
            .skip
            (.exit 0))
           (.seq
            (.block 1
             (.seq
              (.reg none [⟨(some 12), .mv (.t 10), none⟩,
                ⟨(some 7), .mv (.t 12), none⟩])
              (.seq
               (.seq
                (.reg none [⟨(some 13), .mv (.t 1), none⟩,
                  ⟨(some 14), .mv (.t 7), none⟩,
                  ⟨(some 15), .bin .shr (.t 13) (.t 14), none⟩,
                  ⟨(some 16), .bin .and (.t 15) (.c (.int .i64 1)), none⟩,
                  ⟨(some 17), .bin .eql (.t 16) (.c (.int .i64 1)), none⟩])
                (.cond (.t 17)
                 (.seq
                  (.reg none [⟨(some 18), .mv (.t 6), none⟩,
                    ⟨(some 19), .bin .add (.t 18) (.c (.int .i64 1)), none⟩,
                    ⟨(some 6), .mv (.t 19), none⟩])
                  (.exit 1))
                 .skip))
               (.seq
                (.seq
                 (.reg none [⟨(some 20), .mv (.t 6), none⟩,
                   ⟨(some 21), .bin .gtr (.t 20) (.c (.int .i64 0)), none⟩])
                 (.cond (.t 21)
                  (.reg none [⟨(some 22), .mv (.t 5), none⟩,
                    ⟨(some 23), .mv (.t 6), none⟩,
                    ⟨(some 24), .bslice [(.int .i64 0)] 1 1 [(0, (.t 23))], none⟩,
                    ⟨(some 25), .append 1 8 (.t 22) (.t 24), none⟩,
                    ⟨(some 5), .mv (.t 25), none⟩])
                  .skip))
                (.reg none [⟨(some 6), .mv (.c (.int .i64 0)), none⟩])))))
            (.reg none [⟨(some 26), .bin .add (.t 10) (.c (.int .i64 1)), none⟩,
              ⟨(some 10), .mv (.t 26), none⟩])))))))
      (.seq
       (.reg none [⟨(some 27), .mv (.t 5), none⟩,
         ⟨(some 4), .mv (.t 27), none⟩])
       .ret))))) }
theorem f22P : prepF C Tryd.f22 = some f22A := by kernel_rfl

/-- congou/congouref07.Clue -/
def f23A : AFunc :=
{ nargs := 2, res := [.t 4], body :=
  (.seq
   (.reg none [⟨(some 4), .mv (.c (.b false)), none⟩])
   (.seq
    (.reg none [⟨(some 5), .mv (.t 0), none⟩,
      ⟨(some 6), .call 59 [(.t 5)], none⟩,
      ⟨(some 7), .mv (.t 6), none⟩,
      ⟨(some 8), .mv (.t 0), some (7, true)⟩,
      ⟨(some 9), .mv (.t 1), some (7, true)⟩,
      ⟨(some 10), .call 25 [(.t 8), (.t 9)], some (7, true)⟩,
      ⟨(some 11), .len (.t 10), some (7, true)⟩,
      ⟨(some 12), .bin .gtr (.t 11) (.c (.int .i64 0)), some (7, true)⟩,
      ⟨(some 13), .pick (.t 7) (.t 12) (.c (.b false)), none⟩,
      ⟨(some 4), .mv (.t 13), none⟩])
    .ret)) }
theorem f23P : prepF C Tryd.f23 = some f23A := by kernel_rfl

/-- congou/congoulaw07.awake -/
def f24A : AFunc :=
{ nargs := 0, res := [.t 0], body :=
  (.seq
   (.reg none [⟨(some 0), .mv (.c (.b false)), none⟩])
   (.seq
    (.reg none [⟨(some 4), .call 17 [(.c (.int .i64 5)), (.c (.int .i64 23))], none⟩,
      ⟨(some 3), .mv (.t 4), none⟩,
      ⟨(some 5), .extr (.t 3) 0, none⟩,
      ⟨(some 6), .extr (.t 3) 1, none⟩,
      ⟨(some 1), .mv (.t 5), none⟩,
      ⟨(some 2), .mv (.t 6), none⟩])
    (.seq
     (.reg none [⟨(some 7), .mv (.t 2), none⟩,
       ⟨(some 8), .bin .eql (.t 7) (.c (.int .i64 0)), none⟩,
       ⟨(some 9), .mv (.t 8), none⟩,
       ⟨(some 10), .mv (.t 1), some (9, true)⟩,
       ⟨(some 11), .bslice [(.int .i64 0)] 2 1 [(0, (.c (.int .i64 3))), (1, (.c (.int .i64 1)))], some (9, true)⟩,
       ⟨(some 12), .call 21 [(.t 10), (.t 11)], some (9, true)⟩,
       ⟨(some 13), .pick (.t 9) (.t 12) (.c (.b false)), none⟩,
       ⟨(some 0), .mv (.t 13), none⟩])
     .ret))) }
theorem f24P : prepF C Tryd.f24 = some f24A := by kernel_rfl

/-- congou/congouref07.Lines -/
def f25A : AFunc :=
{ nargs := 2, res := [.t 4], body :=
  (.seq
   (.reg none [⟨(some 4), .mv (.c .nils), none⟩])
   (.seq
    (.reg none [⟨(some 5), .mv (.c .nils), none⟩])
    (.seq
     (.seq
      (.reg none [⟨(some 7), .mv (.t 0), none⟩,
        ⟨(some 8), .bin .shl (.c (.int .i64 1)) (.t 7), none⟩,
        ⟨(some 9), .mv (.c (.int .i64 0)), none⟩])
      (.block 0
       (.loop
        (.seq
         (.reg none [⟨(some 10), .bin .lss (.t 9) (.t 8), none⟩])
         (.seq
          (.cond (.t 10)
           .skip
           (.exit 0))
          (.seq
           (.block 1
            (.seq
             (.reg none [⟨(some 11), .mv (.t 9), none⟩,
               ⟨(some 6), .mv (.t 11), none⟩])
             (.seq
              (.reg none [⟨(some 12), .mv (.t 0), none⟩,
                ⟨(some 13), .mv (.t 6), none⟩,
                ⟨(some 14), .call 22 [(.t 12), (.t 13)], none⟩,
                ⟨(some 15), .mv (.t 1), none⟩,
                ⟨(some 16), .call 60 [(.t 14), (.t 15)], none⟩])
              (.cond (.t 16)
               (.reg none [⟨(some 17), .mv (.t 5), none⟩,
                 ⟨(some 18), .mv (.t 6), none⟩,
                 ⟨(some 19), .bslice [(.int .i64 0)] 1 1 [(0, (.t 18))], none⟩,
                 ⟨(some 20), .append 1 8 (.t 17) (.t 19), none⟩,
                 ⟨(some 5), .mv (.t 20), none⟩])
               .skip))))
           (.reg none [⟨(some 21), .bin .add (.t 9) (.c (.int .i64 1)), none⟩,
             ⟨(some 9), .mv (.t 21), none⟩])))))))
     (.seq
      (.reg none [⟨(some 22), .mv (.t 5), none⟩,
        ⟨(some 4), .mv (.t 22), none⟩])
      .ret)))) }
theorem f25P : prepF C Tryd.f25 = some f25A := by kernel_rfl

/-- congou/congouref07.Tell -/
def f27A : AFunc :=
{ nargs := 4, res := [.t 8, .t 9, .t 10], body :=
  (.seq
   (.reg none [⟨(some 8), .mv (.c (.int .i64 0)), none⟩,
     ⟨(some 9), .mv (.c (.int .i64 0)), none⟩,
     ⟨(some 10), .mv (.c (.int .i64 0)), none⟩])
   (.seq
    (.reg none [⟨(some 17), .mv (.t 0), none⟩,
      ⟨(some 18), .bin .shl (.c (.int .i64 1)) (.t 17), none⟩,
      ⟨(some 19), .bin .sub (.t 18) (.c (.int .i64 1)), none⟩,
      ⟨(some 11), .mv (.t 19), none⟩])
    (.seq
     (.reg none [⟨(some 20), .mv (.t 11), none⟩,
       ⟨(some 21), .mv (.t 11), none⟩,
       ⟨(some 12), .mv (.t 20), none⟩,
       ⟨(some 13), .mv (.t 21), none⟩,
       ⟨(some 14), .mv (.c (.b false)), none⟩])
     (.seq
      (.seq
       (.reg none [⟨(some 22), .mv (.t 0), none⟩,
         ⟨(some 23), .mv (.t 1), none⟩,
         ⟨(some 24), .call 25 [(.t 22), (.t 23)], none⟩,
         ⟨(some 25), .len (.t 24), none⟩,
         ⟨(some 26), .mv (.c (.int .i64 0)), none⟩])
       (.block 0
        (.loop
         (.seq
          (.reg none [⟨(some 27), .bin .lss (.t 26) (.t 25), none⟩])
          (.seq
           (.cond (.t 27)
            .skip
            (.exit 0))
           (.seq
            (.block 1
             (.seq
              (.reg none [⟨(some 28), .iaddr 1 (.t 24) (.t 26), none⟩,
                ⟨(some 29), .load none (.t 28), none⟩,
                ⟨(some 16), .mv (.t 29), none⟩])
              (.seq
               (.reg none [⟨(some 30), .mv (.t 16), none⟩,
                 ⟨(some 31), .mv (.t 2), none⟩,
                 ⟨(some 32), .bin .and (.t 30) (.t 31), none⟩,
                 ⟨(some 33), .mv (.t 2), none⟩,
                 ⟨(some 34), .bin .eql (.t 32) (.t 33), none⟩,
                 ⟨(some 35), .mv (.t 34), none⟩,
                 ⟨(some 36), .mv (.t 16), some (35, true)⟩,
                 ⟨(some 37), .mv (.t 3), some (35, true)⟩,
                 ⟨(some 38), .bin .and (.t 36) (.t 37), some (35, true)⟩,
                 ⟨(some 39), .bin .eql (.t 38) (.c (.int .i64 0)), some (35, true)⟩,
                 ⟨(some 40), .pick (.t 35) (.t 39) (.c (.b false)), none⟩])
               (.cond (.t 40)
                (.seq
                 (.reg none [⟨(some 41), .mv (.t 12), none⟩,
                   ⟨(some 42), .mv (.t 16), none⟩,
                   ⟨(some 43), .bin .and (.t 41) (.t 42), none⟩,
                   ⟨(some 12), .mv (.t 43), none⟩])
                 (.seq
                  (.reg none [⟨(some 44), .mv (.t 13), none⟩,
                    ⟨(some 45), .mv (.t 11), none⟩,
                    ⟨(some 46), .mv (.t 16), none⟩,
                    ⟨(some 47), .bin .andNot (.t 45) (.t 46), none⟩,
                    ⟨(some 48), .bin .and (.t 44) (.t 47), none⟩,
                    ⟨(some 13), .mv (.t 48), none⟩])
                  (.reg none [⟨(some 14), .mv (.c (.b true)), none⟩])))
                .skip))))
            (.reg none [⟨(some 49), .bin .add (.t 26) (.c (.int .i64 1)), none⟩,
              ⟨(some 26), .mv (.t 49), none⟩])))))))
      (.seq
       (.seq
        (.reg none [⟨(some 50), .mv (.t 14), none⟩,
          ⟨(some 51), .un .not (.t 50), none⟩])
        (.cond (.t 51)
         (.seq
          (.reg none [⟨(some 8), .mv (.c (.int .i64 0)), none⟩,
            ⟨(some 9), .mv (.c (.int .i64 0)), none⟩,
            ⟨(some 10), .mv (.c (.int .i64 4)), none⟩])
          .ret)
         .skip))
       (.seq
        (.reg none [⟨(some 52), .mv (.t 12), none⟩,
          ⟨(some 53), .mv (.t 13), none⟩,
          ⟨(some 8), .mv (.t 52), none⟩,
          ⟨(some 9), .mv (.t 53), none⟩,
          ⟨(some 10), .mv (.c (.int .i64 0)), none⟩])
        .ret)))))) }
theorem f27P : prepF C Tryd.f27 = some f27A := by kernel_rfl

/-- slices.Clone[[]int,int] -/
def f33A : AFunc :=
{ nargs := 1, res := [.t 2], body :=
  (.seq
   (.reg none [⟨(some 2), .mv (.c .nils), none⟩])
   (.seq
    (.seq
     (.reg none [⟨(some 3), .mv (.t 0), none⟩,
       ⟨(some 4), .seq false (.t 3) (.c .nils), none⟩])
     (.cond (.t 4)
      (.seq
       (.reg none [⟨(some 2), .mv (.c .nils), none⟩])
       .ret)
      .skip))
    (.seq
     (.reg none [⟨(some 5), .bslice [(.int .i64 0)] 0 1 [], none⟩,
       ⟨(some 6), .mv (.t 0), none⟩,
       ⟨(some 7), .append 1 8 (.t 5) (.t 6), none⟩,
       ⟨(some 2), .mv (.t 7), none⟩])
     .ret))) }
theorem f33P : prepF C Tryd.f33 = some f33A := by kernel_rfl

/-- congou/congoulaw07.Of -/
def f37A : AFunc :=
{ nargs := 1, res := [.c 2 (some 2)], body :=
  (.seq
   (.reg none [⟨(some 1), .box (.t 0), none⟩,
     ⟨(some 2), .alloc [.nils, .nils], none⟩])
   (.seq
    (.reg (some []) [⟨(some 3), .faddr 0 (.t 1), none⟩,
      ⟨(some 4), .load none (.t 3), none⟩,
      ⟨(some 5), .call 70 [(.t 4)], none⟩,
      ⟨(some 6), .faddr 1 (.t 1), none⟩,
      ⟨(some 7), .load none (.t 6), none⟩,
      ⟨(some 8), .call 70 [(.t 7)], none⟩,
      ⟨(some 9), .build [.nils, .nils] [(0, 1, (.t 5)), (1, 1, (.t 8))], none⟩,
      ⟨none, .store 2 (.t 2) (.t 9), none⟩])
    .ret)) }
theorem f37P : prepF C Tryd.f37 = some f37A := by kernel_rfl

/-- congou/congouref07.Valid -/
def f38A : AFunc :=
{ nargs := 1, res := [.t 2], body :=
  (.seq
   (.reg none [⟨(some 1), .box (.t 0), none⟩,
     ⟨(some 2), .mv (.c (.b false)), none⟩])
   (.seq
    (.seq
     (.reg none [⟨(some 7), .faddr 0 (.t 1), none⟩,
       ⟨(some 8), .load none (.t 7), none⟩,
       ⟨(some 9), .len (.t 8), none⟩,
       ⟨(some 10), .call 59 [(.t 9)], none⟩,
       ⟨(some 11), .un .not (.t 10), none⟩,
       ⟨(some 12), .mv (.t 11), none⟩,
       ⟨(some 13), .faddr 1 (.t 1), some (12, false)⟩,
       ⟨(some 14), .load none (.t 13), some (12, false)⟩,
       ⟨(some 15), .len (.t 14), some (12, false)⟩,
       ⟨(some 16), .call 59 [(.t 15)], some (12, false)⟩,
       ⟨(some 17), .un .not (.t 16), some (12, false)⟩,
       ⟨(some 18), .pick (.t 12) (.c (.b true)) (.t 17), none⟩])
     (.cond (.t 18)
      (.seq
       (.reg none [⟨(some 2), .mv (.c (.b false)), none⟩])
       .ret)
      .skip))
    (.seq
     (.seq
      (.reg none [⟨(some 19), .faddr 0 (.t 1), none⟩,
        ⟨(some 20), .load none (.t 19), none⟩,
        ⟨(some 21), .len (.t 20), none⟩,
        ⟨(some 22), .mv (.c (.int .i64 0)), none⟩])
      (.block 0
       (.loop
        (.seq
         (.reg none [⟨(some 23), .bin .lss (.t 22) (.t 21), none⟩])
         (.seq
          (.cond (.t 23)
           .skip
           (.exit 0))
          (.seq
           (.block 1
            (.seq
             (.reg none [⟨(some 24), .iaddr 1 (.t 20) (.t 22), none⟩,
               ⟨(some 25), .load none (.t 24), none⟩,
               ⟨(some 4), .mv (.t 25), none⟩])
             (.seq
              (.reg none [⟨(some 26), .faddr 1 (.t 1), none⟩,
                ⟨(some 27), .load none (.t 26), none⟩,
                ⟨(some 28), .len (.t 27), none⟩,
                ⟨(some 29), .mv (.t 4), none⟩,
                ⟨(some 30), .call 23 [(.t 28), (.t 29)], none⟩,
                ⟨(some 31), .un .not (.t 30), none⟩])
              (.cond (.t 31)
               (.seq
                (.reg none [⟨(some 2), .mv (.c (.b false)), none⟩])
                .ret)
               .skip))))
           (.reg none [⟨(some 32), .bin .add (.t 22) (.c (.int .i64 1)), none⟩,
             ⟨(some 22), .mv (.t 32), none⟩])))))))
     (.seq
      (.seq
       (.reg none [⟨(some 33), .faddr 1 (.t 1), none⟩,
         ⟨(some 34), .load none (.t 33), none⟩,
         ⟨(some 35), .len (.t 34), none⟩,
         ⟨(some 36), .mv (.c (.int .i64 0)), none⟩])
       (.block 2
        (.loop
         (.seq
          (.reg none [⟨(some 37), .bin .lss (.t 36) (.t 35), none⟩])
          (.seq
           (.cond (.t 37)
            .skip
            (.exit 2))
           (.seq
            (.block 3
             (.seq
              (.reg none [⟨(some 38), .iaddr 1 (.t 34) (.t 36), none⟩,
                ⟨(some 39), .load none (.t 38), none⟩,
                ⟨(some 6), .mv (.t 39), none⟩])
              (.seq
               (.reg none [⟨(some 40), .faddr 0 (.t 1), none⟩,
                 ⟨(some 41), .load none (.t 40), none⟩,
                 ⟨(some 42), .len (.t 41), none⟩,
                 ⟨(some 43), .mv (.t 6), none⟩,
                 ⟨(some 44), .call 23 [(.t 42), (.t 43)], none⟩,
                 ⟨(some 45), .un .not (.t 44), none⟩])
               (.cond (.t 45)
                (.seq
                 (.reg none [⟨(some 2), .mv (.c (.b false)), none⟩])
                 .ret)
                .skip))))
            (.reg none [⟨(some 46), .bin .add (.t 36) (.c (.int .i64 1)), none⟩,
              ⟨(some 36), .mv (.t 46), none⟩])))))))
      (.seq
       (.reg none [⟨(some 2), .mv (.c (.b true)), none⟩])
       .ret))))) }
theorem f38P : prepF C Tryd.f38 = some f38A := by kernel_rfl

/-- congou/squares.Count -/
def f41A : AFunc :=
{ nargs := 1, res := [.t 2, .t 3], body :=
  (.seq
   (.reg none [⟨(some 1), .box (.t 0), none⟩,
     ⟨(some 2), .mv (.c (.int .i64 0)), none⟩,
     ⟨(some 3), .mv (.c (.int .i64 0)), none⟩])
   (.seq
    (.seq
     (.reg none [⟨(some 5), .load (some 2) (.t 1), none⟩,
       ⟨(some 6), .call 67 [(.t 5)], none⟩,
       ⟨(some 7), .un .not (.t 6), none⟩])
     (.cond (.t 7)
      (.seq
       (.reg none [⟨(some 2), .mv (.c (.int .i64 0)), none⟩,
         ⟨(some 3), .mv (.c (.int .i64 2)), none⟩])
       .ret)
      .skip))
    (.seq
     (.reg none [⟨(some 4), .alloc [(.int .i64 0)], none⟩,
       ⟨none, .store 1 (.t 4) (.c (.int .i64 0)), none⟩])
     (.seq
      (.seq
       (.reg none [⟨(some 8), .load (some 2) (.t 1), none⟩,
         ⟨(some 9), .mkfn 73 [(.t 8)] [], none⟩])
       (.block 0
        (.rangeF 14 (.t 9) [10]
         .skip
         (.block 1
          (.reg none [⟨(some 11), .load none (.t 4), none⟩,
            ⟨(some 12), .bin .add (.t 11) (.c (.int .i64 1)), none⟩,
            ⟨none, .store 1 (.t 4) (.t 12), none⟩])))))
      (.seq
       (.reg none [⟨(some 13), .load none (.t 4), none⟩,
         ⟨(some 2), .mv (.t 13), none⟩,
         ⟨(some 3), .mv (.c (.int .i64 0)), none⟩])
       .ret))))) }
theorem f41P : prepF C Tryd.f41 = some f41A := by kernel_rfl

/-- congou/congouref07.Count -/
def f43A : AFunc :=
{ nargs := 1, res := [.t 2], body :=
  (.seq
   (.reg none [⟨(some 1), .box (.t 0), none⟩,
     ⟨(some 2), .mv (.c (.int .i64 0)), none⟩])
   (.seq
    (.reg none [⟨(some 3), .load (some 2) (.t 1), none⟩,
      ⟨(some 4), .call 74 [(.t 3), (.c .nils)], none⟩,
      ⟨(some 5), .len (.t 4), none⟩,
      ⟨(some 2), .mv (.t 5), none⟩])
    .ret)) }
theorem f43P : prepF C Tryd.f43 = some f43A := by kernel_rfl

/-- congou/squares.Try -/
def f53A : AFunc :=
{ nargs := 1, res := [.t 2, .t 3], body :=
  (.seq
   (.reg none [⟨(some 1), .box (.t 0), none⟩,
     ⟨(some 2), .mv (.c (.int .i64 0)), none⟩,
     ⟨(some 3), .mv (.c (.int .i64 0)), none⟩])
   (.seq
    (.seq
     (.reg none [⟨(some 9), .load (some 2) (.t 1), none⟩,
       ⟨(some 10), .call 41 [(.t 9)], none⟩,
       ⟨(some 8), .mv (.t 10), none⟩,
       ⟨(some 11), .extr (.t 8) 0, none⟩,
       ⟨(some 12), .extr (.t 8) 1, none⟩,
       ⟨(some 4), .mv (.t 11), none⟩,
       ⟨(some 5), .mv (.t 12), none⟩])
     (.block 0
      (.seq
       (.reg none [⟨(some 14), .mv (.t 5), none⟩,
         ⟨(some 15), .bin .neq (.t 14) (.c (.int .i64 0)), none⟩,
         ⟨(some 13), .mv (.t 15), none⟩])
       (.cond (.t 13)
        (.seq
         (.reg none [⟨(some 16), .mv (.t 5), none⟩,
           ⟨(some 2), .mv (.c (.int .i64 0)), none⟩,
           ⟨(some 3), .mv (.t 16), none⟩])
         .ret)
        (.seq
         (.reg none [⟨(some 18), .mv (.t 4), none⟩,
           ⟨(some 19), .bin .neq (.t 18) (.c (.int .i64 1)), none⟩,
           ⟨(some 17), .mv (.t 19), none⟩])
         (.cond (.t 17)
          (.seq
           (.reg none [⟨(some 2), .mv (.c (.int .i64 0)), none⟩,
             ⟨(some 3), .mv (.c (.int .i64 4)), none⟩])
           .ret)
          .skip))))))
    (.seq
     (.reg none [⟨(some 6), .mv (.c (.int .i64 0)), none⟩])
     (.block 1
      (.loop
       (.seq
        (.block 2
         (.seq
          (.reg none [⟨(some 22), .call 68 [(.t 1)], none⟩,
            ⟨(some 7), .mv (.t 22), none⟩])
          (.seq
           (.reg none [⟨(some 23), .mv (.t 7), none⟩,
             ⟨(some 24), .mv (.t 6), none⟩,
             ⟨(some 25), .call 83 [(.t 23), (.t 24)], none⟩])
           (.seq
            (.reg none [⟨(some 26), .mv (.t 7), none⟩,
              ⟨(some 27), .call 84 [(.t 26)], none⟩])
            (.cond (.t 27)
             (.seq
              (.reg none [⟨(some 28), .mv (.t 6), none⟩,
                ⟨(some 2), .mv (.t 28), none⟩,
                ⟨(some 3), .mv (.c (.int .i64 0)), none⟩])
              .ret)
             .skip)))))
        (.reg none [⟨(some 20), .mv (.t 6), none⟩,
          ⟨(some 21), .bin .add (.t 20) (.c (.int .i64 1)), none⟩,
          ⟨(some 6), .mv (.t 21), none⟩]))))))) }
theorem f53P : prepF C Tryd.f53 = some f53A := by kernel_rfl

/-- congou/congouref07.Try -/
def f54A : AFunc :=
{ nargs := 1, res := [.t 2, .t 3], body :=
  (.seq
   (.reg none [⟨(some 1), .box (.t 0), none⟩,
     ⟨(some 2), .mv (.c (.int .i64 0)), none⟩,
     ⟨(some 3), .mv (.c (.int .i64 0)), none⟩])
   (.seq
    (.seq
     (.reg none [⟨(some 10), .load (some 2) (.t 1), none⟩,
       ⟨(some 11), .call 43 [(.t 10)], none⟩,
       ⟨(some 12), .bin .neq (.t 11) (.c (.int .i64 1)), none⟩])
     (.cond (.t 12)
      (.seq
       (.reg none [⟨(some 2), .mv (.c (.int .i64 0)), none⟩,
         ⟨(some 3), .mv (.c (.int .i64 4)), none⟩])
       .ret)
      .skip))
    (.seq
     (.reg none [⟨(some 4), .mv (.c (.int .i64 0)), none⟩])
     (.block 0
      (.loop
       (.seq
        (.block 1
         (.seq
          (.reg (some []) [⟨(some 16), .load (some 2) (.t 1), none⟩,
            ⟨(some 17), .load (some 2) (.t 1), none⟩,
            ⟨(some 18), .call 72 [(.t 17)], none⟩,
            ⟨(some 19), .mv (.t 4), none⟩,
            ⟨(some 20), .call 85 [(.t 16), (.t 18), (.t 19)], none⟩,
            ⟨(some 15), .mv (.t 20), none⟩,
            ⟨(some 21), .extr (.t 15) 0, none⟩,
            ⟨(some 22), .extr (.t 15) 1, none⟩,
            ⟨(some 5), .alloc [.nils, .nils], none⟩,
            ⟨none, .store 2 (.t 5) (.t 21), none⟩,
            ⟨(some 6), .mv (.t 22), none⟩])
          (.seq
           (.reg none [⟨(some 7), .mv (.c (.b true)), none⟩])
           (.seq
            (.seq
             (.reg none [⟨(some 23), .faddr 0 (.t 5), none⟩,
               ⟨(some 24), .load none (.t 23), none⟩,
               ⟨(some 25), .len (.t 24), none⟩,
               ⟨(some 26), .mv (.c (.int .i64 0)), none⟩])
             (.block 2
              (.loop
               (.seq
                (.reg none [⟨(some 27), .bin .lss (.t 26) (.t 25), none⟩])
                (.seq
                 (.cond (.t 27)
                  .skip
                  (.exit 2))
                 (.seq
                  (.block 3
                   (.seq
                    (.reg none [⟨(some 28), .mv (.t 26), none⟩,
                      ⟨(some 29), .iaddr 1 (.t 24) (.t 26), none⟩,
                      ⟨(some 30), .load none (.t 29), none⟩,
                      ⟨(some 8), .mv (.t 28), none⟩,
                      ⟨(some 9), .mv (.t 30), none⟩])
                    (.reg (some []) [⟨(some 31), .mv (.t 7), none⟩,
                      ⟨(some 32), .mv (.t 31), none⟩,
                      ⟨(some 33), .mv (.t 9), some (32, true)⟩,
                      ⟨(some 34), .faddr 1 (.t 5), some (32, true)⟩,
                      ⟨(some 35), .load none (.t 34), some (32, true)⟩,
                      ⟨(some 36), .mv (.t 8), some (32, true)⟩,
                      ⟨(some 37), .iaddr 1 (.t 35) (.t 36), some (32, true)⟩,
                      ⟨(some 38), .load none (.t 37), some (32, true)⟩,
                      ⟨(some 39), .bin .or (.t 33) (.t 38), some (32, true)⟩,
                      ⟨(some 40), .faddr 1 (.t 1), some (32, true)⟩,
                      ⟨(some 41), .load none (.t 40), some (32, true)⟩,
                      ⟨(some 42), .len (.t 41), some (32, true)⟩,
                      ⟨(some 43), .bin .shl (.c (.int .i64 1)) (.t 42), some (32, true)⟩,
                      ⟨(some 44), .bin .sub (.t 43) (.c (.int .i64 1)), some (32, true)⟩,
                      ⟨(some 45), .bin .eql (.t 39) (.t 44), some (32, true)⟩,
                      ⟨(some 46), .pick (.t 32) (.t 45) (.c (.b false)), none⟩,
                      ⟨(some 7), .mv (.t 46), none⟩])))
                  (.reg none [⟨(some 47), .bin .add (.t 26) (.c (.int .i64 1)), none⟩,
                    ⟨(some 26), .mv (.t 47), none⟩])))))))
            (.seq
             (.reg none [⟨(some 48), .mv (.t 7), none⟩])
             (.cond (.t 48)
              (.seq
               (.reg none [⟨(some 49), .mv (.t 4), none⟩,
                 ⟨(some 2), .mv (.t 49), none⟩,
                 ⟨(some 3), .mv (.c (.int .i64 0)), none⟩])
               .ret)
              .skip))))))
        (.reg none [⟨(some 13), .mv (.t 4), none⟩,
          ⟨(some 14), .bin .add (.t 13) (.c (.int .i64 1)), none⟩,
          ⟨(some 4), .mv (.t 14), none⟩]))))))) }
theorem f54P : prepF C Tryd.f54 = some f54A := by kernel_rfl

/-- congou/squares.isSet -/
def f55A : AFunc :=
{ nargs := 2, res := [.t 4], body :=
  (.seq
   (.reg none [⟨(some 4), .mv (.c (.b false)), none⟩])
   (.seq
    (.reg none [⟨(some 5), .mv (.t 0), none⟩,
      ⟨(some 6), .call 86 [(.t 5)], none⟩,
      ⟨(some 7), .mv (.t 6), none⟩,
      ⟨(some 8), .mv (.t 1), some (7, true)⟩,
      ⟨(some 9), .bin .geq (.t 8) (.c (.int .i64 0)), some (7, true)⟩,
      ⟨(some 10), .pick (.t 7) (.t 9) (.c (.b false)), none⟩,
      ⟨(some 11), .mv (.t 10), none⟩,
      ⟨(some 12), .mv (.t 1), some (11, true)⟩,
      ⟨(some 13), .mv (.t 0), some (11, true)⟩,
      ⟨(some 14), .bin .shl (.c (.int .i64 1)) (.t 13), some (11, true)⟩,
      ⟨(some 15), .bin .lss (.t 12) (.t 14), some (11, true)⟩,
      ⟨(some 16), .pick (.t 11) (.t 15) (.c (.b false)), none⟩,
      ⟨(some 4), .mv (.t 16), none⟩])
    .ret)) }
theorem f55P : prepF C Tryd.f55 = some f55A := by kernel_rfl

/-- congou/squares.blocks -/
def f56A : AFunc :=
{ nargs := 1, res := [.t 2], body :=
  (.seq
   (.reg none [⟨(some 2), .mv (.c .nils), none⟩])
   (.seq
    (.reg none [⟨(some 3), .mv (.c .nils), none⟩])
    (.seq
     (.seq
      (.reg none [⟨(some 6), .mv (.t 0), none⟩,
        ⟨(some 7), .conv .u64 (.t 6), none⟩,
        ⟨(some 4), .mv (.t 7), none⟩])
      (.block 0
       (.loop
        (.seq
         (.seq
          (.reg none [⟨(some 8), .mv (.t 4), none⟩,
            ⟨(some 9), .bin .neq (.t 8) (.c (.int .u64 0)), none⟩])
          (.cond (.t 9)
           .skip
           (.exit 0)))
         (.block 1
          (.seq
           (.reg none [⟨(some 10), .mv (.t 4), none⟩,
             ⟨(some 11), .mv (.t 4), none⟩,
             ⟨(some 12), .call 87 [(.t 11)], none⟩,
             ⟨(some 13), .bin .shr (.t 10) (.t 12), none⟩,
             ⟨(some 4), .mv (.t 13), none⟩])
           (.seq
            (.reg none [⟨(some 14), .mv (.t 4), none⟩,
              ⟨(some 15), .un .xor (.t 14), none⟩,
              ⟨(some 16), .call 87 [(.t 15)], none⟩,
              ⟨(some 5), .mv (.t 16), none⟩])
            (.seq
             (.reg none [⟨(some 17), .mv (.t 3), none⟩,
               ⟨(some 18), .mv (.t 5), none⟩,
               ⟨(some 19), .bslice [(.int .i64 0)] 1 1 [(0, (.t 18))], none⟩,
               ⟨(some 20), .append 1 8 (.t 17) (.t 19), none⟩,
               ⟨(some 3), .mv (.t 20), none⟩])
             (.reg none [⟨(some 21), .mv (.t 4), none⟩,
               ⟨(some 22), .mv (.t 5), none⟩,
               ⟨(some 23), .bin .shr (.t 21) (.t 22), none⟩,
               ⟨(some 4), .mv (.t 23), none⟩])))))))))
     (.seq
      (.reg none [⟨(some 24), .mv (.t 3), none⟩,
        ⟨(some 2), .mv (.t 24), none⟩])
      .ret)))) }
theorem f56P : prepF C Tryd.f56 = some f56A := by kernel_rfl

/-- congou/squares.isClue -/
def f57A : AFunc :=
{ nargs := 2, res := [.t 4], body :=
  (.seq
   (.reg none [⟨(some 4), .mv (.c (.b false)), none⟩])
   (.seq
    (.reg none [⟨(some 5), .mv (.t 0), none⟩,
      ⟨(some 6), .call 86 [(.t 5)], none⟩,
      ⟨(some 7), .mv (.t 6), none⟩,
      ⟨(some 8), .mv (.t 0), some (7, true)⟩,
      ⟨(some 9), .mv (.t 1), some (7, true)⟩,
      ⟨(some 10), .call 58 [(.t 8), (.t 9)], some (7, true)⟩,
      ⟨(some 11), .len (.t 10), some (7, true)⟩,
      ⟨(some 12), .bin .gtr (.t 11) (.c (.int .i64 0)), some (7, true)⟩,
      ⟨(some 13), .pick (.t 7) (.t 12) (.c (.b false)), none⟩,
      ⟨(some 4), .mv (.t 13), none⟩])
    .ret)) }
theorem f57P : prepF C Tryd.f57 = some f57A := by kernel_rfl

/-- congou/squares.lines -/
def f58A : AFunc :=
{ nargs := 2, res := [.t 4], body :=
  (.seq
   (.reg none [⟨(some 4), .mv (.c .nils), none⟩])
   (.seq
    (.reg none [⟨(some 5), .mv (.c .nils), none⟩])
    (.seq
     (.seq
      (.reg none [⟨(some 7), .mv (.t 0), none⟩,
        ⟨(some 8), .bin .shl (.c (.int .i64 1)) (.t 7), none⟩,
        ⟨(some 9), .mv (.c (.int .i64 0)), none⟩])
      (.block 0
       (.loop
        (.seq
         (.reg none [⟨(some 10), .bin .lss (.t 9) (.t 8), none⟩])
         (.seq
          (.cond (.t 10)
           .skip
           (.exit 0))
          (.seq
           (.block 1
            (.seq
             (.reg none [⟨(some 11), .mv (.t 9), none⟩,
               ⟨(some 6), .mv (.t 11), none⟩])
             (.seq
              (.reg none [⟨(some 12), .mv (.t 6), none⟩,
                ⟨(some 13), .call 56 [(.t 12)], none⟩,
                ⟨(some 14), .mv (.t 1), none⟩,
                ⟨(some 15), .call 21 [(.t 13), (.t 14)], none⟩])
              (.cond (.t 15)
               (.reg none [⟨(some 16), .mv (.t 5), none⟩,
                 ⟨(some 17), .mv (.t 6), none⟩,
                 ⟨(some 18), .bslice [(.int .i64 0)] 1 1 [(0, (.t 17))], none⟩,
                 ⟨(some 19), .append 1 8 (.t 16) (.t 18), none⟩,
                 ⟨(some 5), .mv (.t 19), none⟩])
               .skip))))
           (.reg none [⟨(some 20), .bin .add (.t 9) (.c (.int .i64 1)), none⟩,
             ⟨(some 9), .mv (.t 20), none⟩])))))))
     (.seq
      (.reg none [⟨(some 21), .mv (.t 5), none⟩,
        ⟨(some 4), .mv (.t 21), none⟩])
      .ret)))) }
theorem f58P : prepF C Tryd.f58 = some f58A := by kernel_rfl

/-- congou/congouref07.Size -/
def f59A : AFunc :=
{ nargs := 1, res := [.t 2], body :=
  (.seq
   (.reg none [⟨(some 2), .mv (.c (.b false)), none⟩])
   (.seq
    (.reg none [⟨(some 3), .mv (.t 0), none⟩,
      ⟨(some 4), .bin .geq (.t 3) (.c (.int .i64 1)), none⟩,
      ⟨(some 5), .mv (.t 4), none⟩,
      ⟨(some 6), .mv (.t 0), some (5, true)⟩,
      ⟨(some 7), .bin .leq (.t 6) (.c (.int .i64 5)), some (5, true)⟩,
      ⟨(some 8), .pick (.t 5) (.t 7) (.c (.b false)), none⟩,
      ⟨(some 2), .mv (.t 8), none⟩])
    .ret)) }
theorem f59P : prepF C Tryd.f59 = some f59A := by kernel_rfl

/-- congou/congouref07.same -/
def f60A : AFunc :=
{ nargs := 2, res := [.t 4], body :=
  (.seq
   (.reg none [⟨(some 4), .mv (.c (.b false)), none⟩])
   (.seq
    (.seq
     (.reg none [⟨(some 7), .mv (.t 0), none⟩,
       ⟨(some 8), .len (.t 7), none⟩,
       ⟨(some 9), .mv (.t 1), none⟩,
       ⟨(some 10), .len (.t 9), none⟩,
       ⟨(some 11), .bin .neq (.t 8) (.t 10), none⟩])
     (.cond (.t 11)
      (.seq
       (.reg none [⟨(some 4), .mv (.c (.b false)), none⟩])
       .ret)
      .skip))
    (.seq
     (.seq
      (.reg none [⟨(some 12), .mv (.t 0), none⟩,
        ⟨(some 13), .len (.t 12), none⟩,
        ⟨(some 14), .mv (.c (.int .i64 0)), none⟩])
      (.block 0
       (.loop
        (.seq
         (.reg none [⟨(some 15), .bin .lss (.t 14) (.t 13), none⟩])
         (.seq
          (.cond (.t 15)
           .skip
           (.exit 0))
          (.seq
           (.block 1
            (.seq
             (.reg none [⟨(some 16), .mv (.t 14), none⟩,
               ⟨(some 17), .iaddr 1 (.t 12) (.t 14), none⟩,
               ⟨(some 18), .load none (.t 17), none⟩,
               ⟨(some 5), .mv (.t 16), none⟩,
               ⟨(some 6), .mv (.t 18), none⟩])
             (.seq
              (.reg none [⟨(some 19), .mv (.t 6), none⟩,
                ⟨(some 20), .mv (.t 1), none⟩,
                ⟨(some 21), .mv (.t 5), none⟩,
                ⟨(some 22), .iaddr 1 (.t 20) (.t 21), none⟩,
                ⟨(some 23), .load none (.t 22), none⟩,
                ⟨(some 24), .bin .neq (.t 19) (.t 23), none⟩])
              (.cond (.t 24)
               (.seq
                (.reg none [⟨(some 4), .mv (.c (.b false)), none⟩])
                .ret)
               .skip))))
           (.reg none [⟨(some 25), .bin .add (.t 14) (.c (.int .i64 1)), none⟩,
             ⟨(some 14), .mv (.t 25), none⟩])))))))
     (.seq
      (.reg none [⟨(some 4), .mv (.c (.b true)), none⟩])
      .ret)))) }
theorem f60P : prepF C Tryd.f60 = some f60A := by kernel_rfl

/-- congou/squares.settle -/
def f61A : AFunc :=
{ nargs := 3, res := [.c 6 (some 2), .t 7], body :=
  (.seq
   (.reg none [⟨(some 5), .box (.t 2), none⟩,
     ⟨(some 6), .alloc [(.int .i64 0), (.int .i64 0)], none⟩,
     ⟨(some 7), .mv (.c (.b false)), none⟩])
   (.seq
    (.reg none [⟨(some 11), .mv (.t 0), none⟩,
      ⟨(some 12), .bin .shl (.c (.int .i64 1)) (.t 11), none⟩,
      ⟨(some 13), .bin .sub (.t 12) (.c (.int .i64 1)), none⟩,
      ⟨(some 8), .mv (.t 13), none⟩])
    (.seq
     (.reg none [⟨(some 14), .mv (.t 8), none⟩,
       ⟨(some 15), .mv (.t 8), none⟩,
       ⟨(some 16), .build [(.int .i64 0), (.int .i64 0)] [(0, 1, (.t 14)), (1, 1, (.t 15))], none⟩,
       ⟨none, .store 2 (.t 6) (.t 16), none⟩])
     (.seq
      (.seq
       (.reg none [⟨(some 17), .mv (.t 0), none⟩,
         ⟨(some 18), .mv (.t 1), none⟩,
         ⟨(some 19), .call 58 [(.t 17), (.t 18)], none⟩,
         ⟨(some 20), .len (.t 19), none⟩,
         ⟨(some 21), .mv (.c (.int .i64 0)), none⟩])
       (.block 0
        (.loop
         (.seq
          (.reg none [⟨(some 22), .bin .lss (.t 21) (.t 20), none⟩])
          (.seq
           (.cond (.t 22)
            .skip
            (.exit 0))
           (.seq
            (.block 1
             (.seq
              (.reg none [⟨(some 23), .iaddr 1 (.t 19) (.t 21), none⟩,
                ⟨(some 24), .load none (.t 23), none⟩,
                ⟨(some 10), .mv (.t 24), none⟩])
              (.seq
               (.reg none [⟨(some 25), .load (some 2) (.t 5), none⟩,
                 ⟨(some 26), .mv (.t 10), none⟩,
                 ⟨(some 27), .call 88 [(.t 25), (.t 26)], none⟩])
               (.cond (.t 27)
                (.seq
                 (.reg none [⟨(some 28), .faddr 0 (.t 6), none⟩,
                   ⟨(some 29), .load none (.t 28), none⟩,
                   ⟨(some 30), .mv (.t 10), none⟩,
                   ⟨(some 31), .bin .and (.t 29) (.t 30), none⟩,
                   ⟨(some 32), .faddr 0 (.t 6), none⟩,
                   ⟨none, .store 1 (.t 32) (.t 31), none⟩])
                 (.seq
                  (.reg none [⟨(some 33), .faddr 1 (.t 6), none⟩,
                    ⟨(some 34), .load none (.t 33), none⟩,
                    ⟨(some 35), .mv (.t 10), none⟩,
                    ⟨(some 36), .bin .andNot (.t 34) (.t 35), none⟩,
                    ⟨(some 37), .faddr 1 (.t 6), none⟩,
                    ⟨none, .store 1 (.t 37) (.t 36), none⟩])
                  (.reg none [⟨(some 7), .mv (.c (.b true)), none⟩])))
                .skip))))
            (.reg none [⟨(some 38), .bin .add (.t 21) (.c (.int .i64 1)), none⟩,
              ⟨(some 21), .mv (.t 38), none⟩])))))))
      (.seq
       (.reg none [⟨(some 39), .load (some 2) (.t 6), none⟩,
         ⟨(some 40), .mv (.t 7), none⟩,
         ⟨none, .store 2 (.t 6) (.t 39), none⟩,
         ⟨(some 7), .mv (.t 40), none⟩])
       .ret))))) }
theorem f61P : prepF C Tryd.f61 = some f61A := by kernel_rfl

/-- congou/congouref07.column -/
def f64A : AFunc :=
{ nargs := 2, res := [.t 4], body :=
  (.seq
   (.reg none [⟨(some 4), .mv (.c (.int .i64 0)), none⟩])
   (.seq
    (.reg none [⟨(some 5), .mv (.c (.int .i64 0)), none⟩])
    (.seq
     (.seq
      (.reg none [⟨(some 8), .mv (.t 0), none⟩,
        ⟨(some 9), .len (.t 8), none⟩,
        ⟨(some 10), .mv (.c (.int .i64 0)), none⟩])
      (.block 0
       (.loop
        (.seq
         (.reg none [⟨(some 11), .bin .lss (.t 10) (.t 9), none⟩])
         (.seq
          (.cond (.t 11)
           .skip
           (.exit 0))
          (.seq
           (.block 1
            (.seq
             (.reg none [⟨(some 12), .mv (.t 10), none⟩,
               ⟨(some 13), .iaddr 1 (.t 8) (.t 10), none⟩,
               ⟨(some 14), .load none (.t 13), none⟩,
               ⟨(some 6), .mv (.t 12), none⟩,
               ⟨(some 7), .mv (.t 14), none⟩])
             (.reg none [⟨(some 15), .mv (.t 5), none⟩,
               ⟨(some 16), .mv (.t 7), none⟩,
               ⟨(some 17), .mv (.t 1), none⟩,
               ⟨(some 18), .bin .shr (.t 16) (.t 17), none⟩,
               ⟨(some 19), .bin .and (.t 18) (.c (.int .i64 1)), none⟩,
               ⟨(some 20), .mv (.t 6), none⟩,
               ⟨(some 21), .bin .shl (.t 19) (.t 20), none⟩,
               ⟨(some 22), .bin .or (.t 15) (.t 21), none⟩,
               ⟨(some 5), .mv (.t 22), none⟩])))
           (.reg none [⟨(some 23), .bin .add (.t 10) (.c (.int .i64 1)), none⟩,
             ⟨(some 10), .mv (.t 23), none⟩])))))))
     (.seq
      (.reg none [⟨(some 24), .mv (.t 5), none⟩,
        ⟨(some 4), .mv (.t 24), none⟩])
      .ret)))) }
theorem f64P : prepF C Tryd.f64 = some f64A := by kernel_rfl

/-- (congou/squares.Puzzle).valid -/
def f67A : AFunc :=
{ nargs := 1, res := [.t 2], body :=
  (.seq
   (.reg none [⟨(some 1), .box (.t 0), none⟩,
     ⟨(some 2), .mv (.c (.b false)), none⟩])
   (.seq
    (.reg (some [(4, 8)]) [⟨(some 5), .faddr 0 (.t 1), none⟩,
      ⟨(some 6), .load none (.t 5), none⟩,
      ⟨(some 7), .len (.t 6), none⟩,
      ⟨(some 8), .faddr 1 (.t 1), none⟩,
      ⟨(some 9), .load none (.t 8), none⟩,
      ⟨(some 10), .len (.t 9), none⟩,
      ⟨(some 3), .alloc [(.int .i64 0)], none⟩,
      ⟨(some 4), .alloc [(.int .i64 0)], none⟩,
      ⟨none, .store 1 (.t 3) (.t 7), none⟩,
      ⟨none, .store 1 (.t 4) (.t 10), none⟩])
    (.seq
     (.reg none [⟨(some 11), .load none (.t 3), none⟩,
       ⟨(some 12), .call 86 [(.t 11)], none⟩,
       ⟨(some 13), .mv (.t 12), none⟩,
       ⟨(some 14), .load none (.t 4), some (13, true)⟩,
       ⟨(some 15), .call 86 [(.t 14)], some (13, true)⟩,
       ⟨(some 16), .pick (.t 13) (.t 15) (.c (.b false)), none⟩,
       ⟨(some 17), .mv (.t 16), none⟩,
       ⟨(some 18), .faddr 0 (.t 1), some (17, true)⟩,
       ⟨(some 19), .load none (.t 18), some (17, true)⟩,
       ⟨(some 20), .mkfn 94 [] [(.t 4)], some (17, true)⟩,
       ⟨(some 21), .call 93 [(.t 19), (.t 20)], some (17, true)⟩,
       ⟨(some 22), .un .not (.t 21), some (17, true)⟩,
       ⟨(some 23), .pick (.t 17) (.t 22) (.c (.b false)), none⟩,
       ⟨(some 24), .mv (.t 23), none⟩,
       ⟨(some 25), .faddr 1 (.t 1), some (24, true)⟩,
       ⟨(some 26), .load none (.t 25), some (24, true)⟩,
       ⟨(some 27), .mkfn 95 [] [(.t 3)], some (24, true)⟩,
       ⟨(some 28), .call 93 [(.t 26), (.t 27)], some (24, true)⟩,
       ⟨(some 29), .un .not (.t 28), some (24, true)⟩,
       ⟨(some 30), .pick (.t 24) (.t 29) (.c (.b false)), none⟩,
       ⟨(some 2), .mv (.t 30), none⟩])
     .ret))) }
theorem f67P : prepF C Tryd.f67 = some f67A := by kernel_rfl

/-- (*congou/squares.Puzzle).start -/
def f68A : AFunc :=
{ nargs := 1, res := [.t 2], body :=
  (.seq
   (.reg none [⟨(some 2), .mv (.c .nilp), none⟩])
   (.seq
    (.reg none [⟨(some 3), .mv (.t 0), none⟩,
      ⟨(some 4), .mv (.t 0), none⟩,
      ⟨(some 5), .nilchk (.t 4), none⟩,
      ⟨(some 6), .faddr 0 (.t 5), none⟩,
      ⟨(some 7), .load none (.t 6), none⟩,
      ⟨(some 8), .len (.t 7), none⟩,
      ⟨(some 9), .mkslice 2 16 [(.int .i64 0), (.int .i64 0)] (.t 8), none⟩,
      ⟨(some 10), .build [.nilp, .nils] [(0, 1, (.t 3)), (1, 1, (.t 9))], none⟩,
      ⟨(some 11), .box (.t 10), none⟩,
      ⟨(some 2), .mv (.t 11), none⟩])
    .ret)) }
theorem f68P : prepF C Tryd.f68 = some f68A := by kernel_rfl

/-- (*congou/squares.board).lines -/
def f69A : AFunc :=
{ nargs := 1, res := [.t 2], body :=
  (.seq
   (.reg none [⟨(some 2), .mv (.c (.b false)), none⟩])
   (.block 0
    (.loop
     (.block 1
      (.seq
       (.reg none [⟨(some 12), .mv (.t 0), none⟩,
         ⟨(some 13), .nilchk (.t 12), none⟩,
         ⟨(some 14), .faddr 1 (.t 13), none⟩,
         ⟨(some 15), .load none (.t 14), none⟩,
         ⟨(some 16), .call 96 [(.t 15)], none⟩,
         ⟨(some 3), .mv (.t 16), none⟩])
       (.seq
        (.seq
         (.reg none [⟨(some 17), .mv (.t 0), none⟩,
           ⟨(some 18), .nilchk (.t 17), none⟩,
           ⟨(some 19), .faddr 0 (.t 18), none⟩,
           ⟨(some 20), .load none (.t 19), none⟩,
           ⟨(some 21), .nilchk (.t 20), none⟩,
           ⟨(some 22), .faddr 0 (.t 21), none⟩,
           ⟨(some 23), .load none (.t 22), none⟩,
           ⟨(some 24), .len (.t 23), none⟩,
           ⟨(some 25), .mv (.c (.int .i64 0)), none⟩])
         (.block 2
          (.loop
           (.seq
            (.reg none [⟨(some 26), .bin .lss (.t 25) (.t 24), none⟩])
            (.seq
             (.cond (.t 26)
              .skip
              (.exit 2))
             (.seq
              (.block 3
               (.seq
                (.reg none [⟨(some 27), .mv (.t 25), none⟩,
                  ⟨(some 28), .iaddr 1 (.t 23) (.t 25), none⟩,
                  ⟨(some 29), .load none (.t 28), none⟩,
                  ⟨(some 4), .mv (.t 27), none⟩,
                  ⟨(some 5), .mv (.t 29), none⟩])
                (.seq
                 (.reg (some []) [⟨(some 31), .mv (.t 0), none⟩,
                   ⟨(some 32), .nilchk (.t 31), none⟩,
                   ⟨(some 33), .faddr 0 (.t 32), none⟩,
                   ⟨(some 34), .load none (.t 33), none⟩,
                   ⟨(some 35), .nilchk (.t 34), none⟩,
                   ⟨(some 36), .faddr 1 (.t 35), none⟩,
                   ⟨(some 37), .load none (.t 36), none⟩,
                   ⟨(some 38), .len (.t 37), none⟩,
                   ⟨(some 39), .mv (.t 5), none⟩,
                   ⟨(some 40), .mv (.t 0), none⟩,
                   ⟨(some 41), .nilchk (.t 40), none⟩,
                   ⟨(some 42), .faddr 1 (.t 41), none⟩,
                   ⟨(some 43), .load none (.t 42), none⟩,
                   ⟨(some 44), .mv (.t 4), none⟩,
                   ⟨(some 45), .iaddr 2 (.t 43) (.t 44), none⟩,
                   ⟨(some 46), .load (some 2) (.t 45), none⟩,
                   ⟨(some 47), .call 61 [(.t 38), (.t 39), (.t 46)], none⟩,
                   ⟨(some 30), .mv (.t 47), none⟩,
                   ⟨(some 48), .extr (.t 30) 0, none⟩,
                   ⟨(some 49), .extr (.t 30) 1, none⟩,
                   ⟨(some 6), .alloc [(.int .i64 0), (.int .i64 0)], none⟩,
                   ⟨none, .store 2 (.t 6) (.t 48), none⟩,
                   ⟨(some 7), .mv (.t 49), none⟩])
                 (.seq
                  (.seq
                   (.reg none [⟨(some 50), .mv (.t 7), none⟩,
                     ⟨(some 51), .un .not (.t 50), none⟩])
                   (.cond (.t 51)
                    (.seq
                     (.reg none [⟨(some 2), .mv (.c (.b false)), none⟩])
                     .ret)
                    .skip))
                  (.reg (some []) [⟨(some 52), .mv (.t 0), none⟩,
                    ⟨(some 53), .nilchk (.t 52), none⟩,
                    ⟨(some 54), .faddr 1 (.t 53), none⟩,
                    ⟨(some 55), .load none (.t 54), none⟩,
                    ⟨(some 56), .mv (.t 4), none⟩,
                    ⟨(some 57), .load (some 2) (.t 6), none⟩,
                    ⟨(some 58), .iaddr 2 (.t 55) (.t 56), none⟩,
                    ⟨none, .store 2 (.t 58) (.t 57), none⟩])))))
              (.reg none [⟨(some 59), .bin .add (.t 25) (.c (.int .i64 1)), none⟩,
                ⟨(some 25), .mv (.t 59), none⟩])))))))
        (.seq
         (.seq
          (.reg none [⟨(some 60), .mv (.t 0), none⟩,
            ⟨(some 61), .nilchk (.t 60), none⟩,
            ⟨(some 62), .faddr 0 (.t 61), none⟩,
            ⟨(some 63), .load none (.t 62), none⟩,
            ⟨(some 64), .nilchk (.t 63), none⟩,
            ⟨(some 65), .faddr 1 (.t 64), none⟩,
            ⟨(some 66), .load none (.t 65), none⟩,
            ⟨(some 67), .len (.t 66), none⟩,
            ⟨(some 68), .mv (.c (.int .i64 0)), none⟩])
          (.block 4
           (.loop
            (.seq
             (.reg none [⟨(some 69), .bin .lss (.t 68) (.t 67), none⟩])
             (.seq
              (.cond (.t 69)
               .skip
               (.exit 4))
              (.seq
               (.block 5
                (.seq
                 (.reg none [⟨(some 70), .mv (.t 68), none⟩,
                   ⟨(some 71), .iaddr 1 (.t 66) (.t 68), none⟩,
                   ⟨(some 72), .load none (.t 71), none⟩,
                   ⟨(some 8), .mv (.t 70), none⟩,
                   ⟨(some 9), .mv (.t 72), none⟩])
                 (.seq
                  (.reg (some []) [⟨(some 74), .mv (.t 0), none⟩,
                    ⟨(some 75), .nilchk (.t 74), none⟩,
                    ⟨(some 76), .faddr 0 (.t 75), none⟩,
                    ⟨(some 77), .load none (.t 76), none⟩,
                    ⟨(some 78), .nilchk (.t 77), none⟩,
                    ⟨(some 79), .faddr 0 (.t 78), none⟩,
                    ⟨(some 80), .load none (.t 79), none⟩,
                    ⟨(some 81), .len (.t 80), none⟩,
                    ⟨(some 82), .mv (.t 9), none⟩,
                    ⟨(some 83), .mv (.t 0), none⟩,
                    ⟨(some 84), .mv (.t 8), none⟩,
                    ⟨(some 85), .call 97 [(.t 83), (.t 84)], none⟩,
                    ⟨(some 86), .call 61 [(.t 81), (.t 82), (.t 85)], none⟩,
                    ⟨(some 73), .mv (.t 86), none⟩,
                    ⟨(some 87), .extr (.t 73) 0, none⟩,
                    ⟨(some 88), .extr (.t 73) 1, none⟩,
                    ⟨(some 10), .alloc [(.int .i64 0), (.int .i64 0)], none⟩,
                    ⟨none, .store 2 (.t 10) (.t 87), none⟩,
                    ⟨(some 11), .mv (.t 88), none⟩])
                  (.seq
                   (.seq
                    (.reg none [⟨(some 89), .mv (.t 11), none⟩,
                      ⟨(some 90), .un .not (.t 89), none⟩])
                    (.cond (.t 90)
                     (.seq
                      (.reg none [⟨(some 2), .mv (.c (.b false)), none⟩])
                      .ret)
                     .skip))
                   (.reg none [⟨(some 91), .mv (.t 0), none⟩,
                     ⟨(some 92), .mv (.t 8), none⟩,
                     ⟨(some 93), .load (some 2) (.t 10), none⟩,
                     ⟨(some 94), .call 98 [(.t 91), (.t 92), (.t 93)], none⟩])))))
               (.reg none [⟨(some 95), .bin .add (.t 68) (.c (.int .i64 1)), none⟩,
                 ⟨(some 68), .mv (.t 95), none⟩])))))))
         (.seq
          (.reg none [⟨(some 96), .mv (.t 3), none⟩,
            ⟨(some 97), .mv (.t 0), none⟩,
            ⟨(some 98), .nilchk (.t 97), none⟩,
            ⟨(some 99), .faddr 1 (.t 98), none⟩,
            ⟨(some 100), .load none (.t 99), none⟩,
            ⟨(some 101), .call 99 [(.t 96), (.t 100)], none⟩])
          (.cond (.t 101)
           (.seq
            (.reg none [⟨(some 2), .mv (.c (.b true)), none⟩])
            .ret)
           .skip))))))))) }
theorem f69P : prepF C Tryd.f69 = some f69A := by kernel_rfl

/-- congou/congoulaw07.table -/
def f70A : AFunc :=
{ nargs := 1, res := [.t 2], body :=
  (.seq
   (.reg none [⟨(some 2), .mv (.c .nils), none⟩])
   (.seq
    (.reg none [⟨(some 3), .mv (.c .nils), none⟩])
    (.seq
     (.seq
      (.reg none [⟨(some 6), .mv (.t 0), none⟩,
        ⟨(some 7), .len (.t 6), none⟩,
        ⟨(some 8), .mv (.c (.int .i64 0)), none⟩])
      (.block 0
       (.loop
        (.seq
         (.reg none [⟨(some 9), .bin .lss (.t 8) (.t 7), none⟩])
         (.seq
          (.cond (.t 9)
           .skip
           (.exit 0))
          (.seq
           (.block 1
            (.seq
             (.reg none [⟨(some 10), .mv (.t 8), none⟩,
               ⟨(some 11), .iaddr 1 (.t 6) (.t 8), none⟩,
               ⟨(some 12), .load none (.t 11), none⟩,
               ⟨(some 4), .mv (.t 10), none⟩,
               ⟨(some 5), .mv (.t 12), none⟩])
             (.seq
              (.reg none [⟨(some 13), .mv (.t 4), none⟩,
                ⟨(some 14), .bin .lss (.t 13) (.c (.int .i64 8)), none⟩])
              (.cond (.t 14)
               (.reg none [⟨(some 15), .mv (.t 3), none⟩,
                 ⟨(some 16), .mv (.t 5), none⟩,
                 ⟨(some 17), .call 19 [(.t 16)], none⟩,
                 ⟨(some 18), .bslice [.nils] 1 1 [(0, (.t 17))], none⟩,
                 ⟨(some 19), .append 1 24 (.t 15) (.t 18), none⟩,
                 ⟨(some 3), .mv (.t 19), none⟩])
               .skip))))
           (.reg none [⟨(some 20), .bin .add (.t 8) (.c (.int .i64 1)), none⟩,
             ⟨(some 8), .mv (.t 20), none⟩])))))))
     (.seq
      (.reg none [⟨(some 21), .mv (.t 3), none⟩,
        ⟨(some 2), .mv (.t 21), none⟩])
      .ret)))) }
theorem f70P : prepF C Tryd.f70 = some f70A := by kernel_rfl

/-- congou/congouref07.alone -/
def f71A : AFunc :=
{ nargs := 2, res := [.c 4 (some 2), .t 5], body :=
  (.seq
   (.reg none [⟨(some 2), .box (.t 0), none⟩,
     ⟨(some 3), .box (.t 1), none⟩,
     ⟨(some 4), .alloc [.nils, .nils], none⟩,
     ⟨(some 5), .mv (.c (.b false)), none⟩])
   (.seq
    (.reg none [⟨(some 19), .load (some 2) (.t 3), none⟩,
      ⟨(some 20), .call 100 [(.t 19)], none⟩,
      ⟨(some 6), .alloc [.nils, .nils], none⟩,
      ⟨none, .store 2 (.t 6) (.t 20), none⟩])
    (.block 0
     (.loop
      (.block 1
       (.seq
        (.reg none [⟨(some 21), .load (some 2) (.t 6), none⟩,
          ⟨(some 22), .call 100 [(.t 21)], none⟩,
          ⟨(some 7), .alloc [.nils, .nils], none⟩,
          ⟨none, .store 2 (.t 7) (.t 22), none⟩])
        (.seq
         (.seq
          (.reg none [⟨(some 23), .faddr 0 (.t 2), none⟩,
            ⟨(some 24), .load none (.t 23), none⟩,
            ⟨(some 25), .len (.t 24), none⟩,
            ⟨(some 26), .mv (.c (.int .i64 0)), none⟩])
          (.block 2
           (.loop
            (.seq
             (.reg none [⟨(some 27), .bin .lss (.t 26) (.t 25), none⟩])
             (.seq
              (.cond (.t 27)
               .skip
               (.exit 2))
              (.seq
               (.block 3
                (.seq
                 (.reg none [⟨(some 28), .mv (.t 26), none⟩,
                   ⟨(some 29), .iaddr 1 (.t 24) (.t 26), none⟩,
                   ⟨(some 30), .load none (.t 29), none⟩,
                   ⟨(some 8), .mv (.t 28), none⟩,
                   ⟨(some 9), .mv (.t 30), none⟩])
                 (.seq
                  (.reg (some []) [⟨(some 32), .faddr 1 (.t 2), none⟩,
                    ⟨(some 33), .load none (.t 32), none⟩,
                    ⟨(some 34), .len (.t 33), none⟩,
                    ⟨(some 35), .mv (.t 9), none⟩,
                    ⟨(some 36), .faddr 0 (.t 6), none⟩,
                    ⟨(some 37), .load none (.t 36), none⟩,
                    ⟨(some 38), .mv (.t 8), none⟩,
                    ⟨(some 39), .iaddr 1 (.t 37) (.t 38), none⟩,
                    ⟨(some 40), .load none (.t 39), none⟩,
                    ⟨(some 41), .faddr 1 (.t 6), none⟩,
                    ⟨(some 42), .load none (.t 41), none⟩,
                    ⟨(some 43), .mv (.t 8), none⟩,
                    ⟨(some 44), .iaddr 1 (.t 42) (.t 43), none⟩,
                    ⟨(some 45), .load none (.t 44), none⟩,
                    ⟨(some 46), .call 27 [(.t 34), (.t 35), (.t 40), (.t 45)], none⟩,
                    ⟨(some 31), .mv (.t 46), none⟩,
                    ⟨(some 47), .extr (.t 31) 0, none⟩,
                    ⟨(some 48), .extr (.t 31) 1, none⟩,
                    ⟨(some 49), .extr (.t 31) 2, none⟩,
                    ⟨(some 10), .mv (.t 47), none⟩,
                    ⟨(some 11), .mv (.t 48), none⟩,
                    ⟨(some 12), .mv (.t 49), none⟩])
                  (.seq
                   (.seq
                    (.reg none [⟨(some 50), .mv (.t 12), none⟩,
                      ⟨(some 51), .bin .neq (.t 50) (.c (.int .i64 0)), none⟩])
                    (.cond (.t 51)
                     (.seq
                      (.reg none [⟨(some 52), .load (some 2) (.t 6), none⟩,
                        ⟨none, .store 2 (.t 4) (.t 52), none⟩,
                        ⟨(some 5), .mv (.c (.b false)), none⟩])
                      .ret)
                     .skip))
                   (.reg (some [(4, 9)]) [⟨(some 53), .faddr 0 (.t 6), none⟩,
                     ⟨(some 54), .load none (.t 53), none⟩,
                     ⟨(some 55), .mv (.t 8), none⟩,
                     ⟨(some 56), .faddr 1 (.t 6), none⟩,
                     ⟨(some 57), .load none (.t 56), none⟩,
                     ⟨(some 58), .mv (.t 8), none⟩,
                     ⟨(some 59), .mv (.t 10), none⟩,
                     ⟨(some 60), .mv (.t 11), none⟩,
                     ⟨(some 61), .iaddr 1 (.t 54) (.t 55), none⟩,
                     ⟨none, .store 1 (.t 61) (.t 59), none⟩,
                     ⟨(some 62), .iaddr 1 (.t 57) (.t 58), none⟩,
                     ⟨none, .store 1 (.t 62) (.t 60), none⟩])))))
               (.reg none [⟨(some 63), .bin .add (.t 26) (.c (.int .i64 1)), none⟩,
                 ⟨(some 26), .mv (.t 63), none⟩])))))))
         (.seq
          (.seq
           (.reg none [⟨(some 64), .faddr 1 (.t 2), none⟩,
             ⟨(some 65), .load none (.t 64), none⟩,
             ⟨(some 66), .len (.t 65), none⟩,
             ⟨(some 67), .mv (.c (.int .i64 0)), none⟩])
           (.block 4
            (.loop
             (.seq
              (.reg none [⟨(some 68), .bin .lss (.t 67) (.t 66), none⟩])
              (.seq
               (.cond (.t 68)
                .skip
                (.exit 4))
               (.seq
                (.block 5
                 (.seq
                  (.reg none [⟨(some 69), .mv (.t 67), none⟩,
                    ⟨(some 70), .iaddr 1 (.t 65) (.t 67), none⟩,
                    ⟨(some 71), .load none (.t 70), none⟩,
                    ⟨(some 13), .mv (.t 69), none⟩,
                    ⟨(some 14), .mv (.t 71), none⟩])
                  (.seq
                   (.reg (some []) [⟨(some 73), .faddr 0 (.t 2), none⟩,
                     ⟨(some 74), .load none (.t 73), none⟩,
                     ⟨(some 75), .len (.t 74), none⟩,
                     ⟨(some 76), .mv (.t 14), none⟩,
                     ⟨(some 77), .faddr 0 (.t 6), none⟩,
                     ⟨(some 78), .load none (.t 77), none⟩,
                     ⟨(some 79), .mv (.t 13), none⟩,
                     ⟨(some 80), .call 64 [(.t 78), (.t 79)], none⟩,
                     ⟨(some 81), .faddr 1 (.t 6), none⟩,
                     ⟨(some 82), .load none (.t 81), none⟩,
                     ⟨(some 83), .mv (.t 13), none⟩,
                     ⟨(some 84), .call 64 [(.t 82), (.t 83)], none⟩,
                     ⟨(some 85), .call 27 [(.t 75), (.t 76), (.t 80), (.t 84)], none⟩,
                     ⟨(some 72), .mv (.t 85), none⟩,
                     ⟨(some 86), .extr (.t 72) 0, none⟩,
                     ⟨(some 87), .extr (.t 72) 1, none⟩,
                     ⟨(some 88), .extr (.t 72) 2, none⟩,
                     ⟨(some 15), .mv (.t 86), none⟩,
                     ⟨(some 16), .mv (.t 87), none⟩,
                     ⟨(some 17), .mv (.t 88), none⟩])
                   (.seq
                    (.seq
                     (.reg none [⟨(some 89), .mv (.t 17), none⟩,
                       ⟨(some 90), .bin .neq (.t 89) (.c (.int .i64 0)), none⟩])
                     (.cond (.t 90)
                      (.seq
                       (.reg none [⟨(some 91), .load (some 2) (.t 6), none⟩,
                         ⟨none, .store 2 (.t 4) (.t 91), none⟩,
                         ⟨(some 5), .mv (.c (.b false)), none⟩])
                       .ret)
                      .skip))
                    (.seq
                     (.reg none [⟨(some 92), .faddr 0 (.t 2), none⟩,
                       ⟨(some 93), .load none (.t 92), none⟩,
                       ⟨(some 94), .len (.t 93), none⟩,
                       ⟨(some 95), .mv (.c (.int .i64 0)), none⟩])
                     (.block 6
                      (.loop
                       (.seq
                        (.reg none [⟨(some 96), .bin .lss (.t 95) (.t 94), none⟩])
                        (.seq
                         (.cond (.t 96)
                          .skip
                          (.exit 6))
                         (.seq
                          (.block 7
                           (.seq
                            (.reg none [⟨(some 97), .mv (.t 95), none⟩,
                              ⟨(some 18), .mv (.t 97), none⟩])
                            (.seq
                             (.reg (some []) [⟨(some 98), .faddr 0 (.t 6), none⟩,
                               ⟨(some 99), .load none (.t 98), none⟩,
                               ⟨(some 100), .mv (.t 18), none⟩,
                               ⟨(some 101), .iaddr 1 (.t 99) (.t 100), none⟩,
                               ⟨(some 102), .load none (.t 101), none⟩,
                               ⟨(some 103), .mv (.t 15), none⟩,
                               ⟨(some 104), .mv (.t 18), none⟩,
                               ⟨(some 105), .bin .shr (.t 103) (.t 104), none⟩,
                               ⟨(some 106), .bin .and (.t 105) (.c (.int .i64 1)), none⟩,
                               ⟨(some 107), .mv (.t 13), none⟩,
                               ⟨(some 108), .bin .shl (.t 106) (.t 107), none⟩,
                               ⟨(some 109), .bin .or (.t 102) (.t 108), none⟩,
                               ⟨(some 110), .iaddr 1 (.t 99) (.t 100), none⟩,
                               ⟨none, .store 1 (.t 110) (.t 109), none⟩])
                             (.reg (some []) [⟨(some 111), .faddr 1 (.t 6), none⟩,
                               ⟨(some 112), .load none (.t 111), none⟩,
                               ⟨(some 113), .mv (.t 18), none⟩,
                               ⟨(some 114), .iaddr 1 (.t 112) (.t 113), none⟩,
                               ⟨(some 115), .load none (.t 114), none⟩,
                               ⟨(some 116), .mv (.t 16), none⟩,
                               ⟨(some 117), .mv (.t 18), none⟩,
                               ⟨(some 118), .bin .shr (.t 116) (.t 117), none⟩,
                               ⟨(some 119), .bin .and (.t 118) (.c (.int .i64 1)), none⟩,
                               ⟨(some 120), .mv (.t 13), none⟩,
                               ⟨(some 121), .bin .shl (.t 119) (.t 120), none⟩,
                               ⟨(some 122), .bin .or (.t 115) (.t 121), none⟩,
                               ⟨(some 123), .iaddr 1 (.t 112) (.t 113), none⟩,
                               ⟨none, .store 1 (.t 123) (.t 122), none⟩]))))
                          (.reg none [⟨(some 124), .bin .add (.t 95) (.c (.int .i64 1)), none⟩,
                            ⟨(some 95), .mv (.t 124), none⟩])))))))))))
                (.reg none [⟨(some 125), .bin .add (.t 67) (.c (.int .i64 1)), none⟩,
                  ⟨(some 67), .mv (.t 125), none⟩])))))))
          (.seq
           (.reg none [⟨(some 126), .faddr 0 (.t 7), none⟩,
             ⟨(some 127), .load none (.t 126), none⟩,
             ⟨(some 128), .faddr 0 (.t 6), none⟩,
             ⟨(some 129), .load none (.t 128), none⟩,
             ⟨(some 130), .call 60 [(.t 127), (.t 129)], none⟩,
             ⟨(some 131), .mv (.t 130), none⟩,
             ⟨(some 132), .faddr 1 (.t 7), some (131, true)⟩,
             ⟨(some 133), .load none (.t 132), some (131, true)⟩,
             ⟨(some 134), .faddr 1 (.t 6), some (131, true)⟩,
             ⟨(some 135), .load none (.t 134), some (131, true)⟩,
             ⟨(some 136), .call 60 [(.t 133), (.t 135)], some (131, true)⟩,
             ⟨(some 137), .pick (.t 131) (.t 136) (.c (.b false)), none⟩])
           (.cond (.t 137)
            (.seq
             (.reg none [⟨(some 138), .load (some 2) (.t 6), none⟩,
               ⟨none, .store 2 (.t 4) (.t 138), none⟩,
               ⟨(some 5), .mv (.c (.b true)), none⟩])
             .ret)
            .skip)))))))))) }
theorem f71P : prepF C Tryd.f71 = some f71A := by kernel_rfl

/-- congou/congouref07.nothing -/
def f72A : AFunc :=
{ nargs := 1, res := [.c 2 (some 2)], body :=
  (.seq
   (.reg none [⟨(some 1), .box (.t 0), none⟩,
     ⟨(some 2), .alloc [.nils, .nils], none⟩])
   (.seq
    (.reg (some []) [⟨(some 3), .faddr 0 (.t 1), none⟩,
      ⟨(some 4), .load none (.t 3), none⟩,
      ⟨(some 5), .len (.t 4), none⟩,
      ⟨(some 6), .mkslice 1 8 [(.int .i64 0)] (.t 5), none⟩,
      ⟨(some 7), .faddr 0 (.t 1), none⟩,
      ⟨(some 8), .load none (.t 7), none⟩,
      ⟨(some 9), .len (.t 8), none⟩,
      ⟨(some 10), .mkslice 1 8 [(.int .i64 0)] (.t 9), none⟩,
      ⟨(some 11), .build [.nils, .nils] [(0, 1, (.t 6)), (1, 1, (.t 10))], none⟩,
      ⟨none, .store 2 (.t 2) (.t 11), none⟩])
    .ret)) }
theorem f72P : prepF C Tryd.f72 = some f72A := by kernel_rfl

/-- (congou/squares.Puzzle).solutions -/
def f73A : AFunc :=
{ nargs := 2, res := [], body :=
  (.seq
   (.reg none [⟨(some 2), .box (.t 0), none⟩,
     ⟨(some 3), .box (.t 1), none⟩])
   (.seq
    (.reg none [⟨(some 4), .alloc [.nilf], none⟩])
    (.seq
     (.reg none [⟨(some 5), .mkfn 101 [] [(.t 2), (.t 3), (.t 4)], none⟩,
       ⟨none, .store 1 (.t 4) (.t 5), none⟩])
     (.reg none [⟨(some 6), .load none (.t 4), none⟩,
       ⟨(some 7), .callv (.t 6) [(.c .nils)], none⟩])))) }
theorem f73P : prepF C Tryd.f73 = some f73A := by kernel_rfl

/-- congou/congouref07.solutions -/
def f74A : AFunc :=
{ nargs := 2, res := [.t 4], body :=
  (.seq
   (.reg none [⟨(some 2), .box (.t 0), none⟩,
     ⟨(some 4), .mv (.c .nils), none⟩])
   (.seq
    (.seq
     (.reg none [⟨(some 10), .mv (.t 1), none⟩,
       ⟨(some 11), .len (.t 10), none⟩,
       ⟨(some 12), .faddr 0 (.t 2), none⟩,
       ⟨(some 13), .load none (.t 12), none⟩,
       ⟨(some 14), .len (.t 13), none⟩,
       ⟨(some 15), .bin .eql (.t 11) (.t 14), none⟩])
     (.cond (.t 15)
      (.seq
       (.seq
        (.reg none [⟨(some 16), .faddr 1 (.t 2), none⟩,
          ⟨(some 17), .load none (.t 16), none⟩,
          ⟨(some 18), .len (.t 17), none⟩,
          ⟨(some 19), .mv (.c (.int .i64 0)), none⟩])
        (.block 0
         (.loop
          (.seq
           (.reg none [⟨(some 20), .bin .lss (.t 19) (.t 18), none⟩])
           (.seq
            (.cond (.t 20)
             .skip
             (.exit 0))
            (.seq
             (.block 1
              (.seq
               (.reg none [⟨(some 21), .mv (.t 19), none⟩,
                 ⟨(some 22), .iaddr 1 (.t 17) (.t 19), none⟩,
                 ⟨(some 23), .load none (.t 22), none⟩,
                 ⟨(some 5), .mv (.t 21), none⟩,
                 ⟨(some 6), .mv (.t 23), none⟩])
               (.seq
                (.reg (some []) [⟨(some 24), .faddr 0 (.t 2), none⟩,
                  ⟨(some 25), .load none (.t 24), none⟩,
                  ⟨(some 26), .len (.t 25), none⟩,
                  ⟨(some 27), .mv (.t 1), none⟩,
                  ⟨(some 28), .mv (.t 5), none⟩,
                  ⟨(some 29), .call 64 [(.t 27), (.t 28)], none⟩,
                  ⟨(some 30), .call 22 [(.t 26), (.t 29)], none⟩,
                  ⟨(some 31), .mv (.t 6), none⟩,
                  ⟨(some 32), .call 60 [(.t 30), (.t 31)], none⟩,
                  ⟨(some 33), .un .not (.t 32), none⟩])
                (.cond (.t 33)
                 (.seq
                  (.reg none [⟨(some 4), .mv (.c .nils), none⟩])
                  .ret)
                 .skip))))
             (.reg none [⟨(some 34), .bin .add (.t 19) (.c (.int .i64 1)), none⟩,
               ⟨(some 19), .mv (.t 34), none⟩])))))))
       (.seq
        (.reg none [⟨(some 35), .mv (.t 1), none⟩,
          ⟨(some 36), .bslice [.nils] 1 1 [(0, (.t 35))], none⟩,
          ⟨(some 4), .mv (.t 36), none⟩])
        .ret))
      .skip))
    (.seq
     (.reg none [⟨(some 7), .mv (.c .nils), none⟩])
     (.seq
      (.seq
       (.reg (some []) [⟨(some 37), .faddr 1 (.t 2), none⟩,
         ⟨(some 38), .load none (.t 37), none⟩,
         ⟨(some 39), .len (.t 38), none⟩,
         ⟨(some 40), .faddr 0 (.t 2), none⟩,
         ⟨(some 41), .load none (.t 40), none⟩,
         ⟨(some 42), .mv (.t 1), none⟩,
         ⟨(some 43), .len (.t 42), none⟩,
         ⟨(some 44), .iaddr 1 (.t 41) (.t 43), none⟩,
         ⟨(some 45), .load none (.t 44), none⟩,
         ⟨(some 46), .call 25 [(.t 39), (.t 45)], none⟩,
         ⟨(some 47), .len (.t 46), none⟩,
         ⟨(some 48), .mv (.c (.int .i64 0)), none⟩])
       (.block 2
        (.loop
         (.seq
          (.reg none [⟨(some 49), .bin .lss (.t 48) (.t 47), none⟩])
          (.seq
           (.cond (.t 49)
            .skip
            (.exit 2))
           (.seq
            (.block 3
             (.seq
              (.reg none [⟨(some 50), .iaddr 1 (.t 46) (.t 48), none⟩,
                ⟨(some 51), .load none (.t 50), none⟩,
                ⟨(some 9), .mv (.t 51), none⟩])
              (.reg (some [(1, 10)]) [⟨(some 52), .mv (.t 7), none⟩,
                ⟨(some 53), .load (some 2) (.t 2), none⟩,
                ⟨(some 54), .mv (.t 1), none⟩,
                ⟨(some 55), .mv (.t 1), none⟩,
                ⟨(some 56), .len (.t 55), none⟩,
                ⟨(some 57), .mv (.t 1), none⟩,
                ⟨(some 58), .len (.t 57), none⟩,
                ⟨(some 59), .slice 1 (.t 54) none (some (.t 56)) (some (.t 58)), none⟩,
                ⟨(some 60), .mv (.t 9), none⟩,
                ⟨(some 61), .bslice [(.int .i64 0)] 1 1 [(0, (.t 60))], none⟩,
                ⟨(some 62), .append 1 8 (.t 59) (.t 61), none⟩,
                ⟨(some 63), .call 74 [(.t 53), (.t 62)], none⟩,
                ⟨(some 64), .append 1 24 (.t 52) (.t 63), none⟩,
                ⟨(some 7), .mv (.t 64), none⟩])))
            (.reg none [⟨(some 65), .bin .add (.t 48) (.c (.int .i64 1)), none⟩,
              ⟨(some 48), .mv (.t 65), none⟩])))))))
      (.seq
       (.reg none [⟨(some 66), .mv (.t 7), none⟩,
         ⟨(some 4), .mv (.t 66), none⟩])
       .ret))))) }
theorem f74P : prepF C Tryd.f74 = some f74A := by kernel_rfl

/-- (*congou/squares.board).settle -/
def f83A : AFunc :=
{ nargs := 2, res := [.t 4], body :=
  (.seq
   (.reg none [⟨(some 4), .mv (.c (.b false)), none⟩])
   (.seq
    (.block 0
     (.loop
      (.seq
       (.seq
        (.reg none [⟨(some 5), .mv (.t 0), none⟩,
          ⟨(some 6), .call 69 [(.t 5)], none⟩])
        (.cond (.t 6)
         .skip
         (.exit 0)))
       (.block 1
        (.seq
         (.reg none [⟨(some 7), .mv (.t 1), none⟩,
           ⟨(some 8), .bin .eql (.t 7) (.c (.int .i64 0)), none⟩,
           ⟨(some 9), .mv (.t 8), none⟩,
           ⟨(some 10), .mv (.t 0), some (9, false)⟩,
           ⟨(some 11), .mv (.t 1), some (9, false)⟩,
           ⟨(some 12), .call 104 [(.t 10), (.t 11)], some (9, false)⟩,
           ⟨(some 13), .un .not (.t 12), some (9, false)⟩,
           ⟨(some 14), .pick (.t 9) (.c (.b true)) (.t 13), none⟩])
         (.cond (.t 14)
          (.seq
           (.reg none [⟨(some 4), .mv (.c (.b true)), none⟩])
           .ret)
          .skip))))))
    (.seq
     (.reg none [⟨(some 4), .mv (.c (.b false)), none⟩])
     .ret))) }
theorem f83P : prepF C Tryd.f83 = some f83A := by kernel_rfl

/-- (*congou/squares.board).done -/
def f84A : AFunc :=
{ nargs := 1, res := [.c 2 none], body :=
  (.seq
   (.reg none [⟨(some 2), .alloc [(.b false)], none⟩])
   (.seq
    (.seq
     (.reg none [⟨(some 3), .mv (.t 0), none⟩,
       ⟨(some 4), .mkfn 105 [(.t 3)] [], none⟩])
     (.block 0
      (.rangeF 7 (.t 4) [5, 6]
       .skip
       (.block 1
        (.seq
         (.reg none [⟨none, .store 1 (.t 2) (.c (.b false)), none⟩])
         .ret)))))
    (.seq
     (.reg none [⟨none, .store 1 (.t 2) (.c (.b true)), none⟩])
     .ret))) }
theorem f84P : prepF C Tryd.f84 = some f84A := by kernel_rfl

/-- congou/congouref07.settle -/
def f85A : AFunc :=
{ nargs := 3, res := [.c 6 (some 2), .t 7], body :=
  (.seq
   (.reg none [⟨(some 3), .box (.t 0), none⟩,
     ⟨(some 4), .box (.t 1), none⟩,
     ⟨(some 6), .alloc [.nils, .nils], none⟩,
     ⟨(some 7), .mv (.c (.b false)), none⟩])
   (.block 0
    (.loop
     (.block 1
      (.seq
       (.reg none [⟨(some 14), .load (some 2) (.t 3), none⟩,
         ⟨(some 15), .load (some 2) (.t 4), none⟩,
         ⟨(some 16), .call 71 [(.t 14), (.t 15)], none⟩,
         ⟨(some 13), .mv (.t 16), none⟩,
         ⟨(some 17), .extr (.t 13) 0, none⟩,
         ⟨(some 18), .extr (.t 13) 1, none⟩,
         ⟨(some 8), .alloc [.nils, .nils], none⟩,
         ⟨none, .store 2 (.t 8) (.t 17), none⟩,
         ⟨(some 9), .mv (.t 18), none⟩])
       (.seq
        (.seq
         (.reg none [⟨(some 19), .mv (.t 9), none⟩,
           ⟨(some 20), .un .not (.t 19), none⟩,
           ⟨(some 21), .mv (.t 20), none⟩,
           ⟨(some 22), .mv (.t 2), some (21, false)⟩,
           ⟨(some 23), .bin .eql (.t 22) (.c (.int .i64 0)), some (21, false)⟩,
           ⟨(some 24), .pick (.t 21) (.c (.b true)) (.t 23), none⟩])
         (.cond (.t 24)
          (.seq
           (.reg none [⟨(some 25), .load (some 2) (.t 8), none⟩,
             ⟨(some 26), .mv (.t 9), none⟩,
             ⟨none, .store 2 (.t 6) (.t 25), none⟩,
             ⟨(some 7), .mv (.t 26), none⟩])
           .ret)
          .skip))
        (.seq
         (.reg none [⟨(some 28), .load (some 2) (.t 3), none⟩,
           ⟨(some 29), .load (some 2) (.t 8), none⟩,
           ⟨(some 30), .mv (.t 2), none⟩,
           ⟨(some 31), .call 106 [(.t 28), (.t 29), (.t 30)], none⟩,
           ⟨(some 27), .mv (.t 31), none⟩,
           ⟨(some 32), .extr (.t 27) 0, none⟩,
           ⟨(some 33), .extr (.t 27) 1, none⟩,
           ⟨(some 34), .extr (.t 27) 2, none⟩,
           ⟨(some 10), .mv (.t 32), none⟩,
           ⟨(some 11), .mv (.t 33), none⟩,
           ⟨(some 12), .mv (.t 34), none⟩])
         (.seq
          (.seq
           (.reg none [⟨(some 35), .mv (.t 10), none⟩,
             ⟨(some 36), .bin .lss (.t 35) (.c (.int .i64 0)), none⟩])
           (.cond (.t 36)
            (.seq
             (.reg none [⟨(some 37), .load (some 2) (.t 8), none⟩,
               ⟨none, .store 2 (.t 6) (.t 37), none⟩,
               ⟨(some 7), .mv (.c (.b true)), none⟩])
             .ret)
            .skip))
          (.reg none [⟨(some 38), .load (some 2) (.t 8), none⟩,
            ⟨(some 39), .mv (.t 10), none⟩,
            ⟨(some 40), .mv (.t 11), none⟩,
            ⟨(some 41), .mv (.t 12), none⟩,
            ⟨(some 42), .call 107 [(.t 38), (.t 39), (.t 40), (.t 41)], none⟩,
            ⟨none, .store 2 (.t 4) (.t 42), none⟩]))))))))) }
theorem f85P : prepF C Tryd.f85 = some f85A := by kernel_rfl

/-- congou/squares.isSize -/
def f86A : AFunc :=
{ nargs := 1, res := [.t 2], body :=
  (.seq
   (.reg none [⟨(some 2), .mv (.c (.b false)), none⟩])
   (.seq
    (.reg none [⟨(some 3), .mv (.t 0), none⟩,
      ⟨(some 4), .bin .geq (.t 3) (.c (.int .i64 1)), none⟩,
      ⟨(some 5), .mv (.t 4), none⟩,
      ⟨(some 6), .mv (.t 0), some (5, true)⟩,
      ⟨(some 7), .bin .leq (.t 6) (.c (.int .i64 5)), some (5, true)⟩,
      ⟨(some 8), .pick (.t 5) (.t 7) (.c (.b false)), none⟩,
      ⟨(some 2), .mv (.t 8), none⟩])
    .ret)) }
theorem f86P : prepF C Tryd.f86 = some f86A := by kernel_rfl

/-- math/bits.TrailingZeros -/
def f87A : AFunc :=
{ nargs := 1, res := [.t 2], body :=
  (.seq
   (.reg none [⟨(some 2), .mv (.c (.int .i64 0)), none⟩])
   (.seq
    (.cond (.c (.b false))
     (.seq
      (.reg none [⟨(some 3), .mv (.t 0), none⟩,
        ⟨(some 4), .conv .u32 (.t 3), none⟩,
        ⟨(some 5), .call 108 [(.t 4)], none⟩,
        ⟨(some 2), .mv (.t 5), none⟩])
      .ret)
     .skip)
    (.seq
     (.reg none [⟨(some 6), .mv (.t 0), none⟩,
       ⟨(some 7), .call 109 [(.t 6)], none⟩,
       ⟨(some 2), .mv (.t 7), none⟩])
     .ret))) }
theorem f87P : prepF C Tryd.f87 = some f87A := by kernel_rfl

/-- (congou/squares.known).agrees -/
def f88A : AFunc :=
{ nargs := 2, res := [.t 4], body :=
  (.seq
   (.reg none [⟨(some 2), .box (.t 0), none⟩,
     ⟨(some 4), .mv (.c (.b false)), none⟩])
   (.seq
    (.reg none [⟨(some 5), .mv (.t 1), none⟩,
      ⟨(some 6), .faddr 0 (.t 2), none⟩,
      ⟨(some 7), .load none (.t 6), none⟩,
      ⟨(some 8), .bin .and (.t 5) (.t 7), none⟩,
      ⟨(some 9), .faddr 0 (.t 2), none⟩,
      ⟨(some 10), .load none (.t 9), none⟩,
      ⟨(some 11), .bin .eql (.t 8) (.t 10), none⟩,
      ⟨(some 12), .mv (.t 11), none⟩,
      ⟨(some 13), .mv (.t 1), some (12, true)⟩,
      ⟨(some 14), .faddr 1 (.t 2), some (12, true)⟩,
      ⟨(some 15), .load none (.t 14), some (12, true)⟩,
      ⟨(some 16), .bin .and (.t 13) (.t 15), some (12, true)⟩,
      ⟨(some 17), .bin .eql (.t 16) (.c (.int .i64 0)), some (12, true)⟩,
      ⟨(some 18), .pick (.t 12) (.t 17) (.c (.b false)), none⟩,
      ⟨(some 4), .mv (.t 18), none⟩])
    .ret)) }
theorem f88P : prepF C Tryd.f88 = some f88A := by kernel_rfl

/-- congou/squares.column -/
def f91A : AFunc :=
{ nargs := 2, res := [.t 4], body :=
  (.seq
   (.reg none [⟨(some 4), .mv (.c (.int .i64 0)), none⟩])
   (.seq
    (.reg none [⟨(some 5), .mv (.c (.int .i64 0)), none⟩])
    (.seq
     (.seq
      (.reg none [⟨(some 8), .mv (.t 0), none⟩,
        ⟨(some 9), .len (.t 8), none⟩,
        ⟨(some 10), .mv (.c (.int .i64 0)), none⟩])
      (.block 0
       (.loop
        (.seq
         (.reg none [⟨(some 11), .bin .lss (.t 10) (.t 9), none⟩])
         (.seq
          (.cond (.t 11)
           .skip
           (.exit 0))
          (.seq
           (.block 1
            (.seq
             (.reg none [⟨(some 12), .mv (.t 10), none⟩,
               ⟨(some 13), .iaddr 1 (.t 8) (.t 10), none⟩,
               ⟨(some 14), .load none (.t 13), none⟩,
               ⟨(some 6), .mv (.t 12), none⟩,
               ⟨(some 7), .mv (.t 14), none⟩])
             (.reg none [⟨(some 15), .mv (.t 5), none⟩,
               ⟨(some 16), .mv (.t 7), none⟩,
               ⟨(some 17), .mv (.t 1), none⟩,
               ⟨(some 18), .bin .shr (.t 16) (.t 17), none⟩,
               ⟨(some 19), .bin .and (.t 18) (.c (.int .i64 1)), none⟩,
               ⟨(some 20), .mv (.t 6), none⟩,
               ⟨(some 21), .bin .shl (.t 19) (.t 20), none⟩,
               ⟨(some 22), .bin .or (.t 15) (.t 21), none⟩,
               ⟨(some 5), .mv (.t 22), none⟩])))
           (.reg none [⟨(some 23), .bin .add (.t 10) (.c (.int .i64 1)), none⟩,
             ⟨(some 10), .mv (.t 23), none⟩])))))))
     (.seq
      (.reg none [⟨(some 24), .mv (.t 5), none⟩,
        ⟨(some 4), .mv (.t 24), none⟩])
      .ret)))) }
theorem f91P : prepF C Tryd.f91 = some f91A := by kernel_rfl

/-- slices.ContainsFunc[[][]int,[]int] -/
def f93A : AFunc :=
{ nargs := 2, res := [.t 4], body :=
  (.seq
   (.reg none [⟨(some 4), .mv (.c (.b false)), none⟩])
   (.seq
    (.reg none [⟨(some 5), .mv (.t 0), none⟩,
      ⟨(some 6), .mv (.t 1), none⟩,
      ⟨(some 7), .call 111 [(.t 5), (.t 6)], none⟩,
      ⟨(some 8), .bin .geq (.t 7) (.c (.int .i64 0)), none⟩,
      ⟨(some 4), .mv (.t 8), none⟩])
    .ret)) }
theorem f93P : prepF C Tryd.f93 = some f93A := by kernel_rfl

/-- (congou/squares.Puzzle).valid$1 -/
def f94A : AFunc :=
{ nargs := 2, res := [.t 3], body :=
  (.seq
   (.reg none [⟨(some 3), .mv (.c (.b false)), none⟩])
   (.seq
    (.reg none [⟨(some 4), .load none (.t 1), none⟩,
      ⟨(some 5), .mv (.t 0), none⟩,
      ⟨(some 6), .call 57 [(.t 4), (.t 5)], none⟩,
      ⟨(some 7), .un .not (.t 6), none⟩,
      ⟨(some 3), .mv (.t 7), none⟩])
    .ret)) }
theorem f94P : prepF C Tryd.f94 = some f94A := by kernel_rfl

/-- (congou/squares.Puzzle).valid$2 -/
def f95A : AFunc :=
{ nargs := 2, res := [.t 3], body :=
  (.seq
   (.reg none [⟨(some 3), .mv (.c (.b false)), none⟩])
   (.seq
    (.reg none [⟨(some 4), .load none (.t 1), none⟩,
      ⟨(some 5), .mv (.t 0), none⟩,
      ⟨(some 6), .call 57 [(.t 4), (.t 5)], none⟩,
      ⟨(some 7), .un .not (.t 6), none⟩,
      ⟨(some 3), .mv (.t 7), none⟩])
    .ret)) }
theorem f95P : prepF C Tryd.f95 = some f95A := by kernel_rfl

/-- slices.Clone[[]congou/squares.known,congou/squares.known] -/
def f96A : AFunc :=
{ nargs := 1, res := [.t 2], body :=
  (.seq
   (.reg none [⟨(some 2), .mv (.c .nils), none⟩])
   (.seq
    (.seq
     (.reg none [⟨(some 3), .mv (.t 0), none⟩,
       ⟨(some 4), .seq false (.t 3) (.c .nils), none⟩])
     (.cond (.t 4)
      (.seq
       (.reg none [⟨(some 2), .mv (.c .nils), none⟩])
       .ret)
      .skip))
    (.seq
     (.reg none [⟨(some 5), .bslice [(.int .i64 0), (.int .i64 0)] 0 2 [], none⟩,
       ⟨(some 6), .mv (.t 0), none⟩,
       ⟨(some 7), .append 2 16 (.t 5) (.t 6), none⟩,
       ⟨(some 2), .mv (.t 7), none⟩])
     .ret))) }
theorem f96P : prepF C Tryd.f96 = some f96A := by kernel_rfl

/-- (*congou/squares.board).column -/
def f97A : AFunc :=
{ nargs := 2, res := [.c 4 (some 2)], body :=
  (.seq
   (.reg none [⟨(some 4), .alloc [(.int .i64 0), (.int .i64 0)], none⟩])
   (.seq
    (.reg none [⟨(some 5), .alloc [(.int .i64 0), (.int .i64 0)], none⟩])
    (.seq
     (.seq
      (.reg none [⟨(some 8), .mv (.t 0), none⟩,
        ⟨(some 9), .nilchk (.t 8), none⟩,
        ⟨(some 10), .faddr 1 (.t 9), none⟩,
        ⟨(some 11), .load none (.t 10), none⟩,
        ⟨(some 12), .len (.t 11), none⟩,
        ⟨(some 13), .mv (.c (.int .i64 0)), none⟩])
      (.block 0
       (.loop
        (.seq
         (.reg none [⟨(some 14), .bin .lss (.t 13) (.t 12), none⟩])
         (.seq
          (.cond (.t 14)
           .skip
           (.exit 0))
          (.seq
           (.block 1
            (.seq
             (.reg none [⟨(some 15), .mv (.t 13), none⟩,
               ⟨(some 16), .iaddr 2 (.t 11) (.t 13), none⟩,
               ⟨(some 17), .load (some 2) (.t 16), none⟩,
               ⟨(some 7), .alloc [(.int .i64 0), (.int .i64 0)], none⟩,
               ⟨(some 6), .mv (.t 15), none⟩,
               ⟨none, .store 2 (.t 7) (.t 17), none⟩])
             (.seq
              (.reg (some []) [⟨(some 18), .faddr 0 (.t 5), none⟩,
                ⟨(some 19), .load none (.t 18), none⟩,
                ⟨(some 20), .faddr 0 (.t 7), none⟩,
                ⟨(some 21), .load none (.t 20), none⟩,
                ⟨(some 22), .mv (.t 1), none⟩,
                ⟨(some 23), .bin .shr (.t 21) (.t 22), none⟩,
                ⟨(some 24), .bin .and (.t 23) (.c (.int .i64 1)), none⟩,
                ⟨(some 25), .mv (.t 6), none⟩,
                ⟨(some 26), .bin .shl (.t 24) (.t 25), none⟩,
                ⟨(some 27), .bin .or (.t 19) (.t 26), none⟩,
                ⟨(some 28), .faddr 0 (.t 5), none⟩,
                ⟨none, .store 1 (.t 28) (.t 27), none⟩])
              (.reg (some []) [⟨(some 29), .faddr 1 (.t 5), none⟩,
                ⟨(some 30), .load none (.t 29), none⟩,
                ⟨(some 31), .faddr 1 (.t 7), none⟩,
                ⟨(some 32), .load none (.t 31), none⟩,
                ⟨(some 33), .mv (.t 1), none⟩,
                ⟨(some 34), .bin .shr (.t 32) (.t 33), none⟩,
                ⟨(some 35), .bin .and (.t 34) (.c (.int .i64 1)), none⟩,
                ⟨(some 36), .mv (.t 6), none⟩,
                ⟨(some 37), .bin .shl (.t 35) (.t 36), none⟩,
                ⟨(some 38), .bin .or (.t 30) (.t 37), none⟩,
                ⟨(some 39), .faddr 1 (.t 5), none⟩,
                ⟨none, .store 1 (.t 39) (.t 38), none⟩]))))
           (.reg none [⟨(some 40), .bin .add (.t 13) (.c (.int .i64 1)), none⟩,
             ⟨(some 13), .mv (.t 40), none⟩])))))))
     (.seq
      (.reg none [⟨(some 41), .load (some 2) (.t 5), none⟩,
        ⟨none, .store 2 (.t 4) (.t 41), none⟩])
      .ret)))) }
theorem f97P : prepF C Tryd.f97 = some f97A := by kernel_rfl

/-- (*congou/squares.board).put -/
def f98A : AFunc :=
{ nargs := 3, res := [], body :=
  (.seq
   (.reg none [⟨(some 5), .box (.t 2), none⟩])
   (.seq
    (.reg none [⟨(some 7), .mv (.t 0), none⟩,
      ⟨(some 8), .nilchk (.t 7), none⟩,
      ⟨(some 9), .faddr 1 (.t 8), none⟩,
      ⟨(some 10), .load none (.t 9), none⟩,
      ⟨(some 11), .len (.t 10), none⟩,
      ⟨(some 12), .mv (.c (.int .i64 0)), none⟩])
    (.block 0
     (.loop
      (.seq
       (.reg none [⟨(some 13), .bin .lss (.t 12) (.t 11), none⟩])
       (.seq
        (.cond (.t 13)
         .skip
         (.exit 0))
        (.seq
         (.block 1
          (.seq
           (.reg none [⟨(some 14), .mv (.t 12), none⟩,
             ⟨(some 6), .mv (.t 14), none⟩])
           (.seq
            (.reg (some []) [⟨(some 15), .mv (.t 0), none⟩,
              ⟨(some 16), .nilchk (.t 15), none⟩,
              ⟨(some 17), .faddr 1 (.t 16), none⟩,
              ⟨(some 18), .load none (.t 17), none⟩,
              ⟨(some 19), .mv (.t 6), none⟩,
              ⟨(some 20), .iaddr 2 (.t 18) (.t 19), none⟩,
              ⟨(some 21), .faddr 0 (.t 20), none⟩,
              ⟨(some 22), .load none (.t 21), none⟩,
              ⟨(some 23), .faddr 0 (.t 5), none⟩,
              ⟨(some 24), .load none (.t 23), none⟩,
              ⟨(some 25), .mv (.t 6), none⟩,
              ⟨(some 26), .bin .shr (.t 24) (.t 25), none⟩,
              ⟨(some 27), .bin .and (.t 26) (.c (.int .i64 1)), none⟩,
              ⟨(some 28), .mv (.t 1), none⟩,
              ⟨(some 29), .bin .shl (.t 27) (.t 28), none⟩,
              ⟨(some 30), .bin .or (.t 22) (.t 29), none⟩,
              ⟨(some 31), .iaddr 2 (.t 18) (.t 19), none⟩,
              ⟨(some 32), .faddr 0 (.t 31), none⟩,
              ⟨none, .store 1 (.t 32) (.t 30), none⟩])
            (.reg (some []) [⟨(some 33), .mv (.t 0), none⟩,
              ⟨(some 34), .nilchk (.t 33), none⟩,
              ⟨(some 35), .faddr 1 (.t 34), none⟩,
              ⟨(some 36), .load none (.t 35), none⟩,
              ⟨(some 37), .mv (.t 6), none⟩,
              ⟨(some 38), .iaddr 2 (.t 36) (.t 37), none⟩,
              ⟨(some 39), .faddr 1 (.t 38), none⟩,
              ⟨(some 40), .load none (.t 39), none⟩,
              ⟨(some 41), .faddr 1 (.t 5), none⟩,
              ⟨(some 42), .load none (.t 41), none⟩,
              ⟨(some 43), .mv (.t 6), none⟩,
              ⟨(some 44), .bin .shr (.t 42) (.t 43), none⟩,
              ⟨(some 45), .bin .and (.t 44) (.c (.int .i64 1)), none⟩,
              ⟨(some 46), .mv (.t 1), none⟩,
              ⟨(some 47), .bin .shl (.t 45) (.t 46), none⟩,
              ⟨(some 48), .bin .or (.t 40) (.t 47), none⟩,
              ⟨(some 49), .iaddr 2 (.t 36) (.t 37), none⟩,
              ⟨(some 50), .faddr 1 (.t 49), none⟩,
              ⟨none, .store 1 (.t 50) (.t 48), none⟩]))))
         (.reg none [⟨(some 51), .bin .add (.t 12) (.c (.int .i64 1)), none⟩,
           ⟨(some 12), .mv (.t 51), none⟩])))))))) }
theorem f98P : prepF C Tryd.f98 = some f98A := by kernel_rfl

/-- slices.Equal[[]congou/squares.known,congou/squares.known] -/
def f99A : AFunc :=
{ nargs := 2, res := [.t 4], body :=
  (.seq
   (.reg none [⟨(some 4), .mv (.c (.b false)), none⟩])
   (.seq
    (.seq
     (.reg none [⟨(some 6), .mv (.t 0), none⟩,
       ⟨(some 7), .len (.t 6), none⟩,
       ⟨(some 8), .mv (.t 1), none⟩,
       ⟨(some 9), .len (.t 8), none⟩,
       ⟨(some 10), .bin .neq (.t 7) (.t 9), none⟩])
     (.cond (.t 10)
      (.seq
       (.reg none [⟨(some 4), .mv (.c (.b false)), none⟩])
       .ret)
      .skip))
    (.seq
     (.seq
      (.reg none [⟨(some 11), .mv (.t 0), none⟩,
        ⟨(some 12), .len (.t 11), none⟩,
        ⟨(some 13), .mv (.c (.int .i64 0)), none⟩])
      (.block 0
       (.loop
        (.seq
         (.reg none [⟨(some 14), .bin .lss (.t 13) (.t 12), none⟩])
         (.seq
          (.cond (.t 14)
           .skip
           (.exit 0))
          (.seq
           (.block 1
            (.seq
             (.reg none [⟨(some 15), .mv (.t 13), none⟩,
               ⟨(some 5), .mv (.t 15), none⟩])
             (.seq
              (.reg (some []) [⟨(some 16), .mv (.t 0), none⟩,
                ⟨(some 17), .mv (.t 5), none⟩,
                ⟨(some 18), .iaddr 2 (.t 16) (.t 17), none⟩,
                ⟨(some 19), .load (some 2) (.t 18), none⟩,
                ⟨(some 20), .mv (.t 1), none⟩,
                ⟨(some 21), .mv (.t 5), none⟩,
                ⟨(some 22), .iaddr 2 (.t 20) (.t 21), none⟩,
                ⟨(some 23), .load (some 2) (.t 22), none⟩,
                ⟨(some 24), .aeq true 2 (.t 19) (.t 23), none⟩])
              (.cond (.t 24)
               (.seq
                (.reg none [⟨(some 4), .mv (.c (.b false)), none⟩])
                .ret)
               .skip))))
           (.reg none [⟨(some 25), .bin .add (.t 13) (.c (.int .i64 1)), none⟩,
             ⟨(some 13), .mv (.t 25), none⟩])))))))
     (.seq
      (.reg none [⟨(some 4), .mv (.c (.b true)), none⟩])
      .ret)))) }
theorem f99P : prepF C Tryd.f99 = some f99A := by kernel_rfl

/-- congou/congouref07.copied -/
def f100A : AFunc :=
{ nargs := 1, res := [.c 2 (some 2)], body :=
  (.seq
   (.reg none [⟨(some 1), .box (.t 0), none⟩,
     ⟨(some 2), .alloc [.nils, .nils], none⟩])
   (.seq
    (.reg (some [(6, 3)]) [⟨(some 3), .bslice [(.int .i64 0)] 0 1 [], none⟩,
      ⟨(some 4), .faddr 0 (.t 1), none⟩,
      ⟨(some 5), .load none (.t 4), none⟩,
      ⟨(some 6), .append 1 8 (.t 3) (.t 5), none⟩,
      ⟨(some 7), .bslice [(.int .i64 0)] 0 1 [], none⟩,
      ⟨(some 8), .faddr 1 (.t 1), none⟩,
      ⟨(some 9), .load none (.t 8), none⟩,
      ⟨(some 10), .append 1 8 (.t 7) (.t 9), none⟩,
      ⟨(some 11), .build [.nils, .nils] [(0, 1, (.t 6)), (1, 1, (.t 10))], none⟩,
      ⟨none, .store 2 (.t 2) (.t 11), none⟩])
    .ret)) }
theorem f100P : prepF C Tryd.f100 = some f100A := by kernel_rfl

/-- (congou/squares.Puzzle).solutions$1 -/
def f101A : AFunc :=
{ nargs := 4, res := [.t 5], body :=
  (.seq
   (.reg none [⟨(some 5), .mv (.c (.b false)), none⟩])
   (.seq
    (.reg none [⟨(some 10), .mv (.t 0), none⟩,
      ⟨(some 11), .len (.t 10), none⟩,
      ⟨(some 6), .mv (.t 11), none⟩])
    (.seq
     (.seq
      (.reg none [⟨(some 12), .mv (.t 6), none⟩,
        ⟨(some 13), .faddr 0 (.t 1), none⟩,
        ⟨(some 14), .load none (.t 13), none⟩,
        ⟨(some 15), .len (.t 14), none⟩,
        ⟨(some 16), .bin .eql (.t 12) (.t 15), none⟩])
      (.cond (.t 16)
       (.seq
        (.reg none [⟨(some 17), .load none (.t 2), none⟩,
          ⟨(some 18), .mv (.t 0), none⟩,
          ⟨(some 19), .callv (.t 17) [(.t 18)], none⟩,
          ⟨(some 5), .mv (.t 19), none⟩])
        .ret)
       .skip))
     (.seq
      (.seq
       (.reg (some []) [⟨(some 20), .faddr 1 (.t 1), none⟩,
         ⟨(some 21), .load none (.t 20), none⟩,
         ⟨(some 22), .len (.t 21), none⟩,
         ⟨(some 23), .faddr 0 (.t 1), none⟩,
         ⟨(some 24), .load none (.t 23), none⟩,
         ⟨(some 25), .mv (.t 6), none⟩,
         ⟨(some 26), .iaddr 1 (.t 24) (.t 25), none⟩,
         ⟨(some 27), .load none (.t 26), none⟩,
         ⟨(some 28), .call 58 [(.t 22), (.t 27)], none⟩,
         ⟨(some 29), .len (.t 28), none⟩,
         ⟨(some 30), .mv (.c (.int .i64 0)), none⟩])
       (.block 0
        (.loop
         (.seq
          (.reg none [⟨(some 31), .bin .lss (.t 30) (.t 29), none⟩])
          (.seq
           (.cond (.t 31)
            .skip
            (.exit 0))
           (.seq
            (.block 1
             (.seq
              (.reg none [⟨(some 32), .iaddr 1 (.t 28) (.t 30), none⟩,
                ⟨(some 33), .load none (.t 32), none⟩,
                ⟨(some 8), .mv (.t 33), none⟩])
              (.seq
               (.reg none [⟨(some 34), .mv (.t 0), none⟩,
                 ⟨(some 35), .mv (.t 6), none⟩,
                 ⟨(some 36), .mv (.t 6), none⟩,
                 ⟨(some 37), .slice 1 (.t 34) none (some (.t 35)) (some (.t 36)), none⟩,
                 ⟨(some 38), .mv (.t 8), none⟩,
                 ⟨(some 39), .bslice [(.int .i64 0)] 1 1 [(0, (.t 38))], none⟩,
                 ⟨(some 40), .append 1 8 (.t 37) (.t 39), none⟩,
                 ⟨(some 9), .mv (.t 40), none⟩])
               (.seq
                (.reg none [⟨(some 41), .load (some 2) (.t 1), none⟩,
                  ⟨(some 42), .mv (.t 9), none⟩,
                  ⟨(some 43), .call 102 [(.t 41), (.t 42)], none⟩,
                  ⟨(some 44), .mv (.t 43), none⟩,
                  ⟨(some 45), .load none (.t 3), some (44, true)⟩,
                  ⟨(some 46), .mv (.t 9), some (44, true)⟩,
                  ⟨(some 47), .callv (.t 45) [(.t 46)], some (44, true)⟩,
                  ⟨(some 48), .un .not (.t 47), some (44, true)⟩,
                  ⟨(some 49), .pick (.t 44) (.t 48) (.c (.b false)), none⟩])
                (.cond (.t 49)
                 (.seq
                  (.reg none [⟨(some 5), .mv (.c (.b false)), none⟩])
                  .ret)
                 .skip)))))
            (.reg none [⟨(some 50), .bin .add (.t 30) (.c (.int .i64 1)), none⟩,
              ⟨(some 30), .mv (.t 50), none⟩])))))))
      (.seq
       (.reg none [⟨(some 5), .mv (.c (.b true)), none⟩])
       .ret))))) }
theorem f101P : prepF C Tryd.f101 = some f101A := by kernel_rfl

/-- (congou/squares.Puzzle).possible -/
def f102A : AFunc :=
{ nargs := 2, res := [.t 4], body :=
  (.seq
   (.reg none [⟨(some 2), .box (.t 0), none⟩,
     ⟨(some 4), .mv (.c (.b false)), none⟩])
   (.seq
    (.reg none [⟨(some 11), .faddr 0 (.t 2), none⟩,
      ⟨(some 12), .load none (.t 11), none⟩,
      ⟨(some 13), .len (.t 12), none⟩,
      ⟨(some 5), .mv (.t 13), none⟩])
    (.seq
     (.seq
      (.reg none [⟨(some 14), .faddr 1 (.t 2), none⟩,
        ⟨(some 15), .load none (.t 14), none⟩,
        ⟨(some 16), .len (.t 15), none⟩,
        ⟨(some 17), .mv (.c (.int .i64 0)), none⟩])
      (.block 0
       (.loop
        (.seq
         (.reg none [⟨(some 18), .bin .lss (.t 17) (.t 16), none⟩])
         (.seq
          (.cond (.t 18)
           .skip
           (.exit 0))
          (.seq
           (.block 1
            (.seq
             (.reg none [⟨(some 19), .mv (.t 17), none⟩,
               ⟨(some 20), .iaddr 1 (.t 15) (.t 17), none⟩,
               ⟨(some 21), .load none (.t 20), none⟩,
               ⟨(some 6), .mv (.t 19), none⟩,
               ⟨(some 7), .mv (.t 21), none⟩])
             (.seq
              (.reg none [⟨(some 22), .mv (.t 1), none⟩,
                ⟨(some 23), .mv (.t 6), none⟩,
                ⟨(some 24), .call 91 [(.t 22), (.t 23)], none⟩,
                ⟨(some 25), .build [(.int .i64 0), (.int .i64 0)] [(0, 1, (.t 24))], none⟩,
                ⟨(some 8), .alloc [(.int .i64 0), (.int .i64 0)], none⟩,
                ⟨none, .store 2 (.t 8) (.t 25), none⟩])
              (.seq
               (.reg (some []) [⟨(some 26), .mv (.t 1), none⟩,
                 ⟨(some 27), .len (.t 26), none⟩,
                 ⟨(some 28), .bin .shl (.c (.int .i64 1)) (.t 27), none⟩,
                 ⟨(some 29), .bin .sub (.t 28) (.c (.int .i64 1)), none⟩,
                 ⟨(some 30), .faddr 0 (.t 8), none⟩,
                 ⟨(some 31), .load none (.t 30), none⟩,
                 ⟨(some 32), .bin .andNot (.t 29) (.t 31), none⟩,
                 ⟨(some 33), .faddr 1 (.t 8), none⟩,
                 ⟨none, .store 1 (.t 33) (.t 32), none⟩])
               (.seq
                (.reg none [⟨(some 35), .mv (.t 5), none⟩,
                  ⟨(some 36), .mv (.t 7), none⟩,
                  ⟨(some 37), .load (some 2) (.t 8), none⟩,
                  ⟨(some 38), .call 61 [(.t 35), (.t 36), (.t 37)], none⟩,
                  ⟨(some 34), .mv (.t 38), none⟩,
                  ⟨(some 39), .extr (.t 34) 0, none⟩,
                  ⟨(some 40), .extr (.t 34) 1, none⟩,
                  ⟨(some 9), .alloc [(.int .i64 0), (.int .i64 0)], none⟩,
                  ⟨none, .store 2 (.t 9) (.t 39), none⟩,
                  ⟨(some 10), .mv (.t 40), none⟩])
                (.seq
                 (.reg none [⟨(some 41), .mv (.t 10), none⟩,
                   ⟨(some 42), .un .not (.t 41), none⟩])
                 (.cond (.t 42)
                  (.seq
                   (.reg none [⟨(some 4), .mv (.c (.b false)), none⟩])
                   .ret)
                  .skip)))))))
           (.reg none [⟨(some 43), .bin .add (.t 17) (.c (.int .i64 1)), none⟩,
             ⟨(some 17), .mv (.t 43), none⟩])))))))
     (.seq
      (.reg none [⟨(some 4), .mv (.c (.b true)), none⟩])
      .ret)))) }
theorem f102P : prepF C Tryd.f102 = some f102A := by kernel_rfl

/-- (*congou/squares.board).try -/
def f104A : AFunc :=
{ nargs := 2, res := [.c 4 none], body :=
  (.seq
   (.reg none [⟨(some 2), .box (.t 0), none⟩,
     ⟨(some 3), .box (.t 1), none⟩,
     ⟨(some 4), .alloc [(.b false)], none⟩])
   (.seq
    (.seq
     (.reg none [⟨(some 9), .load none (.t 2), none⟩,
       ⟨(some 10), .mkfn 105 [(.t 9)] [], none⟩])
     (.block 0
      (.rangeF 41 (.t 10) [11, 12]
       (.seq
        (.reg none [⟨(some 5), .mv (.t 11), none⟩])
        (.reg none [⟨(some 6), .mv (.t 12), none⟩]))
       (.block 1
        (.seq
         (.reg none [⟨(some 13), .bslice [(.b false)] 2 1 [(0, (.c (.b true))), (1, (.c (.b false)))], none⟩,
           ⟨(some 14), .len (.t 13), none⟩,
           ⟨(some 15), .mv (.c (.int .i64 0)), none⟩])
         (.block 2
          (.loop
           (.seq
            (.reg none [⟨(some 16), .bin .lss (.t 15) (.t 14), none⟩])
            (.seq
             (.cond (.t 16)
              .skip
              (.exit 2))
             (.seq
              (.block 3
               (.seq
                (.reg none [⟨(some 17), .iaddr 1 (.t 13) (.t 15), none⟩,
                  ⟨(some 18), .load none (.t 17), none⟩,
                  ⟨(some 8), .mv (.t 18), none⟩])
                (.seq
                 (.reg (some []) [⟨(some 19), .load none (.t 2), none⟩,
                   ⟨(some 20), .mv (.t 5), none⟩,
                   ⟨(some 21), .mv (.t 6), none⟩,
                   ⟨(some 22), .mv (.t 8), none⟩,
                   ⟨(some 23), .call 112 [(.t 19), (.t 20), (.t 21), (.t 22)], none⟩,
                   ⟨(some 24), .load none (.t 3), none⟩,
                   ⟨(some 25), .bin .sub (.t 24) (.c (.int .i64 1)), none⟩,
                   ⟨(some 26), .call 83 [(.t 23), (.t 25)], none⟩,
                   ⟨(some 27), .un .not (.t 26), none⟩])
                 (.cond (.t 27)
                  (.seq
                   (.reg (some []) [⟨(some 28), .load none (.t 2), none⟩,
                     ⟨(some 29), .load none (.t 2), none⟩,
                     ⟨(some 30), .mv (.t 5), none⟩,
                     ⟨(some 31), .mv (.t 6), none⟩,
                     ⟨(some 32), .mv (.t 8), none⟩,
                     ⟨(some 33), .un .not (.t 32), none⟩,
                     ⟨(some 34), .call 112 [(.t 29), (.t 30), (.t 31), (.t 33)], none⟩,
                     ⟨(some 35), .nilchk (.t 34), none⟩,
                     ⟨(some 36), .faddr 1 (.t 35), none⟩,
                     ⟨(some 37), .load none (.t 36), none⟩,
                     ⟨(some 38), .nilchk (.t 28), none⟩,
                     ⟨(some 39), .faddr 1 (.t 38), none⟩,
                     ⟨none, .store 1 (.t 39) (.t 37), none⟩])
                   (.seq
                    (.reg none [⟨none, .store 1 (.t 4) (.c (.b true)), none⟩])
                    .ret))
                  .skip))))
              (.reg none [⟨(some 40), .bin .add (.t 15) (.c (.int .i64 1)), none⟩,
                ⟨(some 15), .mv (.t 40), none⟩])))))))))))
    (.seq
     (.reg none [⟨none, .store 1 (.t 4) (.c (.b false)), none⟩])
     .ret))) }
theorem f104P : prepF C Tryd.f104 = some f104A := by kernel_rfl

/-- (*congou/squares.board).open -/
def f105A : AFunc :=
{ nargs := 2, res := [], body :=
  (.seq
   (.reg none [⟨(some 6), .mv (.t 0), none⟩,
     ⟨(some 7), .nilchk (.t 6), none⟩,
     ⟨(some 8), .faddr 1 (.t 7), none⟩,
     ⟨(some 9), .load none (.t 8), none⟩,
     ⟨(some 10), .len (.t 9), none⟩,
     ⟨(some 11), .mv (.c (.int .i64 0)), none⟩])
   (.block 0
    (.loop
     (.seq
      (.reg none [⟨(some 12), .bin .lss (.t 11) (.t 10), none⟩])
      (.seq
       (.cond (.t 12)
        .skip
        (.exit 0))
       (.seq
        (.block 1
         (.seq
          (.reg none [⟨(some 13), .mv (.t 11), none⟩,
            ⟨(some 4), .mv (.t 13), none⟩])
          (.seq
           (.reg none [⟨(some 14), .mv (.t 0), none⟩,
             ⟨(some 15), .nilchk (.t 14), none⟩,
             ⟨(some 16), .faddr 0 (.t 15), none⟩,
             ⟨(some 17), .load none (.t 16), none⟩,
             ⟨(some 18), .nilchk (.t 17), none⟩,
             ⟨(some 19), .faddr 1 (.t 18), none⟩,
             ⟨(some 20), .load none (.t 19), none⟩,
             ⟨(some 21), .len (.t 20), none⟩,
             ⟨(some 22), .mv (.c (.int .i64 0)), none⟩])
           (.block 2
            (.loop
             (.seq
              (.reg none [⟨(some 23), .bin .lss (.t 22) (.t 21), none⟩])
              (.seq
               (.cond (.t 23)
                .skip
                (.exit 2))
               (.seq
                (.block 3
                 (.seq
                  (.reg none [⟨(some 24), .mv (.t 22), none⟩,
                    ⟨(some 5), .mv (.t 24), none⟩])
                  (.seq
                   (.reg (some []) [⟨(some 25), .mv (.t 0), none⟩,
                     ⟨(some 26), .nilchk (.t 25), none⟩,
                     ⟨(some 27), .faddr 1 (.t 26), none⟩,
                     ⟨(some 28), .load none (.t 27), none⟩,
                     ⟨(some 29), .mv (.t 4), none⟩,
                     ⟨(some 30), .iaddr 2 (.t 28) (.t 29), none⟩,
                     ⟨(some 31), .faddr 0 (.t 30), none⟩,
                     ⟨(some 32), .load none (.t 31), none⟩,
                     ⟨(some 33), .mv (.t 0), none⟩,
                     ⟨(some 34), .nilchk (.t 33), none⟩,
                     ⟨(some 35), .faddr 1 (.t 34), none⟩,
                     ⟨(some 36), .load none (.t 35), none⟩,
                     ⟨(some 37), .mv (.t 4), none⟩,
                     ⟨(some 38), .iaddr 2 (.t 36) (.t 37), none⟩,
                     ⟨(some 39), .faddr 1 (.t 38), none⟩,
                     ⟨(some 40), .load none (.t 39), none⟩,
                     ⟨(some 41), .bin .or (.t 32) (.t 40), none⟩,
                     ⟨(some 42), .mv (.t 5), none⟩,
                     ⟨(some 43), .bin .shr (.t 41) (.t 42), none⟩,
                     ⟨(some 44), .bin .and (.t 43) (.c (.int .i64 1)), none⟩,
                     ⟨(some 45), .bin .eql (.t 44) (.c (.int .i64 0)), none⟩,
                     ⟨(some 46), .mv (.t 45), none⟩,
                     ⟨(some 47), .mv (.t 1), some (46, true)⟩,
                     ⟨(some 48), .mv (.t 4), some (46, true)⟩,
                     ⟨(some 49), .mv (.t 5), some (46, true)⟩,
                     ⟨(some 50), .callv (.t 47) [(.t 48), (.t 49)], some (46, true)⟩,
                     ⟨(some 51), .un .not (.t 50), some (46, true)⟩,
                     ⟨(some 52), .pick (.t 46) (.t 51) (.c (.b false)), none⟩])
                   (.cond (.t 52)
                    .ret
                    .skip))))
                (.reg none [⟨(some 53), .bin .add (.t 22) (.c (.int .i64 1)), none⟩,
                  ⟨(some 22), .mv (.t 53), none⟩])))))))))
        (.reg none [⟨(some 54), .bin .add (.t 11) (.c (.int .i64 1)), none⟩,
          ⟨(some 11), .mv (.t 54), none⟩]))))))) }
theorem f105P : prepF C Tryd.f105 = some f105A := by kernel_rfl

/-- congou/congouref07.contrary -/
def f106A : AFunc :=
{ nargs := 3, res := [.t 6, .t 7, .t 8], body :=
  (.seq
   (.reg none [⟨(some 3), .box (.t 0), none⟩,
     ⟨(some 4), .box (.t 1), none⟩,
     ⟨(some 6), .mv (.c (.int .i64 0)), none⟩,
     ⟨(some 7), .mv (.c (.int .i64 0)), none⟩,
     ⟨(some 8), .mv (.c (.b false)), none⟩])
   (.seq
    (.seq
     (.reg none [⟨(some 15), .faddr 0 (.t 3), none⟩,
       ⟨(some 16), .load none (.t 15), none⟩,
       ⟨(some 17), .len (.t 16), none⟩,
       ⟨(some 18), .mv (.c (.int .i64 0)), none⟩])
     (.block 0
      (.loop
       (.seq
        (.reg none [⟨(some 19), .bin .lss (.t 18) (.t 17), none⟩])
        (.seq
         (.cond (.t 19)
          .skip
          (.exit 0))
         (.seq
          (.block 1
           (.seq
            (.reg none [⟨(some 20), .mv (.t 18), none⟩,
              ⟨(some 9), .mv (.t 20), none⟩])
            (.seq
             (.reg none [⟨(some 21), .faddr 1 (.t 3), none⟩,
               ⟨(some 22), .load none (.t 21), none⟩,
               ⟨(some 23), .len (.t 22), none⟩,
               ⟨(some 24), .mv (.c (.int .i64 0)), none⟩])
             (.block 2
              (.loop
               (.seq
                (.reg none [⟨(some 25), .bin .lss (.t 24) (.t 23), none⟩])
                (.seq
                 (.cond (.t 25)
                  .skip
                  (.exit 2))
                 (.seq
                  (.block 3
                   (.seq
                    (.reg none [⟨(some 26), .mv (.t 24), none⟩,
                      ⟨(some 10), .mv (.t 26), none⟩])
                    (.seq
                     (.seq
                      (.reg (some []) [⟨(some 27), .faddr 0 (.t 4), none⟩,
                        ⟨(some 28), .load none (.t 27), none⟩,
                        ⟨(some 29), .mv (.t 9), none⟩,
                        ⟨(some 30), .iaddr 1 (.t 28) (.t 29), none⟩,
                        ⟨(some 31), .load none (.t 30), none⟩,
                        ⟨(some 32), .faddr 1 (.t 4), none⟩,
                        ⟨(some 33), .load none (.t 32), none⟩,
                        ⟨(some 34), .mv (.t 9), none⟩,
                        ⟨(some 35), .iaddr 1 (.t 33) (.t 34), none⟩,
                        ⟨(some 36), .load none (.t 35), none⟩,
                        ⟨(some 37), .bin .or (.t 31) (.t 36), none⟩,
                        ⟨(some 38), .mv (.t 10), none⟩,
                        ⟨(some 39), .bin .shr (.t 37) (.t 38), none⟩,
                        ⟨(some 40), .bin .and (.t 39) (.c (.int .i64 1)), none⟩,
                        ⟨(some 41), .bin .eql (.t 40) (.c (.int .i64 1)), none⟩])
                      (.cond (.t 41)
                       (.exit 3)
                       .skip))
                     (.seq
                      (.seq
                       (.reg (some []) [⟨(some 43), .load (some 2) (.t 3), none⟩,
                         ⟨(some 44), .load (some 2) (.t 4), none⟩,
                         ⟨(some 45), .mv (.t 9), none⟩,
                         ⟨(some 46), .mv (.t 10), none⟩,
                         ⟨(some 47), .call 107 [(.t 44), (.t 45), (.t 46), (.c (.b true))], none⟩,
                         ⟨(some 48), .mv (.t 2), none⟩,
                         ⟨(some 49), .bin .sub (.t 48) (.c (.int .i64 1)), none⟩,
                         ⟨(some 50), .call 85 [(.t 43), (.t 47), (.t 49)], none⟩,
                         ⟨(some 42), .mv (.t 50), none⟩,
                         ⟨(some 51), .extr (.t 42) 0, none⟩,
                         ⟨(some 52), .extr (.t 42) 1, none⟩,
                         ⟨(some 11), .alloc [.nils, .nils], none⟩,
                         ⟨none, .store 2 (.t 11) (.t 51), none⟩,
                         ⟨(some 12), .mv (.t 52), none⟩])
                       (.seq
                        (.reg none [⟨(some 53), .mv (.t 12), none⟩,
                          ⟨(some 54), .un .not (.t 53), none⟩])
                        (.cond (.t 54)
                         (.seq
                          (.reg none [⟨(some 55), .mv (.t 9), none⟩,
                            ⟨(some 56), .mv (.t 10), none⟩,
                            ⟨(some 6), .mv (.t 55), none⟩,
                            ⟨(some 7), .mv (.t 56), none⟩,
                            ⟨(some 8), .mv (.c (.b false)), none⟩])
                          .ret)
                         .skip)))
                      (.seq
                       (.reg (some []) [⟨(some 58), .load (some 2) (.t 3), none⟩,
                         ⟨(some 59), .load (some 2) (.t 4), none⟩,
                         ⟨(some 60), .mv (.t 9), none⟩,
                         ⟨(some 61), .mv (.t 10), none⟩,
                         ⟨(some 62), .call 107 [(.t 59), (.t 60), (.t 61), (.c (.b false))], none⟩,
                         ⟨(some 63), .mv (.t 2), none⟩,
                         ⟨(some 64), .bin .sub (.t 63) (.c (.int .i64 1)), none⟩,
                         ⟨(some 65), .call 85 [(.t 58), (.t 62), (.t 64)], none⟩,
                         ⟨(some 57), .mv (.t 65), none⟩,
                         ⟨(some 66), .extr (.t 57) 0, none⟩,
                         ⟨(some 67), .extr (.t 57) 1, none⟩,
                         ⟨(some 13), .alloc [.nils, .nils], none⟩,
                         ⟨none, .store 2 (.t 13) (.t 66), none⟩,
                         ⟨(some 14), .mv (.t 67), none⟩])
                       (.seq
                        (.reg none [⟨(some 68), .mv (.t 14), none⟩,
                          ⟨(some 69), .un .not (.t 68), none⟩])
                        (.cond (.t 69)
                         (.seq
                          (.reg none [⟨(some 70), .mv (.t 9), none⟩,
                            ⟨(some 71), .mv (.t 10), none⟩,
                            ⟨(some 6), .mv (.t 70), none⟩,
                            ⟨(some 7), .mv (.t 71), none⟩,
                            ⟨(some 8), .mv (.c (.b true)), none⟩])
                          .ret)
                         .skip)))))))
                  (.reg none [⟨(some 72), .bin .add (.t 24) (.c (.int .i64 1)), none⟩,
                    ⟨(some 24), .mv (.t 72), none⟩])))))))))
          (.reg none [⟨(some 73), .bin .add (.t 18) (.c (.int .i64 1)), none⟩,
            ⟨(some 18), .mv (.t 73), none⟩])))))))
    (.seq
     (.reg none [⟨(some 6), .mv (.c (.int .i64 (-1))), none⟩,
       ⟨(some 7), .mv (.c (.int .i64 (-1))), none⟩,
       ⟨(some 8), .mv (.c (.b false)), none⟩])
     .ret))) }
theorem f106P : prepF C Tryd.f106 = some f106A := by kernel_rfl

/-- congou/congouref07.with -/
def f107A : AFunc :=
{ nargs := 4, res := [.c 8 (some 2)], body :=
  (.seq
   (.reg none [⟨(some 4), .box (.t 0), none⟩,
     ⟨(some 8), .alloc [.nils, .nils], none⟩])
   (.seq
    (.reg none [⟨(some 10), .load (some 2) (.t 4), none⟩,
      ⟨(some 11), .call 100 [(.t 10)], none⟩,
      ⟨(some 9), .alloc [.nils, .nils], none⟩,
      ⟨none, .store 2 (.t 9) (.t 11), none⟩])
    (.seq
     (.seq
      (.reg none [⟨(some 12), .mv (.t 3), none⟩])
      (.cond (.t 12)
       (.reg (some []) [⟨(some 13), .faddr 0 (.t 9), none⟩,
         ⟨(some 14), .load none (.t 13), none⟩,
         ⟨(some 15), .mv (.t 1), none⟩,
         ⟨(some 16), .iaddr 1 (.t 14) (.t 15), none⟩,
         ⟨(some 17), .load none (.t 16), none⟩,
         ⟨(some 18), .mv (.t 2), none⟩,
         ⟨(some 19), .bin .shl (.c (.int .i64 1)) (.t 18), none⟩,
         ⟨(some 20), .bin .or (.t 17) (.t 19), none⟩,
         ⟨(some 21), .iaddr 1 (.t 14) (.t 15), none⟩,
         ⟨none, .store 1 (.t 21) (.t 20), none⟩])
       (.reg (some []) [⟨(some 22), .faddr 1 (.t 9), none⟩,
         ⟨(some 23), .load none (.t 22), none⟩,
         ⟨(some 24), .mv (.t 1), none⟩,
         ⟨(some 25), .iaddr 1 (.t 23) (.t 24), none⟩,
         ⟨(some 26), .load none (.t 25), none⟩,
         ⟨(some 27), .mv (.t 2), none⟩,
         ⟨(some 28), .bin .shl (.c (.int .i64 1)) (.t 27), none⟩,
         ⟨(some 29), .bin .or (.t 26) (.t 28), none⟩,
         ⟨(some 30), .iaddr 1 (.t 23) (.t 24), none⟩,
         ⟨none, .store 1 (.t 30) (.t 29), none⟩])))
     (.seq
      (.reg none [⟨(some 31), .load (some 2) (.t 9), none⟩,
        ⟨none, .store 2 (.t 8) (.t 31), none⟩])
      .ret)))) }
theorem f107P : prepF C Tryd.f107 = some f107A := by kernel_rfl

/-- slices.IndexFunc[[][]int,[]int] -/
def f111A : AFunc :=
{ nargs := 2, res := [.t 4], body :=
  (.seq
   (.reg none [⟨(some 4), .mv (.c (.int .i64 0)), none⟩])
   (.seq
    (.seq
     (.reg none [⟨(some 6), .mv (.t 0), none⟩,
       ⟨(some 7), .len (.t 6), none⟩,
       ⟨(some 8), .mv (.c (.int .i64 0)), none⟩])
     (.block 0
      (.loop
       (.seq
        (.reg none [⟨(some 9), .bin .lss (.t 8) (.t 7), none⟩])
        (.seq
         (.cond (.t 9)
          .skip
          (.exit 0))
         (.seq
          (.block 1
           (.seq
            (.reg none [⟨(some 10), .mv (.t 8), none⟩,
              ⟨(some 5), .mv (.t 10), none⟩])
            (.seq
             (.reg none [⟨(some 11), .mv (.t 1), none⟩,
               ⟨(some 12), .mv (.t 0), none⟩,
               ⟨(some 13), .mv (.t 5), none⟩,
               ⟨(some 14), .iaddr 1 (.t 12) (.t 13), none⟩,
               ⟨(some 15), .load none (.t 14), none⟩,
               ⟨(some 16), .callv (.t 11) [(.t 15)], none⟩])
             (.cond (.t 16)
              (.seq
               (.reg none [⟨(some 17), .mv (.t 5), none⟩,
                 ⟨(some 4), .mv (.t 17), none⟩])
               .ret)
              .skip))))
          (.reg none [⟨(some 18), .bin .add (.t 8) (.c (.int .i64 1)), none⟩,
            ⟨(some 8), .mv (.t 18), none⟩])))))))
    (.seq
     (.reg none [⟨(some 4), .mv (.c (.int .i64 (-1))), none⟩])
     .ret))) }
theorem f111P : prepF C Tryd.f111 = some f111A := by kernel_rfl

/-- (*congou/squares.board).suppose -/
def f112A : AFunc :=
{ nargs := 4, res := [.t 8], body :=
  (.seq
   (.reg none [⟨(some 8), .mv (.c .nilp), none⟩])
   (.seq
    (.reg none [⟨(some 10), .mv (.t 0), none⟩,
      ⟨(some 11), .call 113 [(.t 10)], none⟩,
      ⟨(some 9), .mv (.t 11), none⟩])
    (.seq
     (.seq
      (.reg none [⟨(some 12), .mv (.t 3), none⟩])
      (.cond (.t 12)
       (.reg (some []) [⟨(some 13), .mv (.t 9), none⟩,
         ⟨(some 14), .nilchk (.t 13), none⟩,
         ⟨(some 15), .faddr 1 (.t 14), none⟩,
         ⟨(some 16), .load none (.t 15), none⟩,
         ⟨(some 17), .mv (.t 1), none⟩,
         ⟨(some 18), .iaddr 2 (.t 16) (.t 17), none⟩,
         ⟨(some 19), .faddr 0 (.t 18), none⟩,
         ⟨(some 20), .load none (.t 19), none⟩,
         ⟨(some 21), .mv (.t 2), none⟩,
         ⟨(some 22), .bin .shl (.c (.int .i64 1)) (.t 21), none⟩,
         ⟨(some 23), .bin .or (.t 20) (.t 22), none⟩,
         ⟨(some 24), .iaddr 2 (.t 16) (.t 17), none⟩,
         ⟨(some 25), .faddr 0 (.t 24), none⟩,
         ⟨none, .store 1 (.t 25) (.t 23), none⟩])
       (.reg (some []) [⟨(some 26), .mv (.t 9), none⟩,
         ⟨(some 27), .nilchk (.t 26), none⟩,
         ⟨(some 28), .faddr 1 (.t 27), none⟩,
         ⟨(some 29), .load none (.t 28), none⟩,
         ⟨(some 30), .mv (.t 1), none⟩,
         ⟨(some 31), .iaddr 2 (.t 29) (.t 30), none⟩,
         ⟨(some 32), .faddr 1 (.t 31), none⟩,
         ⟨(some 33), .load none (.t 32), none⟩,
         ⟨(some 34), .mv (.t 2), none⟩,
         ⟨(some 35), .bin .shl (.c (.int .i64 1)) (.t 34), none⟩,
         ⟨(some 36), .bin .or (.t 33) (.t 35), none⟩,
         ⟨(some 37), .iaddr 2 (.t 29) (.t 30), none⟩,
         ⟨(some 38), .faddr 1 (.t 37), none⟩,
         ⟨none, .store 1 (.t 38) (.t 36), none⟩])))
     (.seq
      (.reg none [⟨(some 39), .mv (.t 9), none⟩,
        ⟨(some 8), .mv (.t 39), none⟩])
      .ret)))) }
theorem f112P : prepF C Tryd.f112 = some f112A := by kernel_rfl

/-- (*congou/squares.board).clone -/
def f113A : AFunc :=
{ nargs := 1, res := [.t 2], body :=
  (.seq
   (.reg none [⟨(some 2), .mv (.c .nilp), none⟩])
   (.seq
    (.reg (some []) [⟨(some 3), .mv (.t 0), none⟩,
      ⟨(some 4), .nilchk (.t 3), none⟩,
      ⟨(some 5), .faddr 0 (.t 4), none⟩,
      ⟨(some 6), .load none (.t 5), none⟩,
      ⟨(some 7), .mv (.t 0), none⟩,
      ⟨(some 8), .nilchk (.t 7), none⟩,
      ⟨(some 9), .faddr 1 (.t 8), none⟩,
      ⟨(some 10), .load none (.t 9), none⟩,
      ⟨(some 11), .call 96 [(.t 10)], none⟩,
      ⟨(some 12), .build [.nilp, .nils] [(0, 1, (.t 6)), (1, 1, (.t 11))], none⟩,
      ⟨(some 13), .box (.t 12), none⟩,
      ⟨(some 2), .mv (.t 13), none⟩])
    .ret)) }
theorem f113P : prepF C Tryd.f113 = some f113A := by kernel_rfl

end Go.Proofs.YtjjndoigkhabdaaDoor
