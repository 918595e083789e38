/- The abstract forms of the functions that are needed, each checked against the translation. No condition. -/
import Derived.Lib.TrailingZeros
import Derived.Test.YtjjndoigkhabdaaDoorAm1
import Derived.Test.YtjjndoigkhabdaaDoorProg
namespace Go.Proofs.YtjjndoigkhabdaaDoor
open Go Go.AM Go.Proofs

/-- the seat's program; the types whose comparison is taken; the functions that may write to what is older -/
def tzP : List AV → Option AV
  | [.int .u64 n] => if 0 ≤ n ∧ n ≤ 18446744073709551615 then some (.i (Lib.ctz 64 n.toNat : Nat)) else none
  | _ => none
def kd : Nat → Kd := fun f => if [69, 73, 78, 79, 83, 98, 101, 104, 105].contains f then .wrt else if [24].contains f then .closed else if f = 87 then .prim tzP else .ro
noncomputable def C : Cfg := { P := Tryd.prog, eqT := fun t => if t == 72 then some 2 else none, kd := kd }
/-- congou/congoulaw07.SquaresDeduces -/
def f8A : AFunc :=
{ nargs := 1, res := [.t 2], body :=
  (.seq
   (.reg none [⟨(some 1), .box (.t 0), none⟩,
     ⟨(some 2), .mv (.c (.b false)), none⟩])
   (.seq
    (.reg none [⟨(some 9), .load (some 2) (.t 1), none⟩,
      ⟨(some 10), .call 37 [(.t 9)], none⟩,
      ⟨(some 11), .call 36 [(.t 10)], none⟩,
      ⟨(some 8), .mv (.t 11), none⟩,
      ⟨(some 12), .extr (.t 8) 0, none⟩,
      ⟨(some 13), .extr (.t 8) 1, none⟩,
      ⟨(some 14), .extr (.t 8) 2, none⟩,
      ⟨(some 3), .mv (.t 12), none⟩,
      ⟨(some 4), .mv (.t 13), none⟩,
      ⟨(some 5), .mv (.t 14), none⟩])
    (.seq
     (.seq
      (.reg none [⟨(some 15), .load (some 2) (.t 1), none⟩,
        ⟨(some 16), .call 38 [(.t 15)], none⟩,
        ⟨(some 17), .un .not (.t 16), none⟩])
      (.cond (.t 17)
       (.seq
        (.reg none [⟨(some 18), .mv (.t 3), none⟩,
          ⟨(some 19), .len (.t 18), none⟩,
          ⟨(some 20), .mv (.t 4), none⟩,
          ⟨(some 21), .len (.t 20), none⟩,
          ⟨(some 22), .bin .add (.t 19) (.t 21), none⟩,
          ⟨(some 23), .bin .eql (.t 22) (.c (.int .i64 0)), none⟩,
          ⟨(some 24), .mv (.t 23), none⟩,
          ⟨(some 25), .mv (.t 5), some (24, true)⟩,
          ⟨(some 26), .bin .eql (.t 25) (.c (.int .i64 2)), some (24, true)⟩,
          ⟨(some 27), .pick (.t 24) (.t 26) (.c (.b false)), none⟩,
          ⟨(some 28), .mv (.t 27), none⟩,
          ⟨(some 29), .call 24 [], some (28, true)⟩,
          ⟨(some 30), .pick (.t 28) (.t 29) (.c (.b false)), none⟩,
          ⟨(some 2), .mv (.t 30), none⟩])
        .ret)
       .skip))
     (.seq
      (.reg none [⟨(some 32), .load (some 2) (.t 1), none⟩,
        ⟨(some 33), .call 39 [(.t 32)], none⟩,
        ⟨(some 31), .mv (.t 33), none⟩,
        ⟨(some 34), .extr (.t 31) 0, none⟩,
        ⟨(some 35), .extr (.t 31) 1, none⟩,
        ⟨(some 6), .alloc [.nils, .nils], none⟩,
        ⟨none, .store 2 (.t 6) (.t 34), none⟩,
        ⟨(some 7), .mv (.t 35), none⟩])
      (.seq
       (.reg none [⟨(some 36), .mv (.t 3), none⟩,
         ⟨(some 37), .faddr 0 (.t 6), none⟩,
         ⟨(some 38), .load none (.t 37), none⟩,
         ⟨(some 39), .call 21 [(.t 36), (.t 38)], none⟩,
         ⟨(some 40), .mv (.t 39), none⟩,
         ⟨(some 41), .mv (.t 4), some (40, true)⟩,
         ⟨(some 42), .faddr 1 (.t 6), some (40, true)⟩,
         ⟨(some 43), .load none (.t 42), some (40, true)⟩,
         ⟨(some 44), .call 21 [(.t 41), (.t 43)], some (40, true)⟩,
         ⟨(some 45), .pick (.t 40) (.t 44) (.c (.b false)), none⟩,
         ⟨(some 46), .mv (.t 45), none⟩,
         ⟨(some 47), .mv (.t 5), some (46, true)⟩,
         ⟨(some 48), .mv (.t 7), some (46, true)⟩,
         ⟨(some 49), .bin .eql (.t 47) (.t 48), some (46, true)⟩,
         ⟨(some 50), .pick (.t 46) (.t 49) (.c (.b false)), none⟩,
         ⟨(some 51), .mv (.t 50), none⟩,
         ⟨(some 52), .call 24 [], some (51, true)⟩,
         ⟨(some 53), .pick (.t 51) (.t 52) (.c (.b false)), none⟩,
         ⟨(some 2), .mv (.t 53), none⟩])
       .ret))))) }
theorem f8P : prepF C Tryd.f8 = some f8A := by kernel_rfl

/-- congou/squares.Blocks -/
def f17A : AFunc :=
{ nargs := 2, res := [.t 4, .t 5], body :=
  (.seq
   (.reg none [⟨(some 4), .mv (.c .nils), none⟩,
     ⟨(some 5), .mv (.c (.int .i64 0)), none⟩])
   (.seq
    (.seq
     (.reg none [⟨(some 6), .mv (.t 0), none⟩,
       ⟨(some 7), .mv (.t 1), none⟩,
       ⟨(some 8), .call 55 [(.t 6), (.t 7)], none⟩,
       ⟨(some 9), .un .not (.t 8), none⟩])
     (.cond (.t 9)
      (.seq
       (.reg none [⟨(some 4), .mv (.c .nils), none⟩,
         ⟨(some 5), .mv (.c (.int .i64 2)), none⟩])
       .ret)
      .skip))
    (.seq
     (.reg none [⟨(some 10), .mv (.t 1), none⟩,
       ⟨(some 11), .call 56 [(.t 10)], none⟩,
       ⟨(some 4), .mv (.t 11), none⟩,
       ⟨(some 5), .mv (.c (.int .i64 0)), none⟩])
     .ret))) }
theorem f17P : prepF C Tryd.f17 = some f17A := by kernel_rfl

/-- congou/congoulaw07.list -/
def f19A : AFunc :=
{ nargs := 1, res := [.t 2], body :=
  (.seq
   (.reg none [⟨(some 2), .mv (.c .nils), none⟩])
   (.seq
    (.reg none [⟨(some 3), .mv (.t 0), none⟩,
      ⟨(some 4), .mv (.t 0), none⟩,
      ⟨(some 5), .len (.t 4), none⟩,
      ⟨(some 6), .mn [(.t 5), (.c (.int .i64 8))], none⟩,
      ⟨(some 7), .slice 1 (.t 3) none (some (.t 6)) none, none⟩,
      ⟨(some 8), .call 33 [(.t 7)], none⟩,
      ⟨(some 2), .mv (.t 8), none⟩])
    .ret)) }
theorem f19P : prepF C Tryd.f19 = some f19A := by kernel_rfl

/-- slices.Equal[[]int,int] -/
def f21A : AFunc :=
{ nargs := 2, res := [.t 4], body :=
  (.seq
   (.reg none [⟨(some 4), .mv (.c (.b false)), none⟩])
   (.seq
    (.seq
     (.reg none [⟨(some 6), .mv (.t 0), none⟩,
       ⟨(some 7), .len (.t 6), none⟩,
       ⟨(some 8), .mv (.t 1), none⟩,
       ⟨(some 9), .len (.t 8), none⟩,
       ⟨(some 10), .bin .neq (.t 7) (.t 9), none⟩])
     (.cond (.t 10)
      (.seq
       (.reg none [⟨(some 4), .mv (.c (.b false)), none⟩])
       .ret)
      .skip))
    (.seq
     (.seq
      (.reg none [⟨(some 11), .mv (.t 0), none⟩,
        ⟨(some 12), .len (.t 11), none⟩,
        ⟨(some 13), .mv (.c (.int .i64 0)), none⟩])
      (.block 0
       (.loop
        (.seq
         (.reg none [⟨(some 14), .bin .lss (.t 13) (.t 12), none⟩])
         (.seq
          (.cond (.t 14)
           .skip
           (.exit 0))
          (.seq
           (.block 1
            (.seq
             (.reg none [⟨(some 15), .mv (.t 13), none⟩,
               ⟨(some 5), .mv (.t 15), none⟩])
             (.seq
              (.reg (some []) [⟨(some 16), .mv (.t 0), none⟩,
                ⟨(some 17), .mv (.t 5), none⟩,
                ⟨(some 18), .iaddr 1 (.t 16) (.t 17), none⟩,
                ⟨(some 19), .load none (.t 18), none⟩,
                ⟨(some 20), .mv (.t 1), none⟩,
                ⟨(some 21), .mv (.t 5), none⟩,
                ⟨(some 22), .iaddr 1 (.t 20) (.t 21), none⟩,
                ⟨(some 23), .load none (.t 22), none⟩,
                ⟨(some 24), .bin .neq (.t 19) (.t 23), none⟩])
              (.cond (.t 24)
               (.seq
                (.reg none [⟨(some 4), .mv (.c (.b false)), none⟩])
                .ret)
               .skip))))
           (.reg none [⟨(some 25), .bin .add (.t 13) (.c (.int .i64 1)), none⟩,
             ⟨(some 13), .mv (.t 25), none⟩])))))))
     (.seq
      (.reg none [⟨(some 4), .mv (.c (.b true)), none⟩])
      .ret)))) }
theorem f21P : prepF C Tryd.f21 = some f21A := by kernel_rfl

/-- congou/congouref07.Blocks -/
def f22A : AFunc :=
{ nargs := 2, res := [.t 4], body :=
  (.seq
   (.reg none [⟨(some 4), .mv (.c .nils), none⟩])
   (.seq
    (.reg none [⟨(some 5), .mv (.c .nils), none⟩])
    (.seq
     (.reg none [⟨(some 6), .mv (.c (.int .i64 0)), none⟩])
     (.seq
      (.seq
       (.reg none [⟨(some 8), .mv (.t 0), none⟩,
         ⟨(some 9), .bin .add (.t 8) (.c (.int .i64 1)), none⟩,
         ⟨(some 10), .mv (.c (.int .i64 0)), none⟩])
       (.block 0
        (.loop
         (.seq
          (.reg none [⟨(some 11), .bin .lss (.t 10) (.t 9), none⟩])
          (.seq
           (.cond (.t 11)
            .skip
            (.exit 0))
           (.seq
            (.block 1
             (.seq
              (.reg none [⟨(some 12), .mv (.t 10), none⟩,
                ⟨(some 7), .mv (.t 12), none⟩])
              (.seq
               (.seq
                (.reg none [⟨(some 13), .mv (.t 1), none⟩,
                  ⟨(some 14), .mv (.t 7), none⟩,
                  ⟨(some 15), .bin .shr (.t 13) (.t 14), none⟩,
                  ⟨(some 16), .bin .and (.t 15) (.c (.int .i64 1)), none⟩,
                  ⟨(some 17), .bin .eql (.t 16) (.c (.int .i64 1)), none⟩])
                (.cond (.t 17)
                 (.seq
                  (.reg none [⟨(some 18), .mv (.t 6), none⟩,
                    ⟨(some 19), .bin .add (.t 18) (.c (.int .i64 1)), none⟩,
                    ⟨(some 6), .mv (.t 19), none⟩])
                  (.exit 1))
                 .skip))
               (.seq
                (.seq
                 (.reg none [⟨(some 20), .mv (.t 6), none⟩,
                   ⟨(some 21), .bin .gtr (.t 20) (.c (.int .i64 0)), none⟩])
                 (.cond (.t 21)
                  (.reg none [⟨(some 22), .mv (.t 5), none⟩,
                    ⟨(some 23), .mv (.t 6), none⟩,
                    ⟨(some 24), .bslice [(.int .i64 0)] 1 1 [(0, (.t 23))], none⟩,
                    ⟨(some 25), .append 1 8 (.t 22) (.t 24), none⟩,
                    ⟨(some 5), .mv (.t 25), none⟩])
                  .skip))
                (.reg none [⟨(some 6), .mv (.c (.int .i64 0)), none⟩])))))
            (.reg none [⟨(some 26), .bin .add (.t 10) (.c (.int .i64 1)), none⟩,
              ⟨(some 10), .mv (.t 26), none⟩])))))))
      (.seq
       (.reg none [⟨(some 27), .mv (.t 5), none⟩,
         ⟨(some 4), .mv (.t 27), none⟩])
       .ret))))) }
theorem f22P : prepF C Tryd.f22 = some f22A := by kernel_rfl

/-- congou/congouref07.Clue -/
def f23A : AFunc :=
{ nargs := 2, res := [.t 4], body :=
  (.seq
   (.reg none [⟨(some 4), .mv (.c (.b false)), none⟩])
   (.seq
    (.reg none [⟨(some 5), .mv (.t 0), none⟩,
      ⟨(some 6), .call 59 [(.t 5)], none⟩,
      ⟨(some 7), .mv (.t 6), none⟩,
      ⟨(some 8), .mv (.t 0), some (7, true)⟩,
      ⟨(some 9), .mv (.t 1), some (7, true)⟩,
      ⟨(some 10), .call 25 [(.t 8), (.t 9)], some (7, true)⟩,
      ⟨(some 11), .len (.t 10), some (7, true)⟩,
      ⟨(some 12), .bin .gtr (.t 11) (.c (.int .i64 0)), some (7, true)⟩,
      ⟨(some 13), .pick (.t 7) (.t 12) (.c (.b false)), none⟩,
      ⟨(some 4), .mv (.t 13), none⟩])
    .ret)) }
theorem f23P : prepF C Tryd.f23 = some f23A := by kernel_rfl

/-- congou/congoulaw07.awake -/
def f24A : AFunc :=
{ nargs := 0, res := [.t 0], body :=
  (.seq
   (.reg none [⟨(some 0), .mv (.c (.b false)), none⟩])
   (.seq
    (.reg none [⟨(some 4), .call 17 [(.c (.int .i64 5)), (.c (.int .i64 23))], none⟩,
      ⟨(some 3), .mv (.t 4), none⟩,
      ⟨(some 5), .extr (.t 3) 0, none⟩,
      ⟨(some 6), .extr (.t 3) 1, none⟩,
      ⟨(some 1), .mv (.t 5), none⟩,
      ⟨(some 2), .mv (.t 6), none⟩])
    (.seq
     (.reg none [⟨(some 7), .mv (.t 2), none⟩,
       ⟨(some 8), .bin .eql (.t 7) (.c (.int .i64 0)), none⟩,
       ⟨(some 9), .mv (.t 8), none⟩,
       ⟨(some 10), .mv (.t 1), some (9, true)⟩,
       ⟨(some 11), .bslice [(.int .i64 0)] 2 1 [(0, (.c (.int .i64 3))), (1, (.c (.int .i64 1)))], some (9, true)⟩,
       ⟨(some 12), .call 21 [(.t 10), (.t 11)], some (9, true)⟩,
       ⟨(some 13), .pick (.t 9) (.t 12) (.c (.b false)), none⟩,
       ⟨(some 0), .mv (.t 13), none⟩])
     .ret))) }
theorem f24P : prepF C Tryd.f24 = some f24A := by kernel_rfl

/-- congou/congouref07.Lines -/
def f25A : AFunc :=
{ nargs := 2, res := [.t 4], body :=
  (.seq
   (.reg none [⟨(some 4), .mv (.c .nils), none⟩])
   (.seq
    (.reg none [⟨(some 5), .mv (.c .nils), none⟩])
    (.seq
     (.seq
      (.reg none [⟨(some 7), .mv (.t 0), none⟩,
        ⟨(some 8), .bin .shl (.c (.int .i64 1)) (.t 7), none⟩,
        ⟨(some 9), .mv (.c (.int .i64 0)), none⟩])
      (.block 0
       (.loop
        (.seq
         (.reg none [⟨(some 10), .bin .lss (.t 9) (.t 8), none⟩])
         (.seq
          (.cond (.t 10)
           .skip
           (.exit 0))
          (.seq
           (.block 1
            (.seq
             (.reg none [⟨(some 11), .mv (.t 9), none⟩,
               ⟨(some 6), .mv (.t 11), none⟩])
             (.seq
              (.reg none [⟨(some 12), .mv (.t 0), none⟩,
                ⟨(some 13), .mv (.t 6), none⟩,
                ⟨(some 14), .call 22 [(.t 12), (.t 13)], none⟩,
                ⟨(some 15), .mv (.t 1), none⟩,
                ⟨(some 16), .call 60 [(.t 14), (.t 15)], none⟩])
              (.cond (.t 16)
               (.reg none [⟨(some 17), .mv (.t 5), none⟩,
                 ⟨(some 18), .mv (.t 6), none⟩,
                 ⟨(some 19), .bslice [(.int .i64 0)] 1 1 [(0, (.t 18))], none⟩,
                 ⟨(some 20), .append 1 8 (.t 17) (.t 19), none⟩,
                 ⟨(some 5), .mv (.t 20), none⟩])
               .skip))))
           (.reg none [⟨(some 21), .bin .add (.t 9) (.c (.int .i64 1)), none⟩,
             ⟨(some 9), .mv (.t 21), none⟩])))))))
     (.seq
      (.reg none [⟨(some 22), .mv (.t 5), none⟩,
        ⟨(some 4), .mv (.t 22), none⟩])
      .ret)))) }
theorem f25P : prepF C Tryd.f25 = some f25A := by kernel_rfl

/-- congou/congouref07.Tell -/
def f27A : AFunc :=
{ nargs := 4, res := [.t 8, .t 9, .t 10], body :=
  (.seq
   (.reg none [⟨(some 8), .mv (.c (.int .i64 0)), none⟩,
     ⟨(some 9), .mv (.c (.int .i64 0)), none⟩,
     ⟨(some 10), .mv (.c (.int .i64 0)), none⟩])
   (.seq
    (.reg none [⟨(some 17), .mv (.t 0), none⟩,
      ⟨(some 18), .bin .shl (.c (.int .i64 1)) (.t 17), none⟩,
      ⟨(some 19), .bin .sub (.t 18) (.c (.int .i64 1)), none⟩,
      ⟨(some 11), .mv (.t 19), none⟩])
    (.seq
     (.reg none [⟨(some 20), .mv (.t 11), none⟩,
       ⟨(some 21), .mv (.t 11), none⟩,
       ⟨(some 12), .mv (.t 20), none⟩,
       ⟨(some 13), .mv (.t 21), none⟩,
       ⟨(some 14), .mv (.c (.b false)), none⟩])
     (.seq
      (.seq
       (.reg none [⟨(some 22), .mv (.t 0), none⟩,
         ⟨(some 23), .mv (.t 1), none⟩,
         ⟨(some 24), .call 25 [(.t 22), (.t 23)], none⟩,
         ⟨(some 25), .len (.t 24), none⟩,
         ⟨(some 26), .mv (.c (.int .i64 0)), none⟩])
       (.block 0
        (.loop
         (.seq
          (.reg none [⟨(some 27), .bin .lss (.t 26) (.t 25), none⟩])
          (.seq
           (.cond (.t 27)
            .skip
            (.exit 0))
           (.seq
            (.block 1
             (.seq
              (.reg none [⟨(some 28), .iaddr 1 (.t 24) (.t 26), none⟩,
                ⟨(some 29), .load none (.t 28), none⟩,
                ⟨(some 16), .mv (.t 29), none⟩])
              (.seq
               (.reg none [⟨(some 30), .mv (.t 16), none⟩,
                 ⟨(some 31), .mv (.t 2), none⟩,
                 ⟨(some 32), .bin .and (.t 30) (.t 31), none⟩,
                 ⟨(some 33), .mv (.t 2), none⟩,
                 ⟨(some 34), .bin .eql (.t 32) (.t 33), none⟩,
                 ⟨(some 35), .mv (.t 34), none⟩,
                 ⟨(some 36), .mv (.t 16), some (35, true)⟩,
                 ⟨(some 37), .mv (.t 3), some (35, true)⟩,
                 ⟨(some 38), .bin .and (.t 36) (.t 37), some (35, true)⟩,
                 ⟨(some 39), .bin .eql (.t 38) (.c (.int .i64 0)), some (35, true)⟩,
                 ⟨(some 40), .pick (.t 35) (.t 39) (.c (.b false)), none⟩])
               (.cond (.t 40)
                (.seq
                 (.reg none [⟨(some 41), .mv (.t 12), none⟩,
                   ⟨(some 42), .mv (.t 16), none⟩,
                   ⟨(some 43), .bin .and (.t 41) (.t 42), none⟩,
                   ⟨(some 12), .mv (.t 43), none⟩])
                 (.seq
                  (.reg none [⟨(some 44), .mv (.t 13), none⟩,
                    ⟨(some 45), .mv (.t 11), none⟩,
                    ⟨(some 46), .mv (.t 16), none⟩,
                    ⟨(some 47), .bin .andNot (.t 45) (.t 46), none⟩,
                    ⟨(some 48), .bin .and (.t 44) (.t 47), none⟩,
                    ⟨(some 13), .mv (.t 48), none⟩])
                  (.reg none [⟨(some 14), .mv (.c (.b true)), none⟩])))
                .skip))))
            (.reg none [⟨(some 49), .bin .add (.t 26) (.c (.int .i64 1)), none⟩,
              ⟨(some 26), .mv (.t 49), none⟩])))))))
      (.seq
       (.seq
        (.reg none [⟨(some 50), .mv (.t 14), none⟩,
          ⟨(some 51), .un .not (.t 50), none⟩])
        (.cond (.t 51)
         (.seq
          (.reg none [⟨(some 8), .mv (.c (.int .i64 0)), none⟩,
            ⟨(some 9), .mv (.c (.int .i64 0)), none⟩,
            ⟨(some 10), .mv (.c (.int .i64 4)), none⟩])
          .ret)
         .skip))
       (.seq
        (.reg none [⟨(some 52), .mv (.t 12), none⟩,
          ⟨(some 53), .mv (.t 13), none⟩,
          ⟨(some 8), .mv (.t 52), none⟩,
          ⟨(some 9), .mv (.t 53), none⟩,
          ⟨(some 10), .mv (.c (.int .i64 0)), none⟩])
        .ret)))))) }
theorem f27P : prepF C Tryd.f27 = some f27A := by kernel_rfl

/-- slices.Clone[[]int,int] -/
def f33A : AFunc :=
{ nargs := 1, res := [.t 2], body :=
  (.seq
   (.reg none [⟨(some 2), .mv (.c .nils), none⟩])
   (.seq
    (.seq
     (.reg none [⟨(some 3), .mv (.t 0), none⟩,
       ⟨(some 4), .seq false (.t 3) (.c .nils), none⟩])
     (.cond (.t 4)
      (.seq
       (.reg none [⟨(some 2), .mv (.c .nils), none⟩])
       .ret)
      .skip))
    (.seq
     (.reg none [⟨(some 5), .bslice [(.int .i64 0)] 0 1 [], none⟩,
       ⟨(some 6), .mv (.t 0), none⟩,
       ⟨(some 7), .append 1 8 (.t 5) (.t 6), none⟩,
       ⟨(some 2), .mv (.t 7), none⟩])
     .ret))) }
theorem f33P : prepF C Tryd.f33 = some f33A := by kernel_rfl

/-- congou/squares.Deduce -/
def f36A : AFunc :=
{ nargs := 1, res := [.t 2, .t 3, .t 4], body :=
  (.seq
   (.reg none [⟨(some 1), .box (.t 0), none⟩,
     ⟨(some 2), .mv (.c .nils), none⟩,
     ⟨(some 3), .mv (.c .nils), none⟩,
     ⟨(some 4), .mv (.c (.int .i64 0)), none⟩])
   (.seq
    (.seq
     (.reg none [⟨(some 8), .load (some 2) (.t 1), none⟩,
       ⟨(some 9), .call 67 [(.t 8)], none⟩,
       ⟨(some 10), .un .not (.t 9), none⟩])
     (.cond (.t 10)
      (.seq
       (.reg none [⟨(some 2), .mv (.c .nils), none⟩,
         ⟨(some 3), .mv (.c .nils), none⟩,
         ⟨(some 4), .mv (.c (.int .i64 2)), none⟩])
       .ret)
      .skip))
    (.seq
     (.reg none [⟨(some 11), .call 68 [(.t 1)], none⟩,
       ⟨(some 5), .mv (.t 11), none⟩])
     (.seq
      (.seq
       (.reg none [⟨(some 12), .mv (.t 5), none⟩,
         ⟨(some 13), .call 69 [(.t 12)], none⟩,
         ⟨(some 14), .un .not (.t 13), none⟩])
       (.cond (.t 14)
        (.seq
         (.reg none [⟨(some 2), .mv (.c .nils), none⟩,
           ⟨(some 3), .mv (.c .nils), none⟩,
           ⟨(some 4), .mv (.c (.int .i64 4)), none⟩])
         .ret)
        .skip))
      (.seq
       (.seq
        (.reg none [⟨(some 15), .mv (.t 5), none⟩,
          ⟨(some 16), .nilchk (.t 15), none⟩,
          ⟨(some 17), .faddr 1 (.t 16), none⟩,
          ⟨(some 18), .load none (.t 17), none⟩,
          ⟨(some 19), .len (.t 18), none⟩,
          ⟨(some 20), .mv (.c (.int .i64 0)), none⟩])
        (.block 0
         (.loop
          (.seq
           (.reg none [⟨(some 21), .bin .lss (.t 20) (.t 19), none⟩])
           (.seq
            (.cond (.t 21)
             .skip
             (.exit 0))
            (.seq
             (.block 1
              (.seq
               (.reg none [⟨(some 22), .iaddr 2 (.t 18) (.t 20), none⟩,
                 ⟨(some 23), .load (some 2) (.t 22), none⟩,
                 ⟨(some 7), .alloc [(.int .i64 0), (.int .i64 0)], none⟩,
                 ⟨none, .store 2 (.t 7) (.t 23), none⟩])
               (.reg (some [(7, 4)]) [⟨(some 24), .mv (.t 2), none⟩,
                 ⟨(some 25), .faddr 0 (.t 7), none⟩,
                 ⟨(some 26), .load none (.t 25), none⟩,
                 ⟨(some 27), .bslice [(.int .i64 0)] 1 1 [(0, (.t 26))], none⟩,
                 ⟨(some 28), .append 1 8 (.t 24) (.t 27), none⟩,
                 ⟨(some 29), .mv (.t 3), none⟩,
                 ⟨(some 30), .faddr 1 (.t 7), none⟩,
                 ⟨(some 31), .load none (.t 30), none⟩,
                 ⟨(some 32), .bslice [(.int .i64 0)] 1 1 [(0, (.t 31))], none⟩,
                 ⟨(some 33), .append 1 8 (.t 29) (.t 32), none⟩,
                 ⟨(some 2), .mv (.t 28), none⟩,
                 ⟨(some 3), .mv (.t 33), none⟩])))
             (.reg none [⟨(some 34), .bin .add (.t 20) (.c (.int .i64 1)), none⟩,
               ⟨(some 20), .mv (.t 34), none⟩])))))))
       (.seq
        (.reg none [⟨(some 35), .mv (.t 2), none⟩,
          ⟨(some 36), .mv (.t 3), none⟩,
          ⟨(some 2), .mv (.t 35), none⟩,
          ⟨(some 3), .mv (.t 36), none⟩,
          ⟨(some 4), .mv (.c (.int .i64 0)), none⟩])
        .ret)))))) }
theorem f36P : prepF C Tryd.f36 = some f36A := by kernel_rfl

/-- congou/congoulaw07.Of -/
def f37A : AFunc :=
{ nargs := 1, res := [.c 2 (some 2)], body :=
  (.seq
   (.reg none [⟨(some 1), .box (.t 0), none⟩,
     ⟨(some 2), .alloc [.nils, .nils], none⟩])
   (.seq
    (.reg (some []) [⟨(some 3), .faddr 0 (.t 1), none⟩,
      ⟨(some 4), .load none (.t 3), none⟩,
      ⟨(some 5), .call 70 [(.t 4)], none⟩,
      ⟨(some 6), .faddr 1 (.t 1), none⟩,
      ⟨(some 7), .load none (.t 6), none⟩,
      ⟨(some 8), .call 70 [(.t 7)], none⟩,
      ⟨(some 9), .build [.nils, .nils] [(0, 1, (.t 5)), (1, 1, (.t 8))], none⟩,
      ⟨none, .store 2 (.t 2) (.t 9), none⟩])
    .ret)) }
theorem f37P : prepF C Tryd.f37 = some f37A := by kernel_rfl

/-- congou/congouref07.Valid -/
def f38A : AFunc :=
{ nargs := 1, res := [.t 2], body :=
  (.seq
   (.reg none [⟨(some 1), .box (.t 0), none⟩,
     ⟨(some 2), .mv (.c (.b false)), none⟩])
   (.seq
    (.seq
     (.reg none [⟨(some 7), .faddr 0 (.t 1), none⟩,
       ⟨(some 8), .load none (.t 7), none⟩,
       ⟨(some 9), .len (.t 8), none⟩,
       ⟨(some 10), .call 59 [(.t 9)], none⟩,
       ⟨(some 11), .un .not (.t 10), none⟩,
       ⟨(some 12), .mv (.t 11), none⟩,
       ⟨(some 13), .faddr 1 (.t 1), some (12, false)⟩,
       ⟨(some 14), .load none (.t 13), some (12, false)⟩,
       ⟨(some 15), .len (.t 14), some (12, false)⟩,
       ⟨(some 16), .call 59 [(.t 15)], some (12, false)⟩,
       ⟨(some 17), .un .not (.t 16), some (12, false)⟩,
       ⟨(some 18), .pick (.t 12) (.c (.b true)) (.t 17), none⟩])
     (.cond (.t 18)
      (.seq
       (.reg none [⟨(some 2), .mv (.c (.b false)), none⟩])
       .ret)
      .skip))
    (.seq
     (.seq
      (.reg none [⟨(some 19), .faddr 0 (.t 1), none⟩,
        ⟨(some 20), .load none (.t 19), none⟩,
        ⟨(some 21), .len (.t 20), none⟩,
        ⟨(some 22), .mv (.c (.int .i64 0)), none⟩])
      (.block 0
       (.loop
        (.seq
         (.reg none [⟨(some 23), .bin .lss (.t 22) (.t 21), none⟩])
         (.seq
          (.cond (.t 23)
           .skip
           (.exit 0))
          (.seq
           (.block 1
            (.seq
             (.reg none [⟨(some 24), .iaddr 1 (.t 20) (.t 22), none⟩,
               ⟨(some 25), .load none (.t 24), none⟩,
               ⟨(some 4), .mv (.t 25), none⟩])
             (.seq
              (.reg none [⟨(some 26), .faddr 1 (.t 1), none⟩,
                ⟨(some 27), .load none (.t 26), none⟩,
                ⟨(some 28), .len (.t 27), none⟩,
                ⟨(some 29), .mv (.t 4), none⟩,
                ⟨(some 30), .call 23 [(.t 28), (.t 29)], none⟩,
                ⟨(some 31), .un .not (.t 30), none⟩])
              (.cond (.t 31)
               (.seq
                (.reg none [⟨(some 2), .mv (.c (.b false)), none⟩])
                .ret)
               .skip))))
           (.reg none [⟨(some 32), .bin .add (.t 22) (.c (.int .i64 1)), none⟩,
             ⟨(some 22), .mv (.t 32), none⟩])))))))
     (.seq
      (.seq
       (.reg none [⟨(some 33), .faddr 1 (.t 1), none⟩,
         ⟨(some 34), .load none (.t 33), none⟩,
         ⟨(some 35), .len (.t 34), none⟩,
         ⟨(some 36), .mv (.c (.int .i64 0)), none⟩])
       (.block 2
        (.loop
         (.seq
          (.reg none [⟨(some 37), .bin .lss (.t 36) (.t 35), none⟩])
          (.seq
           (.cond (.t 37)
            .skip
            (.exit 2))
           (.seq
            (.block 3
             (.seq
              (.reg none [⟨(some 38), .iaddr 1 (.t 34) (.t 36), none⟩,
                ⟨(some 39), .load none (.t 38), none⟩,
                ⟨(some 6), .mv (.t 39), none⟩])
              (.seq
               (.reg none [⟨(some 40), .faddr 0 (.t 1), none⟩,
                 ⟨(some 41), .load none (.t 40), none⟩,
                 ⟨(some 42), .len (.t 41), none⟩,
                 ⟨(some 43), .mv (.t 6), none⟩,
                 ⟨(some 44), .call 23 [(.t 42), (.t 43)], none⟩,
                 ⟨(some 45), .un .not (.t 44), none⟩])
               (.cond (.t 45)
                (.seq
                 (.reg none [⟨(some 2), .mv (.c (.b false)), none⟩])
                 .ret)
                .skip))))
            (.reg none [⟨(some 46), .bin .add (.t 36) (.c (.int .i64 1)), none⟩,
              ⟨(some 36), .mv (.t 46), none⟩])))))))
      (.seq
       (.reg none [⟨(some 2), .mv (.c (.b true)), none⟩])
       .ret))))) }
theorem f38P : prepF C Tryd.f38 = some f38A := by kernel_rfl

/-- congou/congouref07.Deduce -/
def f39A : AFunc :=
{ nargs := 1, res := [.c 2 (some 2), .t 3], body :=
  (.seq
   (.reg none [⟨(some 1), .box (.t 0), none⟩,
     ⟨(some 2), .alloc [.nils, .nils], none⟩,
     ⟨(some 3), .mv (.c (.int .i64 0)), none⟩])
   (.seq
    (.reg (some []) [⟨(some 7), .load (some 2) (.t 1), none⟩,
      ⟨(some 8), .load (some 2) (.t 1), none⟩,
      ⟨(some 9), .call 72 [(.t 8)], none⟩,
      ⟨(some 10), .call 71 [(.t 7), (.t 9)], none⟩,
      ⟨(some 6), .mv (.t 10), none⟩,
      ⟨(some 11), .extr (.t 6) 0, none⟩,
      ⟨(some 12), .extr (.t 6) 1, none⟩,
      ⟨(some 4), .alloc [.nils, .nils], none⟩,
      ⟨none, .store 2 (.t 4) (.t 11), none⟩,
      ⟨(some 5), .mv (.t 12), none⟩])
    (.seq
     (.seq
      (.reg none [⟨(some 13), .mv (.t 5), none⟩,
        ⟨(some 14), .un .not (.t 13), none⟩])
      (.cond (.t 14)
       (.seq
        (.reg none [⟨(some 15), .build [.nils, .nils] [], none⟩,
          ⟨none, .store 2 (.t 2) (.t 15), none⟩,
          ⟨(some 3), .mv (.c (.int .i64 4)), none⟩])
        .ret)
       .skip))
     (.seq
      (.reg none [⟨(some 16), .load (some 2) (.t 4), none⟩,
        ⟨none, .store 2 (.t 2) (.t 16), none⟩,
        ⟨(some 3), .mv (.c (.int .i64 0)), none⟩])
      .ret)))) }
theorem f39P : prepF C Tryd.f39 = some f39A := by kernel_rfl

/-- congou/squares.isSet -/
def f55A : AFunc :=
{ nargs := 2, res := [.t 4], body :=
  (.seq
   (.reg none [⟨(some 4), .mv (.c (.b false)), none⟩])
   (.seq
    (.reg none [⟨(some 5), .mv (.t 0), none⟩,
      ⟨(some 6), .call 86 [(.t 5)], none⟩,
      ⟨(some 7), .mv (.t 6), none⟩,
      ⟨(some 8), .mv (.t 1), some (7, true)⟩,
      ⟨(some 9), .bin .geq (.t 8) (.c (.int .i64 0)), some (7, true)⟩,
      ⟨(some 10), .pick (.t 7) (.t 9) (.c (.b false)), none⟩,
      ⟨(some 11), .mv (.t 10), none⟩,
      ⟨(some 12), .mv (.t 1), some (11, true)⟩,
      ⟨(some 13), .mv (.t 0), some (11, true)⟩,
      ⟨(some 14), .bin .shl (.c (.int .i64 1)) (.t 13), some (11, true)⟩,
      ⟨(some 15), .bin .lss (.t 12) (.t 14), some (11, true)⟩,
      ⟨(some 16), .pick (.t 11) (.t 15) (.c (.b false)), none⟩,
      ⟨(some 4), .mv (.t 16), none⟩])
    .ret)) }
theorem f55P : prepF C Tryd.f55 = some f55A := by kernel_rfl

/-- congou/squares.blocks -/
def f56A : AFunc :=
{ nargs := 1, res := [.t 2], body :=
  (.seq
   (.reg none [⟨(some 2), .mv (.c .nils), none⟩])
   (.seq
    (.reg none [⟨(some 3), .mv (.c .nils), none⟩])
    (.seq
     (.seq
      (.reg none [⟨(some 6), .mv (.t 0), none⟩,
        ⟨(some 7), .conv .u64 (.t 6), none⟩,
        ⟨(some 4), .mv (.t 7), none⟩])
      (.block 0
       (.loop
        (.seq
         (.seq
          (.reg none [⟨(some 8), .mv (.t 4), none⟩,
            ⟨(some 9), .bin .neq (.t 8) (.c (.int .u64 0)), none⟩])
          (.cond (.t 9)
           .skip
           (.exit 0)))
         (.block 1
          (.seq
           (.reg none [⟨(some 10), .mv (.t 4), none⟩,
             ⟨(some 11), .mv (.t 4), none⟩,
             ⟨(some 12), .call 87 [(.t 11)], none⟩,
             ⟨(some 13), .bin .shr (.t 10) (.t 12), none⟩,
             ⟨(some 4), .mv (.t 13), none⟩])
           (.seq
            (.reg none [⟨(some 14), .mv (.t 4), none⟩,
              ⟨(some 15), .un .xor (.t 14), none⟩,
              ⟨(some 16), .call 87 [(.t 15)], none⟩,
              ⟨(some 5), .mv (.t 16), none⟩])
            (.seq
             (.reg none [⟨(some 17), .mv (.t 3), none⟩,
               ⟨(some 18), .mv (.t 5), none⟩,
               ⟨(some 19), .bslice [(.int .i64 0)] 1 1 [(0, (.t 18))], none⟩,
               ⟨(some 20), .append 1 8 (.t 17) (.t 19), none⟩,
               ⟨(some 3), .mv (.t 20), none⟩])
             (.reg none [⟨(some 21), .mv (.t 4), none⟩,
               ⟨(some 22), .mv (.t 5), none⟩,
               ⟨(some 23), .bin .shr (.t 21) (.t 22), none⟩,
               ⟨(some 4), .mv (.t 23), none⟩])))))))))
     (.seq
      (.reg none [⟨(some 24), .mv (.t 3), none⟩,
        ⟨(some 2), .mv (.t 24), none⟩])
      .ret)))) }
theorem f56P : prepF C Tryd.f56 = some f56A := by kernel_rfl

/-- congou/squares.isClue -/
def f57A : AFunc :=
{ nargs := 2, res := [.t 4], body :=
  (.seq
   (.reg none [⟨(some 4), .mv (.c (.b false)), none⟩])
   (.seq
    (.reg none [⟨(some 5), .mv (.t 0), none⟩,
      ⟨(some 6), .call 86 [(.t 5)], none⟩,
      ⟨(some 7), .mv (.t 6), none⟩,
      ⟨(some 8), .mv (.t 0), some (7, true)⟩,
      ⟨(some 9), .mv (.t 1), some (7, true)⟩,
      ⟨(some 10), .call 58 [(.t 8), (.t 9)], some (7, true)⟩,
      ⟨(some 11), .len (.t 10), some (7, true)⟩,
      ⟨(some 12), .bin .gtr (.t 11) (.c (.int .i64 0)), some (7, true)⟩,
      ⟨(some 13), .pick (.t 7) (.t 12) (.c (.b false)), none⟩,
      ⟨(some 4), .mv (.t 13), none⟩])
    .ret)) }
theorem f57P : prepF C Tryd.f57 = some f57A := by kernel_rfl

/-- congou/squares.lines -/
def f58A : AFunc :=
{ nargs := 2, res := [.t 4], body :=
  (.seq
   (.reg none [⟨(some 4), .mv (.c .nils), none⟩])
   (.seq
    (.reg none [⟨(some 5), .mv (.c .nils), none⟩])
    (.seq
     (.seq
      (.reg none [⟨(some 7), .mv (.t 0), none⟩,
        ⟨(some 8), .bin .shl (.c (.int .i64 1)) (.t 7), none⟩,
        ⟨(some 9), .mv (.c (.int .i64 0)), none⟩])
      (.block 0
       (.loop
        (.seq
         (.reg none [⟨(some 10), .bin .lss (.t 9) (.t 8), none⟩])
         (.seq
          (.cond (.t 10)
           .skip
           (.exit 0))
          (.seq
           (.block 1
            (.seq
             (.reg none [⟨(some 11), .mv (.t 9), none⟩,
               ⟨(some 6), .mv (.t 11), none⟩])
             (.seq
              (.reg none [⟨(some 12), .mv (.t 6), none⟩,
                ⟨(some 13), .call 56 [(.t 12)], none⟩,
                ⟨(some 14), .mv (.t 1), none⟩,
                ⟨(some 15), .call 21 [(.t 13), (.t 14)], none⟩])
              (.cond (.t 15)
               (.reg none [⟨(some 16), .mv (.t 5), none⟩,
                 ⟨(some 17), .mv (.t 6), none⟩,
                 ⟨(some 18), .bslice [(.int .i64 0)] 1 1 [(0, (.t 17))], none⟩,
                 ⟨(some 19), .append 1 8 (.t 16) (.t 18), none⟩,
                 ⟨(some 5), .mv (.t 19), none⟩])
               .skip))))
           (.reg none [⟨(some 20), .bin .add (.t 9) (.c (.int .i64 1)), none⟩,
             ⟨(some 9), .mv (.t 20), none⟩])))))))
     (.seq
      (.reg none [⟨(some 21), .mv (.t 5), none⟩,
        ⟨(some 4), .mv (.t 21), none⟩])
      .ret)))) }
theorem f58P : prepF C Tryd.f58 = some f58A := by kernel_rfl

/-- congou/congouref07.Size -/
def f59A : AFunc :=
{ nargs := 1, res := [.t 2], body :=
  (.seq
   (.reg none [⟨(some 2), .mv (.c (.b false)), none⟩])
   (.seq
    (.reg none [⟨(some 3), .mv (.t 0), none⟩,
      ⟨(some 4), .bin .geq (.t 3) (.c (.int .i64 1)), none⟩,
      ⟨(some 5), .mv (.t 4), none⟩,
      ⟨(some 6), .mv (.t 0), some (5, true)⟩,
      ⟨(some 7), .bin .leq (.t 6) (.c (.int .i64 5)), some (5, true)⟩,
      ⟨(some 8), .pick (.t 5) (.t 7) (.c (.b false)), none⟩,
      ⟨(some 2), .mv (.t 8), none⟩])
    .ret)) }
theorem f59P : prepF C Tryd.f59 = some f59A := by kernel_rfl

/-- congou/congouref07.same -/
def f60A : AFunc :=
{ nargs := 2, res := [.t 4], body :=
  (.seq
   (.reg none [⟨(some 4), .mv (.c (.b false)), none⟩])
   (.seq
    (.seq
     (.reg none [⟨(some 7), .mv (.t 0), none⟩,
       ⟨(some 8), .len (.t 7), none⟩,
       ⟨(some 9), .mv (.t 1), none⟩,
       ⟨(some 10), .len (.t 9), none⟩,
       ⟨(some 11), .bin .neq (.t 8) (.t 10), none⟩])
     (.cond (.t 11)
      (.seq
       (.reg none [⟨(some 4), .mv (.c (.b false)), none⟩])
       .ret)
      .skip))
    (.seq
     (.seq
      (.reg none [⟨(some 12), .mv (.t 0), none⟩,
        ⟨(some 13), .len (.t 12), none⟩,
        ⟨(some 14), .mv (.c (.int .i64 0)), none⟩])
      (.block 0
       (.loop
        (.seq
         (.reg none [⟨(some 15), .bin .lss (.t 14) (.t 13), none⟩])
         (.seq
          (.cond (.t 15)
           .skip
           (.exit 0))
          (.seq
           (.block 1
            (.seq
             (.reg none [⟨(some 16), .mv (.t 14), none⟩,
               ⟨(some 17), .iaddr 1 (.t 12) (.t 14), none⟩,
               ⟨(some 18), .load none (.t 17), none⟩,
               ⟨(some 5), .mv (.t 16), none⟩,
               ⟨(some 6), .mv (.t 18), none⟩])
             (.seq
              (.reg none [⟨(some 19), .mv (.t 6), none⟩,
                ⟨(some 20), .mv (.t 1), none⟩,
                ⟨(some 21), .mv (.t 5), none⟩,
                ⟨(some 22), .iaddr 1 (.t 20) (.t 21), none⟩,
                ⟨(some 23), .load none (.t 22), none⟩,
                ⟨(some 24), .bin .neq (.t 19) (.t 23), none⟩])
              (.cond (.t 24)
               (.seq
                (.reg none [⟨(some 4), .mv (.c (.b false)), none⟩])
                .ret)
               .skip))))
           (.reg none [⟨(some 25), .bin .add (.t 14) (.c (.int .i64 1)), none⟩,
             ⟨(some 14), .mv (.t 25), none⟩])))))))
     (.seq
      (.reg none [⟨(some 4), .mv (.c (.b true)), none⟩])
      .ret)))) }
theorem f60P : prepF C Tryd.f60 = some f60A := by kernel_rfl

/-- congou/squares.settle -/
def f61A : AFunc :=
{ nargs := 3, res := [.c 6 (some 2), .t 7], body :=
  (.seq
   (.reg none [⟨(some 5), .box (.t 2), none⟩,
     ⟨(some 6), .alloc [(.int .i64 0), (.int .i64 0)], none⟩,
     ⟨(some 7), .mv (.c (.b false)), none⟩])
   (.seq
    (.reg none [⟨(some 11), .mv (.t 0), none⟩,
      ⟨(some 12), .bin .shl (.c (.int .i64 1)) (.t 11), none⟩,
      ⟨(some 13), .bin .sub (.t 12) (.c (.int .i64 1)), none⟩,
      ⟨(some 8), .mv (.t 13), none⟩])
    (.seq
     (.reg none [⟨(some 14), .mv (.t 8), none⟩,
       ⟨(some 15), .mv (.t 8), none⟩,
       ⟨(some 16), .build [(.int .i64 0), (.int .i64 0)] [(0, 1, (.t 14)), (1, 1, (.t 15))], none⟩,
       ⟨none, .store 2 (.t 6) (.t 16), none⟩])
     (.seq
      (.seq
       (.reg none [⟨(some 17), .mv (.t 0), none⟩,
         ⟨(some 18), .mv (.t 1), none⟩,
         ⟨(some 19), .call 58 [(.t 17), (.t 18)], none⟩,
         ⟨(some 20), .len (.t 19), none⟩,
         ⟨(some 21), .mv (.c (.int .i64 0)), none⟩])
       (.block 0
        (.loop
         (.seq
          (.reg none [⟨(some 22), .bin .lss (.t 21) (.t 20), none⟩])
          (.seq
           (.cond (.t 22)
            .skip
            (.exit 0))
           (.seq
            (.block 1
             (.seq
              (.reg none [⟨(some 23), .iaddr 1 (.t 19) (.t 21), none⟩,
                ⟨(some 24), .load none (.t 23), none⟩,
                ⟨(some 10), .mv (.t 24), none⟩])
              (.seq
               (.reg none [⟨(some 25), .load (some 2) (.t 5), none⟩,
                 ⟨(some 26), .mv (.t 10), none⟩,
                 ⟨(some 27), .call 88 [(.t 25), (.t 26)], none⟩])
               (.cond (.t 27)
                (.seq
                 (.reg none [⟨(some 28), .faddr 0 (.t 6), none⟩,
                   ⟨(some 29), .load none (.t 28), none⟩,
                   ⟨(some 30), .mv (.t 10), none⟩,
                   ⟨(some 31), .bin .and (.t 29) (.t 30), none⟩,
                   ⟨(some 32), .faddr 0 (.t 6), none⟩,
                   ⟨none, .store 1 (.t 32) (.t 31), none⟩])
                 (.seq
                  (.reg none [⟨(some 33), .faddr 1 (.t 6), none⟩,
                    ⟨(some 34), .load none (.t 33), none⟩,
                    ⟨(some 35), .mv (.t 10), none⟩,
                    ⟨(some 36), .bin .andNot (.t 34) (.t 35), none⟩,
                    ⟨(some 37), .faddr 1 (.t 6), none⟩,
                    ⟨none, .store 1 (.t 37) (.t 36), none⟩])
                  (.reg none [⟨(some 7), .mv (.c (.b true)), none⟩])))
                .skip))))
            (.reg none [⟨(some 38), .bin .add (.t 21) (.c (.int .i64 1)), none⟩,
              ⟨(some 21), .mv (.t 38), none⟩])))))))
      (.seq
       (.reg none [⟨(some 39), .load (some 2) (.t 6), none⟩,
         ⟨(some 40), .mv (.t 7), none⟩,
         ⟨none, .store 2 (.t 6) (.t 39), none⟩,
         ⟨(some 7), .mv (.t 40), none⟩])
       .ret))))) }
theorem f61P : prepF C Tryd.f61 = some f61A := by kernel_rfl

/-- congou/congouref07.column -/
def f64A : AFunc :=
{ nargs := 2, res := [.t 4], body :=
  (.seq
   (.reg none [⟨(some 4), .mv (.c (.int .i64 0)), none⟩])
   (.seq
    (.reg none [⟨(some 5), .mv (.c (.int .i64 0)), none⟩])
    (.seq
     (.seq
      (.reg none [⟨(some 8), .mv (.t 0), none⟩,
        ⟨(some 9), .len (.t 8), none⟩,
        ⟨(some 10), .mv (.c (.int .i64 0)), none⟩])
      (.block 0
       (.loop
        (.seq
         (.reg none [⟨(some 11), .bin .lss (.t 10) (.t 9), none⟩])
         (.seq
          (.cond (.t 11)
           .skip
           (.exit 0))
          (.seq
           (.block 1
            (.seq
             (.reg none [⟨(some 12), .mv (.t 10), none⟩,
               ⟨(some 13), .iaddr 1 (.t 8) (.t 10), none⟩,
               ⟨(some 14), .load none (.t 13), none⟩,
               ⟨(some 6), .mv (.t 12), none⟩,
               ⟨(some 7), .mv (.t 14), none⟩])
             (.reg none [⟨(some 15), .mv (.t 5), none⟩,
               ⟨(some 16), .mv (.t 7), none⟩,
               ⟨(some 17), .mv (.t 1), none⟩,
               ⟨(some 18), .bin .shr (.t 16) (.t 17), none⟩,
               ⟨(some 19), .bin .and (.t 18) (.c (.int .i64 1)), none⟩,
               ⟨(some 20), .mv (.t 6), none⟩,
               ⟨(some 21), .bin .shl (.t 19) (.t 20), none⟩,
               ⟨(some 22), .bin .or (.t 15) (.t 21), none⟩,
               ⟨(some 5), .mv (.t 22), none⟩])))
           (.reg none [⟨(some 23), .bin .add (.t 10) (.c (.int .i64 1)), none⟩,
             ⟨(some 10), .mv (.t 23), none⟩])))))))
     (.seq
      (.reg none [⟨(some 24), .mv (.t 5), none⟩,
        ⟨(some 4), .mv (.t 24), none⟩])
      .ret)))) }
theorem f64P : prepF C Tryd.f64 = some f64A := by kernel_rfl

/-- (congou/squares.Puzzle).valid -/
def f67A : AFunc :=
{ nargs := 1, res := [.t 2], body :=
  (.seq
   (.reg none [⟨(some 1), .box (.t 0), none⟩,
     ⟨(some 2), .mv (.c (.b false)), none⟩])
   (.seq
    (.reg (some [(4, 8)]) [⟨(some 5), .faddr 0 (.t 1), none⟩,
      ⟨(some 6), .load none (.t 5), none⟩,
      ⟨(some 7), .len (.t 6), none⟩,
      ⟨(some 8), .faddr 1 (.t 1), none⟩,
      ⟨(some 9), .load none (.t 8), none⟩,
      ⟨(some 10), .len (.t 9), none⟩,
      ⟨(some 3), .alloc [(.int .i64 0)], none⟩,
      ⟨(some 4), .alloc [(.int .i64 0)], none⟩,
      ⟨none, .store 1 (.t 3) (.t 7), none⟩,
      ⟨none, .store 1 (.t 4) (.t 10), none⟩])
    (.seq
     (.reg none [⟨(some 11), .load none (.t 3), none⟩,
       ⟨(some 12), .call 86 [(.t 11)], none⟩,
       ⟨(some 13), .mv (.t 12), none⟩,
       ⟨(some 14), .load none (.t 4), some (13, true)⟩,
       ⟨(some 15), .call 86 [(.t 14)], some (13, true)⟩,
       ⟨(some 16), .pick (.t 13) (.t 15) (.c (.b false)), none⟩,
       ⟨(some 17), .mv (.t 16), none⟩,
       ⟨(some 18), .faddr 0 (.t 1), some (17, true)⟩,
       ⟨(some 19), .load none (.t 18), some (17, true)⟩,
       ⟨(some 20), .mkfn 94 [] [(.t 4)], some (17, true)⟩,
       ⟨(some 21), .call 93 [(.t 19), (.t 20)], some (17, true)⟩,
       ⟨(some 22), .un .not (.t 21), some (17, true)⟩,
       ⟨(some 23), .pick (.t 17) (.t 22) (.c (.b false)), none⟩,
       ⟨(some 24), .mv (.t 23), none⟩,
       ⟨(some 25), .faddr 1 (.t 1), some (24, true)⟩,
       ⟨(some 26), .load none (.t 25), some (24, true)⟩,
       ⟨(some 27), .mkfn 95 [] [(.t 3)], some (24, true)⟩,
       ⟨(some 28), .call 93 [(.t 26), (.t 27)], some (24, true)⟩,
       ⟨(some 29), .un .not (.t 28), some (24, true)⟩,
       ⟨(some 30), .pick (.t 24) (.t 29) (.c (.b false)), none⟩,
       ⟨(some 2), .mv (.t 30), none⟩])
     .ret))) }
theorem f67P : prepF C Tryd.f67 = some f67A := by kernel_rfl

/-- (*congou/squares.Puzzle).start -/
def f68A : AFunc :=
{ nargs := 1, res := [.t 2], body :=
  (.seq
   (.reg none [⟨(some 2), .mv (.c .nilp), none⟩])
   (.seq
    (.reg none [⟨(some 3), .mv (.t 0), none⟩,
      ⟨(some 4), .mv (.t 0), none⟩,
      ⟨(some 5), .nilchk (.t 4), none⟩,
      ⟨(some 6), .faddr 0 (.t 5), none⟩,
      ⟨(some 7), .load none (.t 6), none⟩,
      ⟨(some 8), .len (.t 7), none⟩,
      ⟨(some 9), .mkslice 2 16 [(.int .i64 0), (.int .i64 0)] (.t 8), none⟩,
      ⟨(some 10), .build [.nilp, .nils] [(0, 1, (.t 3)), (1, 1, (.t 9))], none⟩,
      ⟨(some 11), .box (.t 10), none⟩,
      ⟨(some 2), .mv (.t 11), none⟩])
    .ret)) }
theorem f68P : prepF C Tryd.f68 = some f68A := by kernel_rfl

/-- (*congou/squares.board).lines -/
def f69A : AFunc :=
{ nargs := 1, res := [.t 2], body :=
  (.seq
   (.reg none [⟨(some 2), .mv (.c (.b false)), none⟩])
   (.block 0
    (.loop
     (.block 1
      (.seq
       (.reg none [⟨(some 12), .mv (.t 0), none⟩,
         ⟨(some 13), .nilchk (.t 12), none⟩,
         ⟨(some 14), .faddr 1 (.t 13), none⟩,
         ⟨(some 15), .load none (.t 14), none⟩,
         ⟨(some 16), .call 96 [(.t 15)], none⟩,
         ⟨(some 3), .mv (.t 16), none⟩])
       (.seq
        (.seq
         (.reg none [⟨(some 17), .mv (.t 0), none⟩,
           ⟨(some 18), .nilchk (.t 17), none⟩,
           ⟨(some 19), .faddr 0 (.t 18), none⟩,
           ⟨(some 20), .load none (.t 19), none⟩,
           ⟨(some 21), .nilchk (.t 20), none⟩,
           ⟨(some 22), .faddr 0 (.t 21), none⟩,
           ⟨(some 23), .load none (.t 22), none⟩,
           ⟨(some 24), .len (.t 23), none⟩,
           ⟨(some 25), .mv (.c (.int .i64 0)), none⟩])
         (.block 2
          (.loop
           (.seq
            (.reg none [⟨(some 26), .bin .lss (.t 25) (.t 24), none⟩])
            (.seq
             (.cond (.t 26)
              .skip
              (.exit 2))
             (.seq
              (.block 3
               (.seq
                (.reg none [⟨(some 27), .mv (.t 25), none⟩,
                  ⟨(some 28), .iaddr 1 (.t 23) (.t 25), none⟩,
                  ⟨(some 29), .load none (.t 28), none⟩,
                  ⟨(some 4), .mv (.t 27), none⟩,
                  ⟨(some 5), .mv (.t 29), none⟩])
                (.seq
                 (.reg (some []) [⟨(some 31), .mv (.t 0), none⟩,
                   ⟨(some 32), .nilchk (.t 31), none⟩,
                   ⟨(some 33), .faddr 0 (.t 32), none⟩,
                   ⟨(some 34), .load none (.t 33), none⟩,
                   ⟨(some 35), .nilchk (.t 34), none⟩,
                   ⟨(some 36), .faddr 1 (.t 35), none⟩,
                   ⟨(some 37), .load none (.t 36), none⟩,
                   ⟨(some 38), .len (.t 37), none⟩,
                   ⟨(some 39), .mv (.t 5), none⟩,
                   ⟨(some 40), .mv (.t 0), none⟩,
                   ⟨(some 41), .nilchk (.t 40), none⟩,
                   ⟨(some 42), .faddr 1 (.t 41), none⟩,
                   ⟨(some 43), .load none (.t 42), none⟩,
                   ⟨(some 44), .mv (.t 4), none⟩,
                   ⟨(some 45), .iaddr 2 (.t 43) (.t 44), none⟩,
                   ⟨(some 46), .load (some 2) (.t 45), none⟩,
                   ⟨(some 47), .call 61 [(.t 38), (.t 39), (.t 46)], none⟩,
                   ⟨(some 30), .mv (.t 47), none⟩,
                   ⟨(some 48), .extr (.t 30) 0, none⟩,
                   ⟨(some 49), .extr (.t 30) 1, none⟩,
                   ⟨(some 6), .alloc [(.int .i64 0), (.int .i64 0)], none⟩,
                   ⟨none, .store 2 (.t 6) (.t 48), none⟩,
                   ⟨(some 7), .mv (.t 49), none⟩])
                 (.seq
                  (.seq
                   (.reg none [⟨(some 50), .mv (.t 7), none⟩,
                     ⟨(some 51), .un .not (.t 50), none⟩])
                   (.cond (.t 51)
                    (.seq
                     (.reg none [⟨(some 2), .mv (.c (.b false)), none⟩])
                     .ret)
                    .skip))
                  (.reg (some []) [⟨(some 52), .mv (.t 0), none⟩,
                    ⟨(some 53), .nilchk (.t 52), none⟩,
                    ⟨(some 54), .faddr 1 (.t 53), none⟩,
                    ⟨(some 55), .load none (.t 54), none⟩,
                    ⟨(some 56), .mv (.t 4), none⟩,
                    ⟨(some 57), .load (some 2) (.t 6), none⟩,
                    ⟨(some 58), .iaddr 2 (.t 55) (.t 56), none⟩,
                    ⟨none, .store 2 (.t 58) (.t 57), none⟩])))))
              (.reg none [⟨(some 59), .bin .add (.t 25) (.c (.int .i64 1)), none⟩,
                ⟨(some 25), .mv (.t 59), none⟩])))))))
        (.seq
         (.seq
          (.reg none [⟨(some 60), .mv (.t 0), none⟩,
            ⟨(some 61), .nilchk (.t 60), none⟩,
            ⟨(some 62), .faddr 0 (.t 61), none⟩,
            ⟨(some 63), .load none (.t 62), none⟩,
            ⟨(some 64), .nilchk (.t 63), none⟩,
            ⟨(some 65), .faddr 1 (.t 64), none⟩,
            ⟨(some 66), .load none (.t 65), none⟩,
            ⟨(some 67), .len (.t 66), none⟩,
            ⟨(some 68), .mv (.c (.int .i64 0)), none⟩])
          (.block 4
           (.loop
            (.seq
             (.reg none [⟨(some 69), .bin .lss (.t 68) (.t 67), none⟩])
             (.seq
              (.cond (.t 69)
               .skip
               (.exit 4))
              (.seq
               (.block 5
                (.seq
                 (.reg none [⟨(some 70), .mv (.t 68), none⟩,
                   ⟨(some 71), .iaddr 1 (.t 66) (.t 68), none⟩,
                   ⟨(some 72), .load none (.t 71), none⟩,
                   ⟨(some 8), .mv (.t 70), none⟩,
                   ⟨(some 9), .mv (.t 72), none⟩])
                 (.seq
                  (.reg (some []) [⟨(some 74), .mv (.t 0), none⟩,
                    ⟨(some 75), .nilchk (.t 74), none⟩,
                    ⟨(some 76), .faddr 0 (.t 75), none⟩,
                    ⟨(some 77), .load none (.t 76), none⟩,
                    ⟨(some 78), .nilchk (.t 77), none⟩,
                    ⟨(some 79), .faddr 0 (.t 78), none⟩,
                    ⟨(some 80), .load none (.t 79), none⟩,
                    ⟨(some 81), .len (.t 80), none⟩,
                    ⟨(some 82), .mv (.t 9), none⟩,
                    ⟨(some 83), .mv (.t 0), none⟩,
                    ⟨(some 84), .mv (.t 8), none⟩,
                    ⟨(some 85), .call 97 [(.t 83), (.t 84)], none⟩,
                    ⟨(some 86), .call 61 [(.t 81), (.t 82), (.t 85)], none⟩,
                    ⟨(some 73), .mv (.t 86), none⟩,
                    ⟨(some 87), .extr (.t 73) 0, none⟩,
                    ⟨(some 88), .extr (.t 73) 1, none⟩,
                    ⟨(some 10), .alloc [(.int .i64 0), (.int .i64 0)], none⟩,
                    ⟨none, .store 2 (.t 10) (.t 87), none⟩,
                    ⟨(some 11), .mv (.t 88), none⟩])
                  (.seq
                   (.seq
                    (.reg none [⟨(some 89), .mv (.t 11), none⟩,
                      ⟨(some 90), .un .not (.t 89), none⟩])
                    (.cond (.t 90)
                     (.seq
                      (.reg none [⟨(some 2), .mv (.c (.b false)), none⟩])
                      .ret)
                     .skip))
                   (.reg none [⟨(some 91), .mv (.t 0), none⟩,
                     ⟨(some 92), .mv (.t 8), none⟩,
                     ⟨(some 93), .load (some 2) (.t 10), none⟩,
                     ⟨(some 94), .call 98 [(.t 91), (.t 92), (.t 93)], none⟩])))))
               (.reg none [⟨(some 95), .bin .add (.t 68) (.c (.int .i64 1)), none⟩,
                 ⟨(some 68), .mv (.t 95), none⟩])))))))
         (.seq
          (.reg none [⟨(some 96), .mv (.t 3), none⟩,
            ⟨(some 97), .mv (.t 0), none⟩,
            ⟨(some 98), .nilchk (.t 97), none⟩,
            ⟨(some 99), .faddr 1 (.t 98), none⟩,
            ⟨(some 100), .load none (.t 99), none⟩,
            ⟨(some 101), .call 99 [(.t 96), (.t 100)], none⟩])
          (.cond (.t 101)
           (.seq
            (.reg none [⟨(some 2), .mv (.c (.b true)), none⟩])
            .ret)
           .skip))))))))) }
theorem f69P : prepF C Tryd.f69 = some f69A := by kernel_rfl

/-- congou/congoulaw07.table -/
def f70A : AFunc :=
{ nargs := 1, res := [.t 2], body :=
  (.seq
   (.reg none [⟨(some 2), .mv (.c .nils), none⟩])
   (.seq
    (.reg none [⟨(some 3), .mv (.c .nils), none⟩])
    (.seq
     (.seq
      (.reg none [⟨(some 6), .mv (.t 0), none⟩,
        ⟨(some 7), .len (.t 6), none⟩,
        ⟨(some 8), .mv (.c (.int .i64 0)), none⟩])
      (.block 0
       (.loop
        (.seq
         (.reg none [⟨(some 9), .bin .lss (.t 8) (.t 7), none⟩])
         (.seq
          (.cond (.t 9)
           .skip
           (.exit 0))
          (.seq
           (.block 1
            (.seq
             (.reg none [⟨(some 10), .mv (.t 8), none⟩,
               ⟨(some 11), .iaddr 1 (.t 6) (.t 8), none⟩,
               ⟨(some 12), .load none (.t 11), none⟩,
               ⟨(some 4), .mv (.t 10), none⟩,
               ⟨(some 5), .mv (.t 12), none⟩])
             (.seq
              (.reg none [⟨(some 13), .mv (.t 4), none⟩,
                ⟨(some 14), .bin .lss (.t 13) (.c (.int .i64 8)), none⟩])
              (.cond (.t 14)
               (.reg none [⟨(some 15), .mv (.t 3), none⟩,
                 ⟨(some 16), .mv (.t 5), none⟩,
                 ⟨(some 17), .call 19 [(.t 16)], none⟩,
                 ⟨(some 18), .bslice [.nils] 1 1 [(0, (.t 17))], none⟩,
                 ⟨(some 19), .append 1 24 (.t 15) (.t 18), none⟩,
                 ⟨(some 3), .mv (.t 19), none⟩])
               .skip))))
           (.reg none [⟨(some 20), .bin .add (.t 8) (.c (.int .i64 1)), none⟩,
             ⟨(some 8), .mv (.t 20), none⟩])))))))
     (.seq
      (.reg none [⟨(some 21), .mv (.t 3), none⟩,
        ⟨(some 2), .mv (.t 21), none⟩])
      .ret)))) }
theorem f70P : prepF C Tryd.f70 = some f70A := by kernel_rfl

/-- congou/congouref07.alone -/
def f71A : AFunc :=
{ nargs := 2, res := [.c 4 (some 2), .t 5], body :=
  (.seq
   (.reg none [⟨(some 2), .box (.t 0), none⟩,
     ⟨(some 3), .box (.t 1), none⟩,
     ⟨(some 4), .alloc [.nils, .nils], none⟩,
     ⟨(some 5), .mv (.c (.b false)), none⟩])
   (.seq
    (.reg none [⟨(some 19), .load (some 2) (.t 3), none⟩,
      ⟨(some 20), .call 100 [(.t 19)], none⟩,
      ⟨(some 6), .alloc [.nils, .nils], none⟩,
      ⟨none, .store 2 (.t 6) (.t 20), none⟩])
    (.block 0
     (.loop
      (.block 1
       (.seq
        (.reg none [⟨(some 21), .load (some 2) (.t 6), none⟩,
          ⟨(some 22), .call 100 [(.t 21)], none⟩,
          ⟨(some 7), .alloc [.nils, .nils], none⟩,
          ⟨none, .store 2 (.t 7) (.t 22), none⟩])
        (.seq
         (.seq
          (.reg none [⟨(some 23), .faddr 0 (.t 2), none⟩,
            ⟨(some 24), .load none (.t 23), none⟩,
            ⟨(some 25), .len (.t 24), none⟩,
            ⟨(some 26), .mv (.c (.int .i64 0)), none⟩])
          (.block 2
           (.loop
            (.seq
             (.reg none [⟨(some 27), .bin .lss (.t 26) (.t 25), none⟩])
             (.seq
              (.cond (.t 27)
               .skip
               (.exit 2))
              (.seq
               (.block 3
                (.seq
                 (.reg none [⟨(some 28), .mv (.t 26), none⟩,
                   ⟨(some 29), .iaddr 1 (.t 24) (.t 26), none⟩,
                   ⟨(some 30), .load none (.t 29), none⟩,
                   ⟨(some 8), .mv (.t 28), none⟩,
                   ⟨(some 9), .mv (.t 30), none⟩])
                 (.seq
                  (.reg (some []) [⟨(some 32), .faddr 1 (.t 2), none⟩,
                    ⟨(some 33), .load none (.t 32), none⟩,
                    ⟨(some 34), .len (.t 33), none⟩,
                    ⟨(some 35), .mv (.t 9), none⟩,
                    ⟨(some 36), .faddr 0 (.t 6), none⟩,
                    ⟨(some 37), .load none (.t 36), none⟩,
                    ⟨(some 38), .mv (.t 8), none⟩,
                    ⟨(some 39), .iaddr 1 (.t 37) (.t 38), none⟩,
                    ⟨(some 40), .load none (.t 39), none⟩,
                    ⟨(some 41), .faddr 1 (.t 6), none⟩,
                    ⟨(some 42), .load none (.t 41), none⟩,
                    ⟨(some 43), .mv (.t 8), none⟩,
                    ⟨(some 44), .iaddr 1 (.t 42) (.t 43), none⟩,
                    ⟨(some 45), .load none (.t 44), none⟩,
                    ⟨(some 46), .call 27 [(.t 34), (.t 35), (.t 40), (.t 45)], none⟩,
                    ⟨(some 31), .mv (.t 46), none⟩,
                    ⟨(some 47), .extr (.t 31) 0, none⟩,
                    ⟨(some 48), .extr (.t 31) 1, none⟩,
                    ⟨(some 49), .extr (.t 31) 2, none⟩,
                    ⟨(some 10), .mv (.t 47), none⟩,
                    ⟨(some 11), .mv (.t 48), none⟩,
                    ⟨(some 12), .mv (.t 49), none⟩])
                  (.seq
                   (.seq
                    (.reg none [⟨(some 50), .mv (.t 12), none⟩,
                      ⟨(some 51), .bin .neq (.t 50) (.c (.int .i64 0)), none⟩])
                    (.cond (.t 51)
                     (.seq
                      (.reg none [⟨(some 52), .load (some 2) (.t 6), none⟩,
                        ⟨none, .store 2 (.t 4) (.t 52), none⟩,
                        ⟨(some 5), .mv (.c (.b false)), none⟩])
                      .ret)
                     .skip))
                   (.reg (some [(4, 9)]) [⟨(some 53), .faddr 0 (.t 6), none⟩,
                     ⟨(some 54), .load none (.t 53), none⟩,
                     ⟨(some 55), .mv (.t 8), none⟩,
                     ⟨(some 56), .faddr 1 (.t 6), none⟩,
                     ⟨(some 57), .load none (.t 56), none⟩,
                     ⟨(some 58), .mv (.t 8), none⟩,
                     ⟨(some 59), .mv (.t 10), none⟩,
                     ⟨(some 60), .mv (.t 11), none⟩,
                     ⟨(some 61), .iaddr 1 (.t 54) (.t 55), none⟩,
                     ⟨none, .store 1 (.t 61) (.t 59), none⟩,
                     ⟨(some 62), .iaddr 1 (.t 57) (.t 58), none⟩,
                     ⟨none, .store 1 (.t 62) (.t 60), none⟩])))))
               (.reg none [⟨(some 63), .bin .add (.t 26) (.c (.int .i64 1)), none⟩,
                 ⟨(some 26), .mv (.t 63), none⟩])))))))
         (.seq
          (.seq
           (.reg none [⟨(some 64), .faddr 1 (.t 2), none⟩,
             ⟨(some 65), .load none (.t 64), none⟩,
             ⟨(some 66), .len (.t 65), none⟩,
             ⟨(some 67), .mv (.c (.int .i64 0)), none⟩])
           (.block 4
            (.loop
             (.seq
              (.reg none [⟨(some 68), .bin .lss (.t 67) (.t 66), none⟩])
              (.seq
               (.cond (.t 68)
                .skip
                (.exit 4))
               (.seq
                (.block 5
                 (.seq
                  (.reg none [⟨(some 69), .mv (.t 67), none⟩,
                    ⟨(some 70), .iaddr 1 (.t 65) (.t 67), none⟩,
                    ⟨(some 71), .load none (.t 70), none⟩,
                    ⟨(some 13), .mv (.t 69), none⟩,
                    ⟨(some 14), .mv (.t 71), none⟩])
                  (.seq
                   (.reg (some []) [⟨(some 73), .faddr 0 (.t 2), none⟩,
                     ⟨(some 74), .load none (.t 73), none⟩,
                     ⟨(some 75), .len (.t 74), none⟩,
                     ⟨(some 76), .mv (.t 14), none⟩,
                     ⟨(some 77), .faddr 0 (.t 6), none⟩,
                     ⟨(some 78), .load none (.t 77), none⟩,
                     ⟨(some 79), .mv (.t 13), none⟩,
                     ⟨(some 80), .call 64 [(.t 78), (.t 79)], none⟩,
                     ⟨(some 81), .faddr 1 (.t 6), none⟩,
                     ⟨(some 82), .load none (.t 81), none⟩,
                     ⟨(some 83), .mv (.t 13), none⟩,
                     ⟨(some 84), .call 64 [(.t 82), (.t 83)], none⟩,
                     ⟨(some 85), .call 27 [(.t 75), (.t 76), (.t 80), (.t 84)], none⟩,
                     ⟨(some 72), .mv (.t 85), none⟩,
                     ⟨(some 86), .extr (.t 72) 0, none⟩,
                     ⟨(some 87), .extr (.t 72) 1, none⟩,
                     ⟨(some 88), .extr (.t 72) 2, none⟩,
                     ⟨(some 15), .mv (.t 86), none⟩,
                     ⟨(some 16), .mv (.t 87), none⟩,
                     ⟨(some 17), .mv (.t 88), none⟩])
                   (.seq
                    (.seq
                     (.reg none [⟨(some 89), .mv (.t 17), none⟩,
                       ⟨(some 90), .bin .neq (.t 89) (.c (.int .i64 0)), none⟩])
                     (.cond (.t 90)
                      (.seq
                       (.reg none [⟨(some 91), .load (some 2) (.t 6), none⟩,
                         ⟨none, .store 2 (.t 4) (.t 91), none⟩,
                         ⟨(some 5), .mv (.c (.b false)), none⟩])
                       .ret)
                      .skip))
                    (.seq
                     (.reg none [⟨(some 92), .faddr 0 (.t 2), none⟩,
                       ⟨(some 93), .load none (.t 92), none⟩,
                       ⟨(some 94), .len (.t 93), none⟩,
                       ⟨(some 95), .mv (.c (.int .i64 0)), none⟩])
                     (.block 6
                      (.loop
                       (.seq
                        (.reg none [⟨(some 96), .bin .lss (.t 95) (.t 94), none⟩])
                        (.seq
                         (.cond (.t 96)
                          .skip
                          (.exit 6))
                         (.seq
                          (.block 7
                           (.seq
                            (.reg none [⟨(some 97), .mv (.t 95), none⟩,
                              ⟨(some 18), .mv (.t 97), none⟩])
                            (.seq
                             (.reg (some []) [⟨(some 98), .faddr 0 (.t 6), none⟩,
                               ⟨(some 99), .load none (.t 98), none⟩,
                               ⟨(some 100), .mv (.t 18), none⟩,
                               ⟨(some 101), .iaddr 1 (.t 99) (.t 100), none⟩,
                               ⟨(some 102), .load none (.t 101), none⟩,
                               ⟨(some 103), .mv (.t 15), none⟩,
                               ⟨(some 104), .mv (.t 18), none⟩,
                               ⟨(some 105), .bin .shr (.t 103) (.t 104), none⟩,
                               ⟨(some 106), .bin .and (.t 105) (.c (.int .i64 1)), none⟩,
                               ⟨(some 107), .mv (.t 13), none⟩,
                               ⟨(some 108), .bin .shl (.t 106) (.t 107), none⟩,
                               ⟨(some 109), .bin .or (.t 102) (.t 108), none⟩,
                               ⟨(some 110), .iaddr 1 (.t 99) (.t 100), none⟩,
                               ⟨none, .store 1 (.t 110) (.t 109), none⟩])
                             (.reg (some []) [⟨(some 111), .faddr 1 (.t 6), none⟩,
                               ⟨(some 112), .load none (.t 111), none⟩,
                               ⟨(some 113), .mv (.t 18), none⟩,
                               ⟨(some 114), .iaddr 1 (.t 112) (.t 113), none⟩,
                               ⟨(some 115), .load none (.t 114), none⟩,
                               ⟨(some 116), .mv (.t 16), none⟩,
                               ⟨(some 117), .mv (.t 18), none⟩,
                               ⟨(some 118), .bin .shr (.t 116) (.t 117), none⟩,
                               ⟨(some 119), .bin .and (.t 118) (.c (.int .i64 1)), none⟩,
                               ⟨(some 120), .mv (.t 13), none⟩,
                               ⟨(some 121), .bin .shl (.t 119) (.t 120), none⟩,
                               ⟨(some 122), .bin .or (.t 115) (.t 121), none⟩,
                               ⟨(some 123), .iaddr 1 (.t 112) (.t 113), none⟩,
                               ⟨none, .store 1 (.t 123) (.t 122), none⟩]))))
                          (.reg none [⟨(some 124), .bin .add (.t 95) (.c (.int .i64 1)), none⟩,
                            ⟨(some 95), .mv (.t 124), none⟩])))))))))))
                (.reg none [⟨(some 125), .bin .add (.t 67) (.c (.int .i64 1)), none⟩,
                  ⟨(some 67), .mv (.t 125), none⟩])))))))
          (.seq
           (.reg none [⟨(some 126), .faddr 0 (.t 7), none⟩,
             ⟨(some 127), .load none (.t 126), none⟩,
             ⟨(some 128), .faddr 0 (.t 6), none⟩,
             ⟨(some 129), .load none (.t 128), none⟩,
             ⟨(some 130), .call 60 [(.t 127), (.t 129)], none⟩,
             ⟨(some 131), .mv (.t 130), none⟩,
             ⟨(some 132), .faddr 1 (.t 7), some (131, true)⟩,
             ⟨(some 133), .load none (.t 132), some (131, true)⟩,
             ⟨(some 134), .faddr 1 (.t 6), some (131, true)⟩,
             ⟨(some 135), .load none (.t 134), some (131, true)⟩,
             ⟨(some 136), .call 60 [(.t 133), (.t 135)], some (131, true)⟩,
             ⟨(some 137), .pick (.t 131) (.t 136) (.c (.b false)), none⟩])
           (.cond (.t 137)
            (.seq
             (.reg none [⟨(some 138), .load (some 2) (.t 6), none⟩,
               ⟨none, .store 2 (.t 4) (.t 138), none⟩,
               ⟨(some 5), .mv (.c (.b true)), none⟩])
             .ret)
            .skip)))))))))) }
theorem f71P : prepF C Tryd.f71 = some f71A := by kernel_rfl

/-- congou/congouref07.nothing -/
def f72A : AFunc :=
{ nargs := 1, res := [.c 2 (some 2)], body :=
  (.seq
   (.reg none [⟨(some 1), .box (.t 0), none⟩,
     ⟨(some 2), .alloc [.nils, .nils], none⟩])
   (.seq
    (.reg (some []) [⟨(some 3), .faddr 0 (.t 1), none⟩,
      ⟨(some 4), .load none (.t 3), none⟩,
      ⟨(some 5), .len (.t 4), none⟩,
      ⟨(some 6), .mkslice 1 8 [(.int .i64 0)] (.t 5), none⟩,
      ⟨(some 7), .faddr 0 (.t 1), none⟩,
      ⟨(some 8), .load none (.t 7), none⟩,
      ⟨(some 9), .len (.t 8), none⟩,
      ⟨(some 10), .mkslice 1 8 [(.int .i64 0)] (.t 9), none⟩,
      ⟨(some 11), .build [.nils, .nils] [(0, 1, (.t 6)), (1, 1, (.t 10))], none⟩,
      ⟨none, .store 2 (.t 2) (.t 11), none⟩])
    .ret)) }
theorem f72P : prepF C Tryd.f72 = some f72A := by kernel_rfl

/-- congou/squares.isSize -/
def f86A : AFunc :=
{ nargs := 1, res := [.t 2], body :=
  (.seq
   (.reg none [⟨(some 2), .mv (.c (.b false)), none⟩])
   (.seq
    (.reg none [⟨(some 3), .mv (.t 0), none⟩,
      ⟨(some 4), .bin .geq (.t 3) (.c (.int .i64 1)), none⟩,
      ⟨(some 5), .mv (.t 4), none⟩,
      ⟨(some 6), .mv (.t 0), some (5, true)⟩,
      ⟨(some 7), .bin .leq (.t 6) (.c (.int .i64 5)), some (5, true)⟩,
      ⟨(some 8), .pick (.t 5) (.t 7) (.c (.b false)), none⟩,
      ⟨(some 2), .mv (.t 8), none⟩])
    .ret)) }
theorem f86P : prepF C Tryd.f86 = some f86A := by kernel_rfl

/-- math/bits.TrailingZeros -/
def f87A : AFunc :=
{ nargs := 1, res := [.t 2], body :=
  (.seq
   (.reg none [⟨(some 2), .mv (.c (.int .i64 0)), none⟩])
   (.seq
    (.cond (.c (.b false))
     (.seq
      (.reg none [⟨(some 3), .mv (.t 0), none⟩,
        ⟨(some 4), .conv .u32 (.t 3), none⟩,
        ⟨(some 5), .call 108 [(.t 4)], none⟩,
        ⟨(some 2), .mv (.t 5), none⟩])
      .ret)
     .skip)
    (.seq
     (.reg none [⟨(some 6), .mv (.t 0), none⟩,
       ⟨(some 7), .call 109 [(.t 6)], none⟩,
       ⟨(some 2), .mv (.t 7), none⟩])
     .ret))) }
theorem f87P : prepF C Tryd.f87 = some f87A := by kernel_rfl

/-- (congou/squares.known).agrees -/
def f88A : AFunc :=
{ nargs := 2, res := [.t 4], body :=
  (.seq
   (.reg none [⟨(some 2), .box (.t 0), none⟩,
     ⟨(some 4), .mv (.c (.b false)), none⟩])
   (.seq
    (.reg none [⟨(some 5), .mv (.t 1), none⟩,
      ⟨(some 6), .faddr 0 (.t 2), none⟩,
      ⟨(some 7), .load none (.t 6), none⟩,
      ⟨(some 8), .bin .and (.t 5) (.t 7), none⟩,
      ⟨(some 9), .faddr 0 (.t 2), none⟩,
      ⟨(some 10), .load none (.t 9), none⟩,
      ⟨(some 11), .bin .eql (.t 8) (.t 10), none⟩,
      ⟨(some 12), .mv (.t 11), none⟩,
      ⟨(some 13), .mv (.t 1), some (12, true)⟩,
      ⟨(some 14), .faddr 1 (.t 2), some (12, true)⟩,
      ⟨(some 15), .load none (.t 14), some (12, true)⟩,
      ⟨(some 16), .bin .and (.t 13) (.t 15), some (12, true)⟩,
      ⟨(some 17), .bin .eql (.t 16) (.c (.int .i64 0)), some (12, true)⟩,
      ⟨(some 18), .pick (.t 12) (.t 17) (.c (.b false)), none⟩,
      ⟨(some 4), .mv (.t 18), none⟩])
    .ret)) }
theorem f88P : prepF C Tryd.f88 = some f88A := by kernel_rfl

/-- slices.ContainsFunc[[][]int,[]int] -/
def f93A : AFunc :=
{ nargs := 2, res := [.t 4], body :=
  (.seq
   (.reg none [⟨(some 4), .mv (.c (.b false)), none⟩])
   (.seq
    (.reg none [⟨(some 5), .mv (.t 0), none⟩,
      ⟨(some 6), .mv (.t 1), none⟩,
      ⟨(some 7), .call 111 [(.t 5), (.t 6)], none⟩,
      ⟨(some 8), .bin .geq (.t 7) (.c (.int .i64 0)), none⟩,
      ⟨(some 4), .mv (.t 8), none⟩])
    .ret)) }
theorem f93P : prepF C Tryd.f93 = some f93A := by kernel_rfl

/-- (congou/squares.Puzzle).valid$1 -/
def f94A : AFunc :=
{ nargs := 2, res := [.t 3], body :=
  (.seq
   (.reg none [⟨(some 3), .mv (.c (.b false)), none⟩])
   (.seq
    (.reg none [⟨(some 4), .load none (.t 1), none⟩,
      ⟨(some 5), .mv (.t 0), none⟩,
      ⟨(some 6), .call 57 [(.t 4), (.t 5)], none⟩,
      ⟨(some 7), .un .not (.t 6), none⟩,
      ⟨(some 3), .mv (.t 7), none⟩])
    .ret)) }
theorem f94P : prepF C Tryd.f94 = some f94A := by kernel_rfl

/-- (congou/squares.Puzzle).valid$2 -/
def f95A : AFunc :=
{ nargs := 2, res := [.t 3], body :=
  (.seq
   (.reg none [⟨(some 3), .mv (.c (.b false)), none⟩])
   (.seq
    (.reg none [⟨(some 4), .load none (.t 1), none⟩,
      ⟨(some 5), .mv (.t 0), none⟩,
      ⟨(some 6), .call 57 [(.t 4), (.t 5)], none⟩,
      ⟨(some 7), .un .not (.t 6), none⟩,
      ⟨(some 3), .mv (.t 7), none⟩])
    .ret)) }
theorem f95P : prepF C Tryd.f95 = some f95A := by kernel_rfl

/-- slices.Clone[[]congou/squares.known,congou/squares.known] -/
def f96A : AFunc :=
{ nargs := 1, res := [.t 2], body :=
  (.seq
   (.reg none [⟨(some 2), .mv (.c .nils), none⟩])
   (.seq
    (.seq
     (.reg none [⟨(some 3), .mv (.t 0), none⟩,
       ⟨(some 4), .seq false (.t 3) (.c .nils), none⟩])
     (.cond (.t 4)
      (.seq
       (.reg none [⟨(some 2), .mv (.c .nils), none⟩])
       .ret)
      .skip))
    (.seq
     (.reg none [⟨(some 5), .bslice [(.int .i64 0), (.int .i64 0)] 0 2 [], none⟩,
       ⟨(some 6), .mv (.t 0), none⟩,
       ⟨(some 7), .append 2 16 (.t 5) (.t 6), none⟩,
       ⟨(some 2), .mv (.t 7), none⟩])
     .ret))) }
theorem f96P : prepF C Tryd.f96 = some f96A := by kernel_rfl

/-- (*congou/squares.board).column -/
def f97A : AFunc :=
{ nargs := 2, res := [.c 4 (some 2)], body :=
  (.seq
   (.reg none [⟨(some 4), .alloc [(.int .i64 0), (.int .i64 0)], none⟩])
   (.seq
    (.reg none [⟨(some 5), .alloc [(.int .i64 0), (.int .i64 0)], none⟩])
    (.seq
     (.seq
      (.reg none [⟨(some 8), .mv (.t 0), none⟩,
        ⟨(some 9), .nilchk (.t 8), none⟩,
        ⟨(some 10), .faddr 1 (.t 9), none⟩,
        ⟨(some 11), .load none (.t 10), none⟩,
        ⟨(some 12), .len (.t 11), none⟩,
        ⟨(some 13), .mv (.c (.int .i64 0)), none⟩])
      (.block 0
       (.loop
        (.seq
         (.reg none [⟨(some 14), .bin .lss (.t 13) (.t 12), none⟩])
         (.seq
          (.cond (.t 14)
           .skip
           (.exit 0))
          (.seq
           (.block 1
            (.seq
             (.reg none [⟨(some 15), .mv (.t 13), none⟩,
               ⟨(some 16), .iaddr 2 (.t 11) (.t 13), none⟩,
               ⟨(some 17), .load (some 2) (.t 16), none⟩,
               ⟨(some 7), .alloc [(.int .i64 0), (.int .i64 0)], none⟩,
               ⟨(some 6), .mv (.t 15), none⟩,
               ⟨none, .store 2 (.t 7) (.t 17), none⟩])
             (.seq
              (.reg (some []) [⟨(some 18), .faddr 0 (.t 5), none⟩,
                ⟨(some 19), .load none (.t 18), none⟩,
                ⟨(some 20), .faddr 0 (.t 7), none⟩,
                ⟨(some 21), .load none (.t 20), none⟩,
                ⟨(some 22), .mv (.t 1), none⟩,
                ⟨(some 23), .bin .shr (.t 21) (.t 22), none⟩,
                ⟨(some 24), .bin .and (.t 23) (.c (.int .i64 1)), none⟩,
                ⟨(some 25), .mv (.t 6), none⟩,
                ⟨(some 26), .bin .shl (.t 24) (.t 25), none⟩,
                ⟨(some 27), .bin .or (.t 19) (.t 26), none⟩,
                ⟨(some 28), .faddr 0 (.t 5), none⟩,
                ⟨none, .store 1 (.t 28) (.t 27), none⟩])
              (.reg (some []) [⟨(some 29), .faddr 1 (.t 5), none⟩,
                ⟨(some 30), .load none (.t 29), none⟩,
                ⟨(some 31), .faddr 1 (.t 7), none⟩,
                ⟨(some 32), .load none (.t 31), none⟩,
                ⟨(some 33), .mv (.t 1), none⟩,
                ⟨(some 34), .bin .shr (.t 32) (.t 33), none⟩,
                ⟨(some 35), .bin .and (.t 34) (.c (.int .i64 1)), none⟩,
                ⟨(some 36), .mv (.t 6), none⟩,
                ⟨(some 37), .bin .shl (.t 35) (.t 36), none⟩,
                ⟨(some 38), .bin .or (.t 30) (.t 37), none⟩,
                ⟨(some 39), .faddr 1 (.t 5), none⟩,
                ⟨none, .store 1 (.t 39) (.t 38), none⟩]))))
           (.reg none [⟨(some 40), .bin .add (.t 13) (.c (.int .i64 1)), none⟩,
             ⟨(some 13), .mv (.t 40), none⟩])))))))
     (.seq
      (.reg none [⟨(some 41), .load (some 2) (.t 5), none⟩,
        ⟨none, .store 2 (.t 4) (.t 41), none⟩])
      .ret)))) }
theorem f97P : prepF C Tryd.f97 = some f97A := by kernel_rfl

/-- (*congou/squares.board).put -/
def f98A : AFunc :=
{ nargs := 3, res := [], body :=
  (.seq
   (.reg none [⟨(some 5), .box (.t 2), none⟩])
   (.seq
    (.reg none [⟨(some 7), .mv (.t 0), none⟩,
      ⟨(some 8), .nilchk (.t 7), none⟩,
      ⟨(some 9), .faddr 1 (.t 8), none⟩,
      ⟨(some 10), .load none (.t 9), none⟩,
      ⟨(some 11), .len (.t 10), none⟩,
      ⟨(some 12), .mv (.c (.int .i64 0)), none⟩])
    (.block 0
     (.loop
      (.seq
       (.reg none [⟨(some 13), .bin .lss (.t 12) (.t 11), none⟩])
       (.seq
        (.cond (.t 13)
         .skip
         (.exit 0))
        (.seq
         (.block 1
          (.seq
           (.reg none [⟨(some 14), .mv (.t 12), none⟩,
             ⟨(some 6), .mv (.t 14), none⟩])
           (.seq
            (.reg (some []) [⟨(some 15), .mv (.t 0), none⟩,
              ⟨(some 16), .nilchk (.t 15), none⟩,
              ⟨(some 17), .faddr 1 (.t 16), none⟩,
              ⟨(some 18), .load none (.t 17), none⟩,
              ⟨(some 19), .mv (.t 6), none⟩,
              ⟨(some 20), .iaddr 2 (.t 18) (.t 19), none⟩,
              ⟨(some 21), .faddr 0 (.t 20), none⟩,
              ⟨(some 22), .load none (.t 21), none⟩,
              ⟨(some 23), .faddr 0 (.t 5), none⟩,
              ⟨(some 24), .load none (.t 23), none⟩,
              ⟨(some 25), .mv (.t 6), none⟩,
              ⟨(some 26), .bin .shr (.t 24) (.t 25), none⟩,
              ⟨(some 27), .bin .and (.t 26) (.c (.int .i64 1)), none⟩,
              ⟨(some 28), .mv (.t 1), none⟩,
              ⟨(some 29), .bin .shl (.t 27) (.t 28), none⟩,
              ⟨(some 30), .bin .or (.t 22) (.t 29), none⟩,
              ⟨(some 31), .iaddr 2 (.t 18) (.t 19), none⟩,
              ⟨(some 32), .faddr 0 (.t 31), none⟩,
              ⟨none, .store 1 (.t 32) (.t 30), none⟩])
            (.reg (some []) [⟨(some 33), .mv (.t 0), none⟩,
              ⟨(some 34), .nilchk (.t 33), none⟩,
              ⟨(some 35), .faddr 1 (.t 34), none⟩,
              ⟨(some 36), .load none (.t 35), none⟩,
              ⟨(some 37), .mv (.t 6), none⟩,
              ⟨(some 38), .iaddr 2 (.t 36) (.t 37), none⟩,
              ⟨(some 39), .faddr 1 (.t 38), none⟩,
              ⟨(some 40), .load none (.t 39), none⟩,
              ⟨(some 41), .faddr 1 (.t 5), none⟩,
              ⟨(some 42), .load none (.t 41), none⟩,
              ⟨(some 43), .mv (.t 6), none⟩,
              ⟨(some 44), .bin .shr (.t 42) (.t 43), none⟩,
              ⟨(some 45), .bin .and (.t 44) (.c (.int .i64 1)), none⟩,
              ⟨(some 46), .mv (.t 1), none⟩,
              ⟨(some 47), .bin .shl (.t 45) (.t 46), none⟩,
              ⟨(some 48), .bin .or (.t 40) (.t 47), none⟩,
              ⟨(some 49), .iaddr 2 (.t 36) (.t 37), none⟩,
              ⟨(some 50), .faddr 1 (.t 49), none⟩,
              ⟨none, .store 1 (.t 50) (.t 48), none⟩]))))
         (.reg none [⟨(some 51), .bin .add (.t 12) (.c (.int .i64 1)), none⟩,
           ⟨(some 12), .mv (.t 51), none⟩])))))))) }
theorem f98P : prepF C Tryd.f98 = some f98A := by kernel_rfl

/-- slices.Equal[[]congou/squares.known,congou/squares.known] -/
def f99A : AFunc :=
{ nargs := 2, res := [.t 4], body :=
  (.seq
   (.reg none [⟨(some 4), .mv (.c (.b false)), none⟩])
   (.seq
    (.seq
     (.reg none [⟨(some 6), .mv (.t 0), none⟩,
       ⟨(some 7), .len (.t 6), none⟩,
       ⟨(some 8), .mv (.t 1), none⟩,
       ⟨(some 9), .len (.t 8), none⟩,
       ⟨(some 10), .bin .neq (.t 7) (.t 9), none⟩])
     (.cond (.t 10)
      (.seq
       (.reg none [⟨(some 4), .mv (.c (.b false)), none⟩])
       .ret)
      .skip))
    (.seq
     (.seq
      (.reg none [⟨(some 11), .mv (.t 0), none⟩,
        ⟨(some 12), .len (.t 11), none⟩,
        ⟨(some 13), .mv (.c (.int .i64 0)), none⟩])
      (.block 0
       (.loop
        (.seq
         (.reg none [⟨(some 14), .bin .lss (.t 13) (.t 12), none⟩])
         (.seq
          (.cond (.t 14)
           .skip
           (.exit 0))
          (.seq
           (.block 1
            (.seq
             (.reg none [⟨(some 15), .mv (.t 13), none⟩,
               ⟨(some 5), .mv (.t 15), none⟩])
             (.seq
              (.reg (some []) [⟨(some 16), .mv (.t 0), none⟩,
                ⟨(some 17), .mv (.t 5), none⟩,
                ⟨(some 18), .iaddr 2 (.t 16) (.t 17), none⟩,
                ⟨(some 19), .load (some 2) (.t 18), none⟩,
                ⟨(some 20), .mv (.t 1), none⟩,
                ⟨(some 21), .mv (.t 5), none⟩,
                ⟨(some 22), .iaddr 2 (.t 20) (.t 21), none⟩,
                ⟨(some 23), .load (some 2) (.t 22), none⟩,
                ⟨(some 24), .aeq true 2 (.t 19) (.t 23), none⟩])
              (.cond (.t 24)
               (.seq
                (.reg none [⟨(some 4), .mv (.c (.b false)), none⟩])
                .ret)
               .skip))))
           (.reg none [⟨(some 25), .bin .add (.t 13) (.c (.int .i64 1)), none⟩,
             ⟨(some 13), .mv (.t 25), none⟩])))))))
     (.seq
      (.reg none [⟨(some 4), .mv (.c (.b true)), none⟩])
      .ret)))) }
theorem f99P : prepF C Tryd.f99 = some f99A := by kernel_rfl

/-- congou/congouref07.copied -/
def f100A : AFunc :=
{ nargs := 1, res := [.c 2 (some 2)], body :=
  (.seq
   (.reg none [⟨(some 1), .box (.t 0), none⟩,
     ⟨(some 2), .alloc [.nils, .nils], none⟩])
   (.seq
    (.reg (some [(6, 3)]) [⟨(some 3), .bslice [(.int .i64 0)] 0 1 [], none⟩,
      ⟨(some 4), .faddr 0 (.t 1), none⟩,
      ⟨(some 5), .load none (.t 4), none⟩,
      ⟨(some 6), .append 1 8 (.t 3) (.t 5), none⟩,
      ⟨(some 7), .bslice [(.int .i64 0)] 0 1 [], none⟩,
      ⟨(some 8), .faddr 1 (.t 1), none⟩,
      ⟨(some 9), .load none (.t 8), none⟩,
      ⟨(some 10), .append 1 8 (.t 7) (.t 9), none⟩,
      ⟨(some 11), .build [.nils, .nils] [(0, 1, (.t 6)), (1, 1, (.t 10))], none⟩,
      ⟨none, .store 2 (.t 2) (.t 11), none⟩])
    .ret)) }
theorem f100P : prepF C Tryd.f100 = some f100A := by kernel_rfl

/-- slices.IndexFunc[[][]int,[]int] -/
def f111A : AFunc :=
{ nargs := 2, res := [.t 4], body :=
  (.seq
   (.reg none [⟨(some 4), .mv (.c (.int .i64 0)), none⟩])
   (.seq
    (.seq
     (.reg none [⟨(some 6), .mv (.t 0), none⟩,
       ⟨(some 7), .len (.t 6), none⟩,
       ⟨(some 8), .mv (.c (.int .i64 0)), none⟩])
     (.block 0
      (.loop
       (.seq
        (.reg none [⟨(some 9), .bin .lss (.t 8) (.t 7), none⟩])
        (.seq
         (.cond (.t 9)
          .skip
          (.exit 0))
         (.seq
          (.block 1
           (.seq
            (.reg none [⟨(some 10), .mv (.t 8), none⟩,
              ⟨(some 5), .mv (.t 10), none⟩])
            (.seq
             (.reg none [⟨(some 11), .mv (.t 1), none⟩,
               ⟨(some 12), .mv (.t 0), none⟩,
               ⟨(some 13), .mv (.t 5), none⟩,
               ⟨(some 14), .iaddr 1 (.t 12) (.t 13), none⟩,
               ⟨(some 15), .load none (.t 14), none⟩,
               ⟨(some 16), .callv (.t 11) [(.t 15)], none⟩])
             (.cond (.t 16)
              (.seq
               (.reg none [⟨(some 17), .mv (.t 5), none⟩,
                 ⟨(some 4), .mv (.t 17), none⟩])
               .ret)
              .skip))))
          (.reg none [⟨(some 18), .bin .add (.t 8) (.c (.int .i64 1)), none⟩,
            ⟨(some 8), .mv (.t 18), none⟩])))))))
    (.seq
     (.reg none [⟨(some 4), .mv (.c (.int .i64 (-1))), none⟩])
     .ret))) }
theorem f111P : prepF C Tryd.f111 = some f111A := by kernel_rfl

end Go.Proofs.YtjjndoigkhabdaaDoor
