/- The abstract forms of the functions that are needed, each checked against the translation. No condition. -/
import Derived.Lib.TrailingZeros
import Derived.Test.YtjjndoigkhabdaaDoorAm1
import Derived.Test.YtjjndoigkhabdaaDoorProg
namespace Go.Proofs.YtjjndoigkhabdaaDoor
open Go Go.AM Go.Proofs

/-- the seat's program; the types whose comparison is taken; the functions that may write to what is older -/
def tzP : List AV → Option AV
  | [.int .u64 n] => if 0 ≤ n ∧ n ≤ 18446744073709551615 then some (.i (Lib.ctz 64 n.toNat : Nat)) else none
  | _ => none
def kd : Nat → Kd := fun f => if [69, 73, 78, 79, 83, 98, 101, 104, 105].contains f then .wrt else if [24].contains f then .closed else if f = 87 then .prim tzP else .ro
noncomputable def C : Cfg := { P := Tryd.prog, eqT := fun t => if t == 72 then some 2 else none, kd := kd }
/-- congou/congoulaw07.SquaresSettles -/
def f6A : AFunc :=
{ nargs := 4, res := [.t 8], body :=
  (.seq
   (.reg none [⟨(some 8), .mv (.c (.b false)), none⟩])
   (.seq
    (.reg none [⟨(some 24), .mv (.t 0), none⟩,
      ⟨(some 25), .mv (.t 1), none⟩,
      ⟨(some 26), .call 19 [(.t 25)], none⟩,
      ⟨(some 27), .mv (.t 2), none⟩,
      ⟨(some 28), .mv (.t 3), none⟩,
      ⟨(some 29), .call 26 [(.t 24), (.t 26), (.t 27), (.t 28)], none⟩,
      ⟨(some 23), .mv (.t 29), none⟩,
      ⟨(some 30), .extr (.t 23) 0, none⟩,
      ⟨(some 31), .extr (.t 23) 1, none⟩,
      ⟨(some 32), .extr (.t 23) 2, none⟩,
      ⟨(some 9), .mv (.t 30), none⟩,
      ⟨(some 10), .mv (.t 31), none⟩,
      ⟨(some 11), .mv (.t 32), none⟩])
    (.seq
     (.reg none [⟨(some 34), .mv (.t 0), none⟩,
       ⟨(some 35), .mv (.t 1), none⟩,
       ⟨(some 36), .call 19 [(.t 35)], none⟩,
       ⟨(some 37), .call 18 [(.t 34), (.t 36)], none⟩,
       ⟨(some 33), .mv (.t 37), none⟩,
       ⟨(some 38), .extr (.t 33) 0, none⟩,
       ⟨(some 39), .extr (.t 33) 1, none⟩,
       ⟨(some 12), .mv (.t 38), none⟩,
       ⟨(some 13), .mv (.t 39), none⟩])
     (.seq
      (.seq
       (.reg none [⟨(some 40), .mv (.t 13), none⟩,
         ⟨(some 41), .bin .neq (.t 40) (.c (.int .i64 0)), none⟩,
         ⟨(some 42), .mv (.t 41), none⟩,
         ⟨(some 43), .mv (.t 0), some (42, false)⟩,
         ⟨(some 44), .mv (.t 2), some (42, false)⟩,
         ⟨(some 45), .call 20 [(.t 43), (.t 44)], some (42, false)⟩,
         ⟨(some 46), .un .not (.t 45), some (42, false)⟩,
         ⟨(some 47), .pick (.t 42) (.c (.b true)) (.t 46), none⟩,
         ⟨(some 48), .mv (.t 47), none⟩,
         ⟨(some 49), .mv (.t 0), some (48, false)⟩,
         ⟨(some 50), .mv (.t 3), some (48, false)⟩,
         ⟨(some 51), .call 20 [(.t 49), (.t 50)], some (48, false)⟩,
         ⟨(some 52), .un .not (.t 51), some (48, false)⟩,
         ⟨(some 53), .pick (.t 48) (.c (.b true)) (.t 52), none⟩,
         ⟨(some 54), .mv (.t 53), none⟩,
         ⟨(some 55), .mv (.t 2), some (54, false)⟩,
         ⟨(some 56), .mv (.t 3), some (54, false)⟩,
         ⟨(some 57), .bin .and (.t 55) (.t 56), some (54, false)⟩,
         ⟨(some 58), .bin .neq (.t 57) (.c (.int .i64 0)), some (54, false)⟩,
         ⟨(some 59), .pick (.t 54) (.c (.b true)) (.t 58), none⟩])
       (.cond (.t 59)
        (.seq
         (.reg none [⟨(some 60), .mv (.t 11), none⟩,
           ⟨(some 61), .bin .eql (.t 60) (.c (.int .i64 2)), none⟩,
           ⟨(some 62), .mv (.t 61), none⟩,
           ⟨(some 63), .mv (.t 13), some (62, true)⟩,
           ⟨(some 64), .bin .eql (.t 63) (.c (.int .i64 0)), some (62, true)⟩,
           ⟨(some 65), .mv (.t 64), some (62, true)⟩,
           ⟨(some 66), .mv (.t 13), some (65, false)⟩,
           ⟨(some 67), .bin .eql (.t 66) (.c (.int .i64 2)), some (65, false)⟩,
           ⟨(some 68), .pick (.t 65) (.c (.b true)) (.t 67), some (62, true)⟩,
           ⟨(some 69), .pick (.t 62) (.t 68) (.c (.b false)), none⟩,
           ⟨(some 70), .mv (.t 69), none⟩,
           ⟨(some 71), .call 24 [], some (70, true)⟩,
           ⟨(some 72), .pick (.t 70) (.t 71) (.c (.b false)), none⟩,
           ⟨(some 8), .mv (.t 72), none⟩])
         .ret)
        .skip))
      (.seq
       (.reg none [⟨(some 73), .mv (.t 0), none⟩,
         ⟨(some 74), .bin .shl (.c (.int .i64 1)) (.t 73), none⟩,
         ⟨(some 75), .bin .sub (.t 74) (.c (.int .i64 1)), none⟩,
         ⟨(some 14), .mv (.t 75), none⟩])
       (.seq
        (.reg none [⟨(some 76), .mv (.t 14), none⟩,
          ⟨(some 77), .mv (.t 14), none⟩,
          ⟨(some 15), .mv (.t 76), none⟩,
          ⟨(some 16), .mv (.t 77), none⟩,
          ⟨(some 17), .mv (.c (.b false)), none⟩])
        (.seq
         (.seq
          (.reg none [⟨(some 78), .mv (.t 12), none⟩,
            ⟨(some 79), .len (.t 78), none⟩,
            ⟨(some 80), .mv (.c (.int .i64 0)), none⟩])
          (.block 0
           (.loop
            (.seq
             (.reg none [⟨(some 81), .bin .lss (.t 80) (.t 79), none⟩])
             (.seq
              (.cond (.t 81)
               .skip
               (.exit 0))
              (.seq
               (.block 1
                (.seq
                 (.reg none [⟨(some 82), .iaddr 1 (.t 78) (.t 80), none⟩,
                   ⟨(some 83), .load none (.t 82), none⟩,
                   ⟨(some 19), .mv (.t 83), none⟩])
                 (.seq
                  (.reg none [⟨(some 84), .mv (.t 19), none⟩,
                    ⟨(some 85), .mv (.t 2), none⟩,
                    ⟨(some 86), .bin .and (.t 84) (.t 85), none⟩,
                    ⟨(some 87), .mv (.t 2), none⟩,
                    ⟨(some 88), .bin .eql (.t 86) (.t 87), none⟩,
                    ⟨(some 89), .mv (.t 88), none⟩,
                    ⟨(some 90), .mv (.t 19), some (89, true)⟩,
                    ⟨(some 91), .mv (.t 3), some (89, true)⟩,
                    ⟨(some 92), .bin .and (.t 90) (.t 91), some (89, true)⟩,
                    ⟨(some 93), .bin .eql (.t 92) (.c (.int .i64 0)), some (89, true)⟩,
                    ⟨(some 94), .pick (.t 89) (.t 93) (.c (.b false)), none⟩])
                  (.cond (.t 94)
                   (.seq
                    (.reg none [⟨(some 95), .mv (.t 15), none⟩,
                      ⟨(some 96), .mv (.t 19), none⟩,
                      ⟨(some 97), .bin .and (.t 95) (.t 96), none⟩,
                      ⟨(some 15), .mv (.t 97), none⟩])
                    (.seq
                     (.reg none [⟨(some 98), .mv (.t 16), none⟩,
                       ⟨(some 99), .mv (.t 19), none⟩,
                       ⟨(some 100), .bin .andNot (.t 98) (.t 99), none⟩,
                       ⟨(some 16), .mv (.t 100), none⟩])
                     (.reg none [⟨(some 17), .mv (.c (.b true)), none⟩])))
                   .skip))))
               (.reg none [⟨(some 101), .bin .add (.t 80) (.c (.int .i64 1)), none⟩,
                 ⟨(some 80), .mv (.t 101), none⟩])))))))
         (.seq
          (.seq
           (.reg none [⟨(some 102), .mv (.t 17), none⟩,
             ⟨(some 103), .un .not (.t 102), none⟩])
           (.cond (.t 103)
            (.seq
             (.reg none [⟨(some 104), .mv (.t 11), none⟩,
               ⟨(some 105), .bin .eql (.t 104) (.c (.int .i64 4)), none⟩,
               ⟨(some 106), .mv (.t 105), none⟩,
               ⟨(some 107), .call 24 [], some (106, true)⟩,
               ⟨(some 108), .pick (.t 106) (.t 107) (.c (.b false)), none⟩,
               ⟨(some 8), .mv (.t 108), none⟩])
             .ret)
            .skip))
          (.seq
           (.reg none [⟨(some 110), .mv (.t 0), none⟩,
             ⟨(some 111), .mv (.t 1), none⟩,
             ⟨(some 112), .call 19 [(.t 111)], none⟩,
             ⟨(some 113), .mv (.t 9), none⟩,
             ⟨(some 114), .mv (.t 10), none⟩,
             ⟨(some 115), .call 26 [(.t 110), (.t 112), (.t 113), (.t 114)], none⟩,
             ⟨(some 109), .mv (.t 115), none⟩,
             ⟨(some 116), .extr (.t 109) 0, none⟩,
             ⟨(some 117), .extr (.t 109) 1, none⟩,
             ⟨(some 118), .extr (.t 109) 2, none⟩,
             ⟨(some 20), .mv (.t 116), none⟩,
             ⟨(some 21), .mv (.t 117), none⟩,
             ⟨(some 22), .mv (.t 118), none⟩])
           (.seq
            (.reg none [⟨(some 119), .mv (.t 11), none⟩,
              ⟨(some 120), .bin .eql (.t 119) (.c (.int .i64 0)), none⟩,
              ⟨(some 121), .mv (.t 120), none⟩,
              ⟨(some 122), .mv (.t 22), some (121, true)⟩,
              ⟨(some 123), .bin .eql (.t 122) (.c (.int .i64 0)), some (121, true)⟩,
              ⟨(some 124), .pick (.t 121) (.t 123) (.c (.b false)), none⟩,
              ⟨(some 125), .mv (.t 124), none⟩,
              ⟨(some 126), .mv (.t 9), some (125, true)⟩,
              ⟨(some 127), .mv (.t 15), some (125, true)⟩,
              ⟨(some 128), .bin .eql (.t 126) (.t 127), some (125, true)⟩,
              ⟨(some 129), .pick (.t 125) (.t 128) (.c (.b false)), none⟩,
              ⟨(some 130), .mv (.t 129), none⟩,
              ⟨(some 131), .mv (.t 10), some (130, true)⟩,
              ⟨(some 132), .mv (.t 16), some (130, true)⟩,
              ⟨(some 133), .bin .eql (.t 131) (.t 132), some (130, true)⟩,
              ⟨(some 134), .pick (.t 130) (.t 133) (.c (.b false)), none⟩,
              ⟨(some 135), .mv (.t 134), none⟩,
              ⟨(some 136), .mv (.t 20), some (135, true)⟩,
              ⟨(some 137), .mv (.t 9), some (135, true)⟩,
              ⟨(some 138), .bin .eql (.t 136) (.t 137), some (135, true)⟩,
              ⟨(some 139), .pick (.t 135) (.t 138) (.c (.b false)), none⟩,
              ⟨(some 140), .mv (.t 139), none⟩,
              ⟨(some 141), .mv (.t 21), some (140, true)⟩,
              ⟨(some 142), .mv (.t 10), some (140, true)⟩,
              ⟨(some 143), .bin .eql (.t 141) (.t 142), some (140, true)⟩,
              ⟨(some 144), .pick (.t 140) (.t 143) (.c (.b false)), none⟩,
              ⟨(some 145), .mv (.t 144), none⟩,
              ⟨(some 146), .mv (.t 2), some (145, true)⟩,
              ⟨(some 147), .mv (.t 9), some (145, true)⟩,
              ⟨(some 148), .bin .andNot (.t 146) (.t 147), some (145, true)⟩,
              ⟨(some 149), .bin .eql (.t 148) (.c (.int .i64 0)), some (145, true)⟩,
              ⟨(some 150), .pick (.t 145) (.t 149) (.c (.b false)), none⟩,
              ⟨(some 151), .mv (.t 150), none⟩,
              ⟨(some 152), .mv (.t 3), some (151, true)⟩,
              ⟨(some 153), .mv (.t 10), some (151, true)⟩,
              ⟨(some 154), .bin .andNot (.t 152) (.t 153), some (151, true)⟩,
              ⟨(some 155), .bin .eql (.t 154) (.c (.int .i64 0)), some (151, true)⟩,
              ⟨(some 156), .pick (.t 151) (.t 155) (.c (.b false)), none⟩,
              ⟨(some 157), .mv (.t 156), none⟩,
              ⟨(some 158), .call 24 [], some (157, true)⟩,
              ⟨(some 159), .pick (.t 157) (.t 158) (.c (.b false)), none⟩,
              ⟨(some 8), .mv (.t 159), none⟩])
            .ret)))))))))) }
theorem f6P : prepF C Tryd.f6 = some f6A := by kernel_rfl

/-- congou/squares.Blocks -/
def f17A : AFunc :=
{ nargs := 2, res := [.t 4, .t 5], body :=
  (.seq
   (.reg none [⟨(some 4), .mv (.c .nils), none⟩,
     ⟨(some 5), .mv (.c (.int .i64 0)), none⟩])
   (.seq
    (.seq
     (.reg none [⟨(some 6), .mv (.t 0), none⟩,
       ⟨(some 7), .mv (.t 1), none⟩,
       ⟨(some 8), .call 55 [(.t 6), (.t 7)], none⟩,
       ⟨(some 9), .un .not (.t 8), none⟩])
     (.cond (.t 9)
      (.seq
       (.reg none [⟨(some 4), .mv (.c .nils), none⟩,
         ⟨(some 5), .mv (.c (.int .i64 2)), none⟩])
       .ret)
      .skip))
    (.seq
     (.reg none [⟨(some 10), .mv (.t 1), none⟩,
       ⟨(some 11), .call 56 [(.t 10)], none⟩,
       ⟨(some 4), .mv (.t 11), none⟩,
       ⟨(some 5), .mv (.c (.int .i64 0)), none⟩])
     .ret))) }
theorem f17P : prepF C Tryd.f17 = some f17A := by kernel_rfl

/-- congou/squares.Lines -/
def f18A : AFunc :=
{ nargs := 2, res := [.t 4, .t 5], body :=
  (.seq
   (.reg none [⟨(some 4), .mv (.c .nils), none⟩,
     ⟨(some 5), .mv (.c (.int .i64 0)), none⟩])
   (.seq
    (.seq
     (.reg none [⟨(some 6), .mv (.t 0), none⟩,
       ⟨(some 7), .mv (.t 1), none⟩,
       ⟨(some 8), .call 57 [(.t 6), (.t 7)], none⟩,
       ⟨(some 9), .un .not (.t 8), none⟩])
     (.cond (.t 9)
      (.seq
       (.reg none [⟨(some 4), .mv (.c .nils), none⟩,
         ⟨(some 5), .mv (.c (.int .i64 2)), none⟩])
       .ret)
      .skip))
    (.seq
     (.reg none [⟨(some 10), .mv (.t 0), none⟩,
       ⟨(some 11), .mv (.t 1), none⟩,
       ⟨(some 12), .call 58 [(.t 10), (.t 11)], none⟩,
       ⟨(some 4), .mv (.t 12), none⟩,
       ⟨(some 5), .mv (.c (.int .i64 0)), none⟩])
     .ret))) }
theorem f18P : prepF C Tryd.f18 = some f18A := by kernel_rfl

/-- congou/congoulaw07.list -/
def f19A : AFunc :=
{ nargs := 1, res := [.t 2], body :=
  (.seq
   (.reg none [⟨(some 2), .mv (.c .nils), none⟩])
   (.seq
    (.reg none [⟨(some 3), .mv (.t 0), none⟩,
      ⟨(some 4), .mv (.t 0), none⟩,
      ⟨(some 5), .len (.t 4), none⟩,
      ⟨(some 6), .mn [(.t 5), (.c (.int .i64 8))], none⟩,
      ⟨(some 7), .slice 1 (.t 3) none (some (.t 6)) none, none⟩,
      ⟨(some 8), .call 33 [(.t 7)], none⟩,
      ⟨(some 2), .mv (.t 8), none⟩])
    .ret)) }
theorem f19P : prepF C Tryd.f19 = some f19A := by kernel_rfl

/-- congou/congouref07.Set -/
def f20A : AFunc :=
{ nargs := 2, res := [.t 4], body :=
  (.seq
   (.reg none [⟨(some 4), .mv (.c (.b false)), none⟩])
   (.seq
    (.reg none [⟨(some 5), .mv (.t 0), none⟩,
      ⟨(some 6), .call 59 [(.t 5)], none⟩,
      ⟨(some 7), .mv (.t 6), none⟩,
      ⟨(some 8), .mv (.t 1), some (7, true)⟩,
      ⟨(some 9), .bin .geq (.t 8) (.c (.int .i64 0)), some (7, true)⟩,
      ⟨(some 10), .pick (.t 7) (.t 9) (.c (.b false)), none⟩,
      ⟨(some 11), .mv (.t 10), none⟩,
      ⟨(some 12), .mv (.t 1), some (11, true)⟩,
      ⟨(some 13), .mv (.t 0), some (11, true)⟩,
      ⟨(some 14), .bin .shl (.c (.int .i64 1)) (.t 13), some (11, true)⟩,
      ⟨(some 15), .bin .lss (.t 12) (.t 14), some (11, true)⟩,
      ⟨(some 16), .pick (.t 11) (.t 15) (.c (.b false)), none⟩,
      ⟨(some 4), .mv (.t 16), none⟩])
    .ret)) }
theorem f20P : prepF C Tryd.f20 = some f20A := by kernel_rfl

/-- slices.Equal[[]int,int] -/
def f21A : AFunc :=
{ nargs := 2, res := [.t 4], body :=
  (.seq
   (.reg none [⟨(some 4), .mv (.c (.b false)), none⟩])
   (.seq
    (.seq
     (.reg none [⟨(some 6), .mv (.t 0), none⟩,
       ⟨(some 7), .len (.t 6), none⟩,
       ⟨(some 8), .mv (.t 1), none⟩,
       ⟨(some 9), .len (.t 8), none⟩,
       ⟨(some 10), .bin .neq (.t 7) (.t 9), none⟩])
     (.cond (.t 10)
      (.seq
       (.reg none [⟨(some 4), .mv (.c (.b false)), none⟩])
       .ret)
      .skip))
    (.seq
     (.seq
      (.reg none [⟨(some 11), .mv (.t 0), none⟩,
        ⟨(some 12), .len (.t 11), none⟩,
        ⟨(some 13), .mv (.c (.int .i64 0)), none⟩])
      (.block 0
       (.loop
        (.seq
         (.reg none [⟨(some 14), .bin .lss (.t 13) (.t 12), none⟩])
         (.seq
          (.cond (.t 14)
           .skip
           (.exit 0))
          (.seq
           (.block 1
            (.seq
             (.reg none [⟨(some 15), .mv (.t 13), none⟩,
               ⟨(some 5), .mv (.t 15), none⟩])
             (.seq
              (.reg (some []) [⟨(some 16), .mv (.t 0), none⟩,
                ⟨(some 17), .mv (.t 5), none⟩,
                ⟨(some 18), .iaddr 1 (.t 16) (.t 17), none⟩,
                ⟨(some 19), .load none (.t 18), none⟩,
                ⟨(some 20), .mv (.t 1), none⟩,
                ⟨(some 21), .mv (.t 5), none⟩,
                ⟨(some 22), .iaddr 1 (.t 20) (.t 21), none⟩,
                ⟨(some 23), .load none (.t 22), none⟩,
                ⟨(some 24), .bin .neq (.t 19) (.t 23), none⟩])
              (.cond (.t 24)
               (.seq
                (.reg none [⟨(some 4), .mv (.c (.b false)), none⟩])
                .ret)
               .skip))))
           (.reg none [⟨(some 25), .bin .add (.t 13) (.c (.int .i64 1)), none⟩,
             ⟨(some 13), .mv (.t 25), none⟩])))))))
     (.seq
      (.reg none [⟨(some 4), .mv (.c (.b true)), none⟩])
      .ret)))) }
theorem f21P : prepF C Tryd.f21 = some f21A := by kernel_rfl

/-- congou/congoulaw07.awake -/
def f24A : AFunc :=
{ nargs := 0, res := [.t 0], body :=
  (.seq
   (.reg none [⟨(some 0), .mv (.c (.b false)), none⟩])
   (.seq
    (.reg none [⟨(some 4), .call 17 [(.c (.int .i64 5)), (.c (.int .i64 23))], none⟩,
      ⟨(some 3), .mv (.t 4), none⟩,
      ⟨(some 5), .extr (.t 3) 0, none⟩,
      ⟨(some 6), .extr (.t 3) 1, none⟩,
      ⟨(some 1), .mv (.t 5), none⟩,
      ⟨(some 2), .mv (.t 6), none⟩])
    (.seq
     (.reg none [⟨(some 7), .mv (.t 2), none⟩,
       ⟨(some 8), .bin .eql (.t 7) (.c (.int .i64 0)), none⟩,
       ⟨(some 9), .mv (.t 8), none⟩,
       ⟨(some 10), .mv (.t 1), some (9, true)⟩,
       ⟨(some 11), .bslice [(.int .i64 0)] 2 1 [(0, (.c (.int .i64 3))), (1, (.c (.int .i64 1)))], some (9, true)⟩,
       ⟨(some 12), .call 21 [(.t 10), (.t 11)], some (9, true)⟩,
       ⟨(some 13), .pick (.t 9) (.t 12) (.c (.b false)), none⟩,
       ⟨(some 0), .mv (.t 13), none⟩])
     .ret))) }
theorem f24P : prepF C Tryd.f24 = some f24A := by kernel_rfl

/-- congou/squares.Tell -/
def f26A : AFunc :=
{ nargs := 4, res := [.t 8, .t 9, .t 10], body :=
  (.seq
   (.reg none [⟨(some 8), .mv (.c (.int .i64 0)), none⟩,
     ⟨(some 9), .mv (.c (.int .i64 0)), none⟩,
     ⟨(some 10), .mv (.c (.int .i64 0)), none⟩])
   (.seq
    (.seq
     (.reg none [⟨(some 13), .mv (.t 0), none⟩,
       ⟨(some 14), .mv (.t 1), none⟩,
       ⟨(some 15), .call 57 [(.t 13), (.t 14)], none⟩,
       ⟨(some 16), .un .not (.t 15), none⟩,
       ⟨(some 17), .mv (.t 16), none⟩,
       ⟨(some 18), .mv (.t 0), some (17, false)⟩,
       ⟨(some 19), .mv (.t 2), some (17, false)⟩,
       ⟨(some 20), .call 55 [(.t 18), (.t 19)], some (17, false)⟩,
       ⟨(some 21), .un .not (.t 20), some (17, false)⟩,
       ⟨(some 22), .pick (.t 17) (.c (.b true)) (.t 21), none⟩,
       ⟨(some 23), .mv (.t 22), none⟩,
       ⟨(some 24), .mv (.t 0), some (23, false)⟩,
       ⟨(some 25), .mv (.t 3), some (23, false)⟩,
       ⟨(some 26), .call 55 [(.t 24), (.t 25)], some (23, false)⟩,
       ⟨(some 27), .un .not (.t 26), some (23, false)⟩,
       ⟨(some 28), .pick (.t 23) (.c (.b true)) (.t 27), none⟩,
       ⟨(some 29), .mv (.t 28), none⟩,
       ⟨(some 30), .mv (.t 2), some (29, false)⟩,
       ⟨(some 31), .mv (.t 3), some (29, false)⟩,
       ⟨(some 32), .bin .and (.t 30) (.t 31), some (29, false)⟩,
       ⟨(some 33), .bin .neq (.t 32) (.c (.int .i64 0)), some (29, false)⟩,
       ⟨(some 34), .pick (.t 29) (.c (.b true)) (.t 33), none⟩])
     (.cond (.t 34)
      (.seq
       (.reg none [⟨(some 8), .mv (.c (.int .i64 0)), none⟩,
         ⟨(some 9), .mv (.c (.int .i64 0)), none⟩,
         ⟨(some 10), .mv (.c (.int .i64 2)), none⟩])
       .ret)
      .skip))
    (.seq
     (.reg none [⟨(some 36), .mv (.t 0), none⟩,
       ⟨(some 37), .mv (.t 1), none⟩,
       ⟨(some 38), .mv (.t 2), none⟩,
       ⟨(some 39), .mv (.t 3), none⟩,
       ⟨(some 40), .build [(.int .i64 0), (.int .i64 0)] [(0, 1, (.t 38)), (1, 1, (.t 39))], none⟩,
       ⟨(some 41), .call 61 [(.t 36), (.t 37), (.t 40)], none⟩,
       ⟨(some 35), .mv (.t 41), none⟩,
       ⟨(some 42), .extr (.t 35) 0, none⟩,
       ⟨(some 43), .extr (.t 35) 1, none⟩,
       ⟨(some 11), .alloc [(.int .i64 0), (.int .i64 0)], none⟩,
       ⟨none, .store 2 (.t 11) (.t 42), none⟩,
       ⟨(some 12), .mv (.t 43), none⟩])
     (.seq
      (.seq
       (.reg none [⟨(some 44), .mv (.t 12), none⟩,
         ⟨(some 45), .un .not (.t 44), none⟩])
       (.cond (.t 45)
        (.seq
         (.reg none [⟨(some 8), .mv (.c (.int .i64 0)), none⟩,
           ⟨(some 9), .mv (.c (.int .i64 0)), none⟩,
           ⟨(some 10), .mv (.c (.int .i64 4)), none⟩])
         .ret)
        .skip))
      (.seq
       (.reg (some []) [⟨(some 46), .faddr 0 (.t 11), none⟩,
         ⟨(some 47), .load none (.t 46), none⟩,
         ⟨(some 48), .faddr 1 (.t 11), none⟩,
         ⟨(some 49), .load none (.t 48), none⟩,
         ⟨(some 8), .mv (.t 47), none⟩,
         ⟨(some 9), .mv (.t 49), none⟩,
         ⟨(some 10), .mv (.c (.int .i64 0)), none⟩])
       .ret))))) }
theorem f26P : prepF C Tryd.f26 = some f26A := by kernel_rfl

/-- slices.Clone[[]int,int] -/
def f33A : AFunc :=
{ nargs := 1, res := [.t 2], body :=
  (.seq
   (.reg none [⟨(some 2), .mv (.c .nils), none⟩])
   (.seq
    (.seq
     (.reg none [⟨(some 3), .mv (.t 0), none⟩,
       ⟨(some 4), .seq false (.t 3) (.c .nils), none⟩])
     (.cond (.t 4)
      (.seq
       (.reg none [⟨(some 2), .mv (.c .nils), none⟩])
       .ret)
      .skip))
    (.seq
     (.reg none [⟨(some 5), .bslice [(.int .i64 0)] 0 1 [], none⟩,
       ⟨(some 6), .mv (.t 0), none⟩,
       ⟨(some 7), .append 1 8 (.t 5) (.t 6), none⟩,
       ⟨(some 2), .mv (.t 7), none⟩])
     .ret))) }
theorem f33P : prepF C Tryd.f33 = some f33A := by kernel_rfl

/-- congou/squares.isSet -/
def f55A : AFunc :=
{ nargs := 2, res := [.t 4], body :=
  (.seq
   (.reg none [⟨(some 4), .mv (.c (.b false)), none⟩])
   (.seq
    (.reg none [⟨(some 5), .mv (.t 0), none⟩,
      ⟨(some 6), .call 86 [(.t 5)], none⟩,
      ⟨(some 7), .mv (.t 6), none⟩,
      ⟨(some 8), .mv (.t 1), some (7, true)⟩,
      ⟨(some 9), .bin .geq (.t 8) (.c (.int .i64 0)), some (7, true)⟩,
      ⟨(some 10), .pick (.t 7) (.t 9) (.c (.b false)), none⟩,
      ⟨(some 11), .mv (.t 10), none⟩,
      ⟨(some 12), .mv (.t 1), some (11, true)⟩,
      ⟨(some 13), .mv (.t 0), some (11, true)⟩,
      ⟨(some 14), .bin .shl (.c (.int .i64 1)) (.t 13), some (11, true)⟩,
      ⟨(some 15), .bin .lss (.t 12) (.t 14), some (11, true)⟩,
      ⟨(some 16), .pick (.t 11) (.t 15) (.c (.b false)), none⟩,
      ⟨(some 4), .mv (.t 16), none⟩])
    .ret)) }
theorem f55P : prepF C Tryd.f55 = some f55A := by kernel_rfl

/-- congou/squares.blocks -/
def f56A : AFunc :=
{ nargs := 1, res := [.t 2], body :=
  (.seq
   (.reg none [⟨(some 2), .mv (.c .nils), none⟩])
   (.seq
    (.reg none [⟨(some 3), .mv (.c .nils), none⟩])
    (.seq
     (.seq
      (.reg none [⟨(some 6), .mv (.t 0), none⟩,
        ⟨(some 7), .conv .u64 (.t 6), none⟩,
        ⟨(some 4), .mv (.t 7), none⟩])
      (.block 0
       (.loop
        (.seq
         (.seq
          (.reg none [⟨(some 8), .mv (.t 4), none⟩,
            ⟨(some 9), .bin .neq (.t 8) (.c (.int .u64 0)), none⟩])
          (.cond (.t 9)
           .skip
           (.exit 0)))
         (.block 1
          (.seq
           (.reg none [⟨(some 10), .mv (.t 4), none⟩,
             ⟨(some 11), .mv (.t 4), none⟩,
             ⟨(some 12), .call 87 [(.t 11)], none⟩,
             ⟨(some 13), .bin .shr (.t 10) (.t 12), none⟩,
             ⟨(some 4), .mv (.t 13), none⟩])
           (.seq
            (.reg none [⟨(some 14), .mv (.t 4), none⟩,
              ⟨(some 15), .un .xor (.t 14), none⟩,
              ⟨(some 16), .call 87 [(.t 15)], none⟩,
              ⟨(some 5), .mv (.t 16), none⟩])
            (.seq
             (.reg none [⟨(some 17), .mv (.t 3), none⟩,
               ⟨(some 18), .mv (.t 5), none⟩,
               ⟨(some 19), .bslice [(.int .i64 0)] 1 1 [(0, (.t 18))], none⟩,
               ⟨(some 20), .append 1 8 (.t 17) (.t 19), none⟩,
               ⟨(some 3), .mv (.t 20), none⟩])
             (.reg none [⟨(some 21), .mv (.t 4), none⟩,
               ⟨(some 22), .mv (.t 5), none⟩,
               ⟨(some 23), .bin .shr (.t 21) (.t 22), none⟩,
               ⟨(some 4), .mv (.t 23), none⟩])))))))))
     (.seq
      (.reg none [⟨(some 24), .mv (.t 3), none⟩,
        ⟨(some 2), .mv (.t 24), none⟩])
      .ret)))) }
theorem f56P : prepF C Tryd.f56 = some f56A := by kernel_rfl

/-- congou/squares.isClue -/
def f57A : AFunc :=
{ nargs := 2, res := [.t 4], body :=
  (.seq
   (.reg none [⟨(some 4), .mv (.c (.b false)), none⟩])
   (.seq
    (.reg none [⟨(some 5), .mv (.t 0), none⟩,
      ⟨(some 6), .call 86 [(.t 5)], none⟩,
      ⟨(some 7), .mv (.t 6), none⟩,
      ⟨(some 8), .mv (.t 0), some (7, true)⟩,
      ⟨(some 9), .mv (.t 1), some (7, true)⟩,
      ⟨(some 10), .call 58 [(.t 8), (.t 9)], some (7, true)⟩,
      ⟨(some 11), .len (.t 10), some (7, true)⟩,
      ⟨(some 12), .bin .gtr (.t 11) (.c (.int .i64 0)), some (7, true)⟩,
      ⟨(some 13), .pick (.t 7) (.t 12) (.c (.b false)), none⟩,
      ⟨(some 4), .mv (.t 13), none⟩])
    .ret)) }
theorem f57P : prepF C Tryd.f57 = some f57A := by kernel_rfl

/-- congou/squares.lines -/
def f58A : AFunc :=
{ nargs := 2, res := [.t 4], body :=
  (.seq
   (.reg none [⟨(some 4), .mv (.c .nils), none⟩])
   (.seq
    (.reg none [⟨(some 5), .mv (.c .nils), none⟩])
    (.seq
     (.seq
      (.reg none [⟨(some 7), .mv (.t 0), none⟩,
        ⟨(some 8), .bin .shl (.c (.int .i64 1)) (.t 7), none⟩,
        ⟨(some 9), .mv (.c (.int .i64 0)), none⟩])
      (.block 0
       (.loop
        (.seq
         (.reg none [⟨(some 10), .bin .lss (.t 9) (.t 8), none⟩])
         (.seq
          (.cond (.t 10)
           .skip
           (.exit 0))
          (.seq
           (.block 1
            (.seq
             (.reg none [⟨(some 11), .mv (.t 9), none⟩,
               ⟨(some 6), .mv (.t 11), none⟩])
             (.seq
              (.reg none [⟨(some 12), .mv (.t 6), none⟩,
                ⟨(some 13), .call 56 [(.t 12)], none⟩,
                ⟨(some 14), .mv (.t 1), none⟩,
                ⟨(some 15), .call 21 [(.t 13), (.t 14)], none⟩])
              (.cond (.t 15)
               (.reg none [⟨(some 16), .mv (.t 5), none⟩,
                 ⟨(some 17), .mv (.t 6), none⟩,
                 ⟨(some 18), .bslice [(.int .i64 0)] 1 1 [(0, (.t 17))], none⟩,
                 ⟨(some 19), .append 1 8 (.t 16) (.t 18), none⟩,
                 ⟨(some 5), .mv (.t 19), none⟩])
               .skip))))
           (.reg none [⟨(some 20), .bin .add (.t 9) (.c (.int .i64 1)), none⟩,
             ⟨(some 9), .mv (.t 20), none⟩])))))))
     (.seq
      (.reg none [⟨(some 21), .mv (.t 5), none⟩,
        ⟨(some 4), .mv (.t 21), none⟩])
      .ret)))) }
theorem f58P : prepF C Tryd.f58 = some f58A := by kernel_rfl

/-- congou/congouref07.Size -/
def f59A : AFunc :=
{ nargs := 1, res := [.t 2], body :=
  (.seq
   (.reg none [⟨(some 2), .mv (.c (.b false)), none⟩])
   (.seq
    (.reg none [⟨(some 3), .mv (.t 0), none⟩,
      ⟨(some 4), .bin .geq (.t 3) (.c (.int .i64 1)), none⟩,
      ⟨(some 5), .mv (.t 4), none⟩,
      ⟨(some 6), .mv (.t 0), some (5, true)⟩,
      ⟨(some 7), .bin .leq (.t 6) (.c (.int .i64 5)), some (5, true)⟩,
      ⟨(some 8), .pick (.t 5) (.t 7) (.c (.b false)), none⟩,
      ⟨(some 2), .mv (.t 8), none⟩])
    .ret)) }
theorem f59P : prepF C Tryd.f59 = some f59A := by kernel_rfl

/-- congou/squares.settle -/
def f61A : AFunc :=
{ nargs := 3, res := [.c 6 (some 2), .t 7], body :=
  (.seq
   (.reg none [⟨(some 5), .box (.t 2), none⟩,
     ⟨(some 6), .alloc [(.int .i64 0), (.int .i64 0)], none⟩,
     ⟨(some 7), .mv (.c (.b false)), none⟩])
   (.seq
    (.reg none [⟨(some 11), .mv (.t 0), none⟩,
      ⟨(some 12), .bin .shl (.c (.int .i64 1)) (.t 11), none⟩,
      ⟨(some 13), .bin .sub (.t 12) (.c (.int .i64 1)), none⟩,
      ⟨(some 8), .mv (.t 13), none⟩])
    (.seq
     (.reg none [⟨(some 14), .mv (.t 8), none⟩,
       ⟨(some 15), .mv (.t 8), none⟩,
       ⟨(some 16), .build [(.int .i64 0), (.int .i64 0)] [(0, 1, (.t 14)), (1, 1, (.t 15))], none⟩,
       ⟨none, .store 2 (.t 6) (.t 16), none⟩])
     (.seq
      (.seq
       (.reg none [⟨(some 17), .mv (.t 0), none⟩,
         ⟨(some 18), .mv (.t 1), none⟩,
         ⟨(some 19), .call 58 [(.t 17), (.t 18)], none⟩,
         ⟨(some 20), .len (.t 19), none⟩,
         ⟨(some 21), .mv (.c (.int .i64 0)), none⟩])
       (.block 0
        (.loop
         (.seq
          (.reg none [⟨(some 22), .bin .lss (.t 21) (.t 20), none⟩])
          (.seq
           (.cond (.t 22)
            .skip
            (.exit 0))
           (.seq
            (.block 1
             (.seq
              (.reg none [⟨(some 23), .iaddr 1 (.t 19) (.t 21), none⟩,
                ⟨(some 24), .load none (.t 23), none⟩,
                ⟨(some 10), .mv (.t 24), none⟩])
              (.seq
               (.reg none [⟨(some 25), .load (some 2) (.t 5), none⟩,
                 ⟨(some 26), .mv (.t 10), none⟩,
                 ⟨(some 27), .call 88 [(.t 25), (.t 26)], none⟩])
               (.cond (.t 27)
                (.seq
                 (.reg none [⟨(some 28), .faddr 0 (.t 6), none⟩,
                   ⟨(some 29), .load none (.t 28), none⟩,
                   ⟨(some 30), .mv (.t 10), none⟩,
                   ⟨(some 31), .bin .and (.t 29) (.t 30), none⟩,
                   ⟨(some 32), .faddr 0 (.t 6), none⟩,
                   ⟨none, .store 1 (.t 32) (.t 31), none⟩])
                 (.seq
                  (.reg none [⟨(some 33), .faddr 1 (.t 6), none⟩,
                    ⟨(some 34), .load none (.t 33), none⟩,
                    ⟨(some 35), .mv (.t 10), none⟩,
                    ⟨(some 36), .bin .andNot (.t 34) (.t 35), none⟩,
                    ⟨(some 37), .faddr 1 (.t 6), none⟩,
                    ⟨none, .store 1 (.t 37) (.t 36), none⟩])
                  (.reg none [⟨(some 7), .mv (.c (.b true)), none⟩])))
                .skip))))
            (.reg none [⟨(some 38), .bin .add (.t 21) (.c (.int .i64 1)), none⟩,
              ⟨(some 21), .mv (.t 38), none⟩])))))))
      (.seq
       (.reg none [⟨(some 39), .load (some 2) (.t 6), none⟩,
         ⟨(some 40), .mv (.t 7), none⟩,
         ⟨none, .store 2 (.t 6) (.t 39), none⟩,
         ⟨(some 7), .mv (.t 40), none⟩])
       .ret))))) }
theorem f61P : prepF C Tryd.f61 = some f61A := by kernel_rfl

/-- congou/squares.isSize -/
def f86A : AFunc :=
{ nargs := 1, res := [.t 2], body :=
  (.seq
   (.reg none [⟨(some 2), .mv (.c (.b false)), none⟩])
   (.seq
    (.reg none [⟨(some 3), .mv (.t 0), none⟩,
      ⟨(some 4), .bin .geq (.t 3) (.c (.int .i64 1)), none⟩,
      ⟨(some 5), .mv (.t 4), none⟩,
      ⟨(some 6), .mv (.t 0), some (5, true)⟩,
      ⟨(some 7), .bin .leq (.t 6) (.c (.int .i64 5)), some (5, true)⟩,
      ⟨(some 8), .pick (.t 5) (.t 7) (.c (.b false)), none⟩,
      ⟨(some 2), .mv (.t 8), none⟩])
    .ret)) }
theorem f86P : prepF C Tryd.f86 = some f86A := by kernel_rfl

/-- math/bits.TrailingZeros -/
def f87A : AFunc :=
{ nargs := 1, res := [.t 2], body :=
  (.seq
   (.reg none [⟨(some 2), .mv (.c (.int .i64 0)), none⟩])
   (.seq
    (.cond (.c (.b false))
     (.seq
      (.reg none [⟨(some 3), .mv (.t 0), none⟩,
        ⟨(some 4), .conv .u32 (.t 3), none⟩,
        ⟨(some 5), .call 108 [(.t 4)], none⟩,
        ⟨(some 2), .mv (.t 5), none⟩])
      .ret)
     .skip)
    (.seq
     (.reg none [⟨(some 6), .mv (.t 0), none⟩,
       ⟨(some 7), .call 109 [(.t 6)], none⟩,
       ⟨(some 2), .mv (.t 7), none⟩])
     .ret))) }
theorem f87P : prepF C Tryd.f87 = some f87A := by kernel_rfl

/-- (congou/squares.known).agrees -/
def f88A : AFunc :=
{ nargs := 2, res := [.t 4], body :=
  (.seq
   (.reg none [⟨(some 2), .box (.t 0), none⟩,
     ⟨(some 4), .mv (.c (.b false)), none⟩])
   (.seq
    (.reg none [⟨(some 5), .mv (.t 1), none⟩,
      ⟨(some 6), .faddr 0 (.t 2), none⟩,
      ⟨(some 7), .load none (.t 6), none⟩,
      ⟨(some 8), .bin .and (.t 5) (.t 7), none⟩,
      ⟨(some 9), .faddr 0 (.t 2), none⟩,
      ⟨(some 10), .load none (.t 9), none⟩,
      ⟨(some 11), .bin .eql (.t 8) (.t 10), none⟩,
      ⟨(some 12), .mv (.t 11), none⟩,
      ⟨(some 13), .mv (.t 1), some (12, true)⟩,
      ⟨(some 14), .faddr 1 (.t 2), some (12, true)⟩,
      ⟨(some 15), .load none (.t 14), some (12, true)⟩,
      ⟨(some 16), .bin .and (.t 13) (.t 15), some (12, true)⟩,
      ⟨(some 17), .bin .eql (.t 16) (.c (.int .i64 0)), some (12, true)⟩,
      ⟨(some 18), .pick (.t 12) (.t 17) (.c (.b false)), none⟩,
      ⟨(some 4), .mv (.t 18), none⟩])
    .ret)) }
theorem f88P : prepF C Tryd.f88 = some f88A := by kernel_rfl

end Go.Proofs.YtjjndoigkhabdaaDoor
