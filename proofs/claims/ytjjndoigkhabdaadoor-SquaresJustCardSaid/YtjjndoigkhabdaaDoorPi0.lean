/- The abstract forms of the functions that are needed, each checked against the translation. No condition. -/
import Derived.Lib.TrailingZeros
import Derived.Test.YtjjndoigkhabdaaDoorAm1
import Derived.Test.YtjjndoigkhabdaaDoorProg
namespace Go.Proofs.YtjjndoigkhabdaaDoor
open Go Go.AM Go.Proofs

/-- the seat's program; the types whose comparison is taken; the functions that may write to what is older -/
def tzP : List AV → Option AV
  | [.int .u64 n] => if 0 ≤ n ∧ n ≤ 18446744073709551615 then some (.i (Lib.ctz 64 n.toNat : Nat)) else none
  | _ => none
def kd : Nat → Kd := fun f => if [69, 73, 78, 79, 83, 98, 101, 104, 105].contains f then .wrt else if [24].contains f then .closed else if f = 87 then .prim tzP else .ro
noncomputable def C : Cfg := { P := Tryd.prog, eqT := fun t => if t == 72 then some 2 else none, kd := kd }
/-- congou/congoulaw07.SquaresJust -/
def f7A : AFunc :=
{ nargs := 3, res := [.t 6], body :=
  (.seq
   (.reg none [⟨(some 6), .mv (.c (.b false)), none⟩])
   (.seq
    (.reg none [⟨(some 16), .mv (.t 0), none⟩,
      ⟨(some 17), .mv (.t 1), none⟩,
      ⟨(some 18), .call 17 [(.t 16), (.t 17)], none⟩,
      ⟨(some 15), .mv (.t 18), none⟩,
      ⟨(some 19), .extr (.t 15) 0, none⟩,
      ⟨(some 20), .extr (.t 15) 1, none⟩,
      ⟨(some 7), .mv (.t 19), none⟩,
      ⟨(some 8), .mv (.t 20), none⟩])
    (.seq
     (.seq
      (.reg none [⟨(some 21), .mv (.t 8), none⟩,
        ⟨(some 22), .bin .neq (.t 21) (.c (.int .i64 0)), none⟩,
        ⟨(some 23), .mv (.t 22), none⟩,
        ⟨(some 24), .mv (.t 0), some (23, false)⟩,
        ⟨(some 25), .mv (.t 1), some (23, false)⟩,
        ⟨(some 26), .call 20 [(.t 24), (.t 25)], some (23, false)⟩,
        ⟨(some 27), .un .not (.t 26), some (23, false)⟩,
        ⟨(some 28), .pick (.t 23) (.c (.b true)) (.t 27), none⟩])
      (.cond (.t 28)
       (.seq
        (.reg none [⟨(some 29), .mv (.t 8), none⟩,
          ⟨(some 30), .bin .eql (.t 29) (.c (.int .i64 2)), none⟩,
          ⟨(some 31), .mv (.t 30), none⟩,
          ⟨(some 32), .call 24 [], some (31, true)⟩,
          ⟨(some 33), .pick (.t 31) (.t 32) (.c (.b false)), none⟩,
          ⟨(some 6), .mv (.t 33), none⟩])
        .ret)
       .skip))
     (.seq
      (.reg none [⟨(some 35), .mv (.t 0), none⟩,
        ⟨(some 36), .mv (.t 7), none⟩,
        ⟨(some 37), .call 33 [(.t 36)], none⟩,
        ⟨(some 38), .call 18 [(.t 35), (.t 37)], none⟩,
        ⟨(some 34), .mv (.t 38), none⟩,
        ⟨(some 39), .extr (.t 34) 0, none⟩,
        ⟨(some 40), .extr (.t 34) 1, none⟩,
        ⟨(some 9), .mv (.t 39), none⟩,
        ⟨(some 8), .mv (.t 40), none⟩])
      (.seq
       (.seq
        (.reg none [⟨(some 41), .mv (.t 8), none⟩,
          ⟨(some 42), .bin .neq (.t 41) (.c (.int .i64 0)), none⟩,
          ⟨(some 43), .mv (.t 42), none⟩,
          ⟨(some 44), .mv (.t 9), some (43, false)⟩,
          ⟨(some 45), .mv (.t 1), some (43, false)⟩,
          ⟨(some 46), .call 34 [(.t 44), (.t 45)], some (43, false)⟩,
          ⟨(some 47), .un .not (.t 46), some (43, false)⟩,
          ⟨(some 48), .pick (.t 43) (.c (.b true)) (.t 47), none⟩,
          ⟨(some 49), .mv (.t 48), none⟩,
          ⟨(some 50), .mv (.t 9), some (49, false)⟩,
          ⟨(some 51), .call 35 [(.t 50)], some (49, false)⟩,
          ⟨(some 52), .un .not (.t 51), some (49, false)⟩,
          ⟨(some 53), .pick (.t 49) (.c (.b true)) (.t 52), none⟩])
        (.cond (.t 53)
         (.seq
          (.reg none [⟨(some 6), .mv (.c (.b false)), none⟩])
          .ret)
         .skip))
       (.seq
        (.seq
         (.reg none [⟨(some 54), .mv (.t 9), none⟩,
           ⟨(some 55), .len (.t 54), none⟩,
           ⟨(some 56), .mv (.c (.int .i64 0)), none⟩])
         (.block 0
          (.loop
           (.seq
            (.reg none [⟨(some 57), .bin .lss (.t 56) (.t 55), none⟩])
            (.seq
             (.cond (.t 57)
              .skip
              (.exit 0))
             (.seq
              (.block 1
               (.seq
                (.reg none [⟨(some 58), .mv (.t 56), none⟩,
                  ⟨(some 59), .iaddr 1 (.t 54) (.t 56), none⟩,
                  ⟨(some 60), .load none (.t 59), none⟩,
                  ⟨(some 10), .mv (.t 58), none⟩,
                  ⟨(some 11), .mv (.t 60), none⟩])
                (.seq
                 (.reg none [⟨(some 62), .mv (.t 0), none⟩,
                   ⟨(some 63), .mv (.t 11), none⟩,
                   ⟨(some 64), .call 17 [(.t 62), (.t 63)], none⟩,
                   ⟨(some 61), .mv (.t 64), none⟩,
                   ⟨(some 65), .extr (.t 61) 0, none⟩,
                   ⟨(some 66), .extr (.t 61) 1, none⟩,
                   ⟨(some 12), .mv (.t 65), none⟩,
                   ⟨(some 13), .mv (.t 66), none⟩])
                 (.seq
                  (.reg none [⟨(some 67), .mv (.t 13), none⟩,
                    ⟨(some 68), .bin .neq (.t 67) (.c (.int .i64 0)), none⟩,
                    ⟨(some 69), .mv (.t 68), none⟩,
                    ⟨(some 70), .mv (.t 7), some (69, false)⟩,
                    ⟨(some 71), .mv (.t 12), some (69, false)⟩,
                    ⟨(some 72), .call 21 [(.t 70), (.t 71)], some (69, false)⟩,
                    ⟨(some 73), .un .not (.t 72), some (69, false)⟩,
                    ⟨(some 74), .pick (.t 69) (.c (.b true)) (.t 73), none⟩,
                    ⟨(some 75), .mv (.t 74), none⟩,
                    ⟨(some 76), .mv (.t 10), some (75, false)⟩,
                    ⟨(some 77), .bin .gtr (.t 76) (.c (.int .i64 0)), some (75, false)⟩,
                    ⟨(some 78), .mv (.t 77), some (75, false)⟩,
                    ⟨(some 79), .mv (.t 9), some (78, true)⟩,
                    ⟨(some 80), .mv (.t 10), some (78, true)⟩,
                    ⟨(some 81), .bin .sub (.t 80) (.c (.int .i64 1)), some (78, true)⟩,
                    ⟨(some 82), .iaddr 1 (.t 79) (.t 81), some (78, true)⟩,
                    ⟨(some 83), .load none (.t 82), some (78, true)⟩,
                    ⟨(some 84), .mv (.t 11), some (78, true)⟩,
                    ⟨(some 85), .bin .eql (.t 83) (.t 84), some (78, true)⟩,
                    ⟨(some 86), .pick (.t 78) (.t 85) (.c (.b false)), some (75, false)⟩,
                    ⟨(some 87), .pick (.t 75) (.c (.b true)) (.t 86), none⟩])
                  (.cond (.t 87)
                   (.seq
                    (.reg none [⟨(some 6), .mv (.c (.b false)), none⟩])
                    .ret)
                   .skip)))))
              (.reg none [⟨(some 88), .bin .add (.t 56) (.c (.int .i64 1)), none⟩,
                ⟨(some 56), .mv (.t 88), none⟩])))))))
        (.seq
         (.reg none [⟨(some 90), .mv (.t 0), none⟩,
           ⟨(some 91), .mv (.t 2), none⟩,
           ⟨(some 92), .call 19 [(.t 91)], none⟩,
           ⟨(some 93), .call 18 [(.t 90), (.t 92)], none⟩,
           ⟨(some 89), .mv (.t 93), none⟩,
           ⟨(some 94), .extr (.t 89) 0, none⟩,
           ⟨(some 95), .extr (.t 89) 1, none⟩,
           ⟨(some 14), .mv (.t 94), none⟩,
           ⟨(some 8), .mv (.t 95), none⟩])
         (.seq
          (.seq
           (.reg none [⟨(some 96), .mv (.t 8), none⟩,
             ⟨(some 97), .bin .neq (.t 96) (.c (.int .i64 0)), none⟩])
           (.cond (.t 97)
            (.seq
             (.reg none [⟨(some 98), .mv (.t 8), none⟩,
               ⟨(some 99), .bin .eql (.t 98) (.c (.int .i64 2)), none⟩,
               ⟨(some 100), .mv (.t 99), none⟩,
               ⟨(some 101), .call 24 [], some (100, true)⟩,
               ⟨(some 102), .pick (.t 100) (.t 101) (.c (.b false)), none⟩,
               ⟨(some 6), .mv (.t 102), none⟩])
             .ret)
            .skip))
          (.seq
           (.reg none [⟨(some 103), .mv (.t 14), none⟩,
             ⟨(some 104), .mv (.t 1), none⟩,
             ⟨(some 105), .call 34 [(.t 103), (.t 104)], none⟩,
             ⟨(some 106), .mv (.t 7), none⟩,
             ⟨(some 107), .mv (.t 2), none⟩,
             ⟨(some 108), .call 21 [(.t 106), (.t 107)], none⟩,
             ⟨(some 109), .beq false (.t 105) (.t 108), none⟩,
             ⟨(some 110), .mv (.t 109), none⟩,
             ⟨(some 111), .call 24 [], some (110, true)⟩,
             ⟨(some 112), .pick (.t 110) (.t 111) (.c (.b false)), none⟩,
             ⟨(some 6), .mv (.t 112), none⟩])
           .ret))))))))) }
theorem f7P : prepF C Tryd.f7 = some f7A := by kernel_rfl

/-- congou/squares.Blocks -/
def f17A : AFunc :=
{ nargs := 2, res := [.t 4, .t 5], body :=
  (.seq
   (.reg none [⟨(some 4), .mv (.c .nils), none⟩,
     ⟨(some 5), .mv (.c (.int .i64 0)), none⟩])
   (.seq
    (.seq
     (.reg none [⟨(some 6), .mv (.t 0), none⟩,
       ⟨(some 7), .mv (.t 1), none⟩,
       ⟨(some 8), .call 55 [(.t 6), (.t 7)], none⟩,
       ⟨(some 9), .un .not (.t 8), none⟩])
     (.cond (.t 9)
      (.seq
       (.reg none [⟨(some 4), .mv (.c .nils), none⟩,
         ⟨(some 5), .mv (.c (.int .i64 2)), none⟩])
       .ret)
      .skip))
    (.seq
     (.reg none [⟨(some 10), .mv (.t 1), none⟩,
       ⟨(some 11), .call 56 [(.t 10)], none⟩,
       ⟨(some 4), .mv (.t 11), none⟩,
       ⟨(some 5), .mv (.c (.int .i64 0)), none⟩])
     .ret))) }
theorem f17P : prepF C Tryd.f17 = some f17A := by kernel_rfl

/-- congou/squares.Lines -/
def f18A : AFunc :=
{ nargs := 2, res := [.t 4, .t 5], body :=
  (.seq
   (.reg none [⟨(some 4), .mv (.c .nils), none⟩,
     ⟨(some 5), .mv (.c (.int .i64 0)), none⟩])
   (.seq
    (.seq
     (.reg none [⟨(some 6), .mv (.t 0), none⟩,
       ⟨(some 7), .mv (.t 1), none⟩,
       ⟨(some 8), .call 57 [(.t 6), (.t 7)], none⟩,
       ⟨(some 9), .un .not (.t 8), none⟩])
     (.cond (.t 9)
      (.seq
       (.reg none [⟨(some 4), .mv (.c .nils), none⟩,
         ⟨(some 5), .mv (.c (.int .i64 2)), none⟩])
       .ret)
      .skip))
    (.seq
     (.reg none [⟨(some 10), .mv (.t 0), none⟩,
       ⟨(some 11), .mv (.t 1), none⟩,
       ⟨(some 12), .call 58 [(.t 10), (.t 11)], none⟩,
       ⟨(some 4), .mv (.t 12), none⟩,
       ⟨(some 5), .mv (.c (.int .i64 0)), none⟩])
     .ret))) }
theorem f18P : prepF C Tryd.f18 = some f18A := by kernel_rfl

/-- congou/congoulaw07.list -/
def f19A : AFunc :=
{ nargs := 1, res := [.t 2], body :=
  (.seq
   (.reg none [⟨(some 2), .mv (.c .nils), none⟩])
   (.seq
    (.reg none [⟨(some 3), .mv (.t 0), none⟩,
      ⟨(some 4), .mv (.t 0), none⟩,
      ⟨(some 5), .len (.t 4), none⟩,
      ⟨(some 6), .mn [(.t 5), (.c (.int .i64 8))], none⟩,
      ⟨(some 7), .slice 1 (.t 3) none (some (.t 6)) none, none⟩,
      ⟨(some 8), .call 33 [(.t 7)], none⟩,
      ⟨(some 2), .mv (.t 8), none⟩])
    .ret)) }
theorem f19P : prepF C Tryd.f19 = some f19A := by kernel_rfl

/-- congou/congouref07.Set -/
def f20A : AFunc :=
{ nargs := 2, res := [.t 4], body :=
  (.seq
   (.reg none [⟨(some 4), .mv (.c (.b false)), none⟩])
   (.seq
    (.reg none [⟨(some 5), .mv (.t 0), none⟩,
      ⟨(some 6), .call 59 [(.t 5)], none⟩,
      ⟨(some 7), .mv (.t 6), none⟩,
      ⟨(some 8), .mv (.t 1), some (7, true)⟩,
      ⟨(some 9), .bin .geq (.t 8) (.c (.int .i64 0)), some (7, true)⟩,
      ⟨(some 10), .pick (.t 7) (.t 9) (.c (.b false)), none⟩,
      ⟨(some 11), .mv (.t 10), none⟩,
      ⟨(some 12), .mv (.t 1), some (11, true)⟩,
      ⟨(some 13), .mv (.t 0), some (11, true)⟩,
      ⟨(some 14), .bin .shl (.c (.int .i64 1)) (.t 13), some (11, true)⟩,
      ⟨(some 15), .bin .lss (.t 12) (.t 14), some (11, true)⟩,
      ⟨(some 16), .pick (.t 11) (.t 15) (.c (.b false)), none⟩,
      ⟨(some 4), .mv (.t 16), none⟩])
    .ret)) }
theorem f20P : prepF C Tryd.f20 = some f20A := by kernel_rfl

/-- slices.Equal[[]int,int] -/
def f21A : AFunc :=
{ nargs := 2, res := [.t 4], body :=
  (.seq
   (.reg none [⟨(some 4), .mv (.c (.b false)), none⟩])
   (.seq
    (.seq
     (.reg none [⟨(some 6), .mv (.t 0), none⟩,
       ⟨(some 7), .len (.t 6), none⟩,
       ⟨(some 8), .mv (.t 1), none⟩,
       ⟨(some 9), .len (.t 8), none⟩,
       ⟨(some 10), .bin .neq (.t 7) (.t 9), none⟩])
     (.cond (.t 10)
      (.seq
       (.reg none [⟨(some 4), .mv (.c (.b false)), none⟩])
       .ret)
      .skip))
    (.seq
     (.seq
      (.reg none [⟨(some 11), .mv (.t 0), none⟩,
        ⟨(some 12), .len (.t 11), none⟩,
        ⟨(some 13), .mv (.c (.int .i64 0)), none⟩])
      (.block 0
       (.loop
        (.seq
         (.reg none [⟨(some 14), .bin .lss (.t 13) (.t 12), none⟩])
         (.seq
          (.cond (.t 14)
           .skip
           (.exit 0))
          (.seq
           (.block 1
            (.seq
             (.reg none [⟨(some 15), .mv (.t 13), none⟩,
               ⟨(some 5), .mv (.t 15), none⟩])
             (.seq
              (.reg (some []) [⟨(some 16), .mv (.t 0), none⟩,
                ⟨(some 17), .mv (.t 5), none⟩,
                ⟨(some 18), .iaddr 1 (.t 16) (.t 17), none⟩,
                ⟨(some 19), .load none (.t 18), none⟩,
                ⟨(some 20), .mv (.t 1), none⟩,
                ⟨(some 21), .mv (.t 5), none⟩,
                ⟨(some 22), .iaddr 1 (.t 20) (.t 21), none⟩,
                ⟨(some 23), .load none (.t 22), none⟩,
                ⟨(some 24), .bin .neq (.t 19) (.t 23), none⟩])
              (.cond (.t 24)
               (.seq
                (.reg none [⟨(some 4), .mv (.c (.b false)), none⟩])
                .ret)
               .skip))))
           (.reg none [⟨(some 25), .bin .add (.t 13) (.c (.int .i64 1)), none⟩,
             ⟨(some 13), .mv (.t 25), none⟩])))))))
     (.seq
      (.reg none [⟨(some 4), .mv (.c (.b true)), none⟩])
      .ret)))) }
theorem f21P : prepF C Tryd.f21 = some f21A := by kernel_rfl

/-- congou/congoulaw07.awake -/
def f24A : AFunc :=
{ nargs := 0, res := [.t 0], body :=
  (.seq
   (.reg none [⟨(some 0), .mv (.c (.b false)), none⟩])
   (.seq
    (.reg none [⟨(some 4), .call 17 [(.c (.int .i64 5)), (.c (.int .i64 23))], none⟩,
      ⟨(some 3), .mv (.t 4), none⟩,
      ⟨(some 5), .extr (.t 3) 0, none⟩,
      ⟨(some 6), .extr (.t 3) 1, none⟩,
      ⟨(some 1), .mv (.t 5), none⟩,
      ⟨(some 2), .mv (.t 6), none⟩])
    (.seq
     (.reg none [⟨(some 7), .mv (.t 2), none⟩,
       ⟨(some 8), .bin .eql (.t 7) (.c (.int .i64 0)), none⟩,
       ⟨(some 9), .mv (.t 8), none⟩,
       ⟨(some 10), .mv (.t 1), some (9, true)⟩,
       ⟨(some 11), .bslice [(.int .i64 0)] 2 1 [(0, (.c (.int .i64 3))), (1, (.c (.int .i64 1)))], some (9, true)⟩,
       ⟨(some 12), .call 21 [(.t 10), (.t 11)], some (9, true)⟩,
       ⟨(some 13), .pick (.t 9) (.t 12) (.c (.b false)), none⟩,
       ⟨(some 0), .mv (.t 13), none⟩])
     .ret))) }
theorem f24P : prepF C Tryd.f24 = some f24A := by kernel_rfl

/-- slices.Clone[[]int,int] -/
def f33A : AFunc :=
{ nargs := 1, res := [.t 2], body :=
  (.seq
   (.reg none [⟨(some 2), .mv (.c .nils), none⟩])
   (.seq
    (.seq
     (.reg none [⟨(some 3), .mv (.t 0), none⟩,
       ⟨(some 4), .seq false (.t 3) (.c .nils), none⟩])
     (.cond (.t 4)
      (.seq
       (.reg none [⟨(some 2), .mv (.c .nils), none⟩])
       .ret)
      .skip))
    (.seq
     (.reg none [⟨(some 5), .bslice [(.int .i64 0)] 0 1 [], none⟩,
       ⟨(some 6), .mv (.t 0), none⟩,
       ⟨(some 7), .append 1 8 (.t 5) (.t 6), none⟩,
       ⟨(some 2), .mv (.t 7), none⟩])
     .ret))) }
theorem f33P : prepF C Tryd.f33 = some f33A := by kernel_rfl

/-- slices.Contains[[]int,int] -/
def f34A : AFunc :=
{ nargs := 2, res := [.t 4], body :=
  (.seq
   (.reg none [⟨(some 4), .mv (.c (.b false)), none⟩])
   (.seq
    (.reg none [⟨(some 5), .mv (.t 0), none⟩,
      ⟨(some 6), .mv (.t 1), none⟩,
      ⟨(some 7), .call 65 [(.t 5), (.t 6)], none⟩,
      ⟨(some 8), .bin .geq (.t 7) (.c (.int .i64 0)), none⟩,
      ⟨(some 4), .mv (.t 8), none⟩])
    .ret)) }
theorem f34P : prepF C Tryd.f34 = some f34A := by kernel_rfl

/-- slices.IsSorted[[]int,int] -/
def f35A : AFunc :=
{ nargs := 1, res := [.t 2], body :=
  (.seq
   (.reg none [⟨(some 2), .mv (.c (.b false)), none⟩])
   (.seq
    (.seq
     (.reg none [⟨(some 4), .mv (.t 0), none⟩,
       ⟨(some 5), .len (.t 4), none⟩,
       ⟨(some 6), .bin .sub (.t 5) (.c (.int .i64 1)), none⟩,
       ⟨(some 3), .mv (.t 6), none⟩])
     (.block 0
      (.loop
       (.seq
        (.seq
         (.reg none [⟨(some 7), .mv (.t 3), none⟩,
           ⟨(some 8), .bin .gtr (.t 7) (.c (.int .i64 0)), none⟩])
         (.cond (.t 8)
          .skip
          (.exit 0)))
        (.seq
         (.block 1
          (.seq
           (.reg (some []) [⟨(some 11), .mv (.t 0), none⟩,
             ⟨(some 12), .mv (.t 3), none⟩,
             ⟨(some 13), .iaddr 1 (.t 11) (.t 12), none⟩,
             ⟨(some 14), .load none (.t 13), none⟩,
             ⟨(some 15), .mv (.t 0), none⟩,
             ⟨(some 16), .mv (.t 3), none⟩,
             ⟨(some 17), .bin .sub (.t 16) (.c (.int .i64 1)), none⟩,
             ⟨(some 18), .iaddr 1 (.t 15) (.t 17), none⟩,
             ⟨(some 19), .load none (.t 18), none⟩,
             ⟨(some 20), .call 66 [(.t 14), (.t 19)], none⟩])
           (.cond (.t 20)
            (.seq
             (.reg none [⟨(some 2), .mv (.c (.b false)), none⟩])
             .ret)
            .skip)))
         (.reg none [⟨(some 9), .mv (.t 3), none⟩,
           ⟨(some 10), .bin .sub (.t 9) (.c (.int .i64 1)), none⟩,
           ⟨(some 3), .mv (.t 10), none⟩]))))))
    (.seq
     (.reg none [⟨(some 2), .mv (.c (.b true)), none⟩])
     .ret))) }
theorem f35P : prepF C Tryd.f35 = some f35A := by kernel_rfl

/-- congou/squares.isSet -/
def f55A : AFunc :=
{ nargs := 2, res := [.t 4], body :=
  (.seq
   (.reg none [⟨(some 4), .mv (.c (.b false)), none⟩])
   (.seq
    (.reg none [⟨(some 5), .mv (.t 0), none⟩,
      ⟨(some 6), .call 86 [(.t 5)], none⟩,
      ⟨(some 7), .mv (.t 6), none⟩,
      ⟨(some 8), .mv (.t 1), some (7, true)⟩,
      ⟨(some 9), .bin .geq (.t 8) (.c (.int .i64 0)), some (7, true)⟩,
      ⟨(some 10), .pick (.t 7) (.t 9) (.c (.b false)), none⟩,
      ⟨(some 11), .mv (.t 10), none⟩,
      ⟨(some 12), .mv (.t 1), some (11, true)⟩,
      ⟨(some 13), .mv (.t 0), some (11, true)⟩,
      ⟨(some 14), .bin .shl (.c (.int .i64 1)) (.t 13), some (11, true)⟩,
      ⟨(some 15), .bin .lss (.t 12) (.t 14), some (11, true)⟩,
      ⟨(some 16), .pick (.t 11) (.t 15) (.c (.b false)), none⟩,
      ⟨(some 4), .mv (.t 16), none⟩])
    .ret)) }
theorem f55P : prepF C Tryd.f55 = some f55A := by kernel_rfl

/-- congou/squares.blocks -/
def f56A : AFunc :=
{ nargs := 1, res := [.t 2], body :=
  (.seq
   (.reg none [⟨(some 2), .mv (.c .nils), none⟩])
   (.seq
    (.reg none [⟨(some 3), .mv (.c .nils), none⟩])
    (.seq
     (.seq
      (.reg none [⟨(some 6), .mv (.t 0), none⟩,
        ⟨(some 7), .conv .u64 (.t 6), none⟩,
        ⟨(some 4), .mv (.t 7), none⟩])
      (.block 0
       (.loop
        (.seq
         (.seq
          (.reg none [⟨(some 8), .mv (.t 4), none⟩,
            ⟨(some 9), .bin .neq (.t 8) (.c (.int .u64 0)), none⟩])
          (.cond (.t 9)
           .skip
           (.exit 0)))
         (.block 1
          (.seq
           (.reg none [⟨(some 10), .mv (.t 4), none⟩,
             ⟨(some 11), .mv (.t 4), none⟩,
             ⟨(some 12), .call 87 [(.t 11)], none⟩,
             ⟨(some 13), .bin .shr (.t 10) (.t 12), none⟩,
             ⟨(some 4), .mv (.t 13), none⟩])
           (.seq
            (.reg none [⟨(some 14), .mv (.t 4), none⟩,
              ⟨(some 15), .un .xor (.t 14), none⟩,
              ⟨(some 16), .call 87 [(.t 15)], none⟩,
              ⟨(some 5), .mv (.t 16), none⟩])
            (.seq
             (.reg none [⟨(some 17), .mv (.t 3), none⟩,
               ⟨(some 18), .mv (.t 5), none⟩,
               ⟨(some 19), .bslice [(.int .i64 0)] 1 1 [(0, (.t 18))], none⟩,
               ⟨(some 20), .append 1 8 (.t 17) (.t 19), none⟩,
               ⟨(some 3), .mv (.t 20), none⟩])
             (.reg none [⟨(some 21), .mv (.t 4), none⟩,
               ⟨(some 22), .mv (.t 5), none⟩,
               ⟨(some 23), .bin .shr (.t 21) (.t 22), none⟩,
               ⟨(some 4), .mv (.t 23), none⟩])))))))))
     (.seq
      (.reg none [⟨(some 24), .mv (.t 3), none⟩,
        ⟨(some 2), .mv (.t 24), none⟩])
      .ret)))) }
theorem f56P : prepF C Tryd.f56 = some f56A := by kernel_rfl

/-- congou/squares.isClue -/
def f57A : AFunc :=
{ nargs := 2, res := [.t 4], body :=
  (.seq
   (.reg none [⟨(some 4), .mv (.c (.b false)), none⟩])
   (.seq
    (.reg none [⟨(some 5), .mv (.t 0), none⟩,
      ⟨(some 6), .call 86 [(.t 5)], none⟩,
      ⟨(some 7), .mv (.t 6), none⟩,
      ⟨(some 8), .mv (.t 0), some (7, true)⟩,
      ⟨(some 9), .mv (.t 1), some (7, true)⟩,
      ⟨(some 10), .call 58 [(.t 8), (.t 9)], some (7, true)⟩,
      ⟨(some 11), .len (.t 10), some (7, true)⟩,
      ⟨(some 12), .bin .gtr (.t 11) (.c (.int .i64 0)), some (7, true)⟩,
      ⟨(some 13), .pick (.t 7) (.t 12) (.c (.b false)), none⟩,
      ⟨(some 4), .mv (.t 13), none⟩])
    .ret)) }
theorem f57P : prepF C Tryd.f57 = some f57A := by kernel_rfl

/-- congou/squares.lines -/
def f58A : AFunc :=
{ nargs := 2, res := [.t 4], body :=
  (.seq
   (.reg none [⟨(some 4), .mv (.c .nils), none⟩])
   (.seq
    (.reg none [⟨(some 5), .mv (.c .nils), none⟩])
    (.seq
     (.seq
      (.reg none [⟨(some 7), .mv (.t 0), none⟩,
        ⟨(some 8), .bin .shl (.c (.int .i64 1)) (.t 7), none⟩,
        ⟨(some 9), .mv (.c (.int .i64 0)), none⟩])
      (.block 0
       (.loop
        (.seq
         (.reg none [⟨(some 10), .bin .lss (.t 9) (.t 8), none⟩])
         (.seq
          (.cond (.t 10)
           .skip
           (.exit 0))
          (.seq
           (.block 1
            (.seq
             (.reg none [⟨(some 11), .mv (.t 9), none⟩,
               ⟨(some 6), .mv (.t 11), none⟩])
             (.seq
              (.reg none [⟨(some 12), .mv (.t 6), none⟩,
                ⟨(some 13), .call 56 [(.t 12)], none⟩,
                ⟨(some 14), .mv (.t 1), none⟩,
                ⟨(some 15), .call 21 [(.t 13), (.t 14)], none⟩])
              (.cond (.t 15)
               (.reg none [⟨(some 16), .mv (.t 5), none⟩,
                 ⟨(some 17), .mv (.t 6), none⟩,
                 ⟨(some 18), .bslice [(.int .i64 0)] 1 1 [(0, (.t 17))], none⟩,
                 ⟨(some 19), .append 1 8 (.t 16) (.t 18), none⟩,
                 ⟨(some 5), .mv (.t 19), none⟩])
               .skip))))
           (.reg none [⟨(some 20), .bin .add (.t 9) (.c (.int .i64 1)), none⟩,
             ⟨(some 9), .mv (.t 20), none⟩])))))))
     (.seq
      (.reg none [⟨(some 21), .mv (.t 5), none⟩,
        ⟨(some 4), .mv (.t 21), none⟩])
      .ret)))) }
theorem f58P : prepF C Tryd.f58 = some f58A := by kernel_rfl

/-- congou/congouref07.Size -/
def f59A : AFunc :=
{ nargs := 1, res := [.t 2], body :=
  (.seq
   (.reg none [⟨(some 2), .mv (.c (.b false)), none⟩])
   (.seq
    (.reg none [⟨(some 3), .mv (.t 0), none⟩,
      ⟨(some 4), .bin .geq (.t 3) (.c (.int .i64 1)), none⟩,
      ⟨(some 5), .mv (.t 4), none⟩,
      ⟨(some 6), .mv (.t 0), some (5, true)⟩,
      ⟨(some 7), .bin .leq (.t 6) (.c (.int .i64 5)), some (5, true)⟩,
      ⟨(some 8), .pick (.t 5) (.t 7) (.c (.b false)), none⟩,
      ⟨(some 2), .mv (.t 8), none⟩])
    .ret)) }
theorem f59P : prepF C Tryd.f59 = some f59A := by kernel_rfl

/-- slices.Index[[]int,int] -/
def f65A : AFunc :=
{ nargs := 2, res := [.t 4], body :=
  (.seq
   (.reg none [⟨(some 4), .mv (.c (.int .i64 0)), none⟩])
   (.seq
    (.seq
     (.reg none [⟨(some 6), .mv (.t 0), none⟩,
       ⟨(some 7), .len (.t 6), none⟩,
       ⟨(some 8), .mv (.c (.int .i64 0)), none⟩])
     (.block 0
      (.loop
       (.seq
        (.reg none [⟨(some 9), .bin .lss (.t 8) (.t 7), none⟩])
        (.seq
         (.cond (.t 9)
          .skip
          (.exit 0))
         (.seq
          (.block 1
           (.seq
            (.reg none [⟨(some 10), .mv (.t 8), none⟩,
              ⟨(some 5), .mv (.t 10), none⟩])
            (.seq
             (.reg none [⟨(some 11), .mv (.t 1), none⟩,
               ⟨(some 12), .mv (.t 0), none⟩,
               ⟨(some 13), .mv (.t 5), none⟩,
               ⟨(some 14), .iaddr 1 (.t 12) (.t 13), none⟩,
               ⟨(some 15), .load none (.t 14), none⟩,
               ⟨(some 16), .bin .eql (.t 11) (.t 15), none⟩])
             (.cond (.t 16)
              (.seq
               (.reg none [⟨(some 17), .mv (.t 5), none⟩,
                 ⟨(some 4), .mv (.t 17), none⟩])
               .ret)
              .skip))))
          (.reg none [⟨(some 18), .bin .add (.t 8) (.c (.int .i64 1)), none⟩,
            ⟨(some 8), .mv (.t 18), none⟩])))))))
    (.seq
     (.reg none [⟨(some 4), .mv (.c (.int .i64 (-1))), none⟩])
     .ret))) }
theorem f65P : prepF C Tryd.f65 = some f65A := by kernel_rfl

/-- cmp.Less[int] -/
def f66A : AFunc :=
{ nargs := 2, res := [.t 4], body :=
  (.seq
   (.reg none [⟨(some 4), .mv (.c (.b false)), none⟩])
   (.seq
    (.reg none [⟨(some 5), .mv (.t 0), none⟩,
      ⟨(some 6), .call 92 [(.t 5)], none⟩,
      ⟨(some 7), .mv (.t 6), none⟩,
      ⟨(some 8), .mv (.t 1), some (7, true)⟩,
      ⟨(some 9), .call 92 [(.t 8)], some (7, true)⟩,
      ⟨(some 10), .un .not (.t 9), some (7, true)⟩,
      ⟨(some 11), .pick (.t 7) (.t 10) (.c (.b false)), none⟩,
      ⟨(some 12), .mv (.t 11), none⟩,
      ⟨(some 13), .mv (.t 0), some (12, false)⟩,
      ⟨(some 14), .mv (.t 1), some (12, false)⟩,
      ⟨(some 15), .bin .lss (.t 13) (.t 14), some (12, false)⟩,
      ⟨(some 16), .pick (.t 12) (.c (.b true)) (.t 15), none⟩,
      ⟨(some 4), .mv (.t 16), none⟩])
    .ret)) }
theorem f66P : prepF C Tryd.f66 = some f66A := by kernel_rfl

/-- congou/squares.isSize -/
def f86A : AFunc :=
{ nargs := 1, res := [.t 2], body :=
  (.seq
   (.reg none [⟨(some 2), .mv (.c (.b false)), none⟩])
   (.seq
    (.reg none [⟨(some 3), .mv (.t 0), none⟩,
      ⟨(some 4), .bin .geq (.t 3) (.c (.int .i64 1)), none⟩,
      ⟨(some 5), .mv (.t 4), none⟩,
      ⟨(some 6), .mv (.t 0), some (5, true)⟩,
      ⟨(some 7), .bin .leq (.t 6) (.c (.int .i64 5)), some (5, true)⟩,
      ⟨(some 8), .pick (.t 5) (.t 7) (.c (.b false)), none⟩,
      ⟨(some 2), .mv (.t 8), none⟩])
    .ret)) }
theorem f86P : prepF C Tryd.f86 = some f86A := by kernel_rfl

/-- math/bits.TrailingZeros -/
def f87A : AFunc :=
{ nargs := 1, res := [.t 2], body :=
  (.seq
   (.reg none [⟨(some 2), .mv (.c (.int .i64 0)), none⟩])
   (.seq
    (.cond (.c (.b false))
     (.seq
      (.reg none [⟨(some 3), .mv (.t 0), none⟩,
        ⟨(some 4), .conv .u32 (.t 3), none⟩,
        ⟨(some 5), .call 108 [(.t 4)], none⟩,
        ⟨(some 2), .mv (.t 5), none⟩])
      .ret)
     .skip)
    (.seq
     (.reg none [⟨(some 6), .mv (.t 0), none⟩,
       ⟨(some 7), .call 109 [(.t 6)], none⟩,
       ⟨(some 2), .mv (.t 7), none⟩])
     .ret))) }
theorem f87P : prepF C Tryd.f87 = some f87A := by kernel_rfl

/-- cmp.isNaN[int] -/
def f92A : AFunc :=
{ nargs := 1, res := [.t 2], body :=
  (.seq
   (.reg none [⟨(some 2), .mv (.c (.b false)), none⟩])
   (.seq
    (.reg none [⟨(some 3), .mv (.t 0), none⟩,
      ⟨(some 4), .mv (.t 0), none⟩,
      ⟨(some 5), .bin .neq (.t 3) (.t 4), none⟩,
      ⟨(some 2), .mv (.t 5), none⟩])
    .ret)) }
theorem f92P : prepF C Tryd.f92 = some f92A := by kernel_rfl

end Go.Proofs.YtjjndoigkhabdaaDoor
