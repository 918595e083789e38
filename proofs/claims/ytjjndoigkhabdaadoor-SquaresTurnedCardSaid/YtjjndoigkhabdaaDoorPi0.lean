/- The abstract forms of the functions that are needed, each checked against the translation. No condition. -/
import Derived.Lib.TrailingZeros
import Derived.Test.YtjjndoigkhabdaaDoorAm1
import Derived.Test.YtjjndoigkhabdaaDoorProg
namespace Go.Proofs.YtjjndoigkhabdaaDoor
open Go Go.AM Go.Proofs

/-- the seat's program; the types whose comparison is taken; the functions that may write to what is older -/
def tzP : List AV → Option AV
  | [.int .u64 n] => if 0 ≤ n ∧ n ≤ 18446744073709551615 then some (.i (Lib.ctz 64 n.toNat : Nat)) else none
  | _ => none
def kd : Nat → Kd := fun f => if [69, 73, 78, 79, 83, 98, 101, 104, 105].contains f then .wrt else if [24].contains f then .closed else if f = 87 then .prim tzP else .ro
noncomputable def C : Cfg := { P := Tryd.prog, eqT := fun t => if t == 72 then some 2 else none, kd := kd }
/-- congou/congoulaw07.SquaresTurned -/
def f16A : AFunc :=
{ nargs := 1, res := [.t 2], body :=
  (.seq
   (.reg none [⟨(some 1), .box (.t 0), none⟩,
     ⟨(some 2), .mv (.c (.b false)), none⟩])
   (.seq
    (.reg none [⟨(some 24), .load (some 2) (.t 1), none⟩,
      ⟨(some 25), .call 37 [(.t 24)], none⟩,
      ⟨(some 26), .call 45 [(.t 25)], none⟩,
      ⟨(some 23), .mv (.t 26), none⟩,
      ⟨(some 27), .extr (.t 23) 0, none⟩,
      ⟨(some 28), .extr (.t 23) 1, none⟩,
      ⟨(some 3), .alloc [.nils, .nils], none⟩,
      ⟨none, .store 2 (.t 3) (.t 27), none⟩,
      ⟨(some 4), .mv (.t 28), none⟩])
    (.seq
     (.reg none [⟨(some 30), .load (some 2) (.t 1), none⟩,
       ⟨(some 31), .call 37 [(.t 30)], none⟩,
       ⟨(some 32), .call 46 [(.t 31)], none⟩,
       ⟨(some 29), .mv (.t 32), none⟩,
       ⟨(some 33), .extr (.t 29) 0, none⟩,
       ⟨(some 34), .extr (.t 29) 1, none⟩,
       ⟨(some 5), .alloc [.nils, .nils], none⟩,
       ⟨none, .store 2 (.t 5) (.t 33), none⟩,
       ⟨(some 6), .mv (.t 34), none⟩])
     (.seq
      (.seq
       (.reg none [⟨(some 35), .mv (.t 4), none⟩,
         ⟨(some 36), .bin .neq (.t 35) (.c (.int .i64 0)), none⟩,
         ⟨(some 37), .mv (.t 36), none⟩,
         ⟨(some 38), .mv (.t 6), some (37, false)⟩,
         ⟨(some 39), .bin .neq (.t 38) (.c (.int .i64 0)), some (37, false)⟩,
         ⟨(some 40), .pick (.t 37) (.c (.b true)) (.t 39), none⟩,
         ⟨(some 41), .mv (.t 40), none⟩,
         ⟨(some 42), .load (some 2) (.t 1), some (41, false)⟩,
         ⟨(some 43), .call 38 [(.t 42)], some (41, false)⟩,
         ⟨(some 44), .un .not (.t 43), some (41, false)⟩,
         ⟨(some 45), .pick (.t 41) (.c (.b true)) (.t 44), none⟩])
       (.cond (.t 45)
        (.seq
         (.reg none [⟨(some 46), .mv (.t 4), none⟩,
           ⟨(some 47), .bin .eql (.t 46) (.c (.int .i64 2)), none⟩,
           ⟨(some 48), .mv (.t 47), none⟩,
           ⟨(some 49), .mv (.t 6), some (48, true)⟩,
           ⟨(some 50), .mv (.t 4), some (48, true)⟩,
           ⟨(some 51), .bin .eql (.t 49) (.t 50), some (48, true)⟩,
           ⟨(some 52), .pick (.t 48) (.t 51) (.c (.b false)), none⟩,
           ⟨(some 53), .mv (.t 52), none⟩,
           ⟨(some 54), .call 24 [], some (53, true)⟩,
           ⟨(some 55), .pick (.t 53) (.t 54) (.c (.b false)), none⟩,
           ⟨(some 2), .mv (.t 55), none⟩])
         .ret)
        .skip))
      (.seq
       (.reg none [⟨(some 57), .load (some 2) (.t 3), none⟩,
         ⟨(some 58), .call 31 [(.t 57)], none⟩,
         ⟨(some 59), .call 37 [(.t 58)], none⟩,
         ⟨(some 60), .call 45 [(.t 59)], none⟩,
         ⟨(some 56), .mv (.t 60), none⟩,
         ⟨(some 61), .extr (.t 56) 0, none⟩,
         ⟨(some 62), .extr (.t 56) 1, none⟩,
         ⟨(some 7), .alloc [.nils, .nils], none⟩,
         ⟨none, .store 2 (.t 7) (.t 61), none⟩,
         ⟨(some 4), .mv (.t 62), none⟩])
       (.seq
        (.reg none [⟨(some 64), .load (some 2) (.t 5), none⟩,
          ⟨(some 65), .call 31 [(.t 64)], none⟩,
          ⟨(some 66), .call 37 [(.t 65)], none⟩,
          ⟨(some 67), .call 46 [(.t 66)], none⟩,
          ⟨(some 63), .mv (.t 67), none⟩,
          ⟨(some 68), .extr (.t 63) 0, none⟩,
          ⟨(some 69), .extr (.t 63) 1, none⟩,
          ⟨(some 8), .alloc [.nils, .nils], none⟩,
          ⟨none, .store 2 (.t 8) (.t 68), none⟩,
          ⟨(some 6), .mv (.t 69), none⟩])
        (.seq
         (.seq
          (.reg (some []) [⟨(some 70), .mv (.t 4), none⟩,
            ⟨(some 71), .bin .neq (.t 70) (.c (.int .i64 0)), none⟩,
            ⟨(some 72), .mv (.t 71), none⟩,
            ⟨(some 73), .mv (.t 6), some (72, false)⟩,
            ⟨(some 74), .bin .neq (.t 73) (.c (.int .i64 0)), some (72, false)⟩,
            ⟨(some 75), .pick (.t 72) (.c (.b true)) (.t 74), none⟩,
            ⟨(some 76), .mv (.t 75), none⟩,
            ⟨(some 77), .load (some 2) (.t 7), some (76, false)⟩,
            ⟨(some 78), .call 31 [(.t 77)], some (76, false)⟩,
            ⟨(some 79), .load (some 2) (.t 1), some (76, false)⟩,
            ⟨(some 80), .call 30 [(.t 78), (.t 79)], some (76, false)⟩,
            ⟨(some 81), .un .not (.t 80), some (76, false)⟩,
            ⟨(some 82), .pick (.t 76) (.c (.b true)) (.t 81), none⟩,
            ⟨(some 83), .mv (.t 82), none⟩,
            ⟨(some 84), .load (some 2) (.t 8), some (83, false)⟩,
            ⟨(some 85), .call 31 [(.t 84)], some (83, false)⟩,
            ⟨(some 86), .load (some 2) (.t 1), some (83, false)⟩,
            ⟨(some 87), .call 30 [(.t 85), (.t 86)], some (83, false)⟩,
            ⟨(some 88), .un .not (.t 87), some (83, false)⟩,
            ⟨(some 89), .pick (.t 83) (.c (.b true)) (.t 88), none⟩])
          (.cond (.t 89)
           (.seq
            (.reg none [⟨(some 2), .mv (.c (.b false)), none⟩])
            .ret)
           .skip))
         (.seq
          (.reg none [⟨(some 91), .load (some 2) (.t 1), none⟩,
            ⟨(some 92), .call 37 [(.t 91)], none⟩,
            ⟨(some 93), .call 41 [(.t 92)], none⟩,
            ⟨(some 90), .mv (.t 93), none⟩,
            ⟨(some 94), .extr (.t 90) 0, none⟩,
            ⟨(some 95), .extr (.t 90) 1, none⟩,
            ⟨(some 9), .mv (.t 94), none⟩,
            ⟨(some 10), .mv (.t 95), none⟩])
          (.seq
           (.reg none [⟨(some 97), .load (some 2) (.t 1), none⟩,
             ⟨(some 98), .call 37 [(.t 97)], none⟩,
             ⟨(some 99), .call 44 [(.t 98)], none⟩,
             ⟨(some 96), .mv (.t 99), none⟩,
             ⟨(some 100), .extr (.t 96) 0, none⟩,
             ⟨(some 101), .extr (.t 96) 1, none⟩,
             ⟨(some 11), .mv (.t 100), none⟩,
             ⟨(some 12), .mv (.t 101), none⟩])
           (.seq
            (.reg none [⟨(some 103), .load (some 2) (.t 1), none⟩,
              ⟨(some 104), .call 37 [(.t 103)], none⟩,
              ⟨(some 105), .call 53 [(.t 104)], none⟩,
              ⟨(some 102), .mv (.t 105), none⟩,
              ⟨(some 106), .extr (.t 102) 0, none⟩,
              ⟨(some 107), .extr (.t 102) 1, none⟩,
              ⟨(some 13), .mv (.t 106), none⟩,
              ⟨(some 14), .mv (.t 107), none⟩])
            (.seq
             (.seq
              (.reg (some []) [⟨(some 108), .load (some 2) (.t 3), none⟩,
                ⟨(some 109), .call 31 [(.t 108)], none⟩,
                ⟨(some 110), .load (some 2) (.t 5), none⟩,
                ⟨(some 111), .call 31 [(.t 110)], none⟩,
                ⟨(some 112), .bslice [.nils, .nils] 2 2 [(0, (.t 109)), (1, (.t 111))], none⟩,
                ⟨(some 113), .len (.t 112), none⟩,
                ⟨(some 114), .mv (.c (.int .i64 0)), none⟩])
              (.block 0
               (.loop
                (.seq
                 (.reg none [⟨(some 115), .bin .lss (.t 114) (.t 113), none⟩])
                 (.seq
                  (.cond (.t 115)
                   .skip
                   (.exit 0))
                  (.seq
                   (.block 1
                    (.seq
                     (.reg none [⟨(some 116), .iaddr 2 (.t 112) (.t 114), none⟩,
                       ⟨(some 117), .load (some 2) (.t 116), none⟩,
                       ⟨(some 16), .alloc [.nils, .nils], none⟩,
                       ⟨none, .store 2 (.t 16) (.t 117), none⟩])
                     (.seq
                      (.reg none [⟨(some 119), .load (some 2) (.t 16), none⟩,
                        ⟨(some 120), .call 37 [(.t 119)], none⟩,
                        ⟨(some 121), .call 41 [(.t 120)], none⟩,
                        ⟨(some 118), .mv (.t 121), none⟩,
                        ⟨(some 122), .extr (.t 118) 0, none⟩,
                        ⟨(some 123), .extr (.t 118) 1, none⟩,
                        ⟨(some 17), .mv (.t 122), none⟩,
                        ⟨(some 18), .mv (.t 123), none⟩])
                      (.seq
                       (.reg none [⟨(some 125), .load (some 2) (.t 16), none⟩,
                         ⟨(some 126), .call 37 [(.t 125)], none⟩,
                         ⟨(some 127), .call 44 [(.t 126)], none⟩,
                         ⟨(some 124), .mv (.t 127), none⟩,
                         ⟨(some 128), .extr (.t 124) 0, none⟩,
                         ⟨(some 129), .extr (.t 124) 1, none⟩,
                         ⟨(some 19), .mv (.t 128), none⟩,
                         ⟨(some 20), .mv (.t 129), none⟩])
                       (.seq
                        (.reg none [⟨(some 131), .load (some 2) (.t 16), none⟩,
                          ⟨(some 132), .call 37 [(.t 131)], none⟩,
                          ⟨(some 133), .call 53 [(.t 132)], none⟩,
                          ⟨(some 130), .mv (.t 133), none⟩,
                          ⟨(some 134), .extr (.t 130) 0, none⟩,
                          ⟨(some 135), .extr (.t 130) 1, none⟩,
                          ⟨(some 21), .mv (.t 134), none⟩,
                          ⟨(some 22), .mv (.t 135), none⟩])
                        (.seq
                         (.reg none [⟨(some 136), .mv (.t 17), none⟩,
                           ⟨(some 137), .mv (.t 9), none⟩,
                           ⟨(some 138), .bin .neq (.t 136) (.t 137), none⟩,
                           ⟨(some 139), .mv (.t 138), none⟩,
                           ⟨(some 140), .mv (.t 19), some (139, false)⟩,
                           ⟨(some 141), .mv (.t 11), some (139, false)⟩,
                           ⟨(some 142), .bin .neq (.t 140) (.t 141), some (139, false)⟩,
                           ⟨(some 143), .pick (.t 139) (.c (.b true)) (.t 142), none⟩,
                           ⟨(some 144), .mv (.t 143), none⟩,
                           ⟨(some 145), .mv (.t 21), some (144, false)⟩,
                           ⟨(some 146), .mv (.t 13), some (144, false)⟩,
                           ⟨(some 147), .bin .neq (.t 145) (.t 146), some (144, false)⟩,
                           ⟨(some 148), .pick (.t 144) (.c (.b true)) (.t 147), none⟩,
                           ⟨(some 149), .mv (.t 148), none⟩,
                           ⟨(some 150), .mv (.t 10), some (149, false)⟩,
                           ⟨(some 151), .mv (.t 18), some (149, false)⟩,
                           ⟨(some 152), .bin .neq (.t 150) (.t 151), some (149, false)⟩,
                           ⟨(some 153), .pick (.t 149) (.c (.b true)) (.t 152), none⟩,
                           ⟨(some 154), .mv (.t 153), none⟩,
                           ⟨(some 155), .mv (.t 12), some (154, false)⟩,
                           ⟨(some 156), .mv (.t 20), some (154, false)⟩,
                           ⟨(some 157), .bin .neq (.t 155) (.t 156), some (154, false)⟩,
                           ⟨(some 158), .pick (.t 154) (.c (.b true)) (.t 157), none⟩,
                           ⟨(some 159), .mv (.t 158), none⟩,
                           ⟨(some 160), .mv (.t 14), some (159, false)⟩,
                           ⟨(some 161), .mv (.t 22), some (159, false)⟩,
                           ⟨(some 162), .bin .neq (.t 160) (.t 161), some (159, false)⟩,
                           ⟨(some 163), .pick (.t 159) (.c (.b true)) (.t 162), none⟩])
                         (.cond (.t 163)
                          (.seq
                           (.reg none [⟨(some 2), .mv (.c (.b false)), none⟩])
                           .ret)
                          .skip)))))))
                   (.reg none [⟨(some 164), .bin .add (.t 114) (.c (.int .i64 1)), none⟩,
                     ⟨(some 114), .mv (.t 164), none⟩])))))))
             (.seq
              (.reg none [⟨(some 165), .mv (.t 10), none⟩,
                ⟨(some 166), .bin .eql (.t 165) (.c (.int .i64 0)), none⟩,
                ⟨(some 167), .mv (.t 166), none⟩,
                ⟨(some 168), .call 24 [], some (167, true)⟩,
                ⟨(some 169), .pick (.t 167) (.t 168) (.c (.b false)), none⟩,
                ⟨(some 2), .mv (.t 169), none⟩])
              .ret)))))))))))) }
theorem f16P : prepF C Tryd.f16 = some f16A := by kernel_rfl

/-- congou/squares.Blocks -/
def f17A : AFunc :=
{ nargs := 2, res := [.t 4, .t 5], body :=
  (.seq
   (.reg none [⟨(some 4), .mv (.c .nils), none⟩,
     ⟨(some 5), .mv (.c (.int .i64 0)), none⟩])
   (.seq
    (.seq
     (.reg none [⟨(some 6), .mv (.t 0), none⟩,
       ⟨(some 7), .mv (.t 1), none⟩,
       ⟨(some 8), .call 55 [(.t 6), (.t 7)], none⟩,
       ⟨(some 9), .un .not (.t 8), none⟩])
     (.cond (.t 9)
      (.seq
       (.reg none [⟨(some 4), .mv (.c .nils), none⟩,
         ⟨(some 5), .mv (.c (.int .i64 2)), none⟩])
       .ret)
      .skip))
    (.seq
     (.reg none [⟨(some 10), .mv (.t 1), none⟩,
       ⟨(some 11), .call 56 [(.t 10)], none⟩,
       ⟨(some 4), .mv (.t 11), none⟩,
       ⟨(some 5), .mv (.c (.int .i64 0)), none⟩])
     .ret))) }
theorem f17P : prepF C Tryd.f17 = some f17A := by kernel_rfl

/-- congou/congoulaw07.list -/
def f19A : AFunc :=
{ nargs := 1, res := [.t 2], body :=
  (.seq
   (.reg none [⟨(some 2), .mv (.c .nils), none⟩])
   (.seq
    (.reg none [⟨(some 3), .mv (.t 0), none⟩,
      ⟨(some 4), .mv (.t 0), none⟩,
      ⟨(some 5), .len (.t 4), none⟩,
      ⟨(some 6), .mn [(.t 5), (.c (.int .i64 8))], none⟩,
      ⟨(some 7), .slice 1 (.t 3) none (some (.t 6)) none, none⟩,
      ⟨(some 8), .call 33 [(.t 7)], none⟩,
      ⟨(some 2), .mv (.t 8), none⟩])
    .ret)) }
theorem f19P : prepF C Tryd.f19 = some f19A := by kernel_rfl

/-- slices.Equal[[]int,int] -/
def f21A : AFunc :=
{ nargs := 2, res := [.t 4], body :=
  (.seq
   (.reg none [⟨(some 4), .mv (.c (.b false)), none⟩])
   (.seq
    (.seq
     (.reg none [⟨(some 6), .mv (.t 0), none⟩,
       ⟨(some 7), .len (.t 6), none⟩,
       ⟨(some 8), .mv (.t 1), none⟩,
       ⟨(some 9), .len (.t 8), none⟩,
       ⟨(some 10), .bin .neq (.t 7) (.t 9), none⟩])
     (.cond (.t 10)
      (.seq
       (.reg none [⟨(some 4), .mv (.c (.b false)), none⟩])
       .ret)
      .skip))
    (.seq
     (.seq
      (.reg none [⟨(some 11), .mv (.t 0), none⟩,
        ⟨(some 12), .len (.t 11), none⟩,
        ⟨(some 13), .mv (.c (.int .i64 0)), none⟩])
      (.block 0
       (.loop
        (.seq
         (.reg none [⟨(some 14), .bin .lss (.t 13) (.t 12), none⟩])
         (.seq
          (.cond (.t 14)
           .skip
           (.exit 0))
          (.seq
           (.block 1
            (.seq
             (.reg none [⟨(some 15), .mv (.t 13), none⟩,
               ⟨(some 5), .mv (.t 15), none⟩])
             (.seq
              (.reg (some []) [⟨(some 16), .mv (.t 0), none⟩,
                ⟨(some 17), .mv (.t 5), none⟩,
                ⟨(some 18), .iaddr 1 (.t 16) (.t 17), none⟩,
                ⟨(some 19), .load none (.t 18), none⟩,
                ⟨(some 20), .mv (.t 1), none⟩,
                ⟨(some 21), .mv (.t 5), none⟩,
                ⟨(some 22), .iaddr 1 (.t 20) (.t 21), none⟩,
                ⟨(some 23), .load none (.t 22), none⟩,
                ⟨(some 24), .bin .neq (.t 19) (.t 23), none⟩])
              (.cond (.t 24)
               (.seq
                (.reg none [⟨(some 4), .mv (.c (.b false)), none⟩])
                .ret)
               .skip))))
           (.reg none [⟨(some 25), .bin .add (.t 13) (.c (.int .i64 1)), none⟩,
             ⟨(some 13), .mv (.t 25), none⟩])))))))
     (.seq
      (.reg none [⟨(some 4), .mv (.c (.b true)), none⟩])
      .ret)))) }
theorem f21P : prepF C Tryd.f21 = some f21A := by kernel_rfl

/-- congou/congouref07.Blocks -/
def f22A : AFunc :=
{ nargs := 2, res := [.t 4], body :=
  (.seq
   (.reg none [⟨(some 4), .mv (.c .nils), none⟩])
   (.seq
    (.reg none [⟨(some 5), .mv (.c .nils), none⟩])
    (.seq
     (.reg none [⟨(some 6), .mv (.c (.int .i64 0)), none⟩])
     (.seq
      (.seq
       (.reg none [⟨(some 8), .mv (.t 0), none⟩,
         ⟨(some 9), .bin .add (.t 8) (.c (.int .i64 1)), none⟩,
         ⟨(some 10), .mv (.c (.int .i64 0)), none⟩])
       (.block 0
        (.loop
         (.seq
          (.reg none [⟨(some 11), .bin .lss (.t 10) (.t 9), none⟩])
          (.seq
           (.cond (.t 11)
            .skip
            (.exit 0))
           (.seq
            (.block 1
             (.seq
              (.reg none [⟨(some 12), .mv (.t 10), none⟩,
                ⟨(some 7), .mv (.t 12), none⟩])
              (.seq
               (.seq
                (.reg none [⟨(some 13), .mv (.t 1), none⟩,
                  ⟨(some 14), .mv (.t 7), none⟩,
                  ⟨(some 15), .bin .shr (.t 13) (.t 14), none⟩,
                  ⟨(some 16), .bin .and (.t 15) (.c (.int .i64 1)), none⟩,
                  ⟨(some 17), .bin .eql (.t 16) (.c (.int .i64 1)), none⟩])
                (.cond (.t 17)
                 (.seq
                  (.reg none [⟨(some 18), .mv (.t 6), none⟩,
                    ⟨(some 19), .bin .add (.t 18) (.c (.int .i64 1)), none⟩,
                    ⟨(some 6), .mv (.t 19), none⟩])
                  (.exit 1))
                 .skip))
               (.seq
                (.seq
                 (.reg none [⟨(some 20), .mv (.t 6), none⟩,
                   ⟨(some 21), .bin .gtr (.t 20) (.c (.int .i64 0)), none⟩])
                 (.cond (.t 21)
                  (.reg none [⟨(some 22), .mv (.t 5), none⟩,
                    ⟨(some 23), .mv (.t 6), none⟩,
                    ⟨(some 24), .bslice [(.int .i64 0)] 1 1 [(0, (.t 23))], none⟩,
                    ⟨(some 25), .append 1 8 (.t 22) (.t 24), none⟩,
                    ⟨(some 5), .mv (.t 25), none⟩])
                  .skip))
                (.reg none [⟨(some 6), .mv (.c (.int .i64 0)), none⟩])))))
            (.reg none [⟨(some 26), .bin .add (.t 10) (.c (.int .i64 1)), none⟩,
              ⟨(some 10), .mv (.t 26), none⟩])))))))
      (.seq
       (.reg none [⟨(some 27), .mv (.t 5), none⟩,
         ⟨(some 4), .mv (.t 27), none⟩])
       .ret))))) }
theorem f22P : prepF C Tryd.f22 = some f22A := by kernel_rfl

/-- congou/congouref07.Clue -/
def f23A : AFunc :=
{ nargs := 2, res := [.t 4], body :=
  (.seq
   (.reg none [⟨(some 4), .mv (.c (.b false)), none⟩])
   (.seq
    (.reg none [⟨(some 5), .mv (.t 0), none⟩,
      ⟨(some 6), .call 59 [(.t 5)], none⟩,
      ⟨(some 7), .mv (.t 6), none⟩,
      ⟨(some 8), .mv (.t 0), some (7, true)⟩,
      ⟨(some 9), .mv (.t 1), some (7, true)⟩,
      ⟨(some 10), .call 25 [(.t 8), (.t 9)], some (7, true)⟩,
      ⟨(some 11), .len (.t 10), some (7, true)⟩,
      ⟨(some 12), .bin .gtr (.t 11) (.c (.int .i64 0)), some (7, true)⟩,
      ⟨(some 13), .pick (.t 7) (.t 12) (.c (.b false)), none⟩,
      ⟨(some 4), .mv (.t 13), none⟩])
    .ret)) }
theorem f23P : prepF C Tryd.f23 = some f23A := by kernel_rfl

/-- congou/congoulaw07.awake -/
def f24A : AFunc :=
{ nargs := 0, res := [.t 0], body :=
  (.seq
   (.reg none [⟨(some 0), .mv (.c (.b false)), none⟩])
   (.seq
    (.reg none [⟨(some 4), .call 17 [(.c (.int .i64 5)), (.c (.int .i64 23))], none⟩,
      ⟨(some 3), .mv (.t 4), none⟩,
      ⟨(some 5), .extr (.t 3) 0, none⟩,
      ⟨(some 6), .extr (.t 3) 1, none⟩,
      ⟨(some 1), .mv (.t 5), none⟩,
      ⟨(some 2), .mv (.t 6), none⟩])
    (.seq
     (.reg none [⟨(some 7), .mv (.t 2), none⟩,
       ⟨(some 8), .bin .eql (.t 7) (.c (.int .i64 0)), none⟩,
       ⟨(some 9), .mv (.t 8), none⟩,
       ⟨(some 10), .mv (.t 1), some (9, true)⟩,
       ⟨(some 11), .bslice [(.int .i64 0)] 2 1 [(0, (.c (.int .i64 3))), (1, (.c (.int .i64 1)))], some (9, true)⟩,
       ⟨(some 12), .call 21 [(.t 10), (.t 11)], some (9, true)⟩,
       ⟨(some 13), .pick (.t 9) (.t 12) (.c (.b false)), none⟩,
       ⟨(some 0), .mv (.t 13), none⟩])
     .ret))) }
theorem f24P : prepF C Tryd.f24 = some f24A := by kernel_rfl

/-- congou/congouref07.Lines -/
def f25A : AFunc :=
{ nargs := 2, res := [.t 4], body :=
  (.seq
   (.reg none [⟨(some 4), .mv (.c .nils), none⟩])
   (.seq
    (.reg none [⟨(some 5), .mv (.c .nils), none⟩])
    (.seq
     (.seq
      (.reg none [⟨(some 7), .mv (.t 0), none⟩,
        ⟨(some 8), .bin .shl (.c (.int .i64 1)) (.t 7), none⟩,
        ⟨(some 9), .mv (.c (.int .i64 0)), none⟩])
      (.block 0
       (.loop
        (.seq
         (.reg none [⟨(some 10), .bin .lss (.t 9) (.t 8), none⟩])
         (.seq
          (.cond (.t 10)
           .skip
           (.exit 0))
          (.seq
           (.block 1
            (.seq
             (.reg none [⟨(some 11), .mv (.t 9), none⟩,
               ⟨(some 6), .mv (.t 11), none⟩])
             (.seq
              (.reg none [⟨(some 12), .mv (.t 0), none⟩,
                ⟨(some 13), .mv (.t 6), none⟩,
                ⟨(some 14), .call 22 [(.t 12), (.t 13)], none⟩,
                ⟨(some 15), .mv (.t 1), none⟩,
                ⟨(some 16), .call 60 [(.t 14), (.t 15)], none⟩])
              (.cond (.t 16)
               (.reg none [⟨(some 17), .mv (.t 5), none⟩,
                 ⟨(some 18), .mv (.t 6), none⟩,
                 ⟨(some 19), .bslice [(.int .i64 0)] 1 1 [(0, (.t 18))], none⟩,
                 ⟨(some 20), .append 1 8 (.t 17) (.t 19), none⟩,
                 ⟨(some 5), .mv (.t 20), none⟩])
               .skip))))
           (.reg none [⟨(some 21), .bin .add (.t 9) (.c (.int .i64 1)), none⟩,
             ⟨(some 9), .mv (.t 21), none⟩])))))))
     (.seq
      (.reg none [⟨(some 22), .mv (.t 5), none⟩,
        ⟨(some 4), .mv (.t 22), none⟩])
      .ret)))) }
theorem f25P : prepF C Tryd.f25 = some f25A := by kernel_rfl

/-- congou/congouref07.Same -/
def f30A : AFunc :=
{ nargs := 2, res := [.t 4], body :=
  (.seq
   (.reg none [⟨(some 2), .box (.t 0), none⟩,
     ⟨(some 3), .box (.t 1), none⟩,
     ⟨(some 4), .mv (.c (.b false)), none⟩])
   (.seq
    (.seq
     (.reg none [⟨(some 9), .faddr 0 (.t 2), none⟩,
       ⟨(some 10), .load none (.t 9), none⟩,
       ⟨(some 11), .len (.t 10), none⟩,
       ⟨(some 12), .faddr 0 (.t 3), none⟩,
       ⟨(some 13), .load none (.t 12), none⟩,
       ⟨(some 14), .len (.t 13), none⟩,
       ⟨(some 15), .bin .neq (.t 11) (.t 14), none⟩,
       ⟨(some 16), .mv (.t 15), none⟩,
       ⟨(some 17), .faddr 1 (.t 2), some (16, false)⟩,
       ⟨(some 18), .load none (.t 17), some (16, false)⟩,
       ⟨(some 19), .len (.t 18), some (16, false)⟩,
       ⟨(some 20), .faddr 1 (.t 3), some (16, false)⟩,
       ⟨(some 21), .load none (.t 20), some (16, false)⟩,
       ⟨(some 22), .len (.t 21), some (16, false)⟩,
       ⟨(some 23), .bin .neq (.t 19) (.t 22), some (16, false)⟩,
       ⟨(some 24), .pick (.t 16) (.c (.b true)) (.t 23), none⟩])
     (.cond (.t 24)
      (.seq
       (.reg none [⟨(some 4), .mv (.c (.b false)), none⟩])
       .ret)
      .skip))
    (.seq
     (.seq
      (.reg none [⟨(some 25), .faddr 0 (.t 2), none⟩,
        ⟨(some 26), .load none (.t 25), none⟩,
        ⟨(some 27), .len (.t 26), none⟩,
        ⟨(some 28), .mv (.c (.int .i64 0)), none⟩])
      (.block 0
       (.loop
        (.seq
         (.reg none [⟨(some 29), .bin .lss (.t 28) (.t 27), none⟩])
         (.seq
          (.cond (.t 29)
           .skip
           (.exit 0))
          (.seq
           (.block 1
            (.seq
             (.reg none [⟨(some 30), .mv (.t 28), none⟩,
               ⟨(some 31), .iaddr 1 (.t 26) (.t 28), none⟩,
               ⟨(some 32), .load none (.t 31), none⟩,
               ⟨(some 5), .mv (.t 30), none⟩,
               ⟨(some 6), .mv (.t 32), none⟩])
             (.seq
              (.reg none [⟨(some 33), .mv (.t 6), none⟩,
                ⟨(some 34), .faddr 0 (.t 3), none⟩,
                ⟨(some 35), .load none (.t 34), none⟩,
                ⟨(some 36), .mv (.t 5), none⟩,
                ⟨(some 37), .iaddr 1 (.t 35) (.t 36), none⟩,
                ⟨(some 38), .load none (.t 37), none⟩,
                ⟨(some 39), .call 60 [(.t 33), (.t 38)], none⟩,
                ⟨(some 40), .un .not (.t 39), none⟩])
              (.cond (.t 40)
               (.seq
                (.reg none [⟨(some 4), .mv (.c (.b false)), none⟩])
                .ret)
               .skip))))
           (.reg none [⟨(some 41), .bin .add (.t 28) (.c (.int .i64 1)), none⟩,
             ⟨(some 28), .mv (.t 41), none⟩])))))))
     (.seq
      (.seq
       (.reg none [⟨(some 42), .faddr 1 (.t 2), none⟩,
         ⟨(some 43), .load none (.t 42), none⟩,
         ⟨(some 44), .len (.t 43), none⟩,
         ⟨(some 45), .mv (.c (.int .i64 0)), none⟩])
       (.block 2
        (.loop
         (.seq
          (.reg none [⟨(some 46), .bin .lss (.t 45) (.t 44), none⟩])
          (.seq
           (.cond (.t 46)
            .skip
            (.exit 2))
           (.seq
            (.block 3
             (.seq
              (.reg none [⟨(some 47), .mv (.t 45), none⟩,
                ⟨(some 48), .iaddr 1 (.t 43) (.t 45), none⟩,
                ⟨(some 49), .load none (.t 48), none⟩,
                ⟨(some 7), .mv (.t 47), none⟩,
                ⟨(some 8), .mv (.t 49), none⟩])
              (.seq
               (.reg none [⟨(some 50), .mv (.t 8), none⟩,
                 ⟨(some 51), .faddr 1 (.t 3), none⟩,
                 ⟨(some 52), .load none (.t 51), none⟩,
                 ⟨(some 53), .mv (.t 7), none⟩,
                 ⟨(some 54), .iaddr 1 (.t 52) (.t 53), none⟩,
                 ⟨(some 55), .load none (.t 54), none⟩,
                 ⟨(some 56), .call 60 [(.t 50), (.t 55)], none⟩,
                 ⟨(some 57), .un .not (.t 56), none⟩])
               (.cond (.t 57)
                (.seq
                 (.reg none [⟨(some 4), .mv (.c (.b false)), none⟩])
                 .ret)
                .skip))))
            (.reg none [⟨(some 58), .bin .add (.t 45) (.c (.int .i64 1)), none⟩,
              ⟨(some 45), .mv (.t 58), none⟩])))))))
      (.seq
       (.reg none [⟨(some 4), .mv (.c (.b true)), none⟩])
       .ret))))) }
theorem f30P : prepF C Tryd.f30 = some f30A := by kernel_rfl

/-- congou/congoulaw07.own -/
def f31A : AFunc :=
{ nargs := 1, res := [.c 2 (some 2)], body :=
  (.seq
   (.reg none [⟨(some 1), .box (.t 0), none⟩,
     ⟨(some 2), .alloc [.nils, .nils], none⟩])
   (.seq
    (.reg none [⟨(some 3), .faddr 0 (.t 1), none⟩,
      ⟨(some 4), .load none (.t 3), none⟩,
      ⟨(some 5), .faddr 1 (.t 1), none⟩,
      ⟨(some 6), .load none (.t 5), none⟩,
      ⟨(some 7), .build [.nils, .nils] [(0, 1, (.t 4)), (1, 1, (.t 6))], none⟩,
      ⟨none, .store 2 (.t 2) (.t 7), none⟩])
    .ret)) }
theorem f31P : prepF C Tryd.f31 = some f31A := by kernel_rfl

/-- slices.Clone[[]int,int] -/
def f33A : AFunc :=
{ nargs := 1, res := [.t 2], body :=
  (.seq
   (.reg none [⟨(some 2), .mv (.c .nils), none⟩])
   (.seq
    (.seq
     (.reg none [⟨(some 3), .mv (.t 0), none⟩,
       ⟨(some 4), .seq false (.t 3) (.c .nils), none⟩])
     (.cond (.t 4)
      (.seq
       (.reg none [⟨(some 2), .mv (.c .nils), none⟩])
       .ret)
      .skip))
    (.seq
     (.reg none [⟨(some 5), .bslice [(.int .i64 0)] 0 1 [], none⟩,
       ⟨(some 6), .mv (.t 0), none⟩,
       ⟨(some 7), .append 1 8 (.t 5) (.t 6), none⟩,
       ⟨(some 2), .mv (.t 7), none⟩])
     .ret))) }
theorem f33P : prepF C Tryd.f33 = some f33A := by kernel_rfl

/-- congou/congoulaw07.Of -/
def f37A : AFunc :=
{ nargs := 1, res := [.c 2 (some 2)], body :=
  (.seq
   (.reg none [⟨(some 1), .box (.t 0), none⟩,
     ⟨(some 2), .alloc [.nils, .nils], none⟩])
   (.seq
    (.reg (some []) [⟨(some 3), .faddr 0 (.t 1), none⟩,
      ⟨(some 4), .load none (.t 3), none⟩,
      ⟨(some 5), .call 70 [(.t 4)], none⟩,
      ⟨(some 6), .faddr 1 (.t 1), none⟩,
      ⟨(some 7), .load none (.t 6), none⟩,
      ⟨(some 8), .call 70 [(.t 7)], none⟩,
      ⟨(some 9), .build [.nils, .nils] [(0, 1, (.t 5)), (1, 1, (.t 8))], none⟩,
      ⟨none, .store 2 (.t 2) (.t 9), none⟩])
    .ret)) }
theorem f37P : prepF C Tryd.f37 = some f37A := by kernel_rfl

/-- congou/congouref07.Valid -/
def f38A : AFunc :=
{ nargs := 1, res := [.t 2], body :=
  (.seq
   (.reg none [⟨(some 1), .box (.t 0), none⟩,
     ⟨(some 2), .mv (.c (.b false)), none⟩])
   (.seq
    (.seq
     (.reg none [⟨(some 7), .faddr 0 (.t 1), none⟩,
       ⟨(some 8), .load none (.t 7), none⟩,
       ⟨(some 9), .len (.t 8), none⟩,
       ⟨(some 10), .call 59 [(.t 9)], none⟩,
       ⟨(some 11), .un .not (.t 10), none⟩,
       ⟨(some 12), .mv (.t 11), none⟩,
       ⟨(some 13), .faddr 1 (.t 1), some (12, false)⟩,
       ⟨(some 14), .load none (.t 13), some (12, false)⟩,
       ⟨(some 15), .len (.t 14), some (12, false)⟩,
       ⟨(some 16), .call 59 [(.t 15)], some (12, false)⟩,
       ⟨(some 17), .un .not (.t 16), some (12, false)⟩,
       ⟨(some 18), .pick (.t 12) (.c (.b true)) (.t 17), none⟩])
     (.cond (.t 18)
      (.seq
       (.reg none [⟨(some 2), .mv (.c (.b false)), none⟩])
       .ret)
      .skip))
    (.seq
     (.seq
      (.reg none [⟨(some 19), .faddr 0 (.t 1), none⟩,
        ⟨(some 20), .load none (.t 19), none⟩,
        ⟨(some 21), .len (.t 20), none⟩,
        ⟨(some 22), .mv (.c (.int .i64 0)), none⟩])
      (.block 0
       (.loop
        (.seq
         (.reg none [⟨(some 23), .bin .lss (.t 22) (.t 21), none⟩])
         (.seq
          (.cond (.t 23)
           .skip
           (.exit 0))
          (.seq
           (.block 1
            (.seq
             (.reg none [⟨(some 24), .iaddr 1 (.t 20) (.t 22), none⟩,
               ⟨(some 25), .load none (.t 24), none⟩,
               ⟨(some 4), .mv (.t 25), none⟩])
             (.seq
              (.reg none [⟨(some 26), .faddr 1 (.t 1), none⟩,
                ⟨(some 27), .load none (.t 26), none⟩,
                ⟨(some 28), .len (.t 27), none⟩,
                ⟨(some 29), .mv (.t 4), none⟩,
                ⟨(some 30), .call 23 [(.t 28), (.t 29)], none⟩,
                ⟨(some 31), .un .not (.t 30), none⟩])
              (.cond (.t 31)
               (.seq
                (.reg none [⟨(some 2), .mv (.c (.b false)), none⟩])
                .ret)
               .skip))))
           (.reg none [⟨(some 32), .bin .add (.t 22) (.c (.int .i64 1)), none⟩,
             ⟨(some 22), .mv (.t 32), none⟩])))))))
     (.seq
      (.seq
       (.reg none [⟨(some 33), .faddr 1 (.t 1), none⟩,
         ⟨(some 34), .load none (.t 33), none⟩,
         ⟨(some 35), .len (.t 34), none⟩,
         ⟨(some 36), .mv (.c (.int .i64 0)), none⟩])
       (.block 2
        (.loop
         (.seq
          (.reg none [⟨(some 37), .bin .lss (.t 36) (.t 35), none⟩])
          (.seq
           (.cond (.t 37)
            .skip
            (.exit 2))
           (.seq
            (.block 3
             (.seq
              (.reg none [⟨(some 38), .iaddr 1 (.t 34) (.t 36), none⟩,
                ⟨(some 39), .load none (.t 38), none⟩,
                ⟨(some 6), .mv (.t 39), none⟩])
              (.seq
               (.reg none [⟨(some 40), .faddr 0 (.t 1), none⟩,
                 ⟨(some 41), .load none (.t 40), none⟩,
                 ⟨(some 42), .len (.t 41), none⟩,
                 ⟨(some 43), .mv (.t 6), none⟩,
                 ⟨(some 44), .call 23 [(.t 42), (.t 43)], none⟩,
                 ⟨(some 45), .un .not (.t 44), none⟩])
               (.cond (.t 45)
                (.seq
                 (.reg none [⟨(some 2), .mv (.c (.b false)), none⟩])
                 .ret)
                .skip))))
            (.reg none [⟨(some 46), .bin .add (.t 36) (.c (.int .i64 1)), none⟩,
              ⟨(some 36), .mv (.t 46), none⟩])))))))
      (.seq
       (.reg none [⟨(some 2), .mv (.c (.b true)), none⟩])
       .ret))))) }
theorem f38P : prepF C Tryd.f38 = some f38A := by kernel_rfl

/-- congou/squares.Count -/
def f41A : AFunc :=
{ nargs := 1, res := [.t 2, .t 3], body :=
  (.seq
   (.reg none [⟨(some 1), .box (.t 0), none⟩,
     ⟨(some 2), .mv (.c (.int .i64 0)), none⟩,
     ⟨(some 3), .mv (.c (.int .i64 0)), none⟩])
   (.seq
    (.seq
     (.reg none [⟨(some 5), .load (some 2) (.t 1), none⟩,
       ⟨(some 6), .call 67 [(.t 5)], none⟩,
       ⟨(some 7), .un .not (.t 6), none⟩])
     (.cond (.t 7)
      (.seq
       (.reg none [⟨(some 2), .mv (.c (.int .i64 0)), none⟩,
         ⟨(some 3), .mv (.c (.int .i64 2)), none⟩])
       .ret)
      .skip))
    (.seq
     (.reg none [⟨(some 4), .alloc [(.int .i64 0)], none⟩,
       ⟨none, .store 1 (.t 4) (.c (.int .i64 0)), none⟩])
     (.seq
      (.seq
       (.reg none [⟨(some 8), .load (some 2) (.t 1), none⟩,
         ⟨(some 9), .mkfn 73 [(.t 8)] [], none⟩])
       (.block 0
        (.rangeF 14 (.t 9) [10]
         .skip
         (.block 1
          (.reg none [⟨(some 11), .load none (.t 4), none⟩,
            ⟨(some 12), .bin .add (.t 11) (.c (.int .i64 1)), none⟩,
            ⟨none, .store 1 (.t 4) (.t 12), none⟩])))))
      (.seq
       (.reg none [⟨(some 13), .load none (.t 4), none⟩,
         ⟨(some 2), .mv (.t 13), none⟩,
         ⟨(some 3), .mv (.c (.int .i64 0)), none⟩])
       .ret))))) }
theorem f41P : prepF C Tryd.f41 = some f41A := by kernel_rfl

/-- congou/squares.Filled -/
def f44A : AFunc :=
{ nargs := 1, res := [.t 2, .t 3], body :=
  (.seq
   (.reg none [⟨(some 1), .box (.t 0), none⟩,
     ⟨(some 2), .mv (.c (.int .i64 0)), none⟩,
     ⟨(some 3), .mv (.c (.int .i64 0)), none⟩])
   (.seq
    (.seq
     (.reg none [⟨(some 5), .load (some 2) (.t 1), none⟩,
       ⟨(some 6), .call 67 [(.t 5)], none⟩,
       ⟨(some 7), .un .not (.t 6), none⟩])
     (.cond (.t 7)
      (.seq
       (.reg none [⟨(some 2), .mv (.c (.int .i64 0)), none⟩,
         ⟨(some 3), .mv (.c (.int .i64 2)), none⟩])
       .ret)
      .skip))
    (.seq
     (.reg none [⟨(some 4), .mv (.c (.fn 75 [] [])), none⟩])
     (.seq
      (.seq
       (.reg (some [(6, 3)]) [⟨(some 8), .mv (.t 4), none⟩,
         ⟨(some 9), .faddr 0 (.t 1), none⟩,
         ⟨(some 10), .load none (.t 9), none⟩,
         ⟨(some 11), .callv (.t 8) [(.t 10)], none⟩,
         ⟨(some 12), .mv (.t 4), none⟩,
         ⟨(some 13), .faddr 1 (.t 1), none⟩,
         ⟨(some 14), .load none (.t 13), none⟩,
         ⟨(some 15), .callv (.t 12) [(.t 14)], none⟩,
         ⟨(some 16), .bin .neq (.t 11) (.t 15), none⟩])
       (.cond (.t 16)
        (.seq
         (.reg none [⟨(some 2), .mv (.c (.int .i64 0)), none⟩,
           ⟨(some 3), .mv (.c (.int .i64 4)), none⟩])
         .ret)
        .skip))
      (.seq
       (.reg none [⟨(some 17), .mv (.t 4), none⟩,
         ⟨(some 18), .faddr 0 (.t 1), none⟩,
         ⟨(some 19), .load none (.t 18), none⟩,
         ⟨(some 20), .callv (.t 17) [(.t 19)], none⟩,
         ⟨(some 2), .mv (.t 20), none⟩,
         ⟨(some 3), .mv (.c (.int .i64 0)), none⟩])
       .ret))))) }
theorem f44P : prepF C Tryd.f44 = some f44A := by kernel_rfl

/-- congou/squares.Turn -/
def f45A : AFunc :=
{ nargs := 1, res := [.c 2 (some 2), .t 3], body :=
  (.seq
   (.reg none [⟨(some 1), .box (.t 0), none⟩,
     ⟨(some 2), .alloc [.nils, .nils], none⟩,
     ⟨(some 3), .mv (.c (.int .i64 0)), none⟩])
   (.seq
    (.seq
     (.reg none [⟨(some 4), .load (some 2) (.t 1), none⟩,
       ⟨(some 5), .call 67 [(.t 4)], none⟩,
       ⟨(some 6), .un .not (.t 5), none⟩])
     (.cond (.t 6)
      (.seq
       (.reg none [⟨(some 7), .build [.nils, .nils] [], none⟩,
         ⟨none, .store 2 (.t 2) (.t 7), none⟩,
         ⟨(some 3), .mv (.c (.int .i64 2)), none⟩])
       .ret)
      .skip))
    (.seq
     (.reg (some []) [⟨(some 8), .faddr 1 (.t 1), none⟩,
       ⟨(some 9), .load none (.t 8), none⟩,
       ⟨(some 10), .call 77 [(.t 9)], none⟩,
       ⟨(some 11), .faddr 0 (.t 1), none⟩,
       ⟨(some 12), .load none (.t 11), none⟩,
       ⟨(some 13), .call 77 [(.t 12)], none⟩,
       ⟨(some 14), .build [.nils, .nils] [(0, 1, (.t 10)), (1, 1, (.t 13))], none⟩,
       ⟨none, .store 2 (.t 2) (.t 14), none⟩,
       ⟨(some 3), .mv (.c (.int .i64 0)), none⟩])
     .ret))) }
theorem f45P : prepF C Tryd.f45 = some f45A := by kernel_rfl

/-- congou/squares.Mirror -/
def f46A : AFunc :=
{ nargs := 1, res := [.c 2 (some 2), .t 3], body :=
  (.seq
   (.reg none [⟨(some 1), .box (.t 0), none⟩,
     ⟨(some 2), .alloc [.nils, .nils], none⟩,
     ⟨(some 3), .mv (.c (.int .i64 0)), none⟩])
   (.seq
    (.seq
     (.reg none [⟨(some 7), .load (some 2) (.t 1), none⟩,
       ⟨(some 8), .call 67 [(.t 7)], none⟩,
       ⟨(some 9), .un .not (.t 8), none⟩])
     (.cond (.t 9)
      (.seq
       (.reg none [⟨(some 10), .build [.nils, .nils] [], none⟩,
         ⟨none, .store 2 (.t 2) (.t 10), none⟩,
         ⟨(some 3), .mv (.c (.int .i64 2)), none⟩])
       .ret)
      .skip))
    (.seq
     (.reg (some []) [⟨(some 11), .faddr 0 (.t 1), none⟩,
       ⟨(some 12), .load none (.t 11), none⟩,
       ⟨(some 13), .call 77 [(.t 12)], none⟩,
       ⟨(some 14), .faddr 1 (.t 1), none⟩,
       ⟨(some 15), .load none (.t 14), none⟩,
       ⟨(some 16), .call 77 [(.t 15)], none⟩,
       ⟨(some 17), .build [.nils, .nils] [(0, 1, (.t 13)), (1, 1, (.t 16))], none⟩,
       ⟨(some 4), .alloc [.nils, .nils], none⟩,
       ⟨none, .store 2 (.t 4) (.t 17), none⟩])
     (.seq
      (.reg none [⟨(some 18), .faddr 1 (.t 4), none⟩,
        ⟨(some 19), .load none (.t 18), none⟩,
        ⟨(some 20), .call 78 [(.t 19)], none⟩])
      (.seq
       (.seq
        (.reg none [⟨(some 21), .faddr 0 (.t 4), none⟩,
          ⟨(some 22), .load none (.t 21), none⟩,
          ⟨(some 23), .len (.t 22), none⟩,
          ⟨(some 24), .mv (.c (.int .i64 0)), none⟩])
        (.block 0
         (.loop
          (.seq
           (.reg none [⟨(some 25), .bin .lss (.t 24) (.t 23), none⟩])
           (.seq
            (.cond (.t 25)
             .skip
             (.exit 0))
            (.seq
             (.block 1
              (.seq
               (.reg none [⟨(some 26), .iaddr 1 (.t 22) (.t 24), none⟩,
                 ⟨(some 27), .load none (.t 26), none⟩,
                 ⟨(some 6), .mv (.t 27), none⟩])
               (.reg none [⟨(some 28), .mv (.t 6), none⟩,
                 ⟨(some 29), .call 79 [(.t 28)], none⟩])))
             (.reg none [⟨(some 30), .bin .add (.t 24) (.c (.int .i64 1)), none⟩,
               ⟨(some 24), .mv (.t 30), none⟩])))))))
       (.seq
        (.reg none [⟨(some 31), .load (some 2) (.t 4), none⟩,
          ⟨none, .store 2 (.t 2) (.t 31), none⟩,
          ⟨(some 3), .mv (.c (.int .i64 0)), none⟩])
        .ret)))))) }
theorem f46P : prepF C Tryd.f46 = some f46A := by kernel_rfl

/-- congou/squares.Try -/
def f53A : AFunc :=
{ nargs := 1, res := [.t 2, .t 3], body :=
  (.seq
   (.reg none [⟨(some 1), .box (.t 0), none⟩,
     ⟨(some 2), .mv (.c (.int .i64 0)), none⟩,
     ⟨(some 3), .mv (.c (.int .i64 0)), none⟩])
   (.seq
    (.seq
     (.reg none [⟨(some 9), .load (some 2) (.t 1), none⟩,
       ⟨(some 10), .call 41 [(.t 9)], none⟩,
       ⟨(some 8), .mv (.t 10), none⟩,
       ⟨(some 11), .extr (.t 8) 0, none⟩,
       ⟨(some 12), .extr (.t 8) 1, none⟩,
       ⟨(some 4), .mv (.t 11), none⟩,
       ⟨(some 5), .mv (.t 12), none⟩])
     (.block 0
      (.seq
       (.reg none [⟨(some 14), .mv (.t 5), none⟩,
         ⟨(some 15), .bin .neq (.t 14) (.c (.int .i64 0)), none⟩,
         ⟨(some 13), .mv (.t 15), none⟩])
       (.cond (.t 13)
        (.seq
         (.reg none [⟨(some 16), .mv (.t 5), none⟩,
           ⟨(some 2), .mv (.c (.int .i64 0)), none⟩,
           ⟨(some 3), .mv (.t 16), none⟩])
         .ret)
        (.seq
         (.reg none [⟨(some 18), .mv (.t 4), none⟩,
           ⟨(some 19), .bin .neq (.t 18) (.c (.int .i64 1)), none⟩,
           ⟨(some 17), .mv (.t 19), none⟩])
         (.cond (.t 17)
          (.seq
           (.reg none [⟨(some 2), .mv (.c (.int .i64 0)), none⟩,
             ⟨(some 3), .mv (.c (.int .i64 4)), none⟩])
           .ret)
          .skip))))))
    (.seq
     (.reg none [⟨(some 6), .mv (.c (.int .i64 0)), none⟩])
     (.block 1
      (.loop
       (.seq
        (.block 2
         (.seq
          (.reg none [⟨(some 22), .call 68 [(.t 1)], none⟩,
            ⟨(some 7), .mv (.t 22), none⟩])
          (.seq
           (.reg none [⟨(some 23), .mv (.t 7), none⟩,
             ⟨(some 24), .mv (.t 6), none⟩,
             ⟨(some 25), .call 83 [(.t 23), (.t 24)], none⟩])
           (.seq
            (.reg none [⟨(some 26), .mv (.t 7), none⟩,
              ⟨(some 27), .call 84 [(.t 26)], none⟩])
            (.cond (.t 27)
             (.seq
              (.reg none [⟨(some 28), .mv (.t 6), none⟩,
                ⟨(some 2), .mv (.t 28), none⟩,
                ⟨(some 3), .mv (.c (.int .i64 0)), none⟩])
              .ret)
             .skip)))))
        (.reg none [⟨(some 20), .mv (.t 6), none⟩,
          ⟨(some 21), .bin .add (.t 20) (.c (.int .i64 1)), none⟩,
          ⟨(some 6), .mv (.t 21), none⟩]))))))) }
theorem f53P : prepF C Tryd.f53 = some f53A := by kernel_rfl

/-- congou/squares.isSet -/
def f55A : AFunc :=
{ nargs := 2, res := [.t 4], body :=
  (.seq
   (.reg none [⟨(some 4), .mv (.c (.b false)), none⟩])
   (.seq
    (.reg none [⟨(some 5), .mv (.t 0), none⟩,
      ⟨(some 6), .call 86 [(.t 5)], none⟩,
      ⟨(some 7), .mv (.t 6), none⟩,
      ⟨(some 8), .mv (.t 1), some (7, true)⟩,
      ⟨(some 9), .bin .geq (.t 8) (.c (.int .i64 0)), some (7, true)⟩,
      ⟨(some 10), .pick (.t 7) (.t 9) (.c (.b false)), none⟩,
      ⟨(some 11), .mv (.t 10), none⟩,
      ⟨(some 12), .mv (.t 1), some (11, true)⟩,
      ⟨(some 13), .mv (.t 0), some (11, true)⟩,
      ⟨(some 14), .bin .shl (.c (.int .i64 1)) (.t 13), some (11, true)⟩,
      ⟨(some 15), .bin .lss (.t 12) (.t 14), some (11, true)⟩,
      ⟨(some 16), .pick (.t 11) (.t 15) (.c (.b false)), none⟩,
      ⟨(some 4), .mv (.t 16), none⟩])
    .ret)) }
theorem f55P : prepF C Tryd.f55 = some f55A := by kernel_rfl

/-- congou/squares.blocks -/
def f56A : AFunc :=
{ nargs := 1, res := [.t 2], body :=
  (.seq
   (.reg none [⟨(some 2), .mv (.c .nils), none⟩])
   (.seq
    (.reg none [⟨(some 3), .mv (.c .nils), none⟩])
    (.seq
     (.seq
      (.reg none [⟨(some 6), .mv (.t 0), none⟩,
        ⟨(some 7), .conv .u64 (.t 6), none⟩,
        ⟨(some 4), .mv (.t 7), none⟩])
      (.block 0
       (.loop
        (.seq
         (.seq
          (.reg none [⟨(some 8), .mv (.t 4), none⟩,
            ⟨(some 9), .bin .neq (.t 8) (.c (.int .u64 0)), none⟩])
          (.cond (.t 9)
           .skip
           (.exit 0)))
         (.block 1
          (.seq
           (.reg none [⟨(some 10), .mv (.t 4), none⟩,
             ⟨(some 11), .mv (.t 4), none⟩,
             ⟨(some 12), .call 87 [(.t 11)], none⟩,
             ⟨(some 13), .bin .shr (.t 10) (.t 12), none⟩,
             ⟨(some 4), .mv (.t 13), none⟩])
           (.seq
            (.reg none [⟨(some 14), .mv (.t 4), none⟩,
              ⟨(some 15), .un .xor (.t 14), none⟩,
              ⟨(some 16), .call 87 [(.t 15)], none⟩,
              ⟨(some 5), .mv (.t 16), none⟩])
            (.seq
             (.reg none [⟨(some 17), .mv (.t 3), none⟩,
               ⟨(some 18), .mv (.t 5), none⟩,
               ⟨(some 19), .bslice [(.int .i64 0)] 1 1 [(0, (.t 18))], none⟩,
               ⟨(some 20), .append 1 8 (.t 17) (.t 19), none⟩,
               ⟨(some 3), .mv (.t 20), none⟩])
             (.reg none [⟨(some 21), .mv (.t 4), none⟩,
               ⟨(some 22), .mv (.t 5), none⟩,
               ⟨(some 23), .bin .shr (.t 21) (.t 22), none⟩,
               ⟨(some 4), .mv (.t 23), none⟩])))))))))
     (.seq
      (.reg none [⟨(some 24), .mv (.t 3), none⟩,
        ⟨(some 2), .mv (.t 24), none⟩])
      .ret)))) }
theorem f56P : prepF C Tryd.f56 = some f56A := by kernel_rfl

/-- congou/squares.isClue -/
def f57A : AFunc :=
{ nargs := 2, res := [.t 4], body :=
  (.seq
   (.reg none [⟨(some 4), .mv (.c (.b false)), none⟩])
   (.seq
    (.reg none [⟨(some 5), .mv (.t 0), none⟩,
      ⟨(some 6), .call 86 [(.t 5)], none⟩,
      ⟨(some 7), .mv (.t 6), none⟩,
      ⟨(some 8), .mv (.t 0), some (7, true)⟩,
      ⟨(some 9), .mv (.t 1), some (7, true)⟩,
      ⟨(some 10), .call 58 [(.t 8), (.t 9)], some (7, true)⟩,
      ⟨(some 11), .len (.t 10), some (7, true)⟩,
      ⟨(some 12), .bin .gtr (.t 11) (.c (.int .i64 0)), some (7, true)⟩,
      ⟨(some 13), .pick (.t 7) (.t 12) (.c (.b false)), none⟩,
      ⟨(some 4), .mv (.t 13), none⟩])
    .ret)) }
theorem f57P : prepF C Tryd.f57 = some f57A := by kernel_rfl

/-- congou/squares.lines -/
def f58A : AFunc :=
{ nargs := 2, res := [.t 4], body :=
  (.seq
   (.reg none [⟨(some 4), .mv (.c .nils), none⟩])
   (.seq
    (.reg none [⟨(some 5), .mv (.c .nils), none⟩])
    (.seq
     (.seq
      (.reg none [⟨(some 7), .mv (.t 0), none⟩,
        ⟨(some 8), .bin .shl (.c (.int .i64 1)) (.t 7), none⟩,
        ⟨(some 9), .mv (.c (.int .i64 0)), none⟩])
      (.block 0
       (.loop
        (.seq
         (.reg none [⟨(some 10), .bin .lss (.t 9) (.t 8), none⟩])
         (.seq
          (.cond (.t 10)
           .skip
           (.exit 0))
          (.seq
           (.block 1
            (.seq
             (.reg none [⟨(some 11), .mv (.t 9), none⟩,
               ⟨(some 6), .mv (.t 11), none⟩])
             (.seq
              (.reg none [⟨(some 12), .mv (.t 6), none⟩,
                ⟨(some 13), .call 56 [(.t 12)], none⟩,
                ⟨(some 14), .mv (.t 1), none⟩,
                ⟨(some 15), .call 21 [(.t 13), (.t 14)], none⟩])
              (.cond (.t 15)
               (.reg none [⟨(some 16), .mv (.t 5), none⟩,
                 ⟨(some 17), .mv (.t 6), none⟩,
                 ⟨(some 18), .bslice [(.int .i64 0)] 1 1 [(0, (.t 17))], none⟩,
                 ⟨(some 19), .append 1 8 (.t 16) (.t 18), none⟩,
                 ⟨(some 5), .mv (.t 19), none⟩])
               .skip))))
           (.reg none [⟨(some 20), .bin .add (.t 9) (.c (.int .i64 1)), none⟩,
             ⟨(some 9), .mv (.t 20), none⟩])))))))
     (.seq
      (.reg none [⟨(some 21), .mv (.t 5), none⟩,
        ⟨(some 4), .mv (.t 21), none⟩])
      .ret)))) }
theorem f58P : prepF C Tryd.f58 = some f58A := by kernel_rfl

/-- congou/congouref07.Size -/
def f59A : AFunc :=
{ nargs := 1, res := [.t 2], body :=
  (.seq
   (.reg none [⟨(some 2), .mv (.c (.b false)), none⟩])
   (.seq
    (.reg none [⟨(some 3), .mv (.t 0), none⟩,
      ⟨(some 4), .bin .geq (.t 3) (.c (.int .i64 1)), none⟩,
      ⟨(some 5), .mv (.t 4), none⟩,
      ⟨(some 6), .mv (.t 0), some (5, true)⟩,
      ⟨(some 7), .bin .leq (.t 6) (.c (.int .i64 5)), some (5, true)⟩,
      ⟨(some 8), .pick (.t 5) (.t 7) (.c (.b false)), none⟩,
      ⟨(some 2), .mv (.t 8), none⟩])
    .ret)) }
theorem f59P : prepF C Tryd.f59 = some f59A := by kernel_rfl

/-- congou/congouref07.same -/
def f60A : AFunc :=
{ nargs := 2, res := [.t 4], body :=
  (.seq
   (.reg none [⟨(some 4), .mv (.c (.b false)), none⟩])
   (.seq
    (.seq
     (.reg none [⟨(some 7), .mv (.t 0), none⟩,
       ⟨(some 8), .len (.t 7), none⟩,
       ⟨(some 9), .mv (.t 1), none⟩,
       ⟨(some 10), .len (.t 9), none⟩,
       ⟨(some 11), .bin .neq (.t 8) (.t 10), none⟩])
     (.cond (.t 11)
      (.seq
       (.reg none [⟨(some 4), .mv (.c (.b false)), none⟩])
       .ret)
      .skip))
    (.seq
     (.seq
      (.reg none [⟨(some 12), .mv (.t 0), none⟩,
        ⟨(some 13), .len (.t 12), none⟩,
        ⟨(some 14), .mv (.c (.int .i64 0)), none⟩])
      (.block 0
       (.loop
        (.seq
         (.reg none [⟨(some 15), .bin .lss (.t 14) (.t 13), none⟩])
         (.seq
          (.cond (.t 15)
           .skip
           (.exit 0))
          (.seq
           (.block 1
            (.seq
             (.reg none [⟨(some 16), .mv (.t 14), none⟩,
               ⟨(some 17), .iaddr 1 (.t 12) (.t 14), none⟩,
               ⟨(some 18), .load none (.t 17), none⟩,
               ⟨(some 5), .mv (.t 16), none⟩,
               ⟨(some 6), .mv (.t 18), none⟩])
             (.seq
              (.reg none [⟨(some 19), .mv (.t 6), none⟩,
                ⟨(some 20), .mv (.t 1), none⟩,
                ⟨(some 21), .mv (.t 5), none⟩,
                ⟨(some 22), .iaddr 1 (.t 20) (.t 21), none⟩,
                ⟨(some 23), .load none (.t 22), none⟩,
                ⟨(some 24), .bin .neq (.t 19) (.t 23), none⟩])
              (.cond (.t 24)
               (.seq
                (.reg none [⟨(some 4), .mv (.c (.b false)), none⟩])
                .ret)
               .skip))))
           (.reg none [⟨(some 25), .bin .add (.t 14) (.c (.int .i64 1)), none⟩,
             ⟨(some 14), .mv (.t 25), none⟩])))))))
     (.seq
      (.reg none [⟨(some 4), .mv (.c (.b true)), none⟩])
      .ret)))) }
theorem f60P : prepF C Tryd.f60 = some f60A := by kernel_rfl

/-- congou/squares.settle -/
def f61A : AFunc :=
{ nargs := 3, res := [.c 6 (some 2), .t 7], body :=
  (.seq
   (.reg none [⟨(some 5), .box (.t 2), none⟩,
     ⟨(some 6), .alloc [(.int .i64 0), (.int .i64 0)], none⟩,
     ⟨(some 7), .mv (.c (.b false)), none⟩])
   (.seq
    (.reg none [⟨(some 11), .mv (.t 0), none⟩,
      ⟨(some 12), .bin .shl (.c (.int .i64 1)) (.t 11), none⟩,
      ⟨(some 13), .bin .sub (.t 12) (.c (.int .i64 1)), none⟩,
      ⟨(some 8), .mv (.t 13), none⟩])
    (.seq
     (.reg none [⟨(some 14), .mv (.t 8), none⟩,
       ⟨(some 15), .mv (.t 8), none⟩,
       ⟨(some 16), .build [(.int .i64 0), (.int .i64 0)] [(0, 1, (.t 14)), (1, 1, (.t 15))], none⟩,
       ⟨none, .store 2 (.t 6) (.t 16), none⟩])
     (.seq
      (.seq
       (.reg none [⟨(some 17), .mv (.t 0), none⟩,
         ⟨(some 18), .mv (.t 1), none⟩,
         ⟨(some 19), .call 58 [(.t 17), (.t 18)], none⟩,
         ⟨(some 20), .len (.t 19), none⟩,
         ⟨(some 21), .mv (.c (.int .i64 0)), none⟩])
       (.block 0
        (.loop
         (.seq
          (.reg none [⟨(some 22), .bin .lss (.t 21) (.t 20), none⟩])
          (.seq
           (.cond (.t 22)
            .skip
            (.exit 0))
           (.seq
            (.block 1
             (.seq
              (.reg none [⟨(some 23), .iaddr 1 (.t 19) (.t 21), none⟩,
                ⟨(some 24), .load none (.t 23), none⟩,
                ⟨(some 10), .mv (.t 24), none⟩])
              (.seq
               (.reg none [⟨(some 25), .load (some 2) (.t 5), none⟩,
                 ⟨(some 26), .mv (.t 10), none⟩,
                 ⟨(some 27), .call 88 [(.t 25), (.t 26)], none⟩])
               (.cond (.t 27)
                (.seq
                 (.reg none [⟨(some 28), .faddr 0 (.t 6), none⟩,
                   ⟨(some 29), .load none (.t 28), none⟩,
                   ⟨(some 30), .mv (.t 10), none⟩,
                   ⟨(some 31), .bin .and (.t 29) (.t 30), none⟩,
                   ⟨(some 32), .faddr 0 (.t 6), none⟩,
                   ⟨none, .store 1 (.t 32) (.t 31), none⟩])
                 (.seq
                  (.reg none [⟨(some 33), .faddr 1 (.t 6), none⟩,
                    ⟨(some 34), .load none (.t 33), none⟩,
                    ⟨(some 35), .mv (.t 10), none⟩,
                    ⟨(some 36), .bin .andNot (.t 34) (.t 35), none⟩,
                    ⟨(some 37), .faddr 1 (.t 6), none⟩,
                    ⟨none, .store 1 (.t 37) (.t 36), none⟩])
                  (.reg none [⟨(some 7), .mv (.c (.b true)), none⟩])))
                .skip))))
            (.reg none [⟨(some 38), .bin .add (.t 21) (.c (.int .i64 1)), none⟩,
              ⟨(some 21), .mv (.t 38), none⟩])))))))
      (.seq
       (.reg none [⟨(some 39), .load (some 2) (.t 6), none⟩,
         ⟨(some 40), .mv (.t 7), none⟩,
         ⟨none, .store 2 (.t 6) (.t 39), none⟩,
         ⟨(some 7), .mv (.t 40), none⟩])
       .ret))))) }
theorem f61P : prepF C Tryd.f61 = some f61A := by kernel_rfl

/-- (congou/squares.Puzzle).valid -/
def f67A : AFunc :=
{ nargs := 1, res := [.t 2], body :=
  (.seq
   (.reg none [⟨(some 1), .box (.t 0), none⟩,
     ⟨(some 2), .mv (.c (.b false)), none⟩])
   (.seq
    (.reg (some [(4, 8)]) [⟨(some 5), .faddr 0 (.t 1), none⟩,
      ⟨(some 6), .load none (.t 5), none⟩,
      ⟨(some 7), .len (.t 6), none⟩,
      ⟨(some 8), .faddr 1 (.t 1), none⟩,
      ⟨(some 9), .load none (.t 8), none⟩,
      ⟨(some 10), .len (.t 9), none⟩,
      ⟨(some 3), .alloc [(.int .i64 0)], none⟩,
      ⟨(some 4), .alloc [(.int .i64 0)], none⟩,
      ⟨none, .store 1 (.t 3) (.t 7), none⟩,
      ⟨none, .store 1 (.t 4) (.t 10), none⟩])
    (.seq
     (.reg none [⟨(some 11), .load none (.t 3), none⟩,
       ⟨(some 12), .call 86 [(.t 11)], none⟩,
       ⟨(some 13), .mv (.t 12), none⟩,
       ⟨(some 14), .load none (.t 4), some (13, true)⟩,
       ⟨(some 15), .call 86 [(.t 14)], some (13, true)⟩,
       ⟨(some 16), .pick (.t 13) (.t 15) (.c (.b false)), none⟩,
       ⟨(some 17), .mv (.t 16), none⟩,
       ⟨(some 18), .faddr 0 (.t 1), some (17, true)⟩,
       ⟨(some 19), .load none (.t 18), some (17, true)⟩,
       ⟨(some 20), .mkfn 94 [] [(.t 4)], some (17, true)⟩,
       ⟨(some 21), .call 93 [(.t 19), (.t 20)], some (17, true)⟩,
       ⟨(some 22), .un .not (.t 21), some (17, true)⟩,
       ⟨(some 23), .pick (.t 17) (.t 22) (.c (.b false)), none⟩,
       ⟨(some 24), .mv (.t 23), none⟩,
       ⟨(some 25), .faddr 1 (.t 1), some (24, true)⟩,
       ⟨(some 26), .load none (.t 25), some (24, true)⟩,
       ⟨(some 27), .mkfn 95 [] [(.t 3)], some (24, true)⟩,
       ⟨(some 28), .call 93 [(.t 26), (.t 27)], some (24, true)⟩,
       ⟨(some 29), .un .not (.t 28), some (24, true)⟩,
       ⟨(some 30), .pick (.t 24) (.t 29) (.c (.b false)), none⟩,
       ⟨(some 2), .mv (.t 30), none⟩])
     .ret))) }
theorem f67P : prepF C Tryd.f67 = some f67A := by kernel_rfl

/-- (*congou/squares.Puzzle).start -/
def f68A : AFunc :=
{ nargs := 1, res := [.t 2], body :=
  (.seq
   (.reg none [⟨(some 2), .mv (.c .nilp), none⟩])
   (.seq
    (.reg none [⟨(some 3), .mv (.t 0), none⟩,
      ⟨(some 4), .mv (.t 0), none⟩,
      ⟨(some 5), .nilchk (.t 4), none⟩,
      ⟨(some 6), .faddr 0 (.t 5), none⟩,
      ⟨(some 7), .load none (.t 6), none⟩,
      ⟨(some 8), .len (.t 7), none⟩,
      ⟨(some 9), .mkslice 2 16 [(.int .i64 0), (.int .i64 0)] (.t 8), none⟩,
      ⟨(some 10), .build [.nilp, .nils] [(0, 1, (.t 3)), (1, 1, (.t 9))], none⟩,
      ⟨(some 11), .box (.t 10), none⟩,
      ⟨(some 2), .mv (.t 11), none⟩])
    .ret)) }
theorem f68P : prepF C Tryd.f68 = some f68A := by kernel_rfl

/-- (*congou/squares.board).lines -/
def f69A : AFunc :=
{ nargs := 1, res := [.t 2], body :=
  (.seq
   (.reg none [⟨(some 2), .mv (.c (.b false)), none⟩])
   (.block 0
    (.loop
     (.block 1
      (.seq
       (.reg none [⟨(some 12), .mv (.t 0), none⟩,
         ⟨(some 13), .nilchk (.t 12), none⟩,
         ⟨(some 14), .faddr 1 (.t 13), none⟩,
         ⟨(some 15), .load none (.t 14), none⟩,
         ⟨(some 16), .call 96 [(.t 15)], none⟩,
         ⟨(some 3), .mv (.t 16), none⟩])
       (.seq
        (.seq
         (.reg none [⟨(some 17), .mv (.t 0), none⟩,
           ⟨(some 18), .nilchk (.t 17), none⟩,
           ⟨(some 19), .faddr 0 (.t 18), none⟩,
           ⟨(some 20), .load none (.t 19), none⟩,
           ⟨(some 21), .nilchk (.t 20), none⟩,
           ⟨(some 22), .faddr 0 (.t 21), none⟩,
           ⟨(some 23), .load none (.t 22), none⟩,
           ⟨(some 24), .len (.t 23), none⟩,
           ⟨(some 25), .mv (.c (.int .i64 0)), none⟩])
         (.block 2
          (.loop
           (.seq
            (.reg none [⟨(some 26), .bin .lss (.t 25) (.t 24), none⟩])
            (.seq
             (.cond (.t 26)
              .skip
              (.exit 2))
             (.seq
              (.block 3
               (.seq
                (.reg none [⟨(some 27), .mv (.t 25), none⟩,
                  ⟨(some 28), .iaddr 1 (.t 23) (.t 25), none⟩,
                  ⟨(some 29), .load none (.t 28), none⟩,
                  ⟨(some 4), .mv (.t 27), none⟩,
                  ⟨(some 5), .mv (.t 29), none⟩])
                (.seq
                 (.reg (some []) [⟨(some 31), .mv (.t 0), none⟩,
                   ⟨(some 32), .nilchk (.t 31), none⟩,
                   ⟨(some 33), .faddr 0 (.t 32), none⟩,
                   ⟨(some 34), .load none (.t 33), none⟩,
                   ⟨(some 35), .nilchk (.t 34), none⟩,
                   ⟨(some 36), .faddr 1 (.t 35), none⟩,
                   ⟨(some 37), .load none (.t 36), none⟩,
                   ⟨(some 38), .len (.t 37), none⟩,
                   ⟨(some 39), .mv (.t 5), none⟩,
                   ⟨(some 40), .mv (.t 0), none⟩,
                   ⟨(some 41), .nilchk (.t 40), none⟩,
                   ⟨(some 42), .faddr 1 (.t 41), none⟩,
                   ⟨(some 43), .load none (.t 42), none⟩,
                   ⟨(some 44), .mv (.t 4), none⟩,
                   ⟨(some 45), .iaddr 2 (.t 43) (.t 44), none⟩,
                   ⟨(some 46), .load (some 2) (.t 45), none⟩,
                   ⟨(some 47), .call 61 [(.t 38), (.t 39), (.t 46)], none⟩,
                   ⟨(some 30), .mv (.t 47), none⟩,
                   ⟨(some 48), .extr (.t 30) 0, none⟩,
                   ⟨(some 49), .extr (.t 30) 1, none⟩,
                   ⟨(some 6), .alloc [(.int .i64 0), (.int .i64 0)], none⟩,
                   ⟨none, .store 2 (.t 6) (.t 48), none⟩,
                   ⟨(some 7), .mv (.t 49), none⟩])
                 (.seq
                  (.seq
                   (.reg none [⟨(some 50), .mv (.t 7), none⟩,
                     ⟨(some 51), .un .not (.t 50), none⟩])
                   (.cond (.t 51)
                    (.seq
                     (.reg none [⟨(some 2), .mv (.c (.b false)), none⟩])
                     .ret)
                    .skip))
                  (.reg (some []) [⟨(some 52), .mv (.t 0), none⟩,
                    ⟨(some 53), .nilchk (.t 52), none⟩,
                    ⟨(some 54), .faddr 1 (.t 53), none⟩,
                    ⟨(some 55), .load none (.t 54), none⟩,
                    ⟨(some 56), .mv (.t 4), none⟩,
                    ⟨(some 57), .load (some 2) (.t 6), none⟩,
                    ⟨(some 58), .iaddr 2 (.t 55) (.t 56), none⟩,
                    ⟨none, .store 2 (.t 58) (.t 57), none⟩])))))
              (.reg none [⟨(some 59), .bin .add (.t 25) (.c (.int .i64 1)), none⟩,
                ⟨(some 25), .mv (.t 59), none⟩])))))))
        (.seq
         (.seq
          (.reg none [⟨(some 60), .mv (.t 0), none⟩,
            ⟨(some 61), .nilchk (.t 60), none⟩,
            ⟨(some 62), .faddr 0 (.t 61), none⟩,
            ⟨(some 63), .load none (.t 62), none⟩,
            ⟨(some 64), .nilchk (.t 63), none⟩,
            ⟨(some 65), .faddr 1 (.t 64), none⟩,
            ⟨(some 66), .load none (.t 65), none⟩,
            ⟨(some 67), .len (.t 66), none⟩,
            ⟨(some 68), .mv (.c (.int .i64 0)), none⟩])
          (.block 4
           (.loop
            (.seq
             (.reg none [⟨(some 69), .bin .lss (.t 68) (.t 67), none⟩])
             (.seq
              (.cond (.t 69)
               .skip
               (.exit 4))
              (.seq
               (.block 5
                (.seq
                 (.reg none [⟨(some 70), .mv (.t 68), none⟩,
                   ⟨(some 71), .iaddr 1 (.t 66) (.t 68), none⟩,
                   ⟨(some 72), .load none (.t 71), none⟩,
                   ⟨(some 8), .mv (.t 70), none⟩,
                   ⟨(some 9), .mv (.t 72), none⟩])
                 (.seq
                  (.reg (some []) [⟨(some 74), .mv (.t 0), none⟩,
                    ⟨(some 75), .nilchk (.t 74), none⟩,
                    ⟨(some 76), .faddr 0 (.t 75), none⟩,
                    ⟨(some 77), .load none (.t 76), none⟩,
                    ⟨(some 78), .nilchk (.t 77), none⟩,
                    ⟨(some 79), .faddr 0 (.t 78), none⟩,
                    ⟨(some 80), .load none (.t 79), none⟩,
                    ⟨(some 81), .len (.t 80), none⟩,
                    ⟨(some 82), .mv (.t 9), none⟩,
                    ⟨(some 83), .mv (.t 0), none⟩,
                    ⟨(some 84), .mv (.t 8), none⟩,
                    ⟨(some 85), .call 97 [(.t 83), (.t 84)], none⟩,
                    ⟨(some 86), .call 61 [(.t 81), (.t 82), (.t 85)], none⟩,
                    ⟨(some 73), .mv (.t 86), none⟩,
                    ⟨(some 87), .extr (.t 73) 0, none⟩,
                    ⟨(some 88), .extr (.t 73) 1, none⟩,
                    ⟨(some 10), .alloc [(.int .i64 0), (.int .i64 0)], none⟩,
                    ⟨none, .store 2 (.t 10) (.t 87), none⟩,
                    ⟨(some 11), .mv (.t 88), none⟩])
                  (.seq
                   (.seq
                    (.reg none [⟨(some 89), .mv (.t 11), none⟩,
                      ⟨(some 90), .un .not (.t 89), none⟩])
                    (.cond (.t 90)
                     (.seq
                      (.reg none [⟨(some 2), .mv (.c (.b false)), none⟩])
                      .ret)
                     .skip))
                   (.reg none [⟨(some 91), .mv (.t 0), none⟩,
                     ⟨(some 92), .mv (.t 8), none⟩,
                     ⟨(some 93), .load (some 2) (.t 10), none⟩,
                     ⟨(some 94), .call 98 [(.t 91), (.t 92), (.t 93)], none⟩])))))
               (.reg none [⟨(some 95), .bin .add (.t 68) (.c (.int .i64 1)), none⟩,
                 ⟨(some 68), .mv (.t 95), none⟩])))))))
         (.seq
          (.reg none [⟨(some 96), .mv (.t 3), none⟩,
            ⟨(some 97), .mv (.t 0), none⟩,
            ⟨(some 98), .nilchk (.t 97), none⟩,
            ⟨(some 99), .faddr 1 (.t 98), none⟩,
            ⟨(some 100), .load none (.t 99), none⟩,
            ⟨(some 101), .call 99 [(.t 96), (.t 100)], none⟩])
          (.cond (.t 101)
           (.seq
            (.reg none [⟨(some 2), .mv (.c (.b true)), none⟩])
            .ret)
           .skip))))))))) }
theorem f69P : prepF C Tryd.f69 = some f69A := by kernel_rfl

/-- congou/congoulaw07.table -/
def f70A : AFunc :=
{ nargs := 1, res := [.t 2], body :=
  (.seq
   (.reg none [⟨(some 2), .mv (.c .nils), none⟩])
   (.seq
    (.reg none [⟨(some 3), .mv (.c .nils), none⟩])
    (.seq
     (.seq
      (.reg none [⟨(some 6), .mv (.t 0), none⟩,
        ⟨(some 7), .len (.t 6), none⟩,
        ⟨(some 8), .mv (.c (.int .i64 0)), none⟩])
      (.block 0
       (.loop
        (.seq
         (.reg none [⟨(some 9), .bin .lss (.t 8) (.t 7), none⟩])
         (.seq
          (.cond (.t 9)
           .skip
           (.exit 0))
          (.seq
           (.block 1
            (.seq
             (.reg none [⟨(some 10), .mv (.t 8), none⟩,
               ⟨(some 11), .iaddr 1 (.t 6) (.t 8), none⟩,
               ⟨(some 12), .load none (.t 11), none⟩,
               ⟨(some 4), .mv (.t 10), none⟩,
               ⟨(some 5), .mv (.t 12), none⟩])
             (.seq
              (.reg none [⟨(some 13), .mv (.t 4), none⟩,
                ⟨(some 14), .bin .lss (.t 13) (.c (.int .i64 8)), none⟩])
              (.cond (.t 14)
               (.reg none [⟨(some 15), .mv (.t 3), none⟩,
                 ⟨(some 16), .mv (.t 5), none⟩,
                 ⟨(some 17), .call 19 [(.t 16)], none⟩,
                 ⟨(some 18), .bslice [.nils] 1 1 [(0, (.t 17))], none⟩,
                 ⟨(some 19), .append 1 24 (.t 15) (.t 18), none⟩,
                 ⟨(some 3), .mv (.t 19), none⟩])
               .skip))))
           (.reg none [⟨(some 20), .bin .add (.t 8) (.c (.int .i64 1)), none⟩,
             ⟨(some 8), .mv (.t 20), none⟩])))))))
     (.seq
      (.reg none [⟨(some 21), .mv (.t 3), none⟩,
        ⟨(some 2), .mv (.t 21), none⟩])
      .ret)))) }
theorem f70P : prepF C Tryd.f70 = some f70A := by kernel_rfl

/-- (congou/squares.Puzzle).solutions -/
def f73A : AFunc :=
{ nargs := 2, res := [], body :=
  (.seq
   (.reg none [⟨(some 2), .box (.t 0), none⟩,
     ⟨(some 3), .box (.t 1), none⟩])
   (.seq
    (.reg none [⟨(some 4), .alloc [.nilf], none⟩])
    (.seq
     (.reg none [⟨(some 5), .mkfn 101 [] [(.t 2), (.t 3), (.t 4)], none⟩,
       ⟨none, .store 1 (.t 4) (.t 5), none⟩])
     (.reg none [⟨(some 6), .load none (.t 4), none⟩,
       ⟨(some 7), .callv (.t 6) [(.c .nils)], none⟩])))) }
theorem f73P : prepF C Tryd.f73 = some f73A := by kernel_rfl

/-- congou/squares.Filled$1 -/
def f75A : AFunc :=
{ nargs := 1, res := [.t 2], body :=
  (.seq
   (.reg none [⟨(some 2), .mv (.c (.int .i64 0)), none⟩])
   (.seq
    (.reg none [⟨(some 3), .mv (.c (.int .i64 0)), none⟩])
    (.seq
     (.seq
      (.reg none [⟨(some 6), .mv (.t 0), none⟩,
        ⟨(some 7), .call 76 [(.t 6)], none⟩,
        ⟨(some 8), .len (.t 7), none⟩,
        ⟨(some 9), .mv (.c (.int .i64 0)), none⟩])
      (.block 0
       (.loop
        (.seq
         (.reg none [⟨(some 10), .bin .lss (.t 9) (.t 8), none⟩])
         (.seq
          (.cond (.t 10)
           .skip
           (.exit 0))
          (.seq
           (.block 1
            (.seq
             (.reg none [⟨(some 11), .iaddr 1 (.t 7) (.t 9), none⟩,
               ⟨(some 12), .load none (.t 11), none⟩,
               ⟨(some 5), .mv (.t 12), none⟩])
             (.reg none [⟨(some 13), .mv (.t 3), none⟩,
               ⟨(some 14), .mv (.t 5), none⟩,
               ⟨(some 15), .bin .add (.t 13) (.t 14), none⟩,
               ⟨(some 3), .mv (.t 15), none⟩])))
           (.reg none [⟨(some 16), .bin .add (.t 9) (.c (.int .i64 1)), none⟩,
             ⟨(some 9), .mv (.t 16), none⟩])))))))
     (.seq
      (.reg none [⟨(some 17), .mv (.t 3), none⟩,
        ⟨(some 2), .mv (.t 17), none⟩])
      .ret)))) }
theorem f75P : prepF C Tryd.f75 = some f75A := by kernel_rfl

/-- slices.Concat[[]int,int] -/
def f76A : AFunc :=
{ nargs := 1, res := [.t 2], body :=
  (.seq
   (.reg none [⟨(some 2), .mv (.c .nils), none⟩])
   (.seq
    (.reg none [⟨(some 3), .mv (.c (.int .i64 0)), none⟩])
    (.seq
     (.seq
      (.reg none [⟨(some 9), .mv (.t 0), none⟩,
        ⟨(some 10), .len (.t 9), none⟩,
        ⟨(some 11), .mv (.c (.int .i64 0)), none⟩])
      (.block 0
       (.loop
        (.seq
         (.reg none [⟨(some 12), .bin .lss (.t 11) (.t 10), none⟩])
         (.seq
          (.cond (.t 12)
           .skip
           (.exit 0))
          (.seq
           (.block 1
            (.seq
             (.reg none [⟨(some 13), .iaddr 1 (.t 9) (.t 11), none⟩,
               ⟨(some 14), .load none (.t 13), none⟩,
               ⟨(some 5), .mv (.t 14), none⟩])
             (.seq
              (.reg none [⟨(some 15), .mv (.t 3), none⟩,
                ⟨(some 16), .mv (.t 5), none⟩,
                ⟨(some 17), .len (.t 16), none⟩,
                ⟨(some 18), .bin .add (.t 15) (.t 17), none⟩,
                ⟨(some 3), .mv (.t 18), none⟩])
              (.seq
               (.reg none [⟨(some 19), .mv (.t 3), none⟩,
                 ⟨(some 20), .bin .lss (.t 19) (.c (.int .i64 0)), none⟩])
               (.cond (.t 20)
                (.reg none [⟨(some 21), .bad, none⟩,
                  ⟨none, .bad, none⟩])
                .skip)))))
           (.reg none [⟨(some 22), .bin .add (.t 11) (.c (.int .i64 1)), none⟩,
             ⟨(some 11), .mv (.t 22), none⟩])))))))
     (.seq
      (.reg none [⟨(some 23), .mv (.t 3), none⟩,
        ⟨(some 24), .call 103 [(.c .nils), (.t 23)], none⟩,
        ⟨(some 6), .mv (.t 24), none⟩])
      (.seq
       (.seq
        (.reg none [⟨(some 25), .mv (.t 0), none⟩,
          ⟨(some 26), .len (.t 25), none⟩,
          ⟨(some 27), .mv (.c (.int .i64 0)), none⟩])
        (.block 2
         (.loop
          (.seq
           (.reg none [⟨(some 28), .bin .lss (.t 27) (.t 26), none⟩])
           (.seq
            (.cond (.t 28)
             .skip
             (.exit 2))
            (.seq
             (.block 3
              (.seq
               (.reg none [⟨(some 29), .iaddr 1 (.t 25) (.t 27), none⟩,
                 ⟨(some 30), .load none (.t 29), none⟩,
                 ⟨(some 8), .mv (.t 30), none⟩])
               (.reg none [⟨(some 31), .mv (.t 6), none⟩,
                 ⟨(some 32), .mv (.t 8), none⟩,
                 ⟨(some 33), .append 1 8 (.t 31) (.t 32), none⟩,
                 ⟨(some 6), .mv (.t 33), none⟩])))
             (.reg none [⟨(some 34), .bin .add (.t 27) (.c (.int .i64 1)), none⟩,
               ⟨(some 27), .mv (.t 34), none⟩])))))))
       (.seq
        (.reg none [⟨(some 35), .mv (.t 6), none⟩,
          ⟨(some 2), .mv (.t 35), none⟩])
        .ret)))))) }
theorem f76P : prepF C Tryd.f76 = some f76A := by kernel_rfl

/-- congou/squares.clone -/
def f77A : AFunc :=
{ nargs := 1, res := [.t 2], body :=
  (.seq
   (.reg none [⟨(some 2), .mv (.c .nils), none⟩])
   (.seq
    (.reg none [⟨(some 3), .mv (.c .nils), none⟩])
    (.seq
     (.seq
      (.reg none [⟨(some 6), .mv (.t 0), none⟩,
        ⟨(some 7), .len (.t 6), none⟩,
        ⟨(some 8), .mv (.c (.int .i64 0)), none⟩])
      (.block 0
       (.loop
        (.seq
         (.reg none [⟨(some 9), .bin .lss (.t 8) (.t 7), none⟩])
         (.seq
          (.cond (.t 9)
           .skip
           (.exit 0))
          (.seq
           (.block 1
            (.seq
             (.reg none [⟨(some 10), .iaddr 1 (.t 6) (.t 8), none⟩,
               ⟨(some 11), .load none (.t 10), none⟩,
               ⟨(some 5), .mv (.t 11), none⟩])
             (.reg none [⟨(some 12), .mv (.t 3), none⟩,
               ⟨(some 13), .mv (.t 5), none⟩,
               ⟨(some 14), .call 33 [(.t 13)], none⟩,
               ⟨(some 15), .bslice [.nils] 1 1 [(0, (.t 14))], none⟩,
               ⟨(some 16), .append 1 24 (.t 12) (.t 15), none⟩,
               ⟨(some 3), .mv (.t 16), none⟩])))
           (.reg none [⟨(some 17), .bin .add (.t 8) (.c (.int .i64 1)), none⟩,
             ⟨(some 8), .mv (.t 17), none⟩])))))))
     (.seq
      (.reg none [⟨(some 18), .mv (.t 3), none⟩,
        ⟨(some 2), .mv (.t 18), none⟩])
      .ret)))) }
theorem f77P : prepF C Tryd.f77 = some f77A := by kernel_rfl

/-- slices.Reverse[[][]int,[]int] -/
def f78A : AFunc :=
{ nargs := 1, res := [], body :=
  (.seq
   (.reg none [⟨(some 4), .mv (.t 0), none⟩,
     ⟨(some 5), .len (.t 4), none⟩,
     ⟨(some 6), .bin .sub (.t 5) (.c (.int .i64 1)), none⟩,
     ⟨(some 2), .mv (.c (.int .i64 0)), none⟩,
     ⟨(some 3), .mv (.t 6), none⟩])
   (.block 0
    (.loop
     (.seq
      (.seq
       (.reg none [⟨(some 7), .mv (.t 2), none⟩,
         ⟨(some 8), .mv (.t 3), none⟩,
         ⟨(some 9), .bin .lss (.t 7) (.t 8), none⟩])
       (.cond (.t 9)
        .skip
        (.exit 0)))
      (.seq
       (.block 1
        (.reg (some []) [⟨(some 14), .mv (.t 0), none⟩,
          ⟨(some 15), .mv (.t 2), none⟩,
          ⟨(some 16), .mv (.t 0), none⟩,
          ⟨(some 17), .mv (.t 3), none⟩,
          ⟨(some 18), .mv (.t 0), none⟩,
          ⟨(some 19), .mv (.t 3), none⟩,
          ⟨(some 20), .iaddr 1 (.t 18) (.t 19), none⟩,
          ⟨(some 21), .load none (.t 20), none⟩,
          ⟨(some 22), .mv (.t 0), none⟩,
          ⟨(some 23), .mv (.t 2), none⟩,
          ⟨(some 24), .iaddr 1 (.t 22) (.t 23), none⟩,
          ⟨(some 25), .load none (.t 24), none⟩,
          ⟨(some 26), .iaddr 1 (.t 14) (.t 15), none⟩,
          ⟨none, .store 1 (.t 26) (.t 21), none⟩,
          ⟨(some 27), .iaddr 1 (.t 16) (.t 17), none⟩,
          ⟨none, .store 1 (.t 27) (.t 25), none⟩]))
       (.reg none [⟨(some 10), .mv (.t 2), none⟩,
         ⟨(some 11), .bin .add (.t 10) (.c (.int .i64 1)), none⟩,
         ⟨(some 12), .mv (.t 3), none⟩,
         ⟨(some 13), .bin .sub (.t 12) (.c (.int .i64 1)), none⟩,
         ⟨(some 2), .mv (.t 11), none⟩,
         ⟨(some 3), .mv (.t 13), none⟩])))))) }
theorem f78P : prepF C Tryd.f78 = some f78A := by kernel_rfl

/-- slices.Reverse[[]int,int] -/
def f79A : AFunc :=
{ nargs := 1, res := [], body :=
  (.seq
   (.reg none [⟨(some 4), .mv (.t 0), none⟩,
     ⟨(some 5), .len (.t 4), none⟩,
     ⟨(some 6), .bin .sub (.t 5) (.c (.int .i64 1)), none⟩,
     ⟨(some 2), .mv (.c (.int .i64 0)), none⟩,
     ⟨(some 3), .mv (.t 6), none⟩])
   (.block 0
    (.loop
     (.seq
      (.seq
       (.reg none [⟨(some 7), .mv (.t 2), none⟩,
         ⟨(some 8), .mv (.t 3), none⟩,
         ⟨(some 9), .bin .lss (.t 7) (.t 8), none⟩])
       (.cond (.t 9)
        .skip
        (.exit 0)))
      (.seq
       (.block 1
        (.reg (some []) [⟨(some 14), .mv (.t 0), none⟩,
          ⟨(some 15), .mv (.t 2), none⟩,
          ⟨(some 16), .mv (.t 0), none⟩,
          ⟨(some 17), .mv (.t 3), none⟩,
          ⟨(some 18), .mv (.t 0), none⟩,
          ⟨(some 19), .mv (.t 3), none⟩,
          ⟨(some 20), .iaddr 1 (.t 18) (.t 19), none⟩,
          ⟨(some 21), .load none (.t 20), none⟩,
          ⟨(some 22), .mv (.t 0), none⟩,
          ⟨(some 23), .mv (.t 2), none⟩,
          ⟨(some 24), .iaddr 1 (.t 22) (.t 23), none⟩,
          ⟨(some 25), .load none (.t 24), none⟩,
          ⟨(some 26), .iaddr 1 (.t 14) (.t 15), none⟩,
          ⟨none, .store 1 (.t 26) (.t 21), none⟩,
          ⟨(some 27), .iaddr 1 (.t 16) (.t 17), none⟩,
          ⟨none, .store 1 (.t 27) (.t 25), none⟩]))
       (.reg none [⟨(some 10), .mv (.t 2), none⟩,
         ⟨(some 11), .bin .add (.t 10) (.c (.int .i64 1)), none⟩,
         ⟨(some 12), .mv (.t 3), none⟩,
         ⟨(some 13), .bin .sub (.t 12) (.c (.int .i64 1)), none⟩,
         ⟨(some 2), .mv (.t 11), none⟩,
         ⟨(some 3), .mv (.t 13), none⟩])))))) }
theorem f79P : prepF C Tryd.f79 = some f79A := by kernel_rfl

/-- (*congou/squares.board).settle -/
def f83A : AFunc :=
{ nargs := 2, res := [.t 4], body :=
  (.seq
   (.reg none [⟨(some 4), .mv (.c (.b false)), none⟩])
   (.seq
    (.block 0
     (.loop
      (.seq
       (.seq
        (.reg none [⟨(some 5), .mv (.t 0), none⟩,
          ⟨(some 6), .call 69 [(.t 5)], none⟩])
        (.cond (.t 6)
         .skip
         (.exit 0)))
       (.block 1
        (.seq
         (.reg none [⟨(some 7), .mv (.t 1), none⟩,
           ⟨(some 8), .bin .eql (.t 7) (.c (.int .i64 0)), none⟩,
           ⟨(some 9), .mv (.t 8), none⟩,
           ⟨(some 10), .mv (.t 0), some (9, false)⟩,
           ⟨(some 11), .mv (.t 1), some (9, false)⟩,
           ⟨(some 12), .call 104 [(.t 10), (.t 11)], some (9, false)⟩,
           ⟨(some 13), .un .not (.t 12), some (9, false)⟩,
           ⟨(some 14), .pick (.t 9) (.c (.b true)) (.t 13), none⟩])
         (.cond (.t 14)
          (.seq
           (.reg none [⟨(some 4), .mv (.c (.b true)), none⟩])
           .ret)
          .skip))))))
    (.seq
     (.reg none [⟨(some 4), .mv (.c (.b false)), none⟩])
     .ret))) }
theorem f83P : prepF C Tryd.f83 = some f83A := by kernel_rfl

/-- (*congou/squares.board).done -/
def f84A : AFunc :=
{ nargs := 1, res := [.c 2 none], body :=
  (.seq
   (.reg none [⟨(some 2), .alloc [(.b false)], none⟩])
   (.seq
    (.seq
     (.reg none [⟨(some 3), .mv (.t 0), none⟩,
       ⟨(some 4), .mkfn 105 [(.t 3)] [], none⟩])
     (.block 0
      (.rangeF 7 (.t 4) [5, 6]
       .skip
       (.block 1
        (.seq
         (.reg none [⟨none, .store 1 (.t 2) (.c (.b false)), none⟩])
         .ret)))))
    (.seq
     (.reg none [⟨none, .store 1 (.t 2) (.c (.b true)), none⟩])
     .ret))) }
theorem f84P : prepF C Tryd.f84 = some f84A := by kernel_rfl

/-- congou/squares.isSize -/
def f86A : AFunc :=
{ nargs := 1, res := [.t 2], body :=
  (.seq
   (.reg none [⟨(some 2), .mv (.c (.b false)), none⟩])
   (.seq
    (.reg none [⟨(some 3), .mv (.t 0), none⟩,
      ⟨(some 4), .bin .geq (.t 3) (.c (.int .i64 1)), none⟩,
      ⟨(some 5), .mv (.t 4), none⟩,
      ⟨(some 6), .mv (.t 0), some (5, true)⟩,
      ⟨(some 7), .bin .leq (.t 6) (.c (.int .i64 5)), some (5, true)⟩,
      ⟨(some 8), .pick (.t 5) (.t 7) (.c (.b false)), none⟩,
      ⟨(some 2), .mv (.t 8), none⟩])
    .ret)) }
theorem f86P : prepF C Tryd.f86 = some f86A := by kernel_rfl

/-- math/bits.TrailingZeros -/
def f87A : AFunc :=
{ nargs := 1, res := [.t 2], body :=
  (.seq
   (.reg none [⟨(some 2), .mv (.c (.int .i64 0)), none⟩])
   (.seq
    (.cond (.c (.b false))
     (.seq
      (.reg none [⟨(some 3), .mv (.t 0), none⟩,
        ⟨(some 4), .conv .u32 (.t 3), none⟩,
        ⟨(some 5), .call 108 [(.t 4)], none⟩,
        ⟨(some 2), .mv (.t 5), none⟩])
      .ret)
     .skip)
    (.seq
     (.reg none [⟨(some 6), .mv (.t 0), none⟩,
       ⟨(some 7), .call 109 [(.t 6)], none⟩,
       ⟨(some 2), .mv (.t 7), none⟩])
     .ret))) }
theorem f87P : prepF C Tryd.f87 = some f87A := by kernel_rfl

/-- (congou/squares.known).agrees -/
def f88A : AFunc :=
{ nargs := 2, res := [.t 4], body :=
  (.seq
   (.reg none [⟨(some 2), .box (.t 0), none⟩,
     ⟨(some 4), .mv (.c (.b false)), none⟩])
   (.seq
    (.reg none [⟨(some 5), .mv (.t 1), none⟩,
      ⟨(some 6), .faddr 0 (.t 2), none⟩,
      ⟨(some 7), .load none (.t 6), none⟩,
      ⟨(some 8), .bin .and (.t 5) (.t 7), none⟩,
      ⟨(some 9), .faddr 0 (.t 2), none⟩,
      ⟨(some 10), .load none (.t 9), none⟩,
      ⟨(some 11), .bin .eql (.t 8) (.t 10), none⟩,
      ⟨(some 12), .mv (.t 11), none⟩,
      ⟨(some 13), .mv (.t 1), some (12, true)⟩,
      ⟨(some 14), .faddr 1 (.t 2), some (12, true)⟩,
      ⟨(some 15), .load none (.t 14), some (12, true)⟩,
      ⟨(some 16), .bin .and (.t 13) (.t 15), some (12, true)⟩,
      ⟨(some 17), .bin .eql (.t 16) (.c (.int .i64 0)), some (12, true)⟩,
      ⟨(some 18), .pick (.t 12) (.t 17) (.c (.b false)), none⟩,
      ⟨(some 4), .mv (.t 18), none⟩])
    .ret)) }
theorem f88P : prepF C Tryd.f88 = some f88A := by kernel_rfl

/-- congou/squares.column -/
def f91A : AFunc :=
{ nargs := 2, res := [.t 4], body :=
  (.seq
   (.reg none [⟨(some 4), .mv (.c (.int .i64 0)), none⟩])
   (.seq
    (.reg none [⟨(some 5), .mv (.c (.int .i64 0)), none⟩])
    (.seq
     (.seq
      (.reg none [⟨(some 8), .mv (.t 0), none⟩,
        ⟨(some 9), .len (.t 8), none⟩,
        ⟨(some 10), .mv (.c (.int .i64 0)), none⟩])
      (.block 0
       (.loop
        (.seq
         (.reg none [⟨(some 11), .bin .lss (.t 10) (.t 9), none⟩])
         (.seq
          (.cond (.t 11)
           .skip
           (.exit 0))
          (.seq
           (.block 1
            (.seq
             (.reg none [⟨(some 12), .mv (.t 10), none⟩,
               ⟨(some 13), .iaddr 1 (.t 8) (.t 10), none⟩,
               ⟨(some 14), .load none (.t 13), none⟩,
               ⟨(some 6), .mv (.t 12), none⟩,
               ⟨(some 7), .mv (.t 14), none⟩])
             (.reg none [⟨(some 15), .mv (.t 5), none⟩,
               ⟨(some 16), .mv (.t 7), none⟩,
               ⟨(some 17), .mv (.t 1), none⟩,
               ⟨(some 18), .bin .shr (.t 16) (.t 17), none⟩,
               ⟨(some 19), .bin .and (.t 18) (.c (.int .i64 1)), none⟩,
               ⟨(some 20), .mv (.t 6), none⟩,
               ⟨(some 21), .bin .shl (.t 19) (.t 20), none⟩,
               ⟨(some 22), .bin .or (.t 15) (.t 21), none⟩,
               ⟨(some 5), .mv (.t 22), none⟩])))
           (.reg none [⟨(some 23), .bin .add (.t 10) (.c (.int .i64 1)), none⟩,
             ⟨(some 10), .mv (.t 23), none⟩])))))))
     (.seq
      (.reg none [⟨(some 24), .mv (.t 5), none⟩,
        ⟨(some 4), .mv (.t 24), none⟩])
      .ret)))) }
theorem f91P : prepF C Tryd.f91 = some f91A := by kernel_rfl

/-- slices.ContainsFunc[[][]int,[]int] -/
def f93A : AFunc :=
{ nargs := 2, res := [.t 4], body :=
  (.seq
   (.reg none [⟨(some 4), .mv (.c (.b false)), none⟩])
   (.seq
    (.reg none [⟨(some 5), .mv (.t 0), none⟩,
      ⟨(some 6), .mv (.t 1), none⟩,
      ⟨(some 7), .call 111 [(.t 5), (.t 6)], none⟩,
      ⟨(some 8), .bin .geq (.t 7) (.c (.int .i64 0)), none⟩,
      ⟨(some 4), .mv (.t 8), none⟩])
    .ret)) }
theorem f93P : prepF C Tryd.f93 = some f93A := by kernel_rfl

/-- (congou/squares.Puzzle).valid$1 -/
def f94A : AFunc :=
{ nargs := 2, res := [.t 3], body :=
  (.seq
   (.reg none [⟨(some 3), .mv (.c (.b false)), none⟩])
   (.seq
    (.reg none [⟨(some 4), .load none (.t 1), none⟩,
      ⟨(some 5), .mv (.t 0), none⟩,
      ⟨(some 6), .call 57 [(.t 4), (.t 5)], none⟩,
      ⟨(some 7), .un .not (.t 6), none⟩,
      ⟨(some 3), .mv (.t 7), none⟩])
    .ret)) }
theorem f94P : prepF C Tryd.f94 = some f94A := by kernel_rfl

/-- (congou/squares.Puzzle).valid$2 -/
def f95A : AFunc :=
{ nargs := 2, res := [.t 3], body :=
  (.seq
   (.reg none [⟨(some 3), .mv (.c (.b false)), none⟩])
   (.seq
    (.reg none [⟨(some 4), .load none (.t 1), none⟩,
      ⟨(some 5), .mv (.t 0), none⟩,
      ⟨(some 6), .call 57 [(.t 4), (.t 5)], none⟩,
      ⟨(some 7), .un .not (.t 6), none⟩,
      ⟨(some 3), .mv (.t 7), none⟩])
    .ret)) }
theorem f95P : prepF C Tryd.f95 = some f95A := by kernel_rfl

/-- slices.Clone[[]congou/squares.known,congou/squares.known] -/
def f96A : AFunc :=
{ nargs := 1, res := [.t 2], body :=
  (.seq
   (.reg none [⟨(some 2), .mv (.c .nils), none⟩])
   (.seq
    (.seq
     (.reg none [⟨(some 3), .mv (.t 0), none⟩,
       ⟨(some 4), .seq false (.t 3) (.c .nils), none⟩])
     (.cond (.t 4)
      (.seq
       (.reg none [⟨(some 2), .mv (.c .nils), none⟩])
       .ret)
      .skip))
    (.seq
     (.reg none [⟨(some 5), .bslice [(.int .i64 0), (.int .i64 0)] 0 2 [], none⟩,
       ⟨(some 6), .mv (.t 0), none⟩,
       ⟨(some 7), .append 2 16 (.t 5) (.t 6), none⟩,
       ⟨(some 2), .mv (.t 7), none⟩])
     .ret))) }
theorem f96P : prepF C Tryd.f96 = some f96A := by kernel_rfl

/-- (*congou/squares.board).column -/
def f97A : AFunc :=
{ nargs := 2, res := [.c 4 (some 2)], body :=
  (.seq
   (.reg none [⟨(some 4), .alloc [(.int .i64 0), (.int .i64 0)], none⟩])
   (.seq
    (.reg none [⟨(some 5), .alloc [(.int .i64 0), (.int .i64 0)], none⟩])
    (.seq
     (.seq
      (.reg none [⟨(some 8), .mv (.t 0), none⟩,
        ⟨(some 9), .nilchk (.t 8), none⟩,
        ⟨(some 10), .faddr 1 (.t 9), none⟩,
        ⟨(some 11), .load none (.t 10), none⟩,
        ⟨(some 12), .len (.t 11), none⟩,
        ⟨(some 13), .mv (.c (.int .i64 0)), none⟩])
      (.block 0
       (.loop
        (.seq
         (.reg none [⟨(some 14), .bin .lss (.t 13) (.t 12), none⟩])
         (.seq
          (.cond (.t 14)
           .skip
           (.exit 0))
          (.seq
           (.block 1
            (.seq
             (.reg none [⟨(some 15), .mv (.t 13), none⟩,
               ⟨(some 16), .iaddr 2 (.t 11) (.t 13), none⟩,
               ⟨(some 17), .load (some 2) (.t 16), none⟩,
               ⟨(some 7), .alloc [(.int .i64 0), (.int .i64 0)], none⟩,
               ⟨(some 6), .mv (.t 15), none⟩,
               ⟨none, .store 2 (.t 7) (.t 17), none⟩])
             (.seq
              (.reg (some []) [⟨(some 18), .faddr 0 (.t 5), none⟩,
                ⟨(some 19), .load none (.t 18), none⟩,
                ⟨(some 20), .faddr 0 (.t 7), none⟩,
                ⟨(some 21), .load none (.t 20), none⟩,
                ⟨(some 22), .mv (.t 1), none⟩,
                ⟨(some 23), .bin .shr (.t 21) (.t 22), none⟩,
                ⟨(some 24), .bin .and (.t 23) (.c (.int .i64 1)), none⟩,
                ⟨(some 25), .mv (.t 6), none⟩,
                ⟨(some 26), .bin .shl (.t 24) (.t 25), none⟩,
                ⟨(some 27), .bin .or (.t 19) (.t 26), none⟩,
                ⟨(some 28), .faddr 0 (.t 5), none⟩,
                ⟨none, .store 1 (.t 28) (.t 27), none⟩])
              (.reg (some []) [⟨(some 29), .faddr 1 (.t 5), none⟩,
                ⟨(some 30), .load none (.t 29), none⟩,
                ⟨(some 31), .faddr 1 (.t 7), none⟩,
                ⟨(some 32), .load none (.t 31), none⟩,
                ⟨(some 33), .mv (.t 1), none⟩,
                ⟨(some 34), .bin .shr (.t 32) (.t 33), none⟩,
                ⟨(some 35), .bin .and (.t 34) (.c (.int .i64 1)), none⟩,
                ⟨(some 36), .mv (.t 6), none⟩,
                ⟨(some 37), .bin .shl (.t 35) (.t 36), none⟩,
                ⟨(some 38), .bin .or (.t 30) (.t 37), none⟩,
                ⟨(some 39), .faddr 1 (.t 5), none⟩,
                ⟨none, .store 1 (.t 39) (.t 38), none⟩]))))
           (.reg none [⟨(some 40), .bin .add (.t 13) (.c (.int .i64 1)), none⟩,
             ⟨(some 13), .mv (.t 40), none⟩])))))))
     (.seq
      (.reg none [⟨(some 41), .load (some 2) (.t 5), none⟩,
        ⟨none, .store 2 (.t 4) (.t 41), none⟩])
      .ret)))) }
theorem f97P : prepF C Tryd.f97 = some f97A := by kernel_rfl

/-- (*congou/squares.board).put -/
def f98A : AFunc :=
{ nargs := 3, res := [], body :=
  (.seq
   (.reg none [⟨(some 5), .box (.t 2), none⟩])
   (.seq
    (.reg none [⟨(some 7), .mv (.t 0), none⟩,
      ⟨(some 8), .nilchk (.t 7), none⟩,
      ⟨(some 9), .faddr 1 (.t 8), none⟩,
      ⟨(some 10), .load none (.t 9), none⟩,
      ⟨(some 11), .len (.t 10), none⟩,
      ⟨(some 12), .mv (.c (.int .i64 0)), none⟩])
    (.block 0
     (.loop
      (.seq
       (.reg none [⟨(some 13), .bin .lss (.t 12) (.t 11), none⟩])
       (.seq
        (.cond (.t 13)
         .skip
         (.exit 0))
        (.seq
         (.block 1
          (.seq
           (.reg none [⟨(some 14), .mv (.t 12), none⟩,
             ⟨(some 6), .mv (.t 14), none⟩])
           (.seq
            (.reg (some []) [⟨(some 15), .mv (.t 0), none⟩,
              ⟨(some 16), .nilchk (.t 15), none⟩,
              ⟨(some 17), .faddr 1 (.t 16), none⟩,
              ⟨(some 18), .load none (.t 17), none⟩,
              ⟨(some 19), .mv (.t 6), none⟩,
              ⟨(some 20), .iaddr 2 (.t 18) (.t 19), none⟩,
              ⟨(some 21), .faddr 0 (.t 20), none⟩,
              ⟨(some 22), .load none (.t 21), none⟩,
              ⟨(some 23), .faddr 0 (.t 5), none⟩,
              ⟨(some 24), .load none (.t 23), none⟩,
              ⟨(some 25), .mv (.t 6), none⟩,
              ⟨(some 26), .bin .shr (.t 24) (.t 25), none⟩,
              ⟨(some 27), .bin .and (.t 26) (.c (.int .i64 1)), none⟩,
              ⟨(some 28), .mv (.t 1), none⟩,
              ⟨(some 29), .bin .shl (.t 27) (.t 28), none⟩,
              ⟨(some 30), .bin .or (.t 22) (.t 29), none⟩,
              ⟨(some 31), .iaddr 2 (.t 18) (.t 19), none⟩,
              ⟨(some 32), .faddr 0 (.t 31), none⟩,
              ⟨none, .store 1 (.t 32) (.t 30), none⟩])
            (.reg (some []) [⟨(some 33), .mv (.t 0), none⟩,
              ⟨(some 34), .nilchk (.t 33), none⟩,
              ⟨(some 35), .faddr 1 (.t 34), none⟩,
              ⟨(some 36), .load none (.t 35), none⟩,
              ⟨(some 37), .mv (.t 6), none⟩,
              ⟨(some 38), .iaddr 2 (.t 36) (.t 37), none⟩,
              ⟨(some 39), .faddr 1 (.t 38), none⟩,
              ⟨(some 40), .load none (.t 39), none⟩,
              ⟨(some 41), .faddr 1 (.t 5), none⟩,
              ⟨(some 42), .load none (.t 41), none⟩,
              ⟨(some 43), .mv (.t 6), none⟩,
              ⟨(some 44), .bin .shr (.t 42) (.t 43), none⟩,
              ⟨(some 45), .bin .and (.t 44) (.c (.int .i64 1)), none⟩,
              ⟨(some 46), .mv (.t 1), none⟩,
              ⟨(some 47), .bin .shl (.t 45) (.t 46), none⟩,
              ⟨(some 48), .bin .or (.t 40) (.t 47), none⟩,
              ⟨(some 49), .iaddr 2 (.t 36) (.t 37), none⟩,
              ⟨(some 50), .faddr 1 (.t 49), none⟩,
              ⟨none, .store 1 (.t 50) (.t 48), none⟩]))))
         (.reg none [⟨(some 51), .bin .add (.t 12) (.c (.int .i64 1)), none⟩,
           ⟨(some 12), .mv (.t 51), none⟩])))))))) }
theorem f98P : prepF C Tryd.f98 = some f98A := by kernel_rfl

/-- slices.Equal[[]congou/squares.known,congou/squares.known] -/
def f99A : AFunc :=
{ nargs := 2, res := [.t 4], body :=
  (.seq
   (.reg none [⟨(some 4), .mv (.c (.b false)), none⟩])
   (.seq
    (.seq
     (.reg none [⟨(some 6), .mv (.t 0), none⟩,
       ⟨(some 7), .len (.t 6), none⟩,
       ⟨(some 8), .mv (.t 1), none⟩,
       ⟨(some 9), .len (.t 8), none⟩,
       ⟨(some 10), .bin .neq (.t 7) (.t 9), none⟩])
     (.cond (.t 10)
      (.seq
       (.reg none [⟨(some 4), .mv (.c (.b false)), none⟩])
       .ret)
      .skip))
    (.seq
     (.seq
      (.reg none [⟨(some 11), .mv (.t 0), none⟩,
        ⟨(some 12), .len (.t 11), none⟩,
        ⟨(some 13), .mv (.c (.int .i64 0)), none⟩])
      (.block 0
       (.loop
        (.seq
         (.reg none [⟨(some 14), .bin .lss (.t 13) (.t 12), none⟩])
         (.seq
          (.cond (.t 14)
           .skip
           (.exit 0))
          (.seq
           (.block 1
            (.seq
             (.reg none [⟨(some 15), .mv (.t 13), none⟩,
               ⟨(some 5), .mv (.t 15), none⟩])
             (.seq
              (.reg (some []) [⟨(some 16), .mv (.t 0), none⟩,
                ⟨(some 17), .mv (.t 5), none⟩,
                ⟨(some 18), .iaddr 2 (.t 16) (.t 17), none⟩,
                ⟨(some 19), .load (some 2) (.t 18), none⟩,
                ⟨(some 20), .mv (.t 1), none⟩,
                ⟨(some 21), .mv (.t 5), none⟩,
                ⟨(some 22), .iaddr 2 (.t 20) (.t 21), none⟩,
                ⟨(some 23), .load (some 2) (.t 22), none⟩,
                ⟨(some 24), .aeq true 2 (.t 19) (.t 23), none⟩])
              (.cond (.t 24)
               (.seq
                (.reg none [⟨(some 4), .mv (.c (.b false)), none⟩])
                .ret)
               .skip))))
           (.reg none [⟨(some 25), .bin .add (.t 13) (.c (.int .i64 1)), none⟩,
             ⟨(some 13), .mv (.t 25), none⟩])))))))
     (.seq
      (.reg none [⟨(some 4), .mv (.c (.b true)), none⟩])
      .ret)))) }
theorem f99P : prepF C Tryd.f99 = some f99A := by kernel_rfl

/-- (congou/squares.Puzzle).solutions$1 -/
def f101A : AFunc :=
{ nargs := 4, res := [.t 5], body :=
  (.seq
   (.reg none [⟨(some 5), .mv (.c (.b false)), none⟩])
   (.seq
    (.reg none [⟨(some 10), .mv (.t 0), none⟩,
      ⟨(some 11), .len (.t 10), none⟩,
      ⟨(some 6), .mv (.t 11), none⟩])
    (.seq
     (.seq
      (.reg none [⟨(some 12), .mv (.t 6), none⟩,
        ⟨(some 13), .faddr 0 (.t 1), none⟩,
        ⟨(some 14), .load none (.t 13), none⟩,
        ⟨(some 15), .len (.t 14), none⟩,
        ⟨(some 16), .bin .eql (.t 12) (.t 15), none⟩])
      (.cond (.t 16)
       (.seq
        (.reg none [⟨(some 17), .load none (.t 2), none⟩,
          ⟨(some 18), .mv (.t 0), none⟩,
          ⟨(some 19), .callv (.t 17) [(.t 18)], none⟩,
          ⟨(some 5), .mv (.t 19), none⟩])
        .ret)
       .skip))
     (.seq
      (.seq
       (.reg (some []) [⟨(some 20), .faddr 1 (.t 1), none⟩,
         ⟨(some 21), .load none (.t 20), none⟩,
         ⟨(some 22), .len (.t 21), none⟩,
         ⟨(some 23), .faddr 0 (.t 1), none⟩,
         ⟨(some 24), .load none (.t 23), none⟩,
         ⟨(some 25), .mv (.t 6), none⟩,
         ⟨(some 26), .iaddr 1 (.t 24) (.t 25), none⟩,
         ⟨(some 27), .load none (.t 26), none⟩,
         ⟨(some 28), .call 58 [(.t 22), (.t 27)], none⟩,
         ⟨(some 29), .len (.t 28), none⟩,
         ⟨(some 30), .mv (.c (.int .i64 0)), none⟩])
       (.block 0
        (.loop
         (.seq
          (.reg none [⟨(some 31), .bin .lss (.t 30) (.t 29), none⟩])
          (.seq
           (.cond (.t 31)
            .skip
            (.exit 0))
           (.seq
            (.block 1
             (.seq
              (.reg none [⟨(some 32), .iaddr 1 (.t 28) (.t 30), none⟩,
                ⟨(some 33), .load none (.t 32), none⟩,
                ⟨(some 8), .mv (.t 33), none⟩])
              (.seq
               (.reg none [⟨(some 34), .mv (.t 0), none⟩,
                 ⟨(some 35), .mv (.t 6), none⟩,
                 ⟨(some 36), .mv (.t 6), none⟩,
                 ⟨(some 37), .slice 1 (.t 34) none (some (.t 35)) (some (.t 36)), none⟩,
                 ⟨(some 38), .mv (.t 8), none⟩,
                 ⟨(some 39), .bslice [(.int .i64 0)] 1 1 [(0, (.t 38))], none⟩,
                 ⟨(some 40), .append 1 8 (.t 37) (.t 39), none⟩,
                 ⟨(some 9), .mv (.t 40), none⟩])
               (.seq
                (.reg none [⟨(some 41), .load (some 2) (.t 1), none⟩,
                  ⟨(some 42), .mv (.t 9), none⟩,
                  ⟨(some 43), .call 102 [(.t 41), (.t 42)], none⟩,
                  ⟨(some 44), .mv (.t 43), none⟩,
                  ⟨(some 45), .load none (.t 3), some (44, true)⟩,
                  ⟨(some 46), .mv (.t 9), some (44, true)⟩,
                  ⟨(some 47), .callv (.t 45) [(.t 46)], some (44, true)⟩,
                  ⟨(some 48), .un .not (.t 47), some (44, true)⟩,
                  ⟨(some 49), .pick (.t 44) (.t 48) (.c (.b false)), none⟩])
                (.cond (.t 49)
                 (.seq
                  (.reg none [⟨(some 5), .mv (.c (.b false)), none⟩])
                  .ret)
                 .skip)))))
            (.reg none [⟨(some 50), .bin .add (.t 30) (.c (.int .i64 1)), none⟩,
              ⟨(some 30), .mv (.t 50), none⟩])))))))
      (.seq
       (.reg none [⟨(some 5), .mv (.c (.b true)), none⟩])
       .ret))))) }
theorem f101P : prepF C Tryd.f101 = some f101A := by kernel_rfl

/-- (congou/squares.Puzzle).possible -/
def f102A : AFunc :=
{ nargs := 2, res := [.t 4], body :=
  (.seq
   (.reg none [⟨(some 2), .box (.t 0), none⟩,
     ⟨(some 4), .mv (.c (.b false)), none⟩])
   (.seq
    (.reg none [⟨(some 11), .faddr 0 (.t 2), none⟩,
      ⟨(some 12), .load none (.t 11), none⟩,
      ⟨(some 13), .len (.t 12), none⟩,
      ⟨(some 5), .mv (.t 13), none⟩])
    (.seq
     (.seq
      (.reg none [⟨(some 14), .faddr 1 (.t 2), none⟩,
        ⟨(some 15), .load none (.t 14), none⟩,
        ⟨(some 16), .len (.t 15), none⟩,
        ⟨(some 17), .mv (.c (.int .i64 0)), none⟩])
      (.block 0
       (.loop
        (.seq
         (.reg none [⟨(some 18), .bin .lss (.t 17) (.t 16), none⟩])
         (.seq
          (.cond (.t 18)
           .skip
           (.exit 0))
          (.seq
           (.block 1
            (.seq
             (.reg none [⟨(some 19), .mv (.t 17), none⟩,
               ⟨(some 20), .iaddr 1 (.t 15) (.t 17), none⟩,
               ⟨(some 21), .load none (.t 20), none⟩,
               ⟨(some 6), .mv (.t 19), none⟩,
               ⟨(some 7), .mv (.t 21), none⟩])
             (.seq
              (.reg none [⟨(some 22), .mv (.t 1), none⟩,
                ⟨(some 23), .mv (.t 6), none⟩,
                ⟨(some 24), .call 91 [(.t 22), (.t 23)], none⟩,
                ⟨(some 25), .build [(.int .i64 0), (.int .i64 0)] [(0, 1, (.t 24))], none⟩,
                ⟨(some 8), .alloc [(.int .i64 0), (.int .i64 0)], none⟩,
                ⟨none, .store 2 (.t 8) (.t 25), none⟩])
              (.seq
               (.reg (some []) [⟨(some 26), .mv (.t 1), none⟩,
                 ⟨(some 27), .len (.t 26), none⟩,
                 ⟨(some 28), .bin .shl (.c (.int .i64 1)) (.t 27), none⟩,
                 ⟨(some 29), .bin .sub (.t 28) (.c (.int .i64 1)), none⟩,
                 ⟨(some 30), .faddr 0 (.t 8), none⟩,
                 ⟨(some 31), .load none (.t 30), none⟩,
                 ⟨(some 32), .bin .andNot (.t 29) (.t 31), none⟩,
                 ⟨(some 33), .faddr 1 (.t 8), none⟩,
                 ⟨none, .store 1 (.t 33) (.t 32), none⟩])
               (.seq
                (.reg none [⟨(some 35), .mv (.t 5), none⟩,
                  ⟨(some 36), .mv (.t 7), none⟩,
                  ⟨(some 37), .load (some 2) (.t 8), none⟩,
                  ⟨(some 38), .call 61 [(.t 35), (.t 36), (.t 37)], none⟩,
                  ⟨(some 34), .mv (.t 38), none⟩,
                  ⟨(some 39), .extr (.t 34) 0, none⟩,
                  ⟨(some 40), .extr (.t 34) 1, none⟩,
                  ⟨(some 9), .alloc [(.int .i64 0), (.int .i64 0)], none⟩,
                  ⟨none, .store 2 (.t 9) (.t 39), none⟩,
                  ⟨(some 10), .mv (.t 40), none⟩])
                (.seq
                 (.reg none [⟨(some 41), .mv (.t 10), none⟩,
                   ⟨(some 42), .un .not (.t 41), none⟩])
                 (.cond (.t 42)
                  (.seq
                   (.reg none [⟨(some 4), .mv (.c (.b false)), none⟩])
                   .ret)
                  .skip)))))))
           (.reg none [⟨(some 43), .bin .add (.t 17) (.c (.int .i64 1)), none⟩,
             ⟨(some 17), .mv (.t 43), none⟩])))))))
     (.seq
      (.reg none [⟨(some 4), .mv (.c (.b true)), none⟩])
      .ret)))) }
theorem f102P : prepF C Tryd.f102 = some f102A := by kernel_rfl

/-- slices.Grow[[]int,int] -/
def f103A : AFunc :=
{ nargs := 2, res := [.t 4], body :=
  (.seq
   (.reg none [⟨(some 4), .mv (.c .nils), none⟩])
   (.seq
    (.seq
     (.reg none [⟨(some 5), .mv (.t 1), none⟩,
       ⟨(some 6), .bin .lss (.t 5) (.c (.int .i64 0)), none⟩])
     (.cond (.t 6)
      (.reg none [⟨(some 7), .bad, none⟩,
        ⟨none, .bad, none⟩])
      .skip))
    (.seq
     (.seq
      (.reg none [⟨(some 8), .mv (.t 1), none⟩,
        ⟨(some 9), .mv (.t 0), none⟩,
        ⟨(some 10), .cap (.t 9), none⟩,
        ⟨(some 11), .mv (.t 0), none⟩,
        ⟨(some 12), .len (.t 11), none⟩,
        ⟨(some 13), .bin .sub (.t 10) (.t 12), none⟩,
        ⟨(some 14), .bin .sub (.t 8) (.t 13), none⟩,
        ⟨(some 1), .mv (.t 14), none⟩])
      (.seq
       (.reg none [⟨(some 15), .mv (.t 1), none⟩,
         ⟨(some 16), .bin .gtr (.t 15) (.c (.int .i64 0)), none⟩])
       (.cond (.t 16)
        (.reg none [⟨(some 17), .mv (.t 0), none⟩,
          ⟨(some 18), .mv (.t 0), none⟩,
          ⟨(some 19), .cap (.t 18), none⟩,
          ⟨(some 20), .slice 1 (.t 17) none (some (.t 19)) none, none⟩,
          ⟨(some 21), .mv (.t 1), none⟩,
          ⟨(some 22), .appendz 1 8 [(.int .i64 0)] (.t 20) (.t 21), none⟩,
          ⟨(some 23), .mv (.t 0), none⟩,
          ⟨(some 24), .len (.t 23), none⟩,
          ⟨(some 25), .slice 1 (.t 22) none (some (.t 24)) none, none⟩,
          ⟨(some 0), .mv (.t 25), none⟩])
        .skip)))
     (.seq
      (.reg none [⟨(some 26), .mv (.t 0), none⟩,
        ⟨(some 4), .mv (.t 26), none⟩])
      .ret)))) }
theorem f103P : prepF C Tryd.f103 = some f103A := by kernel_rfl

/-- (*congou/squares.board).try -/
def f104A : AFunc :=
{ nargs := 2, res := [.c 4 none], body :=
  (.seq
   (.reg none [⟨(some 2), .box (.t 0), none⟩,
     ⟨(some 3), .box (.t 1), none⟩,
     ⟨(some 4), .alloc [(.b false)], none⟩])
   (.seq
    (.seq
     (.reg none [⟨(some 9), .load none (.t 2), none⟩,
       ⟨(some 10), .mkfn 105 [(.t 9)] [], none⟩])
     (.block 0
      (.rangeF 41 (.t 10) [11, 12]
       (.seq
        (.reg none [⟨(some 5), .mv (.t 11), none⟩])
        (.reg none [⟨(some 6), .mv (.t 12), none⟩]))
       (.block 1
        (.seq
         (.reg none [⟨(some 13), .bslice [(.b false)] 2 1 [(0, (.c (.b true))), (1, (.c (.b false)))], none⟩,
           ⟨(some 14), .len (.t 13), none⟩,
           ⟨(some 15), .mv (.c (.int .i64 0)), none⟩])
         (.block 2
          (.loop
           (.seq
            (.reg none [⟨(some 16), .bin .lss (.t 15) (.t 14), none⟩])
            (.seq
             (.cond (.t 16)
              .skip
              (.exit 2))
             (.seq
              (.block 3
               (.seq
                (.reg none [⟨(some 17), .iaddr 1 (.t 13) (.t 15), none⟩,
                  ⟨(some 18), .load none (.t 17), none⟩,
                  ⟨(some 8), .mv (.t 18), none⟩])
                (.seq
                 (.reg (some []) [⟨(some 19), .load none (.t 2), none⟩,
                   ⟨(some 20), .mv (.t 5), none⟩,
                   ⟨(some 21), .mv (.t 6), none⟩,
                   ⟨(some 22), .mv (.t 8), none⟩,
                   ⟨(some 23), .call 112 [(.t 19), (.t 20), (.t 21), (.t 22)], none⟩,
                   ⟨(some 24), .load none (.t 3), none⟩,
                   ⟨(some 25), .bin .sub (.t 24) (.c (.int .i64 1)), none⟩,
                   ⟨(some 26), .call 83 [(.t 23), (.t 25)], none⟩,
                   ⟨(some 27), .un .not (.t 26), none⟩])
                 (.cond (.t 27)
                  (.seq
                   (.reg (some []) [⟨(some 28), .load none (.t 2), none⟩,
                     ⟨(some 29), .load none (.t 2), none⟩,
                     ⟨(some 30), .mv (.t 5), none⟩,
                     ⟨(some 31), .mv (.t 6), none⟩,
                     ⟨(some 32), .mv (.t 8), none⟩,
                     ⟨(some 33), .un .not (.t 32), none⟩,
                     ⟨(some 34), .call 112 [(.t 29), (.t 30), (.t 31), (.t 33)], none⟩,
                     ⟨(some 35), .nilchk (.t 34), none⟩,
                     ⟨(some 36), .faddr 1 (.t 35), none⟩,
                     ⟨(some 37), .load none (.t 36), none⟩,
                     ⟨(some 38), .nilchk (.t 28), none⟩,
                     ⟨(some 39), .faddr 1 (.t 38), none⟩,
                     ⟨none, .store 1 (.t 39) (.t 37), none⟩])
                   (.seq
                    (.reg none [⟨none, .store 1 (.t 4) (.c (.b true)), none⟩])
                    .ret))
                  .skip))))
              (.reg none [⟨(some 40), .bin .add (.t 15) (.c (.int .i64 1)), none⟩,
                ⟨(some 15), .mv (.t 40), none⟩])))))))))))
    (.seq
     (.reg none [⟨none, .store 1 (.t 4) (.c (.b false)), none⟩])
     .ret))) }
theorem f104P : prepF C Tryd.f104 = some f104A := by kernel_rfl

/-- (*congou/squares.board).open -/
def f105A : AFunc :=
{ nargs := 2, res := [], body :=
  (.seq
   (.reg none [⟨(some 6), .mv (.t 0), none⟩,
     ⟨(some 7), .nilchk (.t 6), none⟩,
     ⟨(some 8), .faddr 1 (.t 7), none⟩,
     ⟨(some 9), .load none (.t 8), none⟩,
     ⟨(some 10), .len (.t 9), none⟩,
     ⟨(some 11), .mv (.c (.int .i64 0)), none⟩])
   (.block 0
    (.loop
     (.seq
      (.reg none [⟨(some 12), .bin .lss (.t 11) (.t 10), none⟩])
      (.seq
       (.cond (.t 12)
        .skip
        (.exit 0))
       (.seq
        (.block 1
         (.seq
          (.reg none [⟨(some 13), .mv (.t 11), none⟩,
            ⟨(some 4), .mv (.t 13), none⟩])
          (.seq
           (.reg none [⟨(some 14), .mv (.t 0), none⟩,
             ⟨(some 15), .nilchk (.t 14), none⟩,
             ⟨(some 16), .faddr 0 (.t 15), none⟩,
             ⟨(some 17), .load none (.t 16), none⟩,
             ⟨(some 18), .nilchk (.t 17), none⟩,
             ⟨(some 19), .faddr 1 (.t 18), none⟩,
             ⟨(some 20), .load none (.t 19), none⟩,
             ⟨(some 21), .len (.t 20), none⟩,
             ⟨(some 22), .mv (.c (.int .i64 0)), none⟩])
           (.block 2
            (.loop
             (.seq
              (.reg none [⟨(some 23), .bin .lss (.t 22) (.t 21), none⟩])
              (.seq
               (.cond (.t 23)
                .skip
                (.exit 2))
               (.seq
                (.block 3
                 (.seq
                  (.reg none [⟨(some 24), .mv (.t 22), none⟩,
                    ⟨(some 5), .mv (.t 24), none⟩])
                  (.seq
                   (.reg (some []) [⟨(some 25), .mv (.t 0), none⟩,
                     ⟨(some 26), .nilchk (.t 25), none⟩,
                     ⟨(some 27), .faddr 1 (.t 26), none⟩,
                     ⟨(some 28), .load none (.t 27), none⟩,
                     ⟨(some 29), .mv (.t 4), none⟩,
                     ⟨(some 30), .iaddr 2 (.t 28) (.t 29), none⟩,
                     ⟨(some 31), .faddr 0 (.t 30), none⟩,
                     ⟨(some 32), .load none (.t 31), none⟩,
                     ⟨(some 33), .mv (.t 0), none⟩,
                     ⟨(some 34), .nilchk (.t 33), none⟩,
                     ⟨(some 35), .faddr 1 (.t 34), none⟩,
                     ⟨(some 36), .load none (.t 35), none⟩,
                     ⟨(some 37), .mv (.t 4), none⟩,
                     ⟨(some 38), .iaddr 2 (.t 36) (.t 37), none⟩,
                     ⟨(some 39), .faddr 1 (.t 38), none⟩,
                     ⟨(some 40), .load none (.t 39), none⟩,
                     ⟨(some 41), .bin .or (.t 32) (.t 40), none⟩,
                     ⟨(some 42), .mv (.t 5), none⟩,
                     ⟨(some 43), .bin .shr (.t 41) (.t 42), none⟩,
                     ⟨(some 44), .bin .and (.t 43) (.c (.int .i64 1)), none⟩,
                     ⟨(some 45), .bin .eql (.t 44) (.c (.int .i64 0)), none⟩,
                     ⟨(some 46), .mv (.t 45), none⟩,
                     ⟨(some 47), .mv (.t 1), some (46, true)⟩,
                     ⟨(some 48), .mv (.t 4), some (46, true)⟩,
                     ⟨(some 49), .mv (.t 5), some (46, true)⟩,
                     ⟨(some 50), .callv (.t 47) [(.t 48), (.t 49)], some (46, true)⟩,
                     ⟨(some 51), .un .not (.t 50), some (46, true)⟩,
                     ⟨(some 52), .pick (.t 46) (.t 51) (.c (.b false)), none⟩])
                   (.cond (.t 52)
                    .ret
                    .skip))))
                (.reg none [⟨(some 53), .bin .add (.t 22) (.c (.int .i64 1)), none⟩,
                  ⟨(some 22), .mv (.t 53), none⟩])))))))))
        (.reg none [⟨(some 54), .bin .add (.t 11) (.c (.int .i64 1)), none⟩,
          ⟨(some 11), .mv (.t 54), none⟩]))))))) }
theorem f105P : prepF C Tryd.f105 = some f105A := by kernel_rfl

/-- slices.IndexFunc[[][]int,[]int] -/
def f111A : AFunc :=
{ nargs := 2, res := [.t 4], body :=
  (.seq
   (.reg none [⟨(some 4), .mv (.c (.int .i64 0)), none⟩])
   (.seq
    (.seq
     (.reg none [⟨(some 6), .mv (.t 0), none⟩,
       ⟨(some 7), .len (.t 6), none⟩,
       ⟨(some 8), .mv (.c (.int .i64 0)), none⟩])
     (.block 0
      (.loop
       (.seq
        (.reg none [⟨(some 9), .bin .lss (.t 8) (.t 7), none⟩])
        (.seq
         (.cond (.t 9)
          .skip
          (.exit 0))
         (.seq
          (.block 1
           (.seq
            (.reg none [⟨(some 10), .mv (.t 8), none⟩,
              ⟨(some 5), .mv (.t 10), none⟩])
            (.seq
             (.reg none [⟨(some 11), .mv (.t 1), none⟩,
               ⟨(some 12), .mv (.t 0), none⟩,
               ⟨(some 13), .mv (.t 5), none⟩,
               ⟨(some 14), .iaddr 1 (.t 12) (.t 13), none⟩,
               ⟨(some 15), .load none (.t 14), none⟩,
               ⟨(some 16), .callv (.t 11) [(.t 15)], none⟩])
             (.cond (.t 16)
              (.seq
               (.reg none [⟨(some 17), .mv (.t 5), none⟩,
                 ⟨(some 4), .mv (.t 17), none⟩])
               .ret)
              .skip))))
          (.reg none [⟨(some 18), .bin .add (.t 8) (.c (.int .i64 1)), none⟩,
            ⟨(some 8), .mv (.t 18), none⟩])))))))
    (.seq
     (.reg none [⟨(some 4), .mv (.c (.int .i64 (-1))), none⟩])
     .ret))) }
theorem f111P : prepF C Tryd.f111 = some f111A := by kernel_rfl

/-- (*congou/squares.board).suppose -/
def f112A : AFunc :=
{ nargs := 4, res := [.t 8], body :=
  (.seq
   (.reg none [⟨(some 8), .mv (.c .nilp), none⟩])
   (.seq
    (.reg none [⟨(some 10), .mv (.t 0), none⟩,
      ⟨(some 11), .call 113 [(.t 10)], none⟩,
      ⟨(some 9), .mv (.t 11), none⟩])
    (.seq
     (.seq
      (.reg none [⟨(some 12), .mv (.t 3), none⟩])
      (.cond (.t 12)
       (.reg (some []) [⟨(some 13), .mv (.t 9), none⟩,
         ⟨(some 14), .nilchk (.t 13), none⟩,
         ⟨(some 15), .faddr 1 (.t 14), none⟩,
         ⟨(some 16), .load none (.t 15), none⟩,
         ⟨(some 17), .mv (.t 1), none⟩,
         ⟨(some 18), .iaddr 2 (.t 16) (.t 17), none⟩,
         ⟨(some 19), .faddr 0 (.t 18), none⟩,
         ⟨(some 20), .load none (.t 19), none⟩,
         ⟨(some 21), .mv (.t 2), none⟩,
         ⟨(some 22), .bin .shl (.c (.int .i64 1)) (.t 21), none⟩,
         ⟨(some 23), .bin .or (.t 20) (.t 22), none⟩,
         ⟨(some 24), .iaddr 2 (.t 16) (.t 17), none⟩,
         ⟨(some 25), .faddr 0 (.t 24), none⟩,
         ⟨none, .store 1 (.t 25) (.t 23), none⟩])
       (.reg (some []) [⟨(some 26), .mv (.t 9), none⟩,
         ⟨(some 27), .nilchk (.t 26), none⟩,
         ⟨(some 28), .faddr 1 (.t 27), none⟩,
         ⟨(some 29), .load none (.t 28), none⟩,
         ⟨(some 30), .mv (.t 1), none⟩,
         ⟨(some 31), .iaddr 2 (.t 29) (.t 30), none⟩,
         ⟨(some 32), .faddr 1 (.t 31), none⟩,
         ⟨(some 33), .load none (.t 32), none⟩,
         ⟨(some 34), .mv (.t 2), none⟩,
         ⟨(some 35), .bin .shl (.c (.int .i64 1)) (.t 34), none⟩,
         ⟨(some 36), .bin .or (.t 33) (.t 35), none⟩,
         ⟨(some 37), .iaddr 2 (.t 29) (.t 30), none⟩,
         ⟨(some 38), .faddr 1 (.t 37), none⟩,
         ⟨none, .store 1 (.t 38) (.t 36), none⟩])))
     (.seq
      (.reg none [⟨(some 39), .mv (.t 9), none⟩,
        ⟨(some 8), .mv (.t 39), none⟩])
      .ret)))) }
theorem f112P : prepF C Tryd.f112 = some f112A := by kernel_rfl

/-- (*congou/squares.board).clone -/
def f113A : AFunc :=
{ nargs := 1, res := [.t 2], body :=
  (.seq
   (.reg none [⟨(some 2), .mv (.c .nilp), none⟩])
   (.seq
    (.reg (some []) [⟨(some 3), .mv (.t 0), none⟩,
      ⟨(some 4), .nilchk (.t 3), none⟩,
      ⟨(some 5), .faddr 0 (.t 4), none⟩,
      ⟨(some 6), .load none (.t 5), none⟩,
      ⟨(some 7), .mv (.t 0), none⟩,
      ⟨(some 8), .nilchk (.t 7), none⟩,
      ⟨(some 9), .faddr 1 (.t 8), none⟩,
      ⟨(some 10), .load none (.t 9), none⟩,
      ⟨(some 11), .call 96 [(.t 10)], none⟩,
      ⟨(some 12), .build [.nilp, .nils] [(0, 1, (.t 6)), (1, 1, (.t 11))], none⟩,
      ⟨(some 13), .box (.t 12), none⟩,
      ⟨(some 2), .mv (.t 13), none⟩])
    .ret)) }
theorem f113P : prepF C Tryd.f113 = some f113A := by kernel_rfl

end Go.Proofs.YtjjndoigkhabdaaDoor
