/- The abstract forms of the functions that are needed, each checked against the translation. No condition. -/
import Derived.Lib.TrailingZeros
import Derived.Test.YtjjndoigkhabdaaDoorAm1
import Derived.Test.YtjjndoigkhabdaaDoorProg
namespace Go.Proofs.YtjjndoigkhabdaaDoor
open Go Go.AM Go.Proofs

/-- the seat's program; the types whose comparison is taken; the functions that may write to what is older -/
def tzP : List AV → Option AV
  | [.int .u64 n] => if 0 ≤ n ∧ n ≤ 18446744073709551615 then some (.i (Lib.ctz 64 n.toNat : Nat)) else none
  | _ => none
def kd : Nat → Kd := fun f => if [69, 73, 78, 79, 83, 98, 101, 104, 105].contains f then .wrt else if [24].contains f then .closed else if f = 87 then .prim tzP else .ro
noncomputable def C : Cfg := { P := Tryd.prog, eqT := fun t => if t == 72 then some 2 else none, kd := kd }
/-- congou/congoulaw07.SquaresCounted -/
def f11A : AFunc :=
{ nargs := 2, res := [.t 4], body :=
  (.seq
   (.reg none [⟨(some 4), .mv (.c (.b false)), none⟩])
   (.seq
    (.reg none [⟨(some 21), .mv (.t 0), none⟩,
      ⟨(some 22), .conv .u64 (.t 21), none⟩,
      ⟨(some 23), .bin .rem (.t 22) (.c (.int .u64 4)), none⟩,
      ⟨(some 24), .conv .i64 (.t 23), none⟩,
      ⟨(some 25), .bin .add (.c (.int .i64 1)) (.t 24), none⟩,
      ⟨(some 26), .mv (.t 1), none⟩,
      ⟨(some 27), .conv .u64 (.t 26), none⟩,
      ⟨(some 28), .bin .rem (.t 27) (.c (.int .u64 4)), none⟩,
      ⟨(some 29), .conv .i64 (.t 28), none⟩,
      ⟨(some 30), .bin .add (.c (.int .i64 1)) (.t 29), none⟩,
      ⟨(some 0), .mv (.t 25), none⟩,
      ⟨(some 1), .mv (.t 30), none⟩])
    (.seq
     (.seq
      (.reg none [⟨(some 31), .mv (.t 0), none⟩,
        ⟨(some 32), .mv (.t 1), none⟩,
        ⟨(some 33), .bin .mul (.t 31) (.t 32), none⟩,
        ⟨(some 34), .bin .gtr (.t 33) (.c (.int .i64 9)), none⟩])
      (.cond (.t 34)
       (.seq
        (.reg none [⟨(some 35), .call 24 [], none⟩,
          ⟨(some 4), .mv (.t 35), none⟩])
        .ret)
       .skip))
     (.seq
      (.reg none [⟨(some 5), .mv (.c .nils), none⟩])
      (.seq
       (.reg none [⟨(some 6), .mv (.c (.int .i64 0)), none⟩])
       (.seq
        (.seq
         (.reg none [⟨(some 36), .mv (.t 0), none⟩,
           ⟨(some 37), .mv (.t 1), none⟩,
           ⟨(some 38), .bin .mul (.t 36) (.t 37), none⟩,
           ⟨(some 39), .bin .shl (.c (.int .i64 1)) (.t 38), none⟩,
           ⟨(some 40), .mv (.c (.int .i64 0)), none⟩])
         (.block 0
          (.loop
           (.seq
            (.reg none [⟨(some 41), .bin .lss (.t 40) (.t 39), none⟩])
            (.seq
             (.cond (.t 41)
              .skip
              (.exit 0))
             (.seq
              (.block 1
               (.seq
                (.reg none [⟨(some 42), .mv (.t 40), none⟩,
                  ⟨(some 7), .mv (.t 42), none⟩])
                (.seq
                 (.reg none [⟨(some 8), .mv (.c .nils), none⟩])
                 (.seq
                  (.seq
                   (.reg none [⟨(some 43), .mv (.t 1), none⟩,
                     ⟨(some 44), .mv (.c (.int .i64 0)), none⟩])
                   (.block 2
                    (.loop
                     (.seq
                      (.reg none [⟨(some 45), .bin .lss (.t 44) (.t 43), none⟩])
                      (.seq
                       (.cond (.t 45)
                        .skip
                        (.exit 2))
                       (.seq
                        (.block 3
                         (.seq
                          (.reg none [⟨(some 46), .mv (.t 44), none⟩,
                            ⟨(some 9), .mv (.t 46), none⟩])
                          (.reg (some []) [⟨(some 47), .mv (.t 8), none⟩,
                            ⟨(some 48), .mv (.t 7), none⟩,
                            ⟨(some 49), .mv (.t 0), none⟩,
                            ⟨(some 50), .mv (.t 9), none⟩,
                            ⟨(some 51), .bin .mul (.t 49) (.t 50), none⟩,
                            ⟨(some 52), .bin .shr (.t 48) (.t 51), none⟩,
                            ⟨(some 53), .mv (.t 0), none⟩,
                            ⟨(some 54), .bin .shl (.c (.int .i64 1)) (.t 53), none⟩,
                            ⟨(some 55), .bin .sub (.t 54) (.c (.int .i64 1)), none⟩,
                            ⟨(some 56), .bin .and (.t 52) (.t 55), none⟩,
                            ⟨(some 57), .bslice [(.int .i64 0)] 1 1 [(0, (.t 56))], none⟩,
                            ⟨(some 58), .append 1 8 (.t 47) (.t 57), none⟩,
                            ⟨(some 8), .mv (.t 58), none⟩])))
                        (.reg none [⟨(some 59), .bin .add (.t 44) (.c (.int .i64 1)), none⟩,
                          ⟨(some 44), .mv (.t 59), none⟩])))))))
                  (.seq
                   (.reg none [⟨(some 61), .mv (.t 0), none⟩,
                     ⟨(some 62), .mv (.t 8), none⟩,
                     ⟨(some 63), .call 33 [(.t 62)], none⟩,
                     ⟨(some 64), .call 28 [(.t 61), (.t 63)], none⟩,
                     ⟨(some 60), .mv (.t 64), none⟩,
                     ⟨(some 65), .extr (.t 60) 0, none⟩,
                     ⟨(some 66), .extr (.t 60) 1, none⟩,
                     ⟨(some 10), .alloc [.nils, .nils], none⟩,
                     ⟨none, .store 2 (.t 10) (.t 65), none⟩,
                     ⟨(some 11), .mv (.t 66), none⟩])
                   (.seq
                    (.reg none [⟨(some 68), .load (some 2) (.t 10), none⟩,
                      ⟨(some 69), .call 40 [(.t 68)], none⟩,
                      ⟨(some 67), .mv (.t 69), none⟩,
                      ⟨(some 70), .extr (.t 67) 0, none⟩,
                      ⟨(some 71), .extr (.t 67) 1, none⟩,
                      ⟨(some 12), .mv (.t 70), none⟩,
                      ⟨(some 13), .mv (.t 71), none⟩])
                    (.seq
                     (.seq
                      (.reg none [⟨(some 72), .mv (.t 11), none⟩,
                        ⟨(some 73), .bin .neq (.t 72) (.c (.int .i64 0)), none⟩,
                        ⟨(some 74), .mv (.t 73), none⟩,
                        ⟨(some 75), .mv (.t 13), some (74, false)⟩,
                        ⟨(some 76), .bin .neq (.t 75) (.c (.int .i64 0)), some (74, false)⟩,
                        ⟨(some 77), .pick (.t 74) (.c (.b true)) (.t 76), none⟩])
                      (.cond (.t 77)
                       (.seq
                        (.reg none [⟨(some 4), .mv (.c (.b false)), none⟩])
                        .ret)
                       .skip))
                     (.seq
                      (.reg none [⟨(some 78), .mv (.t 12), none⟩,
                        ⟨(some 79), .mv (.t 8), none⟩,
                        ⟨(some 80), .call 21 [(.t 78), (.t 79)], none⟩])
                      (.cond (.t 80)
                       (.seq
                        (.reg none [⟨(some 81), .mv (.t 6), none⟩,
                          ⟨(some 82), .bin .add (.t 81) (.c (.int .i64 1)), none⟩,
                          ⟨(some 6), .mv (.t 82), none⟩])
                        (.seq
                         (.reg none [⟨(some 84), .mv (.t 0), none⟩,
                           ⟨(some 85), .mv (.t 8), none⟩,
                           ⟨(some 86), .call 28 [(.t 84), (.t 85)], none⟩,
                           ⟨(some 83), .mv (.t 86), none⟩,
                           ⟨(some 87), .extr (.t 83) 0, none⟩,
                           ⟨(some 88), .extr (.t 83) 1, none⟩,
                           ⟨(some 14), .alloc [.nils, .nils], none⟩,
                           ⟨none, .store 2 (.t 14) (.t 87), none⟩,
                           ⟨(some 15), .mv (.t 88), none⟩])
                         (.seq
                          (.seq
                           (.reg none [⟨(some 89), .mv (.t 15), none⟩,
                             ⟨(some 90), .bin .neq (.t 89) (.c (.int .i64 0)), none⟩,
                             ⟨(some 91), .mv (.t 90), none⟩,
                             ⟨(some 92), .mv (.t 5), some (91, false)⟩,
                             ⟨(some 93), .mkfn 51 [] [(.t 14)], some (91, false)⟩,
                             ⟨(some 94), .call 50 [(.t 92), (.t 93)], some (91, false)⟩,
                             ⟨(some 95), .pick (.t 91) (.c (.b true)) (.t 94), none⟩])
                           (.cond (.t 95)
                            (.seq
                             (.reg none [⟨(some 4), .mv (.c (.b false)), none⟩])
                             .ret)
                            .skip))
                          (.reg none [⟨(some 96), .mv (.t 5), none⟩,
                            ⟨(some 97), .load (some 2) (.t 14), none⟩,
                            ⟨(some 98), .call 31 [(.t 97)], none⟩,
                            ⟨(some 99), .bslice [.nils, .nils] 1 2 [(0, (.t 98))], none⟩,
                            ⟨(some 100), .append 2 48 (.t 96) (.t 99), none⟩,
                            ⟨(some 5), .mv (.t 100), none⟩]))))
                       .skip)))))))))
              (.reg none [⟨(some 101), .bin .add (.t 40) (.c (.int .i64 1)), none⟩,
                ⟨(some 40), .mv (.t 101), none⟩])))))))
        (.seq
         (.reg none [⟨(some 16), .mv (.c (.int .i64 0)), none⟩])
         (.seq
          (.seq
           (.reg none [⟨(some 102), .mv (.t 5), none⟩,
             ⟨(some 103), .len (.t 102), none⟩,
             ⟨(some 104), .mv (.c (.int .i64 0)), none⟩])
           (.block 4
            (.loop
             (.seq
              (.reg none [⟨(some 105), .bin .lss (.t 104) (.t 103), none⟩])
              (.seq
               (.cond (.t 105)
                .skip
                (.exit 4))
               (.seq
                (.block 5
                 (.seq
                  (.reg none [⟨(some 106), .iaddr 2 (.t 102) (.t 104), none⟩,
                    ⟨(some 107), .load (some 2) (.t 106), none⟩,
                    ⟨(some 18), .alloc [.nils, .nils], none⟩,
                    ⟨none, .store 2 (.t 18) (.t 107), none⟩])
                  (.seq
                   (.reg none [⟨(some 109), .load (some 2) (.t 18), none⟩,
                     ⟨(some 110), .call 37 [(.t 109)], none⟩,
                     ⟨(some 111), .call 41 [(.t 110)], none⟩,
                     ⟨(some 108), .mv (.t 111), none⟩,
                     ⟨(some 112), .extr (.t 108) 0, none⟩,
                     ⟨(some 113), .extr (.t 108) 1, none⟩,
                     ⟨(some 19), .mv (.t 112), none⟩,
                     ⟨(some 20), .mv (.t 113), none⟩])
                   (.seq
                    (.seq
                     (.reg none [⟨(some 114), .mv (.t 20), none⟩,
                       ⟨(some 115), .bin .neq (.t 114) (.c (.int .i64 0)), none⟩,
                       ⟨(some 116), .mv (.t 115), none⟩,
                       ⟨(some 117), .mv (.t 19), some (116, false)⟩,
                       ⟨(some 118), .bin .lss (.t 117) (.c (.int .i64 1)), some (116, false)⟩,
                       ⟨(some 119), .pick (.t 116) (.c (.b true)) (.t 118), none⟩])
                     (.cond (.t 119)
                      (.seq
                       (.reg none [⟨(some 4), .mv (.c (.b false)), none⟩])
                       .ret)
                      .skip))
                    (.reg none [⟨(some 120), .mv (.t 16), none⟩,
                      ⟨(some 121), .mv (.t 19), none⟩,
                      ⟨(some 122), .bin .add (.t 120) (.t 121), none⟩,
                      ⟨(some 16), .mv (.t 122), none⟩])))))
                (.reg none [⟨(some 123), .bin .add (.t 104) (.c (.int .i64 1)), none⟩,
                  ⟨(some 104), .mv (.t 123), none⟩])))))))
          (.seq
           (.reg none [⟨(some 124), .mv (.t 16), none⟩,
             ⟨(some 125), .mv (.t 0), none⟩,
             ⟨(some 126), .mv (.t 1), none⟩,
             ⟨(some 127), .bin .mul (.t 125) (.t 126), none⟩,
             ⟨(some 128), .bin .shl (.c (.int .i64 1)) (.t 127), none⟩,
             ⟨(some 129), .bin .eql (.t 124) (.t 128), none⟩,
             ⟨(some 130), .mv (.t 129), none⟩,
             ⟨(some 131), .mv (.t 6), some (130, true)⟩,
             ⟨(some 132), .mv (.t 5), some (130, true)⟩,
             ⟨(some 133), .len (.t 132), some (130, true)⟩,
             ⟨(some 134), .bin .eql (.t 131) (.t 133), some (130, true)⟩,
             ⟨(some 135), .pick (.t 130) (.t 134) (.c (.b false)), none⟩,
             ⟨(some 136), .mv (.t 135), none⟩,
             ⟨(some 137), .call 24 [], some (136, true)⟩,
             ⟨(some 138), .pick (.t 136) (.t 137) (.c (.b false)), none⟩,
             ⟨(some 4), .mv (.t 138), none⟩])
           .ret))))))))) }
theorem f11P : prepF C Tryd.f11 = some f11A := by kernel_rfl

/-- congou/squares.Blocks -/
def f17A : AFunc :=
{ nargs := 2, res := [.t 4, .t 5], body :=
  (.seq
   (.reg none [⟨(some 4), .mv (.c .nils), none⟩,
     ⟨(some 5), .mv (.c (.int .i64 0)), none⟩])
   (.seq
    (.seq
     (.reg none [⟨(some 6), .mv (.t 0), none⟩,
       ⟨(some 7), .mv (.t 1), none⟩,
       ⟨(some 8), .call 55 [(.t 6), (.t 7)], none⟩,
       ⟨(some 9), .un .not (.t 8), none⟩])
     (.cond (.t 9)
      (.seq
       (.reg none [⟨(some 4), .mv (.c .nils), none⟩,
         ⟨(some 5), .mv (.c (.int .i64 2)), none⟩])
       .ret)
      .skip))
    (.seq
     (.reg none [⟨(some 10), .mv (.t 1), none⟩,
       ⟨(some 11), .call 56 [(.t 10)], none⟩,
       ⟨(some 4), .mv (.t 11), none⟩,
       ⟨(some 5), .mv (.c (.int .i64 0)), none⟩])
     .ret))) }
theorem f17P : prepF C Tryd.f17 = some f17A := by kernel_rfl

/-- congou/congoulaw07.list -/
def f19A : AFunc :=
{ nargs := 1, res := [.t 2], body :=
  (.seq
   (.reg none [⟨(some 2), .mv (.c .nils), none⟩])
   (.seq
    (.reg none [⟨(some 3), .mv (.t 0), none⟩,
      ⟨(some 4), .mv (.t 0), none⟩,
      ⟨(some 5), .len (.t 4), none⟩,
      ⟨(some 6), .mn [(.t 5), (.c (.int .i64 8))], none⟩,
      ⟨(some 7), .slice 1 (.t 3) none (some (.t 6)) none, none⟩,
      ⟨(some 8), .call 33 [(.t 7)], none⟩,
      ⟨(some 2), .mv (.t 8), none⟩])
    .ret)) }
theorem f19P : prepF C Tryd.f19 = some f19A := by kernel_rfl

/-- slices.Equal[[]int,int] -/
def f21A : AFunc :=
{ nargs := 2, res := [.t 4], body :=
  (.seq
   (.reg none [⟨(some 4), .mv (.c (.b false)), none⟩])
   (.seq
    (.seq
     (.reg none [⟨(some 6), .mv (.t 0), none⟩,
       ⟨(some 7), .len (.t 6), none⟩,
       ⟨(some 8), .mv (.t 1), none⟩,
       ⟨(some 9), .len (.t 8), none⟩,
       ⟨(some 10), .bin .neq (.t 7) (.t 9), none⟩])
     (.cond (.t 10)
      (.seq
       (.reg none [⟨(some 4), .mv (.c (.b false)), none⟩])
       .ret)
      .skip))
    (.seq
     (.seq
      (.reg none [⟨(some 11), .mv (.t 0), none⟩,
        ⟨(some 12), .len (.t 11), none⟩,
        ⟨(some 13), .mv (.c (.int .i64 0)), none⟩])
      (.block 0
       (.loop
        (.seq
         (.reg none [⟨(some 14), .bin .lss (.t 13) (.t 12), none⟩])
         (.seq
          (.cond (.t 14)
           .skip
           (.exit 0))
          (.seq
           (.block 1
            (.seq
             (.reg none [⟨(some 15), .mv (.t 13), none⟩,
               ⟨(some 5), .mv (.t 15), none⟩])
             (.seq
              (.reg (some []) [⟨(some 16), .mv (.t 0), none⟩,
                ⟨(some 17), .mv (.t 5), none⟩,
                ⟨(some 18), .iaddr 1 (.t 16) (.t 17), none⟩,
                ⟨(some 19), .load none (.t 18), none⟩,
                ⟨(some 20), .mv (.t 1), none⟩,
                ⟨(some 21), .mv (.t 5), none⟩,
                ⟨(some 22), .iaddr 1 (.t 20) (.t 21), none⟩,
                ⟨(some 23), .load none (.t 22), none⟩,
                ⟨(some 24), .bin .neq (.t 19) (.t 23), none⟩])
              (.cond (.t 24)
               (.seq
                (.reg none [⟨(some 4), .mv (.c (.b false)), none⟩])
                .ret)
               .skip))))
           (.reg none [⟨(some 25), .bin .add (.t 13) (.c (.int .i64 1)), none⟩,
             ⟨(some 13), .mv (.t 25), none⟩])))))))
     (.seq
      (.reg none [⟨(some 4), .mv (.c (.b true)), none⟩])
      .ret)))) }
theorem f21P : prepF C Tryd.f21 = some f21A := by kernel_rfl

/-- congou/congoulaw07.awake -/
def f24A : AFunc :=
{ nargs := 0, res := [.t 0], body :=
  (.seq
   (.reg none [⟨(some 0), .mv (.c (.b false)), none⟩])
   (.seq
    (.reg none [⟨(some 4), .call 17 [(.c (.int .i64 5)), (.c (.int .i64 23))], none⟩,
      ⟨(some 3), .mv (.t 4), none⟩,
      ⟨(some 5), .extr (.t 3) 0, none⟩,
      ⟨(some 6), .extr (.t 3) 1, none⟩,
      ⟨(some 1), .mv (.t 5), none⟩,
      ⟨(some 2), .mv (.t 6), none⟩])
    (.seq
     (.reg none [⟨(some 7), .mv (.t 2), none⟩,
       ⟨(some 8), .bin .eql (.t 7) (.c (.int .i64 0)), none⟩,
       ⟨(some 9), .mv (.t 8), none⟩,
       ⟨(some 10), .mv (.t 1), some (9, true)⟩,
       ⟨(some 11), .bslice [(.int .i64 0)] 2 1 [(0, (.c (.int .i64 3))), (1, (.c (.int .i64 1)))], some (9, true)⟩,
       ⟨(some 12), .call 21 [(.t 10), (.t 11)], some (9, true)⟩,
       ⟨(some 13), .pick (.t 9) (.t 12) (.c (.b false)), none⟩,
       ⟨(some 0), .mv (.t 13), none⟩])
     .ret))) }
theorem f24P : prepF C Tryd.f24 = some f24A := by kernel_rfl

/-- congou/squares.Clues -/
def f28A : AFunc :=
{ nargs := 2, res := [.c 4 (some 2), .t 5], body :=
  (.seq
   (.reg none [⟨(some 4), .alloc [.nils, .nils], none⟩,
     ⟨(some 5), .mv (.c (.int .i64 0)), none⟩])
   (.seq
    (.seq
     (.reg none [⟨(some 6), .mv (.t 0), none⟩,
       ⟨(some 7), .mv (.t 1), none⟩,
       ⟨(some 8), .call 62 [(.t 6), (.t 7)], none⟩,
       ⟨(some 9), .un .not (.t 8), none⟩])
     (.cond (.t 9)
      (.seq
       (.reg none [⟨(some 10), .build [.nils, .nils] [], none⟩,
         ⟨none, .store 2 (.t 4) (.t 10), none⟩,
         ⟨(some 5), .mv (.c (.int .i64 2)), none⟩])
       .ret)
      .skip))
    (.seq
     (.reg none [⟨(some 11), .mv (.t 0), none⟩,
       ⟨(some 12), .mv (.t 1), none⟩,
       ⟨(some 13), .call 63 [(.t 11), (.t 12)], none⟩,
       ⟨none, .store 2 (.t 4) (.t 13), none⟩,
       ⟨(some 5), .mv (.c (.int .i64 0)), none⟩])
     .ret))) }
theorem f28P : prepF C Tryd.f28 = some f28A := by kernel_rfl

/-- congou/congouref07.Same -/
def f30A : AFunc :=
{ nargs := 2, res := [.t 4], body :=
  (.seq
   (.reg none [⟨(some 2), .box (.t 0), none⟩,
     ⟨(some 3), .box (.t 1), none⟩,
     ⟨(some 4), .mv (.c (.b false)), none⟩])
   (.seq
    (.seq
     (.reg none [⟨(some 9), .faddr 0 (.t 2), none⟩,
       ⟨(some 10), .load none (.t 9), none⟩,
       ⟨(some 11), .len (.t 10), none⟩,
       ⟨(some 12), .faddr 0 (.t 3), none⟩,
       ⟨(some 13), .load none (.t 12), none⟩,
       ⟨(some 14), .len (.t 13), none⟩,
       ⟨(some 15), .bin .neq (.t 11) (.t 14), none⟩,
       ⟨(some 16), .mv (.t 15), none⟩,
       ⟨(some 17), .faddr 1 (.t 2), some (16, false)⟩,
       ⟨(some 18), .load none (.t 17), some (16, false)⟩,
       ⟨(some 19), .len (.t 18), some (16, false)⟩,
       ⟨(some 20), .faddr 1 (.t 3), some (16, false)⟩,
       ⟨(some 21), .load none (.t 20), some (16, false)⟩,
       ⟨(some 22), .len (.t 21), some (16, false)⟩,
       ⟨(some 23), .bin .neq (.t 19) (.t 22), some (16, false)⟩,
       ⟨(some 24), .pick (.t 16) (.c (.b true)) (.t 23), none⟩])
     (.cond (.t 24)
      (.seq
       (.reg none [⟨(some 4), .mv (.c (.b false)), none⟩])
       .ret)
      .skip))
    (.seq
     (.seq
      (.reg none [⟨(some 25), .faddr 0 (.t 2), none⟩,
        ⟨(some 26), .load none (.t 25), none⟩,
        ⟨(some 27), .len (.t 26), none⟩,
        ⟨(some 28), .mv (.c (.int .i64 0)), none⟩])
      (.block 0
       (.loop
        (.seq
         (.reg none [⟨(some 29), .bin .lss (.t 28) (.t 27), none⟩])
         (.seq
          (.cond (.t 29)
           .skip
           (.exit 0))
          (.seq
           (.block 1
            (.seq
             (.reg none [⟨(some 30), .mv (.t 28), none⟩,
               ⟨(some 31), .iaddr 1 (.t 26) (.t 28), none⟩,
               ⟨(some 32), .load none (.t 31), none⟩,
               ⟨(some 5), .mv (.t 30), none⟩,
               ⟨(some 6), .mv (.t 32), none⟩])
             (.seq
              (.reg none [⟨(some 33), .mv (.t 6), none⟩,
                ⟨(some 34), .faddr 0 (.t 3), none⟩,
                ⟨(some 35), .load none (.t 34), none⟩,
                ⟨(some 36), .mv (.t 5), none⟩,
                ⟨(some 37), .iaddr 1 (.t 35) (.t 36), none⟩,
                ⟨(some 38), .load none (.t 37), none⟩,
                ⟨(some 39), .call 60 [(.t 33), (.t 38)], none⟩,
                ⟨(some 40), .un .not (.t 39), none⟩])
              (.cond (.t 40)
               (.seq
                (.reg none [⟨(some 4), .mv (.c (.b false)), none⟩])
                .ret)
               .skip))))
           (.reg none [⟨(some 41), .bin .add (.t 28) (.c (.int .i64 1)), none⟩,
             ⟨(some 28), .mv (.t 41), none⟩])))))))
     (.seq
      (.seq
       (.reg none [⟨(some 42), .faddr 1 (.t 2), none⟩,
         ⟨(some 43), .load none (.t 42), none⟩,
         ⟨(some 44), .len (.t 43), none⟩,
         ⟨(some 45), .mv (.c (.int .i64 0)), none⟩])
       (.block 2
        (.loop
         (.seq
          (.reg none [⟨(some 46), .bin .lss (.t 45) (.t 44), none⟩])
          (.seq
           (.cond (.t 46)
            .skip
            (.exit 2))
           (.seq
            (.block 3
             (.seq
              (.reg none [⟨(some 47), .mv (.t 45), none⟩,
                ⟨(some 48), .iaddr 1 (.t 43) (.t 45), none⟩,
                ⟨(some 49), .load none (.t 48), none⟩,
                ⟨(some 7), .mv (.t 47), none⟩,
                ⟨(some 8), .mv (.t 49), none⟩])
              (.seq
               (.reg none [⟨(some 50), .mv (.t 8), none⟩,
                 ⟨(some 51), .faddr 1 (.t 3), none⟩,
                 ⟨(some 52), .load none (.t 51), none⟩,
                 ⟨(some 53), .mv (.t 7), none⟩,
                 ⟨(some 54), .iaddr 1 (.t 52) (.t 53), none⟩,
                 ⟨(some 55), .load none (.t 54), none⟩,
                 ⟨(some 56), .call 60 [(.t 50), (.t 55)], none⟩,
                 ⟨(some 57), .un .not (.t 56), none⟩])
               (.cond (.t 57)
                (.seq
                 (.reg none [⟨(some 4), .mv (.c (.b false)), none⟩])
                 .ret)
                .skip))))
            (.reg none [⟨(some 58), .bin .add (.t 45) (.c (.int .i64 1)), none⟩,
              ⟨(some 45), .mv (.t 58), none⟩])))))))
      (.seq
       (.reg none [⟨(some 4), .mv (.c (.b true)), none⟩])
       .ret))))) }
theorem f30P : prepF C Tryd.f30 = some f30A := by kernel_rfl

/-- congou/congoulaw07.own -/
def f31A : AFunc :=
{ nargs := 1, res := [.c 2 (some 2)], body :=
  (.seq
   (.reg none [⟨(some 1), .box (.t 0), none⟩,
     ⟨(some 2), .alloc [.nils, .nils], none⟩])
   (.seq
    (.reg none [⟨(some 3), .faddr 0 (.t 1), none⟩,
      ⟨(some 4), .load none (.t 3), none⟩,
      ⟨(some 5), .faddr 1 (.t 1), none⟩,
      ⟨(some 6), .load none (.t 5), none⟩,
      ⟨(some 7), .build [.nils, .nils] [(0, 1, (.t 4)), (1, 1, (.t 6))], none⟩,
      ⟨none, .store 2 (.t 2) (.t 7), none⟩])
    .ret)) }
theorem f31P : prepF C Tryd.f31 = some f31A := by kernel_rfl

/-- slices.Clone[[]int,int] -/
def f33A : AFunc :=
{ nargs := 1, res := [.t 2], body :=
  (.seq
   (.reg none [⟨(some 2), .mv (.c .nils), none⟩])
   (.seq
    (.seq
     (.reg none [⟨(some 3), .mv (.t 0), none⟩,
       ⟨(some 4), .seq false (.t 3) (.c .nils), none⟩])
     (.cond (.t 4)
      (.seq
       (.reg none [⟨(some 2), .mv (.c .nils), none⟩])
       .ret)
      .skip))
    (.seq
     (.reg none [⟨(some 5), .bslice [(.int .i64 0)] 0 1 [], none⟩,
       ⟨(some 6), .mv (.t 0), none⟩,
       ⟨(some 7), .append 1 8 (.t 5) (.t 6), none⟩,
       ⟨(some 2), .mv (.t 7), none⟩])
     .ret))) }
theorem f33P : prepF C Tryd.f33 = some f33A := by kernel_rfl

/-- congou/congoulaw07.Of -/
def f37A : AFunc :=
{ nargs := 1, res := [.c 2 (some 2)], body :=
  (.seq
   (.reg none [⟨(some 1), .box (.t 0), none⟩,
     ⟨(some 2), .alloc [.nils, .nils], none⟩])
   (.seq
    (.reg (some []) [⟨(some 3), .faddr 0 (.t 1), none⟩,
      ⟨(some 4), .load none (.t 3), none⟩,
      ⟨(some 5), .call 70 [(.t 4)], none⟩,
      ⟨(some 6), .faddr 1 (.t 1), none⟩,
      ⟨(some 7), .load none (.t 6), none⟩,
      ⟨(some 8), .call 70 [(.t 7)], none⟩,
      ⟨(some 9), .build [.nils, .nils] [(0, 1, (.t 5)), (1, 1, (.t 8))], none⟩,
      ⟨none, .store 2 (.t 2) (.t 9), none⟩])
    .ret)) }
theorem f37P : prepF C Tryd.f37 = some f37A := by kernel_rfl

/-- congou/squares.Solve -/
def f40A : AFunc :=
{ nargs := 1, res := [.c 2 none, .c 3 none], body :=
  (.seq
   (.reg none [⟨(some 1), .box (.t 0), none⟩,
     ⟨(some 2), .alloc [.nils], none⟩,
     ⟨(some 3), .alloc [(.int .i64 0)], none⟩])
   (.seq
    (.seq
     (.reg none [⟨(some 5), .load (some 2) (.t 1), none⟩,
       ⟨(some 6), .call 67 [(.t 5)], none⟩,
       ⟨(some 7), .un .not (.t 6), none⟩])
     (.cond (.t 7)
      (.seq
       (.reg none [⟨none, .store 1 (.t 2) (.c .nils), none⟩,
         ⟨none, .store 1 (.t 3) (.c (.int .i64 2)), none⟩])
       .ret)
      .skip))
    (.seq
     (.seq
      (.reg none [⟨(some 8), .load (some 2) (.t 1), none⟩,
        ⟨(some 9), .mkfn 73 [(.t 8)] [], none⟩])
      (.block 0
       (.rangeF 12 (.t 9) [10]
        (.reg none [⟨(some 4), .mv (.t 10), none⟩])
        (.block 1
         (.seq
          (.reg none [⟨(some 11), .mv (.t 4), none⟩,
            ⟨none, .store 1 (.t 2) (.t 11), none⟩,
            ⟨none, .store 1 (.t 3) (.c (.int .i64 0)), none⟩])
          .ret)))))
     (.seq
      (.reg none [⟨none, .store 1 (.t 2) (.c .nils), none⟩,
        ⟨none, .store 1 (.t 3) (.c (.int .i64 4)), none⟩])
      .ret)))) }
theorem f40P : prepF C Tryd.f40 = some f40A := by kernel_rfl

/-- congou/squares.Count -/
def f41A : AFunc :=
{ nargs := 1, res := [.t 2, .t 3], body :=
  (.seq
   (.reg none [⟨(some 1), .box (.t 0), none⟩,
     ⟨(some 2), .mv (.c (.int .i64 0)), none⟩,
     ⟨(some 3), .mv (.c (.int .i64 0)), none⟩])
   (.seq
    (.seq
     (.reg none [⟨(some 5), .load (some 2) (.t 1), none⟩,
       ⟨(some 6), .call 67 [(.t 5)], none⟩,
       ⟨(some 7), .un .not (.t 6), none⟩])
     (.cond (.t 7)
      (.seq
       (.reg none [⟨(some 2), .mv (.c (.int .i64 0)), none⟩,
         ⟨(some 3), .mv (.c (.int .i64 2)), none⟩])
       .ret)
      .skip))
    (.seq
     (.reg none [⟨(some 4), .alloc [(.int .i64 0)], none⟩,
       ⟨none, .store 1 (.t 4) (.c (.int .i64 0)), none⟩])
     (.seq
      (.seq
       (.reg none [⟨(some 8), .load (some 2) (.t 1), none⟩,
         ⟨(some 9), .mkfn 73 [(.t 8)] [], none⟩])
       (.block 0
        (.rangeF 14 (.t 9) [10]
         .skip
         (.block 1
          (.reg none [⟨(some 11), .load none (.t 4), none⟩,
            ⟨(some 12), .bin .add (.t 11) (.c (.int .i64 1)), none⟩,
            ⟨none, .store 1 (.t 4) (.t 12), none⟩])))))
      (.seq
       (.reg none [⟨(some 13), .load none (.t 4), none⟩,
         ⟨(some 2), .mv (.t 13), none⟩,
         ⟨(some 3), .mv (.c (.int .i64 0)), none⟩])
       .ret))))) }
theorem f41P : prepF C Tryd.f41 = some f41A := by kernel_rfl

/-- slices.ContainsFunc[[]congou/congouref07.Puzzle,congou/congouref07.Puzzle] -/
def f50A : AFunc :=
{ nargs := 2, res := [.t 4], body :=
  (.seq
   (.reg none [⟨(some 4), .mv (.c (.b false)), none⟩])
   (.seq
    (.reg none [⟨(some 5), .mv (.t 0), none⟩,
      ⟨(some 6), .mv (.t 1), none⟩,
      ⟨(some 7), .call 81 [(.t 5), (.t 6)], none⟩,
      ⟨(some 8), .bin .geq (.t 7) (.c (.int .i64 0)), none⟩,
      ⟨(some 4), .mv (.t 8), none⟩])
    .ret)) }
theorem f50P : prepF C Tryd.f50 = some f50A := by kernel_rfl

/-- congou/congoulaw07.SquaresCounted$1 -/
def f51A : AFunc :=
{ nargs := 2, res := [.t 3], body :=
  (.seq
   (.reg none [⟨(some 2), .box (.t 0), none⟩,
     ⟨(some 3), .mv (.c (.b false)), none⟩])
   (.seq
    (.reg (some []) [⟨(some 4), .load (some 2) (.t 2), none⟩,
      ⟨(some 5), .load (some 2) (.t 1), none⟩,
      ⟨(some 6), .call 31 [(.t 5)], none⟩,
      ⟨(some 7), .call 30 [(.t 4), (.t 6)], none⟩,
      ⟨(some 3), .mv (.t 7), none⟩])
    .ret)) }
theorem f51P : prepF C Tryd.f51 = some f51A := by kernel_rfl

/-- congou/squares.isSet -/
def f55A : AFunc :=
{ nargs := 2, res := [.t 4], body :=
  (.seq
   (.reg none [⟨(some 4), .mv (.c (.b false)), none⟩])
   (.seq
    (.reg none [⟨(some 5), .mv (.t 0), none⟩,
      ⟨(some 6), .call 86 [(.t 5)], none⟩,
      ⟨(some 7), .mv (.t 6), none⟩,
      ⟨(some 8), .mv (.t 1), some (7, true)⟩,
      ⟨(some 9), .bin .geq (.t 8) (.c (.int .i64 0)), some (7, true)⟩,
      ⟨(some 10), .pick (.t 7) (.t 9) (.c (.b false)), none⟩,
      ⟨(some 11), .mv (.t 10), none⟩,
      ⟨(some 12), .mv (.t 1), some (11, true)⟩,
      ⟨(some 13), .mv (.t 0), some (11, true)⟩,
      ⟨(some 14), .bin .shl (.c (.int .i64 1)) (.t 13), some (11, true)⟩,
      ⟨(some 15), .bin .lss (.t 12) (.t 14), some (11, true)⟩,
      ⟨(some 16), .pick (.t 11) (.t 15) (.c (.b false)), none⟩,
      ⟨(some 4), .mv (.t 16), none⟩])
    .ret)) }
theorem f55P : prepF C Tryd.f55 = some f55A := by kernel_rfl

/-- congou/squares.blocks -/
def f56A : AFunc :=
{ nargs := 1, res := [.t 2], body :=
  (.seq
   (.reg none [⟨(some 2), .mv (.c .nils), none⟩])
   (.seq
    (.reg none [⟨(some 3), .mv (.c .nils), none⟩])
    (.seq
     (.seq
      (.reg none [⟨(some 6), .mv (.t 0), none⟩,
        ⟨(some 7), .conv .u64 (.t 6), none⟩,
        ⟨(some 4), .mv (.t 7), none⟩])
      (.block 0
       (.loop
        (.seq
         (.seq
          (.reg none [⟨(some 8), .mv (.t 4), none⟩,
            ⟨(some 9), .bin .neq (.t 8) (.c (.int .u64 0)), none⟩])
          (.cond (.t 9)
           .skip
           (.exit 0)))
         (.block 1
          (.seq
           (.reg none [⟨(some 10), .mv (.t 4), none⟩,
             ⟨(some 11), .mv (.t 4), none⟩,
             ⟨(some 12), .call 87 [(.t 11)], none⟩,
             ⟨(some 13), .bin .shr (.t 10) (.t 12), none⟩,
             ⟨(some 4), .mv (.t 13), none⟩])
           (.seq
            (.reg none [⟨(some 14), .mv (.t 4), none⟩,
              ⟨(some 15), .un .xor (.t 14), none⟩,
              ⟨(some 16), .call 87 [(.t 15)], none⟩,
              ⟨(some 5), .mv (.t 16), none⟩])
            (.seq
             (.reg none [⟨(some 17), .mv (.t 3), none⟩,
               ⟨(some 18), .mv (.t 5), none⟩,
               ⟨(some 19), .bslice [(.int .i64 0)] 1 1 [(0, (.t 18))], none⟩,
               ⟨(some 20), .append 1 8 (.t 17) (.t 19), none⟩,
               ⟨(some 3), .mv (.t 20), none⟩])
             (.reg none [⟨(some 21), .mv (.t 4), none⟩,
               ⟨(some 22), .mv (.t 5), none⟩,
               ⟨(some 23), .bin .shr (.t 21) (.t 22), none⟩,
               ⟨(some 4), .mv (.t 23), none⟩])))))))))
     (.seq
      (.reg none [⟨(some 24), .mv (.t 3), none⟩,
        ⟨(some 2), .mv (.t 24), none⟩])
      .ret)))) }
theorem f56P : prepF C Tryd.f56 = some f56A := by kernel_rfl

/-- congou/squares.isClue -/
def f57A : AFunc :=
{ nargs := 2, res := [.t 4], body :=
  (.seq
   (.reg none [⟨(some 4), .mv (.c (.b false)), none⟩])
   (.seq
    (.reg none [⟨(some 5), .mv (.t 0), none⟩,
      ⟨(some 6), .call 86 [(.t 5)], none⟩,
      ⟨(some 7), .mv (.t 6), none⟩,
      ⟨(some 8), .mv (.t 0), some (7, true)⟩,
      ⟨(some 9), .mv (.t 1), some (7, true)⟩,
      ⟨(some 10), .call 58 [(.t 8), (.t 9)], some (7, true)⟩,
      ⟨(some 11), .len (.t 10), some (7, true)⟩,
      ⟨(some 12), .bin .gtr (.t 11) (.c (.int .i64 0)), some (7, true)⟩,
      ⟨(some 13), .pick (.t 7) (.t 12) (.c (.b false)), none⟩,
      ⟨(some 4), .mv (.t 13), none⟩])
    .ret)) }
theorem f57P : prepF C Tryd.f57 = some f57A := by kernel_rfl

/-- congou/squares.lines -/
def f58A : AFunc :=
{ nargs := 2, res := [.t 4], body :=
  (.seq
   (.reg none [⟨(some 4), .mv (.c .nils), none⟩])
   (.seq
    (.reg none [⟨(some 5), .mv (.c .nils), none⟩])
    (.seq
     (.seq
      (.reg none [⟨(some 7), .mv (.t 0), none⟩,
        ⟨(some 8), .bin .shl (.c (.int .i64 1)) (.t 7), none⟩,
        ⟨(some 9), .mv (.c (.int .i64 0)), none⟩])
      (.block 0
       (.loop
        (.seq
         (.reg none [⟨(some 10), .bin .lss (.t 9) (.t 8), none⟩])
         (.seq
          (.cond (.t 10)
           .skip
           (.exit 0))
          (.seq
           (.block 1
            (.seq
             (.reg none [⟨(some 11), .mv (.t 9), none⟩,
               ⟨(some 6), .mv (.t 11), none⟩])
             (.seq
              (.reg none [⟨(some 12), .mv (.t 6), none⟩,
                ⟨(some 13), .call 56 [(.t 12)], none⟩,
                ⟨(some 14), .mv (.t 1), none⟩,
                ⟨(some 15), .call 21 [(.t 13), (.t 14)], none⟩])
              (.cond (.t 15)
               (.reg none [⟨(some 16), .mv (.t 5), none⟩,
                 ⟨(some 17), .mv (.t 6), none⟩,
                 ⟨(some 18), .bslice [(.int .i64 0)] 1 1 [(0, (.t 17))], none⟩,
                 ⟨(some 19), .append 1 8 (.t 16) (.t 18), none⟩,
                 ⟨(some 5), .mv (.t 19), none⟩])
               .skip))))
           (.reg none [⟨(some 20), .bin .add (.t 9) (.c (.int .i64 1)), none⟩,
             ⟨(some 9), .mv (.t 20), none⟩])))))))
     (.seq
      (.reg none [⟨(some 21), .mv (.t 5), none⟩,
        ⟨(some 4), .mv (.t 21), none⟩])
      .ret)))) }
theorem f58P : prepF C Tryd.f58 = some f58A := by kernel_rfl

/-- congou/congouref07.same -/
def f60A : AFunc :=
{ nargs := 2, res := [.t 4], body :=
  (.seq
   (.reg none [⟨(some 4), .mv (.c (.b false)), none⟩])
   (.seq
    (.seq
     (.reg none [⟨(some 7), .mv (.t 0), none⟩,
       ⟨(some 8), .len (.t 7), none⟩,
       ⟨(some 9), .mv (.t 1), none⟩,
       ⟨(some 10), .len (.t 9), none⟩,
       ⟨(some 11), .bin .neq (.t 8) (.t 10), none⟩])
     (.cond (.t 11)
      (.seq
       (.reg none [⟨(some 4), .mv (.c (.b false)), none⟩])
       .ret)
      .skip))
    (.seq
     (.seq
      (.reg none [⟨(some 12), .mv (.t 0), none⟩,
        ⟨(some 13), .len (.t 12), none⟩,
        ⟨(some 14), .mv (.c (.int .i64 0)), none⟩])
      (.block 0
       (.loop
        (.seq
         (.reg none [⟨(some 15), .bin .lss (.t 14) (.t 13), none⟩])
         (.seq
          (.cond (.t 15)
           .skip
           (.exit 0))
          (.seq
           (.block 1
            (.seq
             (.reg none [⟨(some 16), .mv (.t 14), none⟩,
               ⟨(some 17), .iaddr 1 (.t 12) (.t 14), none⟩,
               ⟨(some 18), .load none (.t 17), none⟩,
               ⟨(some 5), .mv (.t 16), none⟩,
               ⟨(some 6), .mv (.t 18), none⟩])
             (.seq
              (.reg none [⟨(some 19), .mv (.t 6), none⟩,
                ⟨(some 20), .mv (.t 1), none⟩,
                ⟨(some 21), .mv (.t 5), none⟩,
                ⟨(some 22), .iaddr 1 (.t 20) (.t 21), none⟩,
                ⟨(some 23), .load none (.t 22), none⟩,
                ⟨(some 24), .bin .neq (.t 19) (.t 23), none⟩])
              (.cond (.t 24)
               (.seq
                (.reg none [⟨(some 4), .mv (.c (.b false)), none⟩])
                .ret)
               .skip))))
           (.reg none [⟨(some 25), .bin .add (.t 14) (.c (.int .i64 1)), none⟩,
             ⟨(some 14), .mv (.t 25), none⟩])))))))
     (.seq
      (.reg none [⟨(some 4), .mv (.c (.b true)), none⟩])
      .ret)))) }
theorem f60P : prepF C Tryd.f60 = some f60A := by kernel_rfl

/-- congou/squares.settle -/
def f61A : AFunc :=
{ nargs := 3, res := [.c 6 (some 2), .t 7], body :=
  (.seq
   (.reg none [⟨(some 5), .box (.t 2), none⟩,
     ⟨(some 6), .alloc [(.int .i64 0), (.int .i64 0)], none⟩,
     ⟨(some 7), .mv (.c (.b false)), none⟩])
   (.seq
    (.reg none [⟨(some 11), .mv (.t 0), none⟩,
      ⟨(some 12), .bin .shl (.c (.int .i64 1)) (.t 11), none⟩,
      ⟨(some 13), .bin .sub (.t 12) (.c (.int .i64 1)), none⟩,
      ⟨(some 8), .mv (.t 13), none⟩])
    (.seq
     (.reg none [⟨(some 14), .mv (.t 8), none⟩,
       ⟨(some 15), .mv (.t 8), none⟩,
       ⟨(some 16), .build [(.int .i64 0), (.int .i64 0)] [(0, 1, (.t 14)), (1, 1, (.t 15))], none⟩,
       ⟨none, .store 2 (.t 6) (.t 16), none⟩])
     (.seq
      (.seq
       (.reg none [⟨(some 17), .mv (.t 0), none⟩,
         ⟨(some 18), .mv (.t 1), none⟩,
         ⟨(some 19), .call 58 [(.t 17), (.t 18)], none⟩,
         ⟨(some 20), .len (.t 19), none⟩,
         ⟨(some 21), .mv (.c (.int .i64 0)), none⟩])
       (.block 0
        (.loop
         (.seq
          (.reg none [⟨(some 22), .bin .lss (.t 21) (.t 20), none⟩])
          (.seq
           (.cond (.t 22)
            .skip
            (.exit 0))
           (.seq
            (.block 1
             (.seq
              (.reg none [⟨(some 23), .iaddr 1 (.t 19) (.t 21), none⟩,
                ⟨(some 24), .load none (.t 23), none⟩,
                ⟨(some 10), .mv (.t 24), none⟩])
              (.seq
               (.reg none [⟨(some 25), .load (some 2) (.t 5), none⟩,
                 ⟨(some 26), .mv (.t 10), none⟩,
                 ⟨(some 27), .call 88 [(.t 25), (.t 26)], none⟩])
               (.cond (.t 27)
                (.seq
                 (.reg none [⟨(some 28), .faddr 0 (.t 6), none⟩,
                   ⟨(some 29), .load none (.t 28), none⟩,
                   ⟨(some 30), .mv (.t 10), none⟩,
                   ⟨(some 31), .bin .and (.t 29) (.t 30), none⟩,
                   ⟨(some 32), .faddr 0 (.t 6), none⟩,
                   ⟨none, .store 1 (.t 32) (.t 31), none⟩])
                 (.seq
                  (.reg none [⟨(some 33), .faddr 1 (.t 6), none⟩,
                    ⟨(some 34), .load none (.t 33), none⟩,
                    ⟨(some 35), .mv (.t 10), none⟩,
                    ⟨(some 36), .bin .andNot (.t 34) (.t 35), none⟩,
                    ⟨(some 37), .faddr 1 (.t 6), none⟩,
                    ⟨none, .store 1 (.t 37) (.t 36), none⟩])
                  (.reg none [⟨(some 7), .mv (.c (.b true)), none⟩])))
                .skip))))
            (.reg none [⟨(some 38), .bin .add (.t 21) (.c (.int .i64 1)), none⟩,
              ⟨(some 21), .mv (.t 38), none⟩])))))))
      (.seq
       (.reg none [⟨(some 39), .load (some 2) (.t 6), none⟩,
         ⟨(some 40), .mv (.t 7), none⟩,
         ⟨none, .store 2 (.t 6) (.t 39), none⟩,
         ⟨(some 7), .mv (.t 40), none⟩])
       .ret))))) }
theorem f61P : prepF C Tryd.f61 = some f61A := by kernel_rfl

/-- congou/squares.isPicture -/
def f62A : AFunc :=
{ nargs := 2, res := [.t 4], body :=
  (.seq
   (.reg none [⟨(some 2), .box (.t 0), none⟩,
     ⟨(some 4), .mv (.c (.b false)), none⟩])
   (.seq
    (.reg none [⟨(some 5), .mv (.t 1), none⟩,
      ⟨(some 6), .len (.t 5), none⟩,
      ⟨(some 7), .call 86 [(.t 6)], none⟩,
      ⟨(some 8), .mv (.t 7), none⟩,
      ⟨(some 9), .load none (.t 2), some (8, true)⟩,
      ⟨(some 10), .call 86 [(.t 9)], some (8, true)⟩,
      ⟨(some 11), .pick (.t 8) (.t 10) (.c (.b false)), none⟩,
      ⟨(some 12), .mv (.t 11), none⟩,
      ⟨(some 13), .mv (.t 1), some (12, true)⟩,
      ⟨(some 14), .mkfn 90 [] [(.t 2)], some (12, true)⟩,
      ⟨(some 15), .call 89 [(.t 13), (.t 14)], some (12, true)⟩,
      ⟨(some 16), .un .not (.t 15), some (12, true)⟩,
      ⟨(some 17), .pick (.t 12) (.t 16) (.c (.b false)), none⟩,
      ⟨(some 4), .mv (.t 17), none⟩])
    .ret)) }
theorem f62P : prepF C Tryd.f62 = some f62A := by kernel_rfl

/-- congou/squares.clues -/
def f63A : AFunc :=
{ nargs := 2, res := [.c 4 (some 2)], body :=
  (.seq
   (.reg none [⟨(some 4), .alloc [.nils, .nils], none⟩])
   (.seq
    (.reg none [⟨(some 5), .alloc [.nils, .nils], none⟩])
    (.seq
     (.seq
      (.reg none [⟨(some 9), .mv (.t 1), none⟩,
        ⟨(some 10), .len (.t 9), none⟩,
        ⟨(some 11), .mv (.c (.int .i64 0)), none⟩])
      (.block 0
       (.loop
        (.seq
         (.reg none [⟨(some 12), .bin .lss (.t 11) (.t 10), none⟩])
         (.seq
          (.cond (.t 12)
           .skip
           (.exit 0))
          (.seq
           (.block 1
            (.seq
             (.reg none [⟨(some 13), .iaddr 1 (.t 9) (.t 11), none⟩,
               ⟨(some 14), .load none (.t 13), none⟩,
               ⟨(some 7), .mv (.t 14), none⟩])
             (.reg (some []) [⟨(some 15), .faddr 0 (.t 5), none⟩,
               ⟨(some 16), .load none (.t 15), none⟩,
               ⟨(some 17), .mv (.t 7), none⟩,
               ⟨(some 18), .call 56 [(.t 17)], none⟩,
               ⟨(some 19), .bslice [.nils] 1 1 [(0, (.t 18))], none⟩,
               ⟨(some 20), .append 1 24 (.t 16) (.t 19), none⟩,
               ⟨(some 21), .faddr 0 (.t 5), none⟩,
               ⟨none, .store 1 (.t 21) (.t 20), none⟩])))
           (.reg none [⟨(some 22), .bin .add (.t 11) (.c (.int .i64 1)), none⟩,
             ⟨(some 11), .mv (.t 22), none⟩])))))))
     (.seq
      (.seq
       (.reg none [⟨(some 23), .mv (.t 0), none⟩,
         ⟨(some 24), .mv (.c (.int .i64 0)), none⟩])
       (.block 2
        (.loop
         (.seq
          (.reg none [⟨(some 25), .bin .lss (.t 24) (.t 23), none⟩])
          (.seq
           (.cond (.t 25)
            .skip
            (.exit 2))
           (.seq
            (.block 3
             (.seq
              (.reg none [⟨(some 26), .mv (.t 24), none⟩,
                ⟨(some 8), .mv (.t 26), none⟩])
              (.reg (some []) [⟨(some 27), .faddr 1 (.t 5), none⟩,
                ⟨(some 28), .load none (.t 27), none⟩,
                ⟨(some 29), .mv (.t 1), none⟩,
                ⟨(some 30), .mv (.t 8), none⟩,
                ⟨(some 31), .call 91 [(.t 29), (.t 30)], none⟩,
                ⟨(some 32), .call 56 [(.t 31)], none⟩,
                ⟨(some 33), .bslice [.nils] 1 1 [(0, (.t 32))], none⟩,
                ⟨(some 34), .append 1 24 (.t 28) (.t 33), none⟩,
                ⟨(some 35), .faddr 1 (.t 5), none⟩,
                ⟨none, .store 1 (.t 35) (.t 34), none⟩])))
            (.reg none [⟨(some 36), .bin .add (.t 24) (.c (.int .i64 1)), none⟩,
              ⟨(some 24), .mv (.t 36), none⟩])))))))
      (.seq
       (.reg none [⟨(some 37), .load (some 2) (.t 5), none⟩,
         ⟨none, .store 2 (.t 4) (.t 37), none⟩])
       .ret))))) }
theorem f63P : prepF C Tryd.f63 = some f63A := by kernel_rfl

/-- (congou/squares.Puzzle).valid -/
def f67A : AFunc :=
{ nargs := 1, res := [.t 2], body :=
  (.seq
   (.reg none [⟨(some 1), .box (.t 0), none⟩,
     ⟨(some 2), .mv (.c (.b false)), none⟩])
   (.seq
    (.reg (some [(4, 8)]) [⟨(some 5), .faddr 0 (.t 1), none⟩,
      ⟨(some 6), .load none (.t 5), none⟩,
      ⟨(some 7), .len (.t 6), none⟩,
      ⟨(some 8), .faddr 1 (.t 1), none⟩,
      ⟨(some 9), .load none (.t 8), none⟩,
      ⟨(some 10), .len (.t 9), none⟩,
      ⟨(some 3), .alloc [(.int .i64 0)], none⟩,
      ⟨(some 4), .alloc [(.int .i64 0)], none⟩,
      ⟨none, .store 1 (.t 3) (.t 7), none⟩,
      ⟨none, .store 1 (.t 4) (.t 10), none⟩])
    (.seq
     (.reg none [⟨(some 11), .load none (.t 3), none⟩,
       ⟨(some 12), .call 86 [(.t 11)], none⟩,
       ⟨(some 13), .mv (.t 12), none⟩,
       ⟨(some 14), .load none (.t 4), some (13, true)⟩,
       ⟨(some 15), .call 86 [(.t 14)], some (13, true)⟩,
       ⟨(some 16), .pick (.t 13) (.t 15) (.c (.b false)), none⟩,
       ⟨(some 17), .mv (.t 16), none⟩,
       ⟨(some 18), .faddr 0 (.t 1), some (17, true)⟩,
       ⟨(some 19), .load none (.t 18), some (17, true)⟩,
       ⟨(some 20), .mkfn 94 [] [(.t 4)], some (17, true)⟩,
       ⟨(some 21), .call 93 [(.t 19), (.t 20)], some (17, true)⟩,
       ⟨(some 22), .un .not (.t 21), some (17, true)⟩,
       ⟨(some 23), .pick (.t 17) (.t 22) (.c (.b false)), none⟩,
       ⟨(some 24), .mv (.t 23), none⟩,
       ⟨(some 25), .faddr 1 (.t 1), some (24, true)⟩,
       ⟨(some 26), .load none (.t 25), some (24, true)⟩,
       ⟨(some 27), .mkfn 95 [] [(.t 3)], some (24, true)⟩,
       ⟨(some 28), .call 93 [(.t 26), (.t 27)], some (24, true)⟩,
       ⟨(some 29), .un .not (.t 28), some (24, true)⟩,
       ⟨(some 30), .pick (.t 24) (.t 29) (.c (.b false)), none⟩,
       ⟨(some 2), .mv (.t 30), none⟩])
     .ret))) }
theorem f67P : prepF C Tryd.f67 = some f67A := by kernel_rfl

/-- congou/congoulaw07.table -/
def f70A : AFunc :=
{ nargs := 1, res := [.t 2], body :=
  (.seq
   (.reg none [⟨(some 2), .mv (.c .nils), none⟩])
   (.seq
    (.reg none [⟨(some 3), .mv (.c .nils), none⟩])
    (.seq
     (.seq
      (.reg none [⟨(some 6), .mv (.t 0), none⟩,
        ⟨(some 7), .len (.t 6), none⟩,
        ⟨(some 8), .mv (.c (.int .i64 0)), none⟩])
      (.block 0
       (.loop
        (.seq
         (.reg none [⟨(some 9), .bin .lss (.t 8) (.t 7), none⟩])
         (.seq
          (.cond (.t 9)
           .skip
           (.exit 0))
          (.seq
           (.block 1
            (.seq
             (.reg none [⟨(some 10), .mv (.t 8), none⟩,
               ⟨(some 11), .iaddr 1 (.t 6) (.t 8), none⟩,
               ⟨(some 12), .load none (.t 11), none⟩,
               ⟨(some 4), .mv (.t 10), none⟩,
               ⟨(some 5), .mv (.t 12), none⟩])
             (.seq
              (.reg none [⟨(some 13), .mv (.t 4), none⟩,
                ⟨(some 14), .bin .lss (.t 13) (.c (.int .i64 8)), none⟩])
              (.cond (.t 14)
               (.reg none [⟨(some 15), .mv (.t 3), none⟩,
                 ⟨(some 16), .mv (.t 5), none⟩,
                 ⟨(some 17), .call 19 [(.t 16)], none⟩,
                 ⟨(some 18), .bslice [.nils] 1 1 [(0, (.t 17))], none⟩,
                 ⟨(some 19), .append 1 24 (.t 15) (.t 18), none⟩,
                 ⟨(some 3), .mv (.t 19), none⟩])
               .skip))))
           (.reg none [⟨(some 20), .bin .add (.t 8) (.c (.int .i64 1)), none⟩,
             ⟨(some 8), .mv (.t 20), none⟩])))))))
     (.seq
      (.reg none [⟨(some 21), .mv (.t 3), none⟩,
        ⟨(some 2), .mv (.t 21), none⟩])
      .ret)))) }
theorem f70P : prepF C Tryd.f70 = some f70A := by kernel_rfl

/-- (congou/squares.Puzzle).solutions -/
def f73A : AFunc :=
{ nargs := 2, res := [], body :=
  (.seq
   (.reg none [⟨(some 2), .box (.t 0), none⟩,
     ⟨(some 3), .box (.t 1), none⟩])
   (.seq
    (.reg none [⟨(some 4), .alloc [.nilf], none⟩])
    (.seq
     (.reg none [⟨(some 5), .mkfn 101 [] [(.t 2), (.t 3), (.t 4)], none⟩,
       ⟨none, .store 1 (.t 4) (.t 5), none⟩])
     (.reg none [⟨(some 6), .load none (.t 4), none⟩,
       ⟨(some 7), .callv (.t 6) [(.c .nils)], none⟩])))) }
theorem f73P : prepF C Tryd.f73 = some f73A := by kernel_rfl

/-- slices.IndexFunc[[]congou/congouref07.Puzzle,congou/congouref07.Puzzle] -/
def f81A : AFunc :=
{ nargs := 2, res := [.t 4], body :=
  (.seq
   (.reg none [⟨(some 4), .mv (.c (.int .i64 0)), none⟩])
   (.seq
    (.seq
     (.reg none [⟨(some 6), .mv (.t 0), none⟩,
       ⟨(some 7), .len (.t 6), none⟩,
       ⟨(some 8), .mv (.c (.int .i64 0)), none⟩])
     (.block 0
      (.loop
       (.seq
        (.reg none [⟨(some 9), .bin .lss (.t 8) (.t 7), none⟩])
        (.seq
         (.cond (.t 9)
          .skip
          (.exit 0))
         (.seq
          (.block 1
           (.seq
            (.reg none [⟨(some 10), .mv (.t 8), none⟩,
              ⟨(some 5), .mv (.t 10), none⟩])
            (.seq
             (.reg none [⟨(some 11), .mv (.t 1), none⟩,
               ⟨(some 12), .mv (.t 0), none⟩,
               ⟨(some 13), .mv (.t 5), none⟩,
               ⟨(some 14), .iaddr 2 (.t 12) (.t 13), none⟩,
               ⟨(some 15), .load (some 2) (.t 14), none⟩,
               ⟨(some 16), .callv (.t 11) [(.t 15)], none⟩])
             (.cond (.t 16)
              (.seq
               (.reg none [⟨(some 17), .mv (.t 5), none⟩,
                 ⟨(some 4), .mv (.t 17), none⟩])
               .ret)
              .skip))))
          (.reg none [⟨(some 18), .bin .add (.t 8) (.c (.int .i64 1)), none⟩,
            ⟨(some 8), .mv (.t 18), none⟩])))))))
    (.seq
     (.reg none [⟨(some 4), .mv (.c (.int .i64 (-1))), none⟩])
     .ret))) }
theorem f81P : prepF C Tryd.f81 = some f81A := by kernel_rfl

/-- congou/squares.isSize -/
def f86A : AFunc :=
{ nargs := 1, res := [.t 2], body :=
  (.seq
   (.reg none [⟨(some 2), .mv (.c (.b false)), none⟩])
   (.seq
    (.reg none [⟨(some 3), .mv (.t 0), none⟩,
      ⟨(some 4), .bin .geq (.t 3) (.c (.int .i64 1)), none⟩,
      ⟨(some 5), .mv (.t 4), none⟩,
      ⟨(some 6), .mv (.t 0), some (5, true)⟩,
      ⟨(some 7), .bin .leq (.t 6) (.c (.int .i64 5)), some (5, true)⟩,
      ⟨(some 8), .pick (.t 5) (.t 7) (.c (.b false)), none⟩,
      ⟨(some 2), .mv (.t 8), none⟩])
    .ret)) }
theorem f86P : prepF C Tryd.f86 = some f86A := by kernel_rfl

/-- math/bits.TrailingZeros -/
def f87A : AFunc :=
{ nargs := 1, res := [.t 2], body :=
  (.seq
   (.reg none [⟨(some 2), .mv (.c (.int .i64 0)), none⟩])
   (.seq
    (.cond (.c (.b false))
     (.seq
      (.reg none [⟨(some 3), .mv (.t 0), none⟩,
        ⟨(some 4), .conv .u32 (.t 3), none⟩,
        ⟨(some 5), .call 108 [(.t 4)], none⟩,
        ⟨(some 2), .mv (.t 5), none⟩])
      .ret)
     .skip)
    (.seq
     (.reg none [⟨(some 6), .mv (.t 0), none⟩,
       ⟨(some 7), .call 109 [(.t 6)], none⟩,
       ⟨(some 2), .mv (.t 7), none⟩])
     .ret))) }
theorem f87P : prepF C Tryd.f87 = some f87A := by kernel_rfl

/-- (congou/squares.known).agrees -/
def f88A : AFunc :=
{ nargs := 2, res := [.t 4], body :=
  (.seq
   (.reg none [⟨(some 2), .box (.t 0), none⟩,
     ⟨(some 4), .mv (.c (.b false)), none⟩])
   (.seq
    (.reg none [⟨(some 5), .mv (.t 1), none⟩,
      ⟨(some 6), .faddr 0 (.t 2), none⟩,
      ⟨(some 7), .load none (.t 6), none⟩,
      ⟨(some 8), .bin .and (.t 5) (.t 7), none⟩,
      ⟨(some 9), .faddr 0 (.t 2), none⟩,
      ⟨(some 10), .load none (.t 9), none⟩,
      ⟨(some 11), .bin .eql (.t 8) (.t 10), none⟩,
      ⟨(some 12), .mv (.t 11), none⟩,
      ⟨(some 13), .mv (.t 1), some (12, true)⟩,
      ⟨(some 14), .faddr 1 (.t 2), some (12, true)⟩,
      ⟨(some 15), .load none (.t 14), some (12, true)⟩,
      ⟨(some 16), .bin .and (.t 13) (.t 15), some (12, true)⟩,
      ⟨(some 17), .bin .eql (.t 16) (.c (.int .i64 0)), some (12, true)⟩,
      ⟨(some 18), .pick (.t 12) (.t 17) (.c (.b false)), none⟩,
      ⟨(some 4), .mv (.t 18), none⟩])
    .ret)) }
theorem f88P : prepF C Tryd.f88 = some f88A := by kernel_rfl

/-- slices.ContainsFunc[[]int,int] -/
def f89A : AFunc :=
{ nargs := 2, res := [.t 4], body :=
  (.seq
   (.reg none [⟨(some 4), .mv (.c (.b false)), none⟩])
   (.seq
    (.reg none [⟨(some 5), .mv (.t 0), none⟩,
      ⟨(some 6), .mv (.t 1), none⟩,
      ⟨(some 7), .call 110 [(.t 5), (.t 6)], none⟩,
      ⟨(some 8), .bin .geq (.t 7) (.c (.int .i64 0)), none⟩,
      ⟨(some 4), .mv (.t 8), none⟩])
    .ret)) }
theorem f89P : prepF C Tryd.f89 = some f89A := by kernel_rfl

/-- congou/squares.isPicture$1 -/
def f90A : AFunc :=
{ nargs := 2, res := [.t 3], body :=
  (.seq
   (.reg none [⟨(some 3), .mv (.c (.b false)), none⟩])
   (.seq
    (.reg none [⟨(some 4), .load none (.t 1), none⟩,
      ⟨(some 5), .mv (.t 0), none⟩,
      ⟨(some 6), .call 55 [(.t 4), (.t 5)], none⟩,
      ⟨(some 7), .un .not (.t 6), none⟩,
      ⟨(some 3), .mv (.t 7), none⟩])
    .ret)) }
theorem f90P : prepF C Tryd.f90 = some f90A := by kernel_rfl

/-- congou/squares.column -/
def f91A : AFunc :=
{ nargs := 2, res := [.t 4], body :=
  (.seq
   (.reg none [⟨(some 4), .mv (.c (.int .i64 0)), none⟩])
   (.seq
    (.reg none [⟨(some 5), .mv (.c (.int .i64 0)), none⟩])
    (.seq
     (.seq
      (.reg none [⟨(some 8), .mv (.t 0), none⟩,
        ⟨(some 9), .len (.t 8), none⟩,
        ⟨(some 10), .mv (.c (.int .i64 0)), none⟩])
      (.block 0
       (.loop
        (.seq
         (.reg none [⟨(some 11), .bin .lss (.t 10) (.t 9), none⟩])
         (.seq
          (.cond (.t 11)
           .skip
           (.exit 0))
          (.seq
           (.block 1
            (.seq
             (.reg none [⟨(some 12), .mv (.t 10), none⟩,
               ⟨(some 13), .iaddr 1 (.t 8) (.t 10), none⟩,
               ⟨(some 14), .load none (.t 13), none⟩,
               ⟨(some 6), .mv (.t 12), none⟩,
               ⟨(some 7), .mv (.t 14), none⟩])
             (.reg none [⟨(some 15), .mv (.t 5), none⟩,
               ⟨(some 16), .mv (.t 7), none⟩,
               ⟨(some 17), .mv (.t 1), none⟩,
               ⟨(some 18), .bin .shr (.t 16) (.t 17), none⟩,
               ⟨(some 19), .bin .and (.t 18) (.c (.int .i64 1)), none⟩,
               ⟨(some 20), .mv (.t 6), none⟩,
               ⟨(some 21), .bin .shl (.t 19) (.t 20), none⟩,
               ⟨(some 22), .bin .or (.t 15) (.t 21), none⟩,
               ⟨(some 5), .mv (.t 22), none⟩])))
           (.reg none [⟨(some 23), .bin .add (.t 10) (.c (.int .i64 1)), none⟩,
             ⟨(some 10), .mv (.t 23), none⟩])))))))
     (.seq
      (.reg none [⟨(some 24), .mv (.t 5), none⟩,
        ⟨(some 4), .mv (.t 24), none⟩])
      .ret)))) }
theorem f91P : prepF C Tryd.f91 = some f91A := by kernel_rfl

/-- slices.ContainsFunc[[][]int,[]int] -/
def f93A : AFunc :=
{ nargs := 2, res := [.t 4], body :=
  (.seq
   (.reg none [⟨(some 4), .mv (.c (.b false)), none⟩])
   (.seq
    (.reg none [⟨(some 5), .mv (.t 0), none⟩,
      ⟨(some 6), .mv (.t 1), none⟩,
      ⟨(some 7), .call 111 [(.t 5), (.t 6)], none⟩,
      ⟨(some 8), .bin .geq (.t 7) (.c (.int .i64 0)), none⟩,
      ⟨(some 4), .mv (.t 8), none⟩])
    .ret)) }
theorem f93P : prepF C Tryd.f93 = some f93A := by kernel_rfl

/-- (congou/squares.Puzzle).valid$1 -/
def f94A : AFunc :=
{ nargs := 2, res := [.t 3], body :=
  (.seq
   (.reg none [⟨(some 3), .mv (.c (.b false)), none⟩])
   (.seq
    (.reg none [⟨(some 4), .load none (.t 1), none⟩,
      ⟨(some 5), .mv (.t 0), none⟩,
      ⟨(some 6), .call 57 [(.t 4), (.t 5)], none⟩,
      ⟨(some 7), .un .not (.t 6), none⟩,
      ⟨(some 3), .mv (.t 7), none⟩])
    .ret)) }
theorem f94P : prepF C Tryd.f94 = some f94A := by kernel_rfl

/-- (congou/squares.Puzzle).valid$2 -/
def f95A : AFunc :=
{ nargs := 2, res := [.t 3], body :=
  (.seq
   (.reg none [⟨(some 3), .mv (.c (.b false)), none⟩])
   (.seq
    (.reg none [⟨(some 4), .load none (.t 1), none⟩,
      ⟨(some 5), .mv (.t 0), none⟩,
      ⟨(some 6), .call 57 [(.t 4), (.t 5)], none⟩,
      ⟨(some 7), .un .not (.t 6), none⟩,
      ⟨(some 3), .mv (.t 7), none⟩])
    .ret)) }
theorem f95P : prepF C Tryd.f95 = some f95A := by kernel_rfl

/-- (congou/squares.Puzzle).solutions$1 -/
def f101A : AFunc :=
{ nargs := 4, res := [.t 5], body :=
  (.seq
   (.reg none [⟨(some 5), .mv (.c (.b false)), none⟩])
   (.seq
    (.reg none [⟨(some 10), .mv (.t 0), none⟩,
      ⟨(some 11), .len (.t 10), none⟩,
      ⟨(some 6), .mv (.t 11), none⟩])
    (.seq
     (.seq
      (.reg none [⟨(some 12), .mv (.t 6), none⟩,
        ⟨(some 13), .faddr 0 (.t 1), none⟩,
        ⟨(some 14), .load none (.t 13), none⟩,
        ⟨(some 15), .len (.t 14), none⟩,
        ⟨(some 16), .bin .eql (.t 12) (.t 15), none⟩])
      (.cond (.t 16)
       (.seq
        (.reg none [⟨(some 17), .load none (.t 2), none⟩,
          ⟨(some 18), .mv (.t 0), none⟩,
          ⟨(some 19), .callv (.t 17) [(.t 18)], none⟩,
          ⟨(some 5), .mv (.t 19), none⟩])
        .ret)
       .skip))
     (.seq
      (.seq
       (.reg (some []) [⟨(some 20), .faddr 1 (.t 1), none⟩,
         ⟨(some 21), .load none (.t 20), none⟩,
         ⟨(some 22), .len (.t 21), none⟩,
         ⟨(some 23), .faddr 0 (.t 1), none⟩,
         ⟨(some 24), .load none (.t 23), none⟩,
         ⟨(some 25), .mv (.t 6), none⟩,
         ⟨(some 26), .iaddr 1 (.t 24) (.t 25), none⟩,
         ⟨(some 27), .load none (.t 26), none⟩,
         ⟨(some 28), .call 58 [(.t 22), (.t 27)], none⟩,
         ⟨(some 29), .len (.t 28), none⟩,
         ⟨(some 30), .mv (.c (.int .i64 0)), none⟩])
       (.block 0
        (.loop
         (.seq
          (.reg none [⟨(some 31), .bin .lss (.t 30) (.t 29), none⟩])
          (.seq
           (.cond (.t 31)
            .skip
            (.exit 0))
           (.seq
            (.block 1
             (.seq
              (.reg none [⟨(some 32), .iaddr 1 (.t 28) (.t 30), none⟩,
                ⟨(some 33), .load none (.t 32), none⟩,
                ⟨(some 8), .mv (.t 33), none⟩])
              (.seq
               (.reg none [⟨(some 34), .mv (.t 0), none⟩,
                 ⟨(some 35), .mv (.t 6), none⟩,
                 ⟨(some 36), .mv (.t 6), none⟩,
                 ⟨(some 37), .slice 1 (.t 34) none (some (.t 35)) (some (.t 36)), none⟩,
                 ⟨(some 38), .mv (.t 8), none⟩,
                 ⟨(some 39), .bslice [(.int .i64 0)] 1 1 [(0, (.t 38))], none⟩,
                 ⟨(some 40), .append 1 8 (.t 37) (.t 39), none⟩,
                 ⟨(some 9), .mv (.t 40), none⟩])
               (.seq
                (.reg none [⟨(some 41), .load (some 2) (.t 1), none⟩,
                  ⟨(some 42), .mv (.t 9), none⟩,
                  ⟨(some 43), .call 102 [(.t 41), (.t 42)], none⟩,
                  ⟨(some 44), .mv (.t 43), none⟩,
                  ⟨(some 45), .load none (.t 3), some (44, true)⟩,
                  ⟨(some 46), .mv (.t 9), some (44, true)⟩,
                  ⟨(some 47), .callv (.t 45) [(.t 46)], some (44, true)⟩,
                  ⟨(some 48), .un .not (.t 47), some (44, true)⟩,
                  ⟨(some 49), .pick (.t 44) (.t 48) (.c (.b false)), none⟩])
                (.cond (.t 49)
                 (.seq
                  (.reg none [⟨(some 5), .mv (.c (.b false)), none⟩])
                  .ret)
                 .skip)))))
            (.reg none [⟨(some 50), .bin .add (.t 30) (.c (.int .i64 1)), none⟩,
              ⟨(some 30), .mv (.t 50), none⟩])))))))
      (.seq
       (.reg none [⟨(some 5), .mv (.c (.b true)), none⟩])
       .ret))))) }
theorem f101P : prepF C Tryd.f101 = some f101A := by kernel_rfl

/-- (congou/squares.Puzzle).possible -/
def f102A : AFunc :=
{ nargs := 2, res := [.t 4], body :=
  (.seq
   (.reg none [⟨(some 2), .box (.t 0), none⟩,
     ⟨(some 4), .mv (.c (.b false)), none⟩])
   (.seq
    (.reg none [⟨(some 11), .faddr 0 (.t 2), none⟩,
      ⟨(some 12), .load none (.t 11), none⟩,
      ⟨(some 13), .len (.t 12), none⟩,
      ⟨(some 5), .mv (.t 13), none⟩])
    (.seq
     (.seq
      (.reg none [⟨(some 14), .faddr 1 (.t 2), none⟩,
        ⟨(some 15), .load none (.t 14), none⟩,
        ⟨(some 16), .len (.t 15), none⟩,
        ⟨(some 17), .mv (.c (.int .i64 0)), none⟩])
      (.block 0
       (.loop
        (.seq
         (.reg none [⟨(some 18), .bin .lss (.t 17) (.t 16), none⟩])
         (.seq
          (.cond (.t 18)
           .skip
           (.exit 0))
          (.seq
           (.block 1
            (.seq
             (.reg none [⟨(some 19), .mv (.t 17), none⟩,
               ⟨(some 20), .iaddr 1 (.t 15) (.t 17), none⟩,
               ⟨(some 21), .load none (.t 20), none⟩,
               ⟨(some 6), .mv (.t 19), none⟩,
               ⟨(some 7), .mv (.t 21), none⟩])
             (.seq
              (.reg none [⟨(some 22), .mv (.t 1), none⟩,
                ⟨(some 23), .mv (.t 6), none⟩,
                ⟨(some 24), .call 91 [(.t 22), (.t 23)], none⟩,
                ⟨(some 25), .build [(.int .i64 0), (.int .i64 0)] [(0, 1, (.t 24))], none⟩,
                ⟨(some 8), .alloc [(.int .i64 0), (.int .i64 0)], none⟩,
                ⟨none, .store 2 (.t 8) (.t 25), none⟩])
              (.seq
               (.reg (some []) [⟨(some 26), .mv (.t 1), none⟩,
                 ⟨(some 27), .len (.t 26), none⟩,
                 ⟨(some 28), .bin .shl (.c (.int .i64 1)) (.t 27), none⟩,
                 ⟨(some 29), .bin .sub (.t 28) (.c (.int .i64 1)), none⟩,
                 ⟨(some 30), .faddr 0 (.t 8), none⟩,
                 ⟨(some 31), .load none (.t 30), none⟩,
                 ⟨(some 32), .bin .andNot (.t 29) (.t 31), none⟩,
                 ⟨(some 33), .faddr 1 (.t 8), none⟩,
                 ⟨none, .store 1 (.t 33) (.t 32), none⟩])
               (.seq
                (.reg none [⟨(some 35), .mv (.t 5), none⟩,
                  ⟨(some 36), .mv (.t 7), none⟩,
                  ⟨(some 37), .load (some 2) (.t 8), none⟩,
                  ⟨(some 38), .call 61 [(.t 35), (.t 36), (.t 37)], none⟩,
                  ⟨(some 34), .mv (.t 38), none⟩,
                  ⟨(some 39), .extr (.t 34) 0, none⟩,
                  ⟨(some 40), .extr (.t 34) 1, none⟩,
                  ⟨(some 9), .alloc [(.int .i64 0), (.int .i64 0)], none⟩,
                  ⟨none, .store 2 (.t 9) (.t 39), none⟩,
                  ⟨(some 10), .mv (.t 40), none⟩])
                (.seq
                 (.reg none [⟨(some 41), .mv (.t 10), none⟩,
                   ⟨(some 42), .un .not (.t 41), none⟩])
                 (.cond (.t 42)
                  (.seq
                   (.reg none [⟨(some 4), .mv (.c (.b false)), none⟩])
                   .ret)
                  .skip)))))))
           (.reg none [⟨(some 43), .bin .add (.t 17) (.c (.int .i64 1)), none⟩,
             ⟨(some 17), .mv (.t 43), none⟩])))))))
     (.seq
      (.reg none [⟨(some 4), .mv (.c (.b true)), none⟩])
      .ret)))) }
theorem f102P : prepF C Tryd.f102 = some f102A := by kernel_rfl

/-- slices.IndexFunc[[]int,int] -/
def f110A : AFunc :=
{ nargs := 2, res := [.t 4], body :=
  (.seq
   (.reg none [⟨(some 4), .mv (.c (.int .i64 0)), none⟩])
   (.seq
    (.seq
     (.reg none [⟨(some 6), .mv (.t 0), none⟩,
       ⟨(some 7), .len (.t 6), none⟩,
       ⟨(some 8), .mv (.c (.int .i64 0)), none⟩])
     (.block 0
      (.loop
       (.seq
        (.reg none [⟨(some 9), .bin .lss (.t 8) (.t 7), none⟩])
        (.seq
         (.cond (.t 9)
          .skip
          (.exit 0))
         (.seq
          (.block 1
           (.seq
            (.reg none [⟨(some 10), .mv (.t 8), none⟩,
              ⟨(some 5), .mv (.t 10), none⟩])
            (.seq
             (.reg none [⟨(some 11), .mv (.t 1), none⟩,
               ⟨(some 12), .mv (.t 0), none⟩,
               ⟨(some 13), .mv (.t 5), none⟩,
               ⟨(some 14), .iaddr 1 (.t 12) (.t 13), none⟩,
               ⟨(some 15), .load none (.t 14), none⟩,
               ⟨(some 16), .callv (.t 11) [(.t 15)], none⟩])
             (.cond (.t 16)
              (.seq
               (.reg none [⟨(some 17), .mv (.t 5), none⟩,
                 ⟨(some 4), .mv (.t 17), none⟩])
               .ret)
              .skip))))
          (.reg none [⟨(some 18), .bin .add (.t 8) (.c (.int .i64 1)), none⟩,
            ⟨(some 8), .mv (.t 18), none⟩])))))))
    (.seq
     (.reg none [⟨(some 4), .mv (.c (.int .i64 (-1))), none⟩])
     .ret))) }
theorem f110P : prepF C Tryd.f110 = some f110A := by kernel_rfl

/-- slices.IndexFunc[[][]int,[]int] -/
def f111A : AFunc :=
{ nargs := 2, res := [.t 4], body :=
  (.seq
   (.reg none [⟨(some 4), .mv (.c (.int .i64 0)), none⟩])
   (.seq
    (.seq
     (.reg none [⟨(some 6), .mv (.t 0), none⟩,
       ⟨(some 7), .len (.t 6), none⟩,
       ⟨(some 8), .mv (.c (.int .i64 0)), none⟩])
     (.block 0
      (.loop
       (.seq
        (.reg none [⟨(some 9), .bin .lss (.t 8) (.t 7), none⟩])
        (.seq
         (.cond (.t 9)
          .skip
          (.exit 0))
         (.seq
          (.block 1
           (.seq
            (.reg none [⟨(some 10), .mv (.t 8), none⟩,
              ⟨(some 5), .mv (.t 10), none⟩])
            (.seq
             (.reg none [⟨(some 11), .mv (.t 1), none⟩,
               ⟨(some 12), .mv (.t 0), none⟩,
               ⟨(some 13), .mv (.t 5), none⟩,
               ⟨(some 14), .iaddr 1 (.t 12) (.t 13), none⟩,
               ⟨(some 15), .load none (.t 14), none⟩,
               ⟨(some 16), .callv (.t 11) [(.t 15)], none⟩])
             (.cond (.t 16)
              (.seq
               (.reg none [⟨(some 17), .mv (.t 5), none⟩,
                 ⟨(some 4), .mv (.t 17), none⟩])
               .ret)
              .skip))))
          (.reg none [⟨(some 18), .bin .add (.t 8) (.c (.int .i64 1)), none⟩,
            ⟨(some 8), .mv (.t 18), none⟩])))))))
    (.seq
     (.reg none [⟨(some 4), .mv (.c (.int .i64 (-1))), none⟩])
     .ret))) }
theorem f111P : prepF C Tryd.f111 = some f111A := by kernel_rfl

end Go.Proofs.YtjjndoigkhabdaaDoor
