/-
  The examples of the chapter, run in parts.
-/
import Derived.Test.YtgeccgjpiaiifaaGreatDoorMkDrop
namespace Go.Proofs.YtgeccgjpiaiifaaGreatDoor
namespace Ev
noncomputable section
def fl4 : AL := [(1, (.ptr 276 0)), (3, (.ptr 322 0))]
def lb4 : List (Nat × LB) := [(276, .c [(.str 1 109), (.int .i64 1), (.sl 245 0 5 0 false 9), (.sl 262 0 1 0 false 4), .nils, (.sl 264 0 5 0 false 10), (.map 275)] false),
 (322, .c [(.int .i64 6), (.int .i64 1), (.int .i64 1), (.str 1 97), (.str 0 0), (.int .i64 0), (.sl 319 0 0 0 true 9), (.str 0 0), (.int .i64 0), (.ptr 279 0), (.ptr 314 0), (.ptr 316 0), (.map 320), .nilf, (.func (.func 70) [] []), (.func (.func 71) [] []), (.func (.func 72) [] []), (.func (.func 73) [] []), (.func (.func 74) [] []), (.func (.func 74) [] []), (.func (.func 74) [] []), (.func (.func 75) [] []), (.func (.func 76) [] []), (.func (.func 76) [] []), (.func (.func 76) [] []), (.func (.func 77) [] []), (.func (.func 78) [] []), (.func (.func 78) [] []), (.func (.func 79) [] []), (.func (.func 80) [] []), (.func (.func 80) [] []), (.func (.func 81) [] []), (.func (.func 81) [] []), (.func (.func 82) [] []), (.func (.func 82) [] []), (.func (.func 83) [] []), (.func (.func 83) [] []), (.func (.func 84) [] []), (.func (.func 85) [] []), (.func (.func 86) [] []), (.func (.func 87) [] []), (.func (.func 88) [] []), (.func (.func 89) [] []), (.func (.func 90) [] []), (.func (.func 91) [] []), (.func (.func 91) [] []), (.func (.func 91) [] []), (.func (.func 92) [] []), (.func (.func 93) [] []), (.func (.func 94) [] []), (.func (.func 95) [] []), (.func (.func 96) [] []), (.func (.func 97) [] []), (.func (.func 98) [] []), (.int .u64 19), (.int .u64 11), (.int .u64 11), (.int .u64 11), (.int .u64 11), (.int .u64 11), (.int .u64 11), (.int .u64 11), (.int .u64 11), (.int .u64 11), (.int .u64 11), (.int .u64 11), (.int .u64 11), (.int .u64 11), (.int .u64 11), (.int .u64 11), (.int .u64 11), (.int .u64 11), (.int .u64 11), (.int .u64 11), (.int .u64 11), (.int .u64 11), (.int .u64 11), (.int .u64 11), (.int .u64 11), (.int .u64 11), (.int .u64 11), (.int .u64 11), (.int .u64 11), (.int .u64 11), (.int .u64 11), (.int .u64 11), (.int .u64 11), (.int .u64 11), (.int .u64 11), (.int .u64 11), (.int .u64 11), (.int .u64 11), (.int .u64 11), (.int .u64 11), (.int .u64 11), (.int .u64 11), (.int .u64 11), (.int .u64 11), (.int .u64 11), (.int .u64 11), (.int .u64 11), (.int .u64 11), (.int .u64 11), (.int .u64 11), (.int .u64 11), (.int .u64 11), (.int .u64 11), (.int .u64 11), (.int .u64 11), (.int .u64 11), (.int .u64 11), (.int .u64 11), (.int .u64 11), (.int .u64 11), (.int .u64 11), (.int .u64 11), (.int .u64 11), (.int .u64 11), (.int .u64 11), (.int .u64 11), (.int .u64 11), (.int .u64 11), (.int .u64 11), (.int .u64 11), (.int .u64 11), (.int .u64 11), (.int .u64 11), (.int .u64 11), (.int .u64 11), (.int .u64 11), (.int .u64 11), (.int .u64 11), (.int .u64 11), (.int .u64 11), (.int .u64 11), (.int .u64 11), (.int .u64 11), (.int .u64 11), (.int .u64 11), (.int .u64 11), (.int .u64 11), (.int .u64 11), (.int .u64 11), (.int .u64 11), (.int .u64 11), (.int .u64 11), (.int .u64 11), (.int .u64 11), (.int .u64 11), (.int .u64 11), (.int .u64 11), (.int .u64 11), (.int .u64 11), (.int .u64 11), (.int .u64 11), (.int .u64 11), (.int .u64 11), (.int .u64 11), (.int .u64 11), (.int .u64 11), (.int .u64 11), (.int .u64 11), (.int .u64 11), (.int .u64 11), (.int .u64 11), (.int .u64 11), (.int .u64 11), (.int .u64 11), (.int .u64 11), (.int .u64 11), (.int .u64 11), (.int .u64 11), (.int .u64 11), (.int .u64 11), (.int .u64 11), (.int .u64 11), (.int .u64 11), (.int .u64 11), (.int .u64 11), (.int .u64 11), (.int .u64 11), (.int .u64 11), (.int .u64 11), (.int .u64 11), (.int .u64 11), (.int .u64 11), (.int .u64 11), (.int .u64 11), (.int .u64 11), (.int .u64 11), (.int .u64 11), (.int .u64 11), (.int .u64 11), (.int .u64 11), (.int .u64 11), (.int .u64 11), (.int .u64 11), (.int .u64 11), (.int .u64 11), (.int .u64 11), (.int .u64 11), (.int .u64 11), (.int .u64 11), (.int .u64 11), (.int .u64 11), (.int .u64 11), (.int .u64 11), (.int .u64 11), (.int .u64 11), (.int .u64 11), (.int .u64 11), (.int .u64 11), (.int .u64 11), (.int .u64 11), (.int .u64 11), (.int .u64 11), (.int .u64 11), (.int .u64 11), (.int .u64 11), (.int .u64 11), (.int .u64 11), (.int .u64 11), (.int .u64 11), (.int .u64 11), (.int .u64 11), (.int .u64 11), (.int .u64 11), (.int .u64 11), (.int .u64 11), (.int .u64 11), (.int .u64 11), (.int .u64 11), (.int .u64 11), (.int .u64 11), (.int .u64 11), (.int .u64 11), (.int .u64 11), (.int .u64 11), (.int .u64 11), (.int .u64 11), (.int .u64 11), (.int .u64 11), (.int .u64 11), (.int .u64 11), (.int .u64 11), (.int .u64 11), (.int .u64 11), (.int .u64 11), (.int .u64 11), (.int .u64 11), (.int .u64 11), (.int .u64 11), (.int .u64 11), (.int .u64 11), (.int .u64 11), (.int .u64 11), (.int .u64 11), (.int .u64 11), (.int .u64 11), (.int .u64 11), (.int .u64 11), (.int .u64 11), (.int .u64 11), (.int .u64 11), (.int .u64 11), (.int .u64 11), (.int .u64 11), (.int .u64 11), (.int .u64 11), (.int .u64 11), (.int .u64 11), (.int .u64 11), (.int .u64 11), (.int .u64 11), (.int .u64 11), (.int .u64 11), (.int .u64 11), (.int .u64 11), (.int .u64 11), (.int .u64 11), (.int .u64 11), (.int .u64 11), (.int .u64 11), (.int .u64 11), (.int .u64 11), (.int .u64 11), (.int .u64 11), (.int .u64 11), (.int .u64 11), (.int .u64 11), (.int .u64 11), (.int .u64 11), (.int .u64 11), (.int .u64 11), (.int .u64 11), (.int .u64 11), (.int .u64 11), (.int .u64 11), (.int .u64 11), (.int .u64 11), (.int .u64 11), (.int .u64 11), (.int .u64 11), (.int .u64 11), (.int .u64 11), (.int .u64 11), (.int .u64 11), (.int .u64 11), (.int .u64 11), (.int .u64 11), .nils, (.ptr 1020 0), (.int .i64 0), (.int .i64 0), (.int .i64 0), (.bool false), (.bool true), .nils, .nils, (.sl 2394 0 1 0 false 1), (.int .u64 11), (.int .u64 11), (.int .i64 0), (.int .i64 0), (.bool false), (.bool false), (.int .i64 0), (.bool true), (.bool false), (.int .i64 2), (.int .i64 5), (.str 0 0), (.int .i64 0), (.int .i64 0), (.int .i64 0), (.str 0 0), (.str 0 0), (.int .i64 0), .nils, (.str 0 0), (.int .i64 0), (.str 0 0), (.str 1 109), (.str 1 102), (.sl 2403 0 1 0 false 9), (.int .i64 0), (.bool true)] false),
 (245, .c [(.int .i64 1), (.int .i64 0), (.int .i64 0), (.str 0 0), (.str 0 0), (.int .i64 0), (.sl 248 0 0 0 true 9), (.str 0 0), (.int .i64 0), (.int .i64 1), (.int .i64 1), (.int .i64 0), (.str 0 0), (.str 0 0), (.int .i64 0), (.sl 251 0 0 0 true 9), (.str 0 0), (.int .i64 0), (.int .i64 2), (.int .i64 0), (.int .i64 0), (.str 1 109), (.str 0 0), (.int .i64 0), (.sl 254 0 0 0 true 9), (.str 0 0), (.int .i64 0), (.int .i64 2), (.int .i64 0), (.int .i64 0), (.str 1 102), (.str 0 0), (.int .i64 0), (.sl 257 0 0 0 true 9), (.str 0 0), (.int .i64 0), (.int .i64 2), (.int .i64 0), (.int .i64 0), (.str 4 1701736292), (.str 0 0), (.int .i64 0), (.sl 260 0 0 0 true 9), (.str 0 0), (.int .i64 0)] false),
 (262, .c [(.str 1 102), (.int .i64 1), (.bool true), (.int .i64 0)] false),
 (264, .c [(.int .i64 12), (.int .i64 0), (.int .i64 0), (.sl 266 0 1 0 false 2), (.int .i64 1), (.int .i64 0), (.int .i64 0), (.str 0 0), (.sl 268 0 1 0 false 2), .nils, (.int .i64 14), (.int .i64 1), (.int .i64 0), (.sl 270 0 2 0 false 2), (.int .i64 0), (.int .i64 0), (.int .i64 1), (.str 1 45), .nils, .nils, (.int .i64 19), (.int .i64 0), (.int .i64 0), (.sl 272 0 2 0 false 2), (.int .i64 0), (.int .i64 1), (.int .i64 0), (.str 0 0), .nils, .nils, (.int .i64 1), (.int .i64 1), (.int .i64 0), (.sl 274 0 1 0 false 2), (.int .i64 0), (.int .i64 0), (.int .i64 0), (.str 0 0), .nils, .nils, (.int .i64 26), (.int .i64 0), (.int .i64 0), .nils, (.int .i64 0), (.int .i64 0), (.int .i64 0), (.str 0 0), .nils, .nils] false),
 (275, .m [((.agg [(.str 1 102), (.int .i64 1)]), (.int .i64 0))] true),
 (319, .c [] false),
 (279, .c [(.bool true), .nilp, .nilp, .nilp, (.int .i64 0), (.int .i64 0)] false),
 (314, .c [.nils, (.sl 2329 0 0 0 true 1), .nils, (.sl 2333 0 0 0 true 1), (.int .i64 0), (.int .i64 10), (.ptr 281 0), (.ptr 284 0)] false),
 (316, .c [(.ptr 314 0), (.int .i64 10), (.int .i64 1), (.bool true), (.int .i64 2), (.int .i64 1), (.int .i64 1)] false),
 (320, .m [((.ptr 276 0), (.ptr 1020 0))] true),
 (1020, .c [(.ptr 276 0), (.str 1 109), (.int .i64 1), (.sl 990 0 5 0 false 9), (.sl 1007 0 1 0 false 4), .nils, (.sl 1009 0 5 0 false 10)] false),
 (2394, .c [(.int .u64 19)] false),
 (2403, .c [(.int .i64 1), (.int .i64 1), (.int .i64 0), (.str 0 0), (.str 0 0), (.int .i64 0), .nils, (.str 0 0), (.int .i64 0)] false),
 (248, .c [] false),
 (251, .c [] false),
 (254, .c [] false),
 (257, .c [] false),
 (260, .c [] false),
 (266, .c [(.int .i64 1), (.int .i64 0)] false),
 (268, .c [(.int .i64 0), (.int .i64 3)] false),
 (270, .c [(.int .i64 1), (.int .i64 0), (.int .i64 3), (.int .i64 1)] false),
 (272, .c [(.int .i64 3), (.int .i64 2), (.int .i64 3), (.int .i64 3)] false),
 (274, .c [(.int .i64 3), (.int .i64 4)] false),
 (2329, .c [] false),
 (2333, .c [] false),
 (281, .c [(.map 280), .nils] false),
 (284, .c [(.map 282), (.map 283), (.int .i64 0), (.int .i64 0)] false),
 (990, .c [(.int .i64 1), (.int .i64 0), (.int .i64 0), (.str 0 0), (.str 0 0), (.int .i64 0), (.sl 993 0 0 0 true 9), (.str 0 0), (.int .i64 0), (.int .i64 1), (.int .i64 1), (.int .i64 0), (.str 0 0), (.str 0 0), (.int .i64 0), (.sl 996 0 0 0 true 9), (.str 0 0), (.int .i64 0), (.int .i64 2), (.int .i64 0), (.int .i64 0), (.str 1 109), (.str 0 0), (.int .i64 0), (.sl 999 0 0 0 true 9), (.str 0 0), (.int .i64 0), (.int .i64 2), (.int .i64 0), (.int .i64 0), (.str 1 102), (.str 0 0), (.int .i64 0), (.sl 1002 0 0 0 true 9), (.str 0 0), (.int .i64 0), (.int .i64 2), (.int .i64 0), (.int .i64 0), (.str 4 1701736292), (.str 0 0), (.int .i64 0), (.sl 1005 0 0 0 true 9), (.str 0 0), (.int .i64 0)] false),
 (1007, .c [(.str 1 102), (.int .i64 1), (.bool true), (.int .i64 0)] false),
 (1009, .c [(.int .i64 12), (.int .i64 0), (.int .i64 0), (.sl 1011 0 1 0 false 2), (.int .i64 1), (.int .i64 0), (.int .i64 0), (.str 0 0), (.sl 1013 0 1 0 false 2), .nils, (.int .i64 14), (.int .i64 1), (.int .i64 0), (.sl 1015 0 2 0 false 2), (.int .i64 0), (.int .i64 0), (.int .i64 1), (.str 1 45), .nils, .nils, (.int .i64 19), (.int .i64 0), (.int .i64 0), (.sl 1017 0 2 0 false 2), (.int .i64 0), (.int .i64 1), (.int .i64 0), (.str 0 0), .nils, .nils, (.int .i64 1), (.int .i64 1), (.int .i64 0), (.sl 1019 0 1 0 false 2), (.int .i64 0), (.int .i64 0), (.int .i64 0), (.str 0 0), .nils, .nils, (.int .i64 26), (.int .i64 0), (.int .i64 0), .nils, (.int .i64 0), (.int .i64 0), (.int .i64 0), (.str 0 0), .nils, .nils] false),
 (280, .m [] true),
 (282, .m [] true),
 (283, .m [] true),
 (993, .c [] false),
 (996, .c [] false),
 (999, .c [] false),
 (1002, .c [] false),
 (1005, .c [] false),
 (1011, .c [(.int .i64 1), (.int .i64 0)] false),
 (1013, .c [(.int .i64 0), (.int .i64 3)] false),
 (1015, .c [(.int .i64 1), (.int .i64 0), (.int .i64 3), (.int .i64 1)] false),
 (1017, .c [(.int .i64 3), (.int .i64 2), (.int .i64 3), (.int .i64 3)] false),
 (1019, .c [(.int .i64 3), (.int .i64 4)] false)]
def h4 : H := litH lb4 2418
def fl5 : AL := [(1, (.ptr 276 0)), (3, (.ptr 322 0))]
def lb5 : List (Nat × LB) := [(276, .c [(.str 1 109), (.int .i64 1), (.sl 245 0 5 0 false 9), (.sl 262 0 1 0 false 4), .nils, (.sl 264 0 5 0 false 10), (.map 275)] false),
 (322, .c [(.int .i64 6), (.int .i64 1), (.int .i64 1), (.str 1 97), (.str 0 0), (.int .i64 0), (.sl 319 0 0 0 true 9), (.str 0 0), (.int .i64 0), (.ptr 279 0), (.ptr 314 0), (.ptr 316 0), (.map 320), .nilf, (.func (.func 70) [] []), (.func (.func 71) [] []), (.func (.func 72) [] []), (.func (.func 73) [] []), (.func (.func 74) [] []), (.func (.func 74) [] []), (.func (.func 74) [] []), (.func (.func 75) [] []), (.func (.func 76) [] []), (.func (.func 76) [] []), (.func (.func 76) [] []), (.func (.func 77) [] []), (.func (.func 78) [] []), (.func (.func 78) [] []), (.func (.func 79) [] []), (.func (.func 80) [] []), (.func (.func 80) [] []), (.func (.func 81) [] []), (.func (.func 81) [] []), (.func (.func 82) [] []), (.func (.func 82) [] []), (.func (.func 83) [] []), (.func (.func 83) [] []), (.func (.func 84) [] []), (.func (.func 85) [] []), (.func (.func 86) [] []), (.func (.func 87) [] []), (.func (.func 88) [] []), (.func (.func 89) [] []), (.func (.func 90) [] []), (.func (.func 91) [] []), (.func (.func 91) [] []), (.func (.func 91) [] []), (.func (.func 92) [] []), (.func (.func 93) [] []), (.func (.func 94) [] []), (.func (.func 95) [] []), (.func (.func 96) [] []), (.func (.func 97) [] []), (.func (.func 98) [] []), (.int .u64 3), (.int .u64 11), (.int .u64 11), (.int .u64 11), (.int .u64 11), (.int .u64 11), (.int .u64 11), (.int .u64 11), (.int .u64 11), (.int .u64 11), (.int .u64 11), (.int .u64 11), (.int .u64 11), (.int .u64 11), (.int .u64 11), (.int .u64 11), (.int .u64 11), (.int .u64 11), (.int .u64 11), (.int .u64 11), (.int .u64 11), (.int .u64 11), (.int .u64 11), (.int .u64 11), (.int .u64 11), (.int .u64 11), (.int .u64 11), (.int .u64 11), (.int .u64 11), (.int .u64 11), (.int .u64 11), (.int .u64 11), (.int .u64 11), (.int .u64 11), (.int .u64 11), (.int .u64 11), (.int .u64 11), (.int .u64 11), (.int .u64 11), (.int .u64 11), (.int .u64 11), (.int .u64 11), (.int .u64 11), (.int .u64 11), (.int .u64 11), (.int .u64 11), (.int .u64 11), (.int .u64 11), (.int .u64 11), (.int .u64 11), (.int .u64 11), (.int .u64 11), (.int .u64 11), (.int .u64 11), (.int .u64 11), (.int .u64 11), (.int .u64 11), (.int .u64 11), (.int .u64 11), (.int .u64 11), (.int .u64 11), (.int .u64 11), (.int .u64 11), (.int .u64 11), (.int .u64 11), (.int .u64 11), (.int .u64 11), (.int .u64 11), (.int .u64 11), (.int .u64 11), (.int .u64 11), (.int .u64 11), (.int .u64 11), (.int .u64 11), (.int .u64 11), (.int .u64 11), (.int .u64 11), (.int .u64 11), (.int .u64 11), (.int .u64 11), (.int .u64 11), (.int .u64 11), (.int .u64 11), (.int .u64 11), (.int .u64 11), (.int .u64 11), (.int .u64 11), (.int .u64 11), (.int .u64 11), (.int .u64 11), (.int .u64 11), (.int .u64 11), (.int .u64 11), (.int .u64 11), (.int .u64 11), (.int .u64 11), (.int .u64 11), (.int .u64 11), (.int .u64 11), (.int .u64 11), (.int .u64 11), (.int .u64 11), (.int .u64 11), (.int .u64 11), (.int .u64 11), (.int .u64 11), (.int .u64 11), (.int .u64 11), (.int .u64 11), (.int .u64 11), (.int .u64 11), (.int .u64 11), (.int .u64 11), (.int .u64 11), (.int .u64 11), (.int .u64 11), (.int .u64 11), (.int .u64 11), (.int .u64 11), (.int .u64 11), (.int .u64 11), (.int .u64 11), (.int .u64 11), (.int .u64 11), (.int .u64 11), (.int .u64 11), (.int .u64 11), (.int .u64 11), (.int .u64 11), (.int .u64 11), (.int .u64 11), (.int .u64 11), (.int .u64 11), (.int .u64 11), (.int .u64 11), (.int .u64 11), (.int .u64 11), (.int .u64 11), (.int .u64 11), (.int .u64 11), (.int .u64 11), (.int .u64 11), (.int .u64 11), (.int .u64 11), (.int .u64 11), (.int .u64 11), (.int .u64 11), (.int .u64 11), (.int .u64 11), (.int .u64 11), (.int .u64 11), (.int .u64 11), (.int .u64 11), (.int .u64 11), (.int .u64 11), (.int .u64 11), (.int .u64 11), (.int .u64 11), (.int .u64 11), (.int .u64 11), (.int .u64 11), (.int .u64 11), (.int .u64 11), (.int .u64 11), (.int .u64 11), (.int .u64 11), (.int .u64 11), (.int .u64 11), (.int .u64 11), (.int .u64 11), (.int .u64 11), (.int .u64 11), (.int .u64 11), (.int .u64 11), (.int .u64 11), (.int .u64 11), (.int .u64 11), (.int .u64 11), (.int .u64 11), (.int .u64 11), (.int .u64 11), (.int .u64 11), (.int .u64 11), (.int .u64 11), (.int .u64 11), (.int .u64 11), (.int .u64 11), (.int .u64 11), (.int .u64 11), (.int .u64 11), (.int .u64 11), (.int .u64 11), (.int .u64 11), (.int .u64 11), (.int .u64 11), (.int .u64 11), (.int .u64 11), (.int .u64 11), (.int .u64 11), (.int .u64 11), (.int .u64 11), (.int .u64 11), (.int .u64 11), (.int .u64 11), (.int .u64 11), (.int .u64 11), (.int .u64 11), (.int .u64 11), (.int .u64 11), (.int .u64 11), (.int .u64 11), (.int .u64 11), (.int .u64 11), (.int .u64 11), (.int .u64 11), (.int .u64 11), (.int .u64 11), (.int .u64 11), (.int .u64 11), (.int .u64 11), (.int .u64 11), (.int .u64 11), (.int .u64 11), (.int .u64 11), (.int .u64 11), (.int .u64 11), (.int .u64 11), (.int .u64 11), (.int .u64 11), (.int .u64 11), (.int .u64 11), (.int .u64 11), (.int .u64 11), (.int .u64 11), (.int .u64 11), (.int .u64 11), (.int .u64 11), (.int .u64 11), (.int .u64 11), (.int .u64 11), (.int .u64 11), (.int .u64 11), (.int .u64 11), (.int .u64 11), (.int .u64 11), (.int .u64 11), (.int .u64 11), (.int .u64 11), (.int .u64 11), (.int .u64 11), (.int .u64 11), (.int .u64 11), (.int .u64 11), (.int .u64 11), (.int .u64 11), (.int .u64 11), .nils, (.ptr 1020 0), (.int .i64 0), (.int .i64 0), (.int .i64 0), (.bool false), (.bool true), .nils, .nils, (.sl 3790 0 1 0 false 1), (.int .u64 11), (.int .u64 11), (.int .i64 0), (.int .i64 0), (.bool false), (.bool false), (.int .i64 4), (.bool true), (.bool false), (.int .i64 2), (.int .i64 5), (.str 0 0), (.int .i64 0), (.int .i64 0), (.int .i64 0), (.str 0 0), (.str 0 0), (.int .i64 0), .nils, (.str 0 0), (.int .i64 0), (.str 0 0), (.str 1 109), (.str 1 102), (.sl 3799 0 1 0 false 9), (.int .i64 0), (.bool true)] false),
 (245, .c [(.int .i64 1), (.int .i64 0), (.int .i64 0), (.str 0 0), (.str 0 0), (.int .i64 0), (.sl 248 0 0 0 true 9), (.str 0 0), (.int .i64 0), (.int .i64 1), (.int .i64 1), (.int .i64 0), (.str 0 0), (.str 0 0), (.int .i64 0), (.sl 251 0 0 0 true 9), (.str 0 0), (.int .i64 0), (.int .i64 2), (.int .i64 0), (.int .i64 0), (.str 1 109), (.str 0 0), (.int .i64 0), (.sl 254 0 0 0 true 9), (.str 0 0), (.int .i64 0), (.int .i64 2), (.int .i64 0), (.int .i64 0), (.str 1 102), (.str 0 0), (.int .i64 0), (.sl 257 0 0 0 true 9), (.str 0 0), (.int .i64 0), (.int .i64 2), (.int .i64 0), (.int .i64 0), (.str 4 1701736292), (.str 0 0), (.int .i64 0), (.sl 260 0 0 0 true 9), (.str 0 0), (.int .i64 0)] false),
 (262, .c [(.str 1 102), (.int .i64 1), (.bool true), (.int .i64 0)] false),
 (264, .c [(.int .i64 12), (.int .i64 0), (.int .i64 0), (.sl 266 0 1 0 false 2), (.int .i64 1), (.int .i64 0), (.int .i64 0), (.str 0 0), (.sl 268 0 1 0 false 2), .nils, (.int .i64 14), (.int .i64 1), (.int .i64 0), (.sl 270 0 2 0 false 2), (.int .i64 0), (.int .i64 0), (.int .i64 1), (.str 1 45), .nils, .nils, (.int .i64 19), (.int .i64 0), (.int .i64 0), (.sl 272 0 2 0 false 2), (.int .i64 0), (.int .i64 1), (.int .i64 0), (.str 0 0), .nils, .nils, (.int .i64 1), (.int .i64 1), (.int .i64 0), (.sl 274 0 1 0 false 2), (.int .i64 0), (.int .i64 0), (.int .i64 0), (.str 0 0), .nils, .nils, (.int .i64 26), (.int .i64 0), (.int .i64 0), .nils, (.int .i64 0), (.int .i64 0), (.int .i64 0), (.str 0 0), .nils, .nils] false),
 (275, .m [((.agg [(.str 1 102), (.int .i64 1)]), (.int .i64 0))] true),
 (319, .c [] false),
 (279, .c [(.bool true), .nilp, .nilp, .nilp, (.int .i64 0), (.int .i64 0)] false),
 (314, .c [.nils, (.sl 3725 0 0 0 true 1), .nils, (.sl 3729 0 0 0 true 1), (.int .i64 0), (.int .i64 10), (.ptr 281 0), (.ptr 284 0)] false),
 (316, .c [(.ptr 314 0), (.int .i64 10), (.int .i64 1), (.bool true), (.int .i64 3), (.int .i64 2), (.int .i64 1)] false),
 (320, .m [((.ptr 276 0), (.ptr 1020 0))] true),
 (1020, .c [(.ptr 276 0), (.str 1 109), (.int .i64 1), (.sl 990 0 5 0 false 9), (.sl 1007 0 1 0 false 4), .nils, (.sl 1009 0 5 0 false 10)] false),
 (3790, .c [(.int .u64 3)] false),
 (3799, .c [(.int .i64 1), (.int .i64 0), (.int .i64 0), (.str 0 0), (.str 0 0), (.int .i64 0), .nils, (.str 0 0), (.int .i64 0)] false),
 (248, .c [] false),
 (251, .c [] false),
 (254, .c [] false),
 (257, .c [] false),
 (260, .c [] false),
 (266, .c [(.int .i64 1), (.int .i64 0)] false),
 (268, .c [(.int .i64 0), (.int .i64 3)] false),
 (270, .c [(.int .i64 1), (.int .i64 0), (.int .i64 3), (.int .i64 1)] false),
 (272, .c [(.int .i64 3), (.int .i64 2), (.int .i64 3), (.int .i64 3)] false),
 (274, .c [(.int .i64 3), (.int .i64 4)] false),
 (3725, .c [] false),
 (3729, .c [] false),
 (281, .c [(.map 280), .nils] false),
 (284, .c [(.map 282), (.map 283), (.int .i64 0), (.int .i64 0)] false),
 (990, .c [(.int .i64 1), (.int .i64 0), (.int .i64 0), (.str 0 0), (.str 0 0), (.int .i64 0), (.sl 993 0 0 0 true 9), (.str 0 0), (.int .i64 0), (.int .i64 1), (.int .i64 1), (.int .i64 0), (.str 0 0), (.str 0 0), (.int .i64 0), (.sl 996 0 0 0 true 9), (.str 0 0), (.int .i64 0), (.int .i64 2), (.int .i64 0), (.int .i64 0), (.str 1 109), (.str 0 0), (.int .i64 0), (.sl 999 0 0 0 true 9), (.str 0 0), (.int .i64 0), (.int .i64 2), (.int .i64 0), (.int .i64 0), (.str 1 102), (.str 0 0), (.int .i64 0), (.sl 1002 0 0 0 true 9), (.str 0 0), (.int .i64 0), (.int .i64 2), (.int .i64 0), (.int .i64 0), (.str 4 1701736292), (.str 0 0), (.int .i64 0), (.sl 1005 0 0 0 true 9), (.str 0 0), (.int .i64 0)] false),
 (1007, .c [(.str 1 102), (.int .i64 1), (.bool true), (.int .i64 0)] false),
 (1009, .c [(.int .i64 12), (.int .i64 0), (.int .i64 0), (.sl 1011 0 1 0 false 2), (.int .i64 1), (.int .i64 0), (.int .i64 0), (.str 0 0), (.sl 1013 0 1 0 false 2), .nils, (.int .i64 14), (.int .i64 1), (.int .i64 0), (.sl 1015 0 2 0 false 2), (.int .i64 0), (.int .i64 0), (.int .i64 1), (.str 1 45), .nils, .nils, (.int .i64 19), (.int .i64 0), (.int .i64 0), (.sl 1017 0 2 0 false 2), (.int .i64 0), (.int .i64 1), (.int .i64 0), (.str 0 0), .nils, .nils, (.int .i64 1), (.int .i64 1), (.int .i64 0), (.sl 1019 0 1 0 false 2), (.int .i64 0), (.int .i64 0), (.int .i64 0), (.str 0 0), .nils, .nils, (.int .i64 26), (.int .i64 0), (.int .i64 0), .nils, (.int .i64 0), (.int .i64 0), (.int .i64 0), (.str 0 0), .nils, .nils] false),
 (280, .m [] true),
 (282, .m [] true),
 (283, .m [] true),
 (993, .c [] false),
 (996, .c [] false),
 (999, .c [] false),
 (1002, .c [] false),
 (1005, .c [] false),
 (1011, .c [(.int .i64 1), (.int .i64 0)] false),
 (1013, .c [(.int .i64 0), (.int .i64 3)] false),
 (1015, .c [(.int .i64 1), (.int .i64 0), (.int .i64 3), (.int .i64 1)] false),
 (1017, .c [(.int .i64 3), (.int .i64 2), (.int .i64 3), (.int .i64 3)] false),
 (1019, .c [(.int .i64 3), (.int .i64 4)] false)]
def h5 : H := litH lb5 3813
def fl6 : AL := [(1, (.ptr 276 0)), (4, (.ptr 5099 0)), (5, (.ptr 5100 0))]
def lb6 : List (Nat × LB) := [(276, .c [(.str 1 109), (.int .i64 1), (.sl 245 0 5 0 false 9), (.sl 262 0 1 0 false 4), .nils, (.sl 264 0 5 0 false 10), (.map 275)] false),
 (5099, .c [(.int .i64 1), (.str 0 0), (.int .i64 2), (.int .i64 0), (.int .i64 0), (.str 4 1701736292), (.str 0 0), (.int .i64 0), (.sl 5092 0 0 0 true 9), (.str 0 0), (.int .i64 0), (.str 0 0), (.str 0 0), (.str 0 0), .nils, (.int .i64 0)] false),
 (5100, .c [(.int .i64 1), (.str 0 0), (.int .i64 2), (.int .i64 0), (.int .i64 0), (.str 4 1701736292), (.str 0 0), (.int .i64 0), (.sl 5098 0 0 0 true 9), (.str 0 0), (.int .i64 0), (.str 0 0), (.str 0 0), (.str 0 0), .nils, (.int .i64 0)] false),
 (245, .c [(.int .i64 1), (.int .i64 0), (.int .i64 0), (.str 0 0), (.str 0 0), (.int .i64 0), (.sl 248 0 0 0 true 9), (.str 0 0), (.int .i64 0), (.int .i64 1), (.int .i64 1), (.int .i64 0), (.str 0 0), (.str 0 0), (.int .i64 0), (.sl 251 0 0 0 true 9), (.str 0 0), (.int .i64 0), (.int .i64 2), (.int .i64 0), (.int .i64 0), (.str 1 109), (.str 0 0), (.int .i64 0), (.sl 254 0 0 0 true 9), (.str 0 0), (.int .i64 0), (.int .i64 2), (.int .i64 0), (.int .i64 0), (.str 1 102), (.str 0 0), (.int .i64 0), (.sl 257 0 0 0 true 9), (.str 0 0), (.int .i64 0), (.int .i64 2), (.int .i64 0), (.int .i64 0), (.str 4 1701736292), (.str 0 0), (.int .i64 0), (.sl 260 0 0 0 true 9), (.str 0 0), (.int .i64 0)] false),
 (262, .c [(.str 1 102), (.int .i64 1), (.bool true), (.int .i64 0)] false),
 (264, .c [(.int .i64 12), (.int .i64 0), (.int .i64 0), (.sl 266 0 1 0 false 2), (.int .i64 1), (.int .i64 0), (.int .i64 0), (.str 0 0), (.sl 268 0 1 0 false 2), .nils, (.int .i64 14), (.int .i64 1), (.int .i64 0), (.sl 270 0 2 0 false 2), (.int .i64 0), (.int .i64 0), (.int .i64 1), (.str 1 45), .nils, .nils, (.int .i64 19), (.int .i64 0), (.int .i64 0), (.sl 272 0 2 0 false 2), (.int .i64 0), (.int .i64 1), (.int .i64 0), (.str 0 0), .nils, .nils, (.int .i64 1), (.int .i64 1), (.int .i64 0), (.sl 274 0 1 0 false 2), (.int .i64 0), (.int .i64 0), (.int .i64 0), (.str 0 0), .nils, .nils, (.int .i64 26), (.int .i64 0), (.int .i64 0), .nils, (.int .i64 0), (.int .i64 0), (.int .i64 0), (.str 0 0), .nils, .nils] false),
 (275, .m [((.agg [(.str 1 102), (.int .i64 1)]), (.int .i64 0))] true),
 (5092, .c [] false),
 (5098, .c [] false),
 (248, .c [] false),
 (251, .c [] false),
 (254, .c [] false),
 (257, .c [] false),
 (260, .c [] false),
 (266, .c [(.int .i64 1), (.int .i64 0)] false),
 (268, .c [(.int .i64 0), (.int .i64 3)] false),
 (270, .c [(.int .i64 1), (.int .i64 0), (.int .i64 3), (.int .i64 1)] false),
 (272, .c [(.int .i64 3), (.int .i64 2), (.int .i64 3), (.int .i64 3)] false),
 (274, .c [(.int .i64 3), (.int .i64 4)] false)]
def h6 : H := litH lb6 5101
/-- A part, and what is left of the memory behind it. -/
def segB (k : Nat) (c : CCode) (f : F) (h : H) (L : List (Nat × LB)) (n : Nat) (fl : AL) : Bool :=
  Option.rec (motive := fun _ => Bool) false (fun r => tt2 (subOk L n r.2) (frOk fl r.1)) (pre (callS pr2 300) 1000000 k c f h)
end
theorem seg4 : segB 4 (rest 0 cf3.code) ⟨[], []⟩ H0 lb4 2418 fl4 = true := by kernel_rfl
theorem seg5 : segB 1 (rest 4 cf3.code) ⟨fl4, []⟩ h4 lb5 3813 fl5 = true := by kernel_rfl
theorem seg6 : segB 1 (rest 5 cf3.code) ⟨fl5, []⟩ h5 lb6 5101 fl6 = true := by kernel_rfl
noncomputable def lastB : Bool := Option.rec (motive := fun _ => Bool) false (fun r => X.rec (motive := fun _ => Bool) false (fun _ => false) (Option.rec (motive := fun _ => Bool) false (fun v => eqV v (.bool true)) (lk r.2.1.loc 0)) r.1) (exec (callS pr2 300) false 1000000 (rest 6 cf3.code) ⟨fl6, []⟩ h6)
theorem last_true : lastB = true := by kernel_rfl
end Ev
end Go.Proofs.YtgeccgjpiaiifaaGreatDoor
