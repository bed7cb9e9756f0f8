/-
  Closed facts on the types and functions of this seat's translation: sizes, zero values, that a function has a body. Written by a program of mine.
-/
import Derived.Test.YtdekgkmbcdlekaaProg
import Derived.Test.YtdekgkmbcdlekaaApi
import Derived.KernelRfl
namespace Go.Proofs.Ytdekgkmbcdlekaa
open Go Leg
theorem sz0 : (Try.prog.info? 0).map (·.size) = some 1 := by kernel_rfl
theorem sz1 : (Try.prog.info? 1).map (·.size) = some 1 := by kernel_rfl
theorem z1 : (Try.prog.info? 1).map (·.zero) = some (some (.nilFunc)) := by kernel_rfl
theorem sz2 : (Try.prog.info? 2).map (·.size) = some 1 := by kernel_rfl
theorem z2 : (Try.prog.info? 2).map (·.zero) = some (some (.int .i64 0)) := by kernel_rfl
theorem sz3 : (Try.prog.info? 3).map (·.size) = some 1 := by kernel_rfl
theorem in3 : (Try.prog.info? 3).map (fun i => (i.zero, i.size, i.bytes)) = some (some (.int .i64 0), 1, 8) := by kernel_rfl
theorem z3 : (Try.prog.info? 3).map (·.zero) = some (some (.int .i64 0)) := by kernel_rfl
theorem sz4 : (Try.prog.info? 4).map (·.size) = some 1 := by kernel_rfl
theorem z4 : (Try.prog.info? 4).map (·.zero) = some (some (.bool false)) := by kernel_rfl
theorem sz5 : (Try.prog.info? 5).map (·.size) = some 1 := by kernel_rfl
theorem in5 : (Try.prog.info? 5).map (fun i => (i.zero, i.size, i.bytes)) = some (some (.int .u8 0), 1, 1) := by kernel_rfl
theorem z5 : (Try.prog.info? 5).map (·.zero) = some (some (.int .u8 0)) := by kernel_rfl
theorem sz6 : (Try.prog.info? 6).map (·.size) = some 1 := by kernel_rfl
theorem z6 : (Try.prog.info? 6).map (·.zero) = some (some (.int .u8 0)) := by kernel_rfl
theorem sz7 : (Try.prog.info? 7).map (·.size) = some 4 := by kernel_rfl
theorem z7 : (Try.prog.info? 7).map (·.zero) = some (some (.agg #[.int .i64 0, .int .i64 0, .bool false, .int .u8 0])) := by kernel_rfl
theorem sz8 : (Try.prog.info? 8).map (·.size) = some 4 := by kernel_rfl
theorem z8 : (Try.prog.info? 8).map (·.zero) = some (some (.agg #[.int .i64 0, .int .i64 0, .bool false, .int .u8 0])) := by kernel_rfl
theorem sz9 : (Try.prog.info? 9).map (·.size) = some 1 := by kernel_rfl
theorem z9 : (Try.prog.info? 9).map (·.zero) = some (some (.string ByteArray.empty)) := by kernel_rfl
theorem sz10 : (Try.prog.info? 10).map (·.size) = some 1 := by kernel_rfl
theorem z10 : (Try.prog.info? 10).map (·.zero) = some (some (.string ByteArray.empty)) := by kernel_rfl
theorem sz11 : (Try.prog.info? 11).map (·.size) = some 1 := by kernel_rfl
theorem z11 : (Try.prog.info? 11).map (·.zero) = some (some (.string ByteArray.empty)) := by kernel_rfl
theorem sz12 : (Try.prog.info? 12).map (·.size) = some 1 := by kernel_rfl
theorem z12 : (Try.prog.info? 12).map (·.zero) = some (some (.int .u64 0)) := by kernel_rfl
theorem sz13 : (Try.prog.info? 13).map (·.size) = some 2 := by kernel_rfl
theorem z13 : (Try.prog.info? 13).map (·.zero) = some (some (.agg #[.string ByteArray.empty, .int .u64 0])) := by kernel_rfl
theorem sz14 : (Try.prog.info? 14).map (·.size) = some 2 := by kernel_rfl
theorem z14 : (Try.prog.info? 14).map (·.zero) = some (some (.agg #[.string ByteArray.empty, .int .u64 0])) := by kernel_rfl
theorem sz15 : (Try.prog.info? 15).map (·.size) = some 1 := by kernel_rfl
theorem z15 : (Try.prog.info? 15).map (·.zero) = some (some (.pointer none)) := by kernel_rfl
theorem sz16 : (Try.prog.info? 16).map (·.size) = some 1 := by kernel_rfl
theorem z16 : (Try.prog.info? 16).map (·.zero) = some (some (.pointer none)) := by kernel_rfl
theorem sz17 : (Try.prog.info? 17).map (·.size) = some 1 := by kernel_rfl
theorem z17 : (Try.prog.info? 17).map (·.zero) = some (some (.pointer none)) := by kernel_rfl
theorem sz18 : (Try.prog.info? 18).map (·.size) = some 1 := by kernel_rfl
theorem z18 : (Try.prog.info? 18).map (·.zero) = some (some (.agg #[.pointer none])) := by kernel_rfl
theorem sz19 : (Try.prog.info? 19).map (·.size) = some 1 := by kernel_rfl
theorem z19 : (Try.prog.info? 19).map (·.zero) = some (some (.agg #[.pointer none])) := by kernel_rfl
theorem sz20 : (Try.prog.info? 20).map (·.size) = some 1 := by kernel_rfl
theorem z20 : (Try.prog.info? 20).map (·.zero) = some (some (.nilIface)) := by kernel_rfl
theorem sz21 : (Try.prog.info? 21).map (·.size) = some 1 := by kernel_rfl
theorem z21 : (Try.prog.info? 21).map (·.zero) = some (some (.int .i32 0)) := by kernel_rfl
theorem sz22 : (Try.prog.info? 22).map (·.size) = some 3 := by kernel_rfl
theorem z22 : (Try.prog.info? 22).map (·.zero) = some (some (.agg #[.int .i64 0, .int .i64 0, .int .i64 0])) := by kernel_rfl
theorem sz23 : (Try.prog.info? 23).map (·.size) = some 5 := by kernel_rfl
theorem z23 : (Try.prog.info? 23).map (·.zero) = some (some (.agg #[.int .i64 0, .int .i64 0, .int .i64 0, .int .i64 0, .int .i64 0])) := by kernel_rfl
theorem sz24 : (Try.prog.info? 24).map (·.size) = some 7 := by kernel_rfl
theorem z24 : (Try.prog.info? 24).map (·.zero) = some (some (.agg #[.int .i64 0, .int .i64 0, .int .i64 0, .int .i64 0, .int .i64 0, .int .i64 0, .int .i64 0])) := by kernel_rfl
theorem sz25 : (Try.prog.info? 25).map (·.size) = some 7 := by kernel_rfl
theorem z25 : (Try.prog.info? 25).map (·.zero) = some (some (.agg #[.int .i64 0, .int .i64 0, .int .i64 0, .int .i64 0, .int .i64 0, .int .i64 0, .int .i64 0])) := by kernel_rfl
theorem sz26 : (Try.prog.info? 26).map (·.size) = some 1 := by kernel_rfl
theorem z26 : (Try.prog.info? 26).map (·.zero) = some (some (.nilFunc)) := by kernel_rfl
theorem sz27 : (Try.prog.info? 27).map (·.size) = some 1 := by kernel_rfl
theorem in27 : (Try.prog.info? 27).map (fun i => (i.zero, i.size, i.bytes)) = some (some (.slice none 0 0), 1, 24) := by kernel_rfl
theorem z27 : (Try.prog.info? 27).map (·.zero) = some (some (.slice none 0 0)) := by kernel_rfl
theorem sz28 : (Try.prog.info? 28).map (·.size) = some 1 := by kernel_rfl
theorem z28 : (Try.prog.info? 28).map (·.zero) = some (some (.agg #[.slice none 0 0])) := by kernel_rfl
theorem sz29 : (Try.prog.info? 29).map (·.size) = some 1 := by kernel_rfl
theorem z29 : (Try.prog.info? 29).map (·.zero) = some (some (.agg #[.slice none 0 0])) := by kernel_rfl
theorem sz30 : (Try.prog.info? 30).map (·.size) = some 1 := by kernel_rfl
theorem z30 : (Try.prog.info? 30).map (·.zero) = some (some (.pointer none)) := by kernel_rfl
theorem sz31 : (Try.prog.info? 31).map (·.size) = some 1 := by kernel_rfl
theorem z31 : (Try.prog.info? 31).map (·.zero) = some (some (.nilFunc)) := by kernel_rfl
theorem sz32 : (Try.prog.info? 32).map (·.size) = some 1 := by kernel_rfl
theorem z32 : (Try.prog.info? 32).map (·.zero) = some (some (.nilFunc)) := by kernel_rfl
theorem sz33 : (Try.prog.info? 33).map (·.size) = some 7 := by kernel_rfl
theorem z33 : (Try.prog.info? 33).map (·.zero) = some (some (.agg #[.int .i64 0, .int .i64 0, .int .i64 0, .int .i64 0, .int .i64 0, .int .i64 0, .int .i64 0])) := by kernel_rfl
theorem sz34 : (Try.prog.info? 34).map (·.size) = some 7 := by kernel_rfl
theorem z34 : (Try.prog.info? 34).map (·.zero) = some (some (.agg #[.int .i64 0, .int .i64 0, .int .i64 0, .int .i64 0, .int .i64 0, .int .i64 0, .int .i64 0])) := by kernel_rfl
theorem sz35 : (Try.prog.info? 35).map (·.size) = some 28 := by kernel_rfl
theorem z35 : (Try.prog.info? 35).map (·.zero) = some (some (.agg #[.int .i64 0, .int .i64 0, .int .i64 0, .int .i64 0, .int .i64 0, .int .i64 0, .int .i64 0, .int .i64 0, .int .i64 0, .int .i64 0, .int .i64 0, .int .i64 0, .int .i64 0, .int .i64 0, .int .i64 0, .int .i64 0, .int .i64 0, .int .i64 0, .int .i64 0, .int .i64 0, .int .i64 0, .int .i64 0, .int .i64 0, .int .i64 0, .int .i64 0, .int .i64 0, .int .i64 0, .int .i64 0])) := by kernel_rfl
theorem sz36 : (Try.prog.info? 36).map (·.size) = some 140 := by kernel_rfl
theorem sz37 : (Try.prog.info? 37).map (·.size) = some 174 := by kernel_rfl
theorem sz38 : (Try.prog.info? 38).map (·.size) = some 174 := by kernel_rfl
theorem z38 : (Try.prog.info? 38).map (·.zero) = some (some (.agg (Api.ints Api.RowT.zero.flat).toArray)) := by kernel_rfl
theorem sz39 : (Try.prog.info? 39).map (·.size) = some 2 := by kernel_rfl
theorem z39 : (Try.prog.info? 39).map (·.zero) = some (some (.agg #[.int .i64 0, .int .i64 0])) := by kernel_rfl
theorem sz40 : (Try.prog.info? 40).map (·.size) = some 2 := by kernel_rfl
theorem z40 : (Try.prog.info? 40).map (·.zero) = some (some (.agg #[.int .i64 0, .int .i64 0])) := by kernel_rfl
theorem sz41 : (Try.prog.info? 41).map (·.size) = some 3 := by kernel_rfl
theorem z41 : (Try.prog.info? 41).map (·.zero) = some (some (.agg #[.int .i64 0, .int .i64 0, .int .i64 0])) := by kernel_rfl
theorem sz42 : (Try.prog.info? 42).map (·.size) = some 3 := by kernel_rfl
theorem in42 : (Try.prog.info? 42).map (fun i => (i.zero, i.size, i.bytes)) = some (some (.agg #[.int .i64 0, .int .i64 0, .int .i64 0]), 3, 24) := by kernel_rfl
theorem z42 : (Try.prog.info? 42).map (·.zero) = some (some (.agg #[.int .i64 0, .int .i64 0, .int .i64 0])) := by kernel_rfl
theorem sz43 : (Try.prog.info? 43).map (·.size) = some 192 := by kernel_rfl
theorem sz44 : (Try.prog.info? 44).map (·.size) = some 192 := by kernel_rfl
theorem z44 : (Try.prog.info? 44).map (·.zero) = some (some (.agg (Api.ints Api.MsgT.zero.flat).toArray)) := by kernel_rfl
theorem sz45 : (Try.prog.info? 45).map (·.size) = some 1 := by kernel_rfl
theorem z45 : (Try.prog.info? 45).map (·.zero) = some (some (.int .i64 0)) := by kernel_rfl
theorem sz46 : (Try.prog.info? 46).map (·.size) = some 1 := by kernel_rfl
theorem sz47 : (Try.prog.info? 47).map (·.size) = some 1 := by kernel_rfl
theorem z47 : (Try.prog.info? 47).map (·.zero) = some (some (.nilFunc)) := by kernel_rfl
theorem sz48 : (Try.prog.info? 48).map (·.size) = some 1 := by kernel_rfl
theorem z48 : (Try.prog.info? 48).map (·.zero) = some (some (.nilFunc)) := by kernel_rfl
theorem sz49 : (Try.prog.info? 49).map (·.size) = some 1 := by kernel_rfl
theorem z49 : (Try.prog.info? 49).map (·.zero) = some (some (.nilFunc)) := by kernel_rfl
theorem sz50 : (Try.prog.info? 50).map (·.size) = some 1 := by kernel_rfl
theorem z50 : (Try.prog.info? 50).map (·.zero) = some (some (.nilFunc)) := by kernel_rfl
theorem sz51 : (Try.prog.info? 51).map (·.size) = some 1 := by kernel_rfl
theorem z51 : (Try.prog.info? 51).map (·.zero) = some (some (.nilFunc)) := by kernel_rfl
theorem sz52 : (Try.prog.info? 52).map (·.size) = some 1 := by kernel_rfl
theorem z52 : (Try.prog.info? 52).map (·.zero) = some (some (.slice none 0 0)) := by kernel_rfl
theorem sz53 : (Try.prog.info? 53).map (·.size) = some 1 := by kernel_rfl
theorem z53 : (Try.prog.info? 53).map (·.zero) = some (some (.nilFunc)) := by kernel_rfl
theorem sz54 : (Try.prog.info? 54).map (·.size) = some 1 := by kernel_rfl
theorem z54 : (Try.prog.info? 54).map (·.zero) = some (some (.nilFunc)) := by kernel_rfl
theorem sz55 : (Try.prog.info? 55).map (·.size) = some 1 := by kernel_rfl
theorem z55 : (Try.prog.info? 55).map (·.zero) = some (some (.nilFunc)) := by kernel_rfl
theorem sz56 : (Try.prog.info? 56).map (·.size) = some 1 := by kernel_rfl
theorem z56 : (Try.prog.info? 56).map (·.zero) = some (some (.nilFunc)) := by kernel_rfl
theorem sz57 : (Try.prog.info? 57).map (·.size) = some 189 := by kernel_rfl
theorem sz58 : (Try.prog.info? 58).map (·.size) = some 189 := by kernel_rfl
theorem z58 : (Try.prog.info? 58).map (·.zero) = some (some (.agg (Api.ints Api.RecT.zero.flat).toArray)) := by kernel_rfl
theorem sz59 : (Try.prog.info? 59).map (·.size) = some 1 := by kernel_rfl
theorem sz60 : (Try.prog.info? 60).map (·.size) = some 1 := by kernel_rfl
theorem z60 : (Try.prog.info? 60).map (·.zero) = some (some (.nilFunc)) := by kernel_rfl
theorem sz61 : (Try.prog.info? 61).map (·.size) = some 1 := by kernel_rfl
theorem z61 : (Try.prog.info? 61).map (·.zero) = some (some (.nilFunc)) := by kernel_rfl
theorem sz62 : (Try.prog.info? 62).map (·.size) = some 1 := by kernel_rfl
theorem z62 : (Try.prog.info? 62).map (·.zero) = some (some (.nilFunc)) := by kernel_rfl
theorem sz63 : (Try.prog.info? 63).map (·.size) = some 4 := by kernel_rfl
theorem z63 : (Try.prog.info? 63).map (·.zero) = some (some (.agg #[.int .i64 0, .int .i64 0, .int .i64 0, .int .i64 0])) := by kernel_rfl
theorem sz64 : (Try.prog.info? 64).map (·.size) = some 1 := by kernel_rfl
theorem sz65 : (Try.prog.info? 65).map (·.size) = some 1 := by kernel_rfl
theorem z65 : (Try.prog.info? 65).map (·.zero) = some (some (.nilFunc)) := by kernel_rfl
theorem sz66 : (Try.prog.info? 66).map (·.size) = some 1 := by kernel_rfl
theorem z66 : (Try.prog.info? 66).map (·.zero) = some (some (.nilFunc)) := by kernel_rfl
theorem sz67 : (Try.prog.info? 67).map (·.size) = some 1 := by kernel_rfl
theorem z67 : (Try.prog.info? 67).map (·.zero) = some (some (.slice none 0 0)) := by kernel_rfl
theorem sz68 : (Try.prog.info? 68).map (·.size) = some 1 := by kernel_rfl
theorem z68 : (Try.prog.info? 68).map (·.zero) = some (some (.nilFunc)) := by kernel_rfl
theorem sz69 : (Try.prog.info? 69).map (·.size) = some 11 := by kernel_rfl
theorem z69 : (Try.prog.info? 69).map (·.zero) = some (some (.agg #[.int .i64 0, .int .i64 0, .int .i64 0, .int .i64 0, .int .i64 0, .int .i64 0, .int .i64 0, .int .i64 0, .int .i64 0, .int .i64 0, .int .i64 0])) := by kernel_rfl
theorem sz70 : (Try.prog.info? 70).map (·.size) = some 11 := by kernel_rfl
theorem in70 : (Try.prog.info? 70).map (fun i => (i.zero, i.size, i.bytes)) = some (some (.agg #[.int .i64 0, .int .i64 0, .int .i64 0, .int .i64 0, .int .i64 0, .int .i64 0, .int .i64 0, .int .i64 0, .int .i64 0, .int .i64 0, .int .i64 0]), 11, 88) := by kernel_rfl
theorem z70 : (Try.prog.info? 70).map (·.zero) = some (some (.agg #[.int .i64 0, .int .i64 0, .int .i64 0, .int .i64 0, .int .i64 0, .int .i64 0, .int .i64 0, .int .i64 0, .int .i64 0, .int .i64 0, .int .i64 0])) := by kernel_rfl
theorem sz71 : (Try.prog.info? 71).map (·.size) = some 1 := by kernel_rfl
theorem z71 : (Try.prog.info? 71).map (·.zero) = some (some (.nilFunc)) := by kernel_rfl
theorem sz72 : (Try.prog.info? 72).map (·.size) = some 1 := by kernel_rfl
theorem z72 : (Try.prog.info? 72).map (·.zero) = some (some (.nilFunc)) := by kernel_rfl
theorem sz73 : (Try.prog.info? 73).map (·.size) = some 1 := by kernel_rfl
theorem z73 : (Try.prog.info? 73).map (·.zero) = some (some (.nilFunc)) := by kernel_rfl
theorem sz74 : (Try.prog.info? 74).map (·.size) = some 1 := by kernel_rfl
theorem z74 : (Try.prog.info? 74).map (·.zero) = some (some (.nilFunc)) := by kernel_rfl
theorem sz75 : (Try.prog.info? 75).map (·.size) = some 1 := by kernel_rfl
theorem z75 : (Try.prog.info? 75).map (·.zero) = some (some (.nilFunc)) := by kernel_rfl
theorem sz76 : (Try.prog.info? 76).map (·.size) = some 1 := by kernel_rfl
theorem z76 : (Try.prog.info? 76).map (·.zero) = some (some (.nilFunc)) := by kernel_rfl
theorem sz77 : (Try.prog.info? 77).map (·.size) = some 1 := by kernel_rfl
theorem z77 : (Try.prog.info? 77).map (·.zero) = some (some (.pointer none)) := by kernel_rfl
theorem sz78 : (Try.prog.info? 78).map (·.size) = some 1 := by kernel_rfl
theorem z78 : (Try.prog.info? 78).map (·.zero) = some (some (.nilFunc)) := by kernel_rfl
theorem sz79 : (Try.prog.info? 79).map (·.size) = some 1 := by kernel_rfl
theorem z79 : (Try.prog.info? 79).map (·.zero) = some (some (.slice none 0 0)) := by kernel_rfl
theorem sz80 : (Try.prog.info? 80).map (·.size) = some 1 := by kernel_rfl
theorem z80 : (Try.prog.info? 80).map (·.zero) = some (some (.int .u64 0)) := by kernel_rfl
theorem sz81 : (Try.prog.info? 81).map (·.size) = some 1 := by kernel_rfl
theorem z81 : (Try.prog.info? 81).map (·.zero) = some (some (.int .u64 0)) := by kernel_rfl
theorem sz82 : (Try.prog.info? 82).map (·.size) = some 1 := by kernel_rfl
theorem sz83 : (Try.prog.info? 83).map (·.size) = some 1 := by kernel_rfl
theorem z83 : (Try.prog.info? 83).map (·.zero) = some (some (.nilFunc)) := by kernel_rfl
theorem sz84 : (Try.prog.info? 84).map (·.size) = some 1 := by kernel_rfl
theorem z84 : (Try.prog.info? 84).map (·.zero) = some (some (.nilFunc)) := by kernel_rfl
theorem sz85 : (Try.prog.info? 85).map (·.size) = some 1 := by kernel_rfl
theorem z85 : (Try.prog.info? 85).map (·.zero) = some (some (.nilFunc)) := by kernel_rfl
theorem sz86 : (Try.prog.info? 86).map (·.size) = some 1 := by kernel_rfl
theorem z86 : (Try.prog.info? 86).map (·.zero) = some (some (.nilFunc)) := by kernel_rfl
theorem sz87 : (Try.prog.info? 87).map (·.size) = some 1 := by kernel_rfl
theorem z87 : (Try.prog.info? 87).map (·.zero) = some (some (.nilFunc)) := by kernel_rfl
theorem sz88 : (Try.prog.info? 88).map (·.size) = some 1 := by kernel_rfl
theorem z88 : (Try.prog.info? 88).map (·.zero) = some (some (.nilFunc)) := by kernel_rfl
theorem sz89 : (Try.prog.info? 89).map (·.size) = some 1 := by kernel_rfl
theorem sz90 : (Try.prog.info? 90).map (·.size) = some 1 := by kernel_rfl
theorem z90 : (Try.prog.info? 90).map (·.zero) = some (some (.nilFunc)) := by kernel_rfl
theorem sz91 : (Try.prog.info? 91).map (·.size) = some 1 := by kernel_rfl
theorem z91 : (Try.prog.info? 91).map (·.zero) = some (some (.nilFunc)) := by kernel_rfl
theorem sz92 : (Try.prog.info? 92).map (·.size) = some 1 := by kernel_rfl
theorem sz93 : (Try.prog.info? 93).map (·.size) = some 1 := by kernel_rfl
theorem z93 : (Try.prog.info? 93).map (·.zero) = some (some (.nilFunc)) := by kernel_rfl
theorem sz94 : (Try.prog.info? 94).map (·.size) = some 1 := by kernel_rfl
theorem z94 : (Try.prog.info? 94).map (·.zero) = some (some (.nilFunc)) := by kernel_rfl
theorem sz95 : (Try.prog.info? 95).map (·.size) = some 1 := by kernel_rfl
theorem z95 : (Try.prog.info? 95).map (·.zero) = some (some (.pointer none)) := by kernel_rfl
theorem sz96 : (Try.prog.info? 96).map (·.size) = some 1 := by kernel_rfl
theorem z96 : (Try.prog.info? 96).map (·.zero) = some (some (.nilFunc)) := by kernel_rfl
theorem sz97 : (Try.prog.info? 97).map (·.size) = some 1 := by kernel_rfl
theorem z97 : (Try.prog.info? 97).map (·.zero) = some (some (.nilFunc)) := by kernel_rfl
theorem sz98 : (Try.prog.info? 98).map (·.size) = some 1 := by kernel_rfl
theorem z98 : (Try.prog.info? 98).map (·.zero) = some (some (.agg #[.slice none 0 0])) := by kernel_rfl
theorem sz99 : (Try.prog.info? 99).map (·.size) = some 1 := by kernel_rfl
theorem z99 : (Try.prog.info? 99).map (·.zero) = some (some (.agg #[.slice none 0 0])) := by kernel_rfl
theorem sz100 : (Try.prog.info? 100).map (·.size) = some 0 := by kernel_rfl
theorem z100 : (Try.prog.info? 100).map (·.zero) = some (some (.agg #[])) := by kernel_rfl
theorem sz101 : (Try.prog.info? 101).map (·.size) = some 0 := by kernel_rfl
theorem z101 : (Try.prog.info? 101).map (·.zero) = some (some (.agg #[])) := by kernel_rfl
theorem sz102 : (Try.prog.info? 102).map (·.size) = some 1 := by kernel_rfl
theorem sz103 : (Try.prog.info? 103).map (·.size) = some 1 := by kernel_rfl
theorem z103 : (Try.prog.info? 103).map (·.zero) = some (some (.nilFunc)) := by kernel_rfl
theorem sz104 : (Try.prog.info? 104).map (·.size) = some 1 := by kernel_rfl
theorem z104 : (Try.prog.info? 104).map (·.zero) = some (some (.nilFunc)) := by kernel_rfl
theorem sz105 : (Try.prog.info? 105).map (·.size) = some 1 := by kernel_rfl
theorem z105 : (Try.prog.info? 105).map (·.zero) = some (some (.nilFunc)) := by kernel_rfl
theorem sz106 : (Try.prog.info? 106).map (·.size) = some 1 := by kernel_rfl
theorem z106 : (Try.prog.info? 106).map (·.zero) = some (some (.nilFunc)) := by kernel_rfl
theorem sz107 : (Try.prog.info? 107).map (·.size) = some 1 := by kernel_rfl
theorem z107 : (Try.prog.info? 107).map (·.zero) = some (some (.nilFunc)) := by kernel_rfl
theorem sz108 : (Try.prog.info? 108).map (·.size) = some 1 := by kernel_rfl
theorem z108 : (Try.prog.info? 108).map (·.zero) = some (some (.nilFunc)) := by kernel_rfl
theorem sz109 : (Try.prog.info? 109).map (·.size) = some 1 := by kernel_rfl
theorem sz110 : (Try.prog.info? 110).map (·.size) = some 1 := by kernel_rfl
theorem z110 : (Try.prog.info? 110).map (·.zero) = some (some (.nilFunc)) := by kernel_rfl
theorem sz111 : (Try.prog.info? 111).map (·.size) = some 1 := by kernel_rfl
theorem sz112 : (Try.prog.info? 112).map (·.size) = some 1 := by kernel_rfl
theorem z112 : (Try.prog.info? 112).map (·.zero) = some (some (.nilFunc)) := by kernel_rfl
theorem sz113 : (Try.prog.info? 113).map (·.size) = some 1 := by kernel_rfl
theorem z113 : (Try.prog.info? 113).map (·.zero) = some (some (.pointer none)) := by kernel_rfl
theorem sz114 : (Try.prog.info? 114).map (·.size) = some 1 := by kernel_rfl
theorem z114 : (Try.prog.info? 114).map (·.zero) = some (some (.nilFunc)) := by kernel_rfl
theorem sz115 : (Try.prog.info? 115).map (·.size) = some 1 := by kernel_rfl
theorem z115 : (Try.prog.info? 115).map (·.zero) = some (some (.pointer none)) := by kernel_rfl
theorem sz116 : (Try.prog.info? 116).map (·.size) = some 5 := by kernel_rfl
theorem z116 : (Try.prog.info? 116).map (·.zero) = some (some (.agg #[.pointer none, .pointer none, .pointer none, .pointer none, .pointer none])) := by kernel_rfl
theorem sz117 : (Try.prog.info? 117).map (·.size) = some 1 := by kernel_rfl
theorem z117 : (Try.prog.info? 117).map (·.zero) = some (some (.pointer none)) := by kernel_rfl
theorem sz118 : (Try.prog.info? 118).map (·.size) = some 5 := by kernel_rfl
theorem z118 : (Try.prog.info? 118).map (·.zero) = some (some (.agg #[.pointer none, .pointer none, .pointer none, .pointer none, .pointer none])) := by kernel_rfl
theorem sz119 : (Try.prog.info? 119).map (·.size) = some 1 := by kernel_rfl
theorem z119 : (Try.prog.info? 119).map (·.zero) = some (some (.slice none 0 0)) := by kernel_rfl
theorem sz120 : (Try.prog.info? 120).map (·.size) = some 5 := by kernel_rfl
theorem z120 : (Try.prog.info? 120).map (·.zero) = some (some (.agg #[.slice none 0 0, .slice none 0 0, .slice none 0 0, .slice none 0 0, .slice none 0 0])) := by kernel_rfl
theorem sz121 : (Try.prog.info? 121).map (·.size) = some 16 := by kernel_rfl
theorem z121 : (Try.prog.info? 121).map (·.zero) = some (some (.agg #[.pointer none, .pointer none, .pointer none, .pointer none, .pointer none, .pointer none, .pointer none, .pointer none, .pointer none, .pointer none, .pointer none, .slice none 0 0, .slice none 0 0, .slice none 0 0, .slice none 0 0, .slice none 0 0])) := by kernel_rfl
theorem sz122 : (Try.prog.info? 122).map (·.size) = some 16 := by kernel_rfl
theorem z122 : (Try.prog.info? 122).map (·.zero) = some (some (.agg #[.pointer none, .pointer none, .pointer none, .pointer none, .pointer none, .pointer none, .pointer none, .pointer none, .pointer none, .pointer none, .pointer none, .slice none 0 0, .slice none 0 0, .slice none 0 0, .slice none 0 0, .slice none 0 0])) := by kernel_rfl
theorem sz123 : (Try.prog.info? 123).map (·.size) = some 1 := by kernel_rfl
theorem z123 : (Try.prog.info? 123).map (·.zero) = some (some (.nilFunc)) := by kernel_rfl
theorem sz124 : (Try.prog.info? 124).map (·.size) = some 1 := by kernel_rfl
theorem sz125 : (Try.prog.info? 125).map (·.size) = some 1 := by kernel_rfl
theorem z125 : (Try.prog.info? 125).map (·.zero) = some (some (.nilFunc)) := by kernel_rfl
theorem sz126 : (Try.prog.info? 126).map (·.size) = some 1 := by kernel_rfl
theorem z126 : (Try.prog.info? 126).map (·.zero) = some (some (.nilFunc)) := by kernel_rfl
theorem sz127 : (Try.prog.info? 127).map (·.size) = some 1 := by kernel_rfl
theorem z127 : (Try.prog.info? 127).map (·.zero) = some (some (.pointer none)) := by kernel_rfl
theorem sz128 : (Try.prog.info? 128).map (·.size) = some 5 := by kernel_rfl
theorem z128 : (Try.prog.info? 128).map (·.zero) = some (some (.agg #[.pointer none, .pointer none, .pointer none, .pointer none, .pointer none])) := by kernel_rfl
theorem sz129 : (Try.prog.info? 129).map (·.size) = some 25 := by kernel_rfl
theorem z129 : (Try.prog.info? 129).map (·.zero) = some (some (.agg #[.pointer none, .pointer none, .pointer none, .pointer none, .pointer none, .pointer none, .pointer none, .pointer none, .pointer none, .pointer none, .pointer none, .pointer none, .pointer none, .pointer none, .pointer none, .pointer none, .pointer none, .pointer none, .pointer none, .pointer none, .pointer none, .pointer none, .pointer none, .pointer none, .pointer none])) := by kernel_rfl
theorem sz130 : (Try.prog.info? 130).map (·.size) = some 25 := by kernel_rfl
theorem z130 : (Try.prog.info? 130).map (·.zero) = some (some (.agg #[.pointer none, .pointer none, .pointer none, .pointer none, .pointer none, .pointer none, .pointer none, .pointer none, .pointer none, .pointer none, .pointer none, .pointer none, .pointer none, .pointer none, .pointer none, .pointer none, .pointer none, .pointer none, .pointer none, .pointer none, .pointer none, .pointer none, .pointer none, .pointer none, .pointer none])) := by kernel_rfl
theorem sz131 : (Try.prog.info? 131).map (·.size) = some 25 := by kernel_rfl
theorem z131 : (Try.prog.info? 131).map (·.zero) = some (some (.agg #[.pointer none, .pointer none, .pointer none, .pointer none, .pointer none, .pointer none, .pointer none, .pointer none, .pointer none, .pointer none, .pointer none, .pointer none, .pointer none, .pointer none, .pointer none, .pointer none, .pointer none, .pointer none, .pointer none, .pointer none, .pointer none, .pointer none, .pointer none, .pointer none, .pointer none])) := by kernel_rfl
theorem sz132 : (Try.prog.info? 132).map (·.size) = some 1 := by kernel_rfl
theorem z132 : (Try.prog.info? 132).map (·.zero) = some (some (.nilFunc)) := by kernel_rfl
theorem sz133 : (Try.prog.info? 133).map (·.size) = some 1 := by kernel_rfl
theorem z133 : (Try.prog.info? 133).map (·.zero) = some (some (.map none)) := by kernel_rfl
theorem sz134 : (Try.prog.info? 134).map (·.size) = some 1 := by kernel_rfl
theorem z134 : (Try.prog.info? 134).map (·.zero) = some (some (.slice none 0 0)) := by kernel_rfl
theorem sz135 : (Try.prog.info? 135).map (·.size) = some 5 := by kernel_rfl
theorem z135 : (Try.prog.info? 135).map (·.zero) = some (some (.agg #[.map none, .slice none 0 0, .bool false, .int .i64 0, .bool false])) := by kernel_rfl
theorem sz136 : (Try.prog.info? 136).map (·.size) = some 5 := by kernel_rfl
theorem z136 : (Try.prog.info? 136).map (·.zero) = some (some (.agg #[.map none, .slice none 0 0, .bool false, .int .i64 0, .bool false])) := by kernel_rfl
theorem sz137 : (Try.prog.info? 137).map (·.size) = some 1 := by kernel_rfl
theorem z137 : (Try.prog.info? 137).map (·.zero) = some (some (.pointer none)) := by kernel_rfl
theorem sz138 : (Try.prog.info? 138).map (·.size) = some 1 := by kernel_rfl
theorem z138 : (Try.prog.info? 138).map (·.zero) = some (some (.slice none 0 0)) := by kernel_rfl
theorem sz139 : (Try.prog.info? 139).map (·.size) = some 1 := by kernel_rfl
theorem sz140 : (Try.prog.info? 140).map (·.size) = some 1 := by kernel_rfl
theorem z140 : (Try.prog.info? 140).map (·.zero) = some (some (.nilFunc)) := by kernel_rfl
theorem sz142 : (Try.prog.info? 142).map (·.size) = some 5 := by kernel_rfl
theorem z142 : (Try.prog.info? 142).map (·.zero) = some (some (.agg #[.bool false, .bool false, .bool false, .bool false, .bool false])) := by kernel_rfl
theorem sz145 : (Try.prog.info? 145).map (·.size) = some 8 := by kernel_rfl
theorem z145 : (Try.prog.info? 145).map (·.zero) = some (some (.agg #[.int .i64 0, .int .i64 0, .int .i64 0, .int .i64 0, .int .i64 0, .int .i64 0, .int .i64 0, .int .i64 0])) := by kernel_rfl
theorem sz146 : (Try.prog.info? 146).map (·.size) = some 8 := by kernel_rfl
theorem z146 : (Try.prog.info? 146).map (·.zero) = some (some (.agg #[.int .i64 0, .int .i64 0, .int .i64 0, .int .i64 0, .int .i64 0, .int .i64 0, .int .i64 0, .int .i64 0])) := by kernel_rfl
theorem sz147 : (Try.prog.info? 147).map (·.size) = some 1 := by kernel_rfl
theorem z147 : (Try.prog.info? 147).map (·.zero) = some (some (.pointer none)) := by kernel_rfl
theorem sz152 : (Try.prog.info? 152).map (·.size) = some 1 := by kernel_rfl
theorem z152 : (Try.prog.info? 152).map (·.zero) = some (some (.nilFunc)) := by kernel_rfl
theorem sz153 : (Try.prog.info? 153).map (·.size) = some 1 := by kernel_rfl
theorem z153 : (Try.prog.info? 153).map (·.zero) = some (some (.nilFunc)) := by kernel_rfl
theorem sz154 : (Try.prog.info? 154).map (·.size) = some 1 := by kernel_rfl
theorem sz155 : (Try.prog.info? 155).map (·.size) = some 1 := by kernel_rfl
theorem sz156 : (Try.prog.info? 156).map (·.size) = some 1 := by kernel_rfl
theorem sz157 : (Try.prog.info? 157).map (·.size) = some 3 := by kernel_rfl
theorem z157 : (Try.prog.info? 157).map (·.zero) = some (some (.agg #[.pointer none, .int .i64 0, .int .i64 0])) := by kernel_rfl
theorem sz158 : (Try.prog.info? 158).map (·.size) = some 3 := by kernel_rfl
theorem z158 : (Try.prog.info? 158).map (·.zero) = some (some (.agg #[.pointer none, .int .i64 0, .int .i64 0])) := by kernel_rfl
theorem sz159 : (Try.prog.info? 159).map (·.size) = some 1 := by kernel_rfl
theorem sz160 : (Try.prog.info? 160).map (·.size) = some 1 := by kernel_rfl
theorem z160 : (Try.prog.info? 160).map (·.zero) = some (some (.nilFunc)) := by kernel_rfl
theorem sz161 : (Try.prog.info? 161).map (·.size) = some 64 := by kernel_rfl
theorem z161 : (Try.prog.info? 161).map (·.zero) = some (some (.agg #[.int .u8 0, .int .u8 0, .int .u8 0, .int .u8 0, .int .u8 0, .int .u8 0, .int .u8 0, .int .u8 0, .int .u8 0, .int .u8 0, .int .u8 0, .int .u8 0, .int .u8 0, .int .u8 0, .int .u8 0, .int .u8 0, .int .u8 0, .int .u8 0, .int .u8 0, .int .u8 0, .int .u8 0, .int .u8 0, .int .u8 0, .int .u8 0, .int .u8 0, .int .u8 0, .int .u8 0, .int .u8 0, .int .u8 0, .int .u8 0, .int .u8 0, .int .u8 0, .int .u8 0, .int .u8 0, .int .u8 0, .int .u8 0, .int .u8 0, .int .u8 0, .int .u8 0, .int .u8 0, .int .u8 0, .int .u8 0, .int .u8 0, .int .u8 0, .int .u8 0, .int .u8 0, .int .u8 0, .int .u8 0, .int .u8 0, .int .u8 0, .int .u8 0, .int .u8 0, .int .u8 0, .int .u8 0, .int .u8 0, .int .u8 0, .int .u8 0, .int .u8 0, .int .u8 0, .int .u8 0, .int .u8 0, .int .u8 0, .int .u8 0, .int .u8 0])) := by kernel_rfl
theorem sz162 : (Try.prog.info? 162).map (·.size) = some 1 := by kernel_rfl
theorem z162 : (Try.prog.info? 162).map (·.zero) = some (some (.nilFunc)) := by kernel_rfl
theorem sz163 : (Try.prog.info? 163).map (·.size) = some 1 := by kernel_rfl
theorem z163 : (Try.prog.info? 163).map (·.zero) = some (some (.nilFunc)) := by kernel_rfl
theorem sz164 : (Try.prog.info? 164).map (·.size) = some 1 := by kernel_rfl
theorem z164 : (Try.prog.info? 164).map (·.zero) = some (some (.nilFunc)) := by kernel_rfl
theorem sz165 : (Try.prog.info? 165).map (·.size) = some 1 := by kernel_rfl
theorem z165 : (Try.prog.info? 165).map (·.zero) = some (some (.nilFunc)) := by kernel_rfl
theorem sz166 : (Try.prog.info? 166).map (·.size) = some 1 := by kernel_rfl
theorem sz167 : (Try.prog.info? 167).map (·.size) = some 1 := by kernel_rfl
theorem z167 : (Try.prog.info? 167).map (·.zero) = some (some (.nilFunc)) := by kernel_rfl
theorem sz168 : (Try.prog.info? 168).map (·.size) = some 1 := by kernel_rfl
theorem z168 : (Try.prog.info? 168).map (·.zero) = some (some (.nilFunc)) := by kernel_rfl
theorem sz169 : (Try.prog.info? 169).map (·.size) = some 65 := by kernel_rfl
theorem z169 : (Try.prog.info? 169).map (·.zero) = some (some (.agg #[.int .i64 0, .int .u8 0, .int .u8 0, .int .u8 0, .int .u8 0, .int .u8 0, .int .u8 0, .int .u8 0, .int .u8 0, .int .u8 0, .int .u8 0, .int .u8 0, .int .u8 0, .int .u8 0, .int .u8 0, .int .u8 0, .int .u8 0, .int .u8 0, .int .u8 0, .int .u8 0, .int .u8 0, .int .u8 0, .int .u8 0, .int .u8 0, .int .u8 0, .int .u8 0, .int .u8 0, .int .u8 0, .int .u8 0, .int .u8 0, .int .u8 0, .int .u8 0, .int .u8 0, .int .u8 0, .int .u8 0, .int .u8 0, .int .u8 0, .int .u8 0, .int .u8 0, .int .u8 0, .int .u8 0, .int .u8 0, .int .u8 0, .int .u8 0, .int .u8 0, .int .u8 0, .int .u8 0, .int .u8 0, .int .u8 0, .int .u8 0, .int .u8 0, .int .u8 0, .int .u8 0, .int .u8 0, .int .u8 0, .int .u8 0, .int .u8 0, .int .u8 0, .int .u8 0, .int .u8 0, .int .u8 0, .int .u8 0, .int .u8 0, .int .u8 0, .int .u8 0])) := by kernel_rfl
theorem sz170 : (Try.prog.info? 170).map (·.size) = some 65 := by kernel_rfl
theorem in170 : (Try.prog.info? 170).map (fun i => (i.zero, i.size, i.bytes)) = some (some (.agg #[.int .i64 0, .int .u8 0, .int .u8 0, .int .u8 0, .int .u8 0, .int .u8 0, .int .u8 0, .int .u8 0, .int .u8 0, .int .u8 0, .int .u8 0, .int .u8 0, .int .u8 0, .int .u8 0, .int .u8 0, .int .u8 0, .int .u8 0, .int .u8 0, .int .u8 0, .int .u8 0, .int .u8 0, .int .u8 0, .int .u8 0, .int .u8 0, .int .u8 0, .int .u8 0, .int .u8 0, .int .u8 0, .int .u8 0, .int .u8 0, .int .u8 0, .int .u8 0, .int .u8 0, .int .u8 0, .int .u8 0, .int .u8 0, .int .u8 0, .int .u8 0, .int .u8 0, .int .u8 0, .int .u8 0, .int .u8 0, .int .u8 0, .int .u8 0, .int .u8 0, .int .u8 0, .int .u8 0, .int .u8 0, .int .u8 0, .int .u8 0, .int .u8 0, .int .u8 0, .int .u8 0, .int .u8 0, .int .u8 0, .int .u8 0, .int .u8 0, .int .u8 0, .int .u8 0, .int .u8 0, .int .u8 0, .int .u8 0, .int .u8 0, .int .u8 0, .int .u8 0]), 65, 72) := by kernel_rfl
theorem z170 : (Try.prog.info? 170).map (·.zero) = some (some (.agg #[.int .i64 0, .int .u8 0, .int .u8 0, .int .u8 0, .int .u8 0, .int .u8 0, .int .u8 0, .int .u8 0, .int .u8 0, .int .u8 0, .int .u8 0, .int .u8 0, .int .u8 0, .int .u8 0, .int .u8 0, .int .u8 0, .int .u8 0, .int .u8 0, .int .u8 0, .int .u8 0, .int .u8 0, .int .u8 0, .int .u8 0, .int .u8 0, .int .u8 0, .int .u8 0, .int .u8 0, .int .u8 0, .int .u8 0, .int .u8 0, .int .u8 0, .int .u8 0, .int .u8 0, .int .u8 0, .int .u8 0, .int .u8 0, .int .u8 0, .int .u8 0, .int .u8 0, .int .u8 0, .int .u8 0, .int .u8 0, .int .u8 0, .int .u8 0, .int .u8 0, .int .u8 0, .int .u8 0, .int .u8 0, .int .u8 0, .int .u8 0, .int .u8 0, .int .u8 0, .int .u8 0, .int .u8 0, .int .u8 0, .int .u8 0, .int .u8 0, .int .u8 0, .int .u8 0, .int .u8 0, .int .u8 0, .int .u8 0, .int .u8 0, .int .u8 0, .int .u8 0])) := by kernel_rfl
theorem sz171 : (Try.prog.info? 171).map (·.size) = some 1 := by kernel_rfl
theorem z171 : (Try.prog.info? 171).map (·.zero) = some (some (.nilFunc)) := by kernel_rfl
theorem sz172 : (Try.prog.info? 172).map (·.size) = some 1 := by kernel_rfl
theorem z172 : (Try.prog.info? 172).map (·.zero) = some (some (.pointer none)) := by kernel_rfl
theorem sz173 : (Try.prog.info? 173).map (·.size) = some 1 := by kernel_rfl
theorem sz174 : (Try.prog.info? 174).map (·.size) = some 1 := by kernel_rfl
theorem z174 : (Try.prog.info? 174).map (·.zero) = some (some (.nilFunc)) := by kernel_rfl
theorem sz175 : (Try.prog.info? 175).map (·.size) = some 1 := by kernel_rfl
theorem z175 : (Try.prog.info? 175).map (·.zero) = some (some (.int .u32 0)) := by kernel_rfl
theorem sz176 : (Try.prog.info? 176).map (·.size) = some 1 := by kernel_rfl
theorem z176 : (Try.prog.info? 176).map (·.zero) = some (some (.nilFunc)) := by kernel_rfl
theorem sz177 : (Try.prog.info? 177).map (·.size) = some 1 := by kernel_rfl
theorem z177 : (Try.prog.info? 177).map (·.zero) = some (some (.nilFunc)) := by kernel_rfl
theorem sz178 : (Try.prog.info? 178).map (·.size) = some 4 := by kernel_rfl
theorem z178 : (Try.prog.info? 178).map (·.zero) = some (some (.agg #[.pointer none, .pointer none, .pointer none, .string ByteArray.empty])) := by kernel_rfl
theorem sz179 : (Try.prog.info? 179).map (·.size) = some 4 := by kernel_rfl
theorem z179 : (Try.prog.info? 179).map (·.zero) = some (some (.agg #[.pointer none, .pointer none, .pointer none, .string ByteArray.empty])) := by kernel_rfl
theorem sz180 : (Try.prog.info? 180).map (·.size) = some 0 := by kernel_rfl
theorem z180 : (Try.prog.info? 180).map (·.zero) = some (some (.agg #[])) := by kernel_rfl
theorem sz181 : (Try.prog.info? 181).map (·.size) = some 0 := by kernel_rfl
theorem z181 : (Try.prog.info? 181).map (·.zero) = some (some (.agg #[])) := by kernel_rfl
theorem sz182 : (Try.prog.info? 182).map (·.size) = some 0 := by kernel_rfl
theorem z182 : (Try.prog.info? 182).map (·.zero) = some (some (.agg #[])) := by kernel_rfl
theorem sz183 : (Try.prog.info? 183).map (·.size) = some 1 := by kernel_rfl
theorem z183 : (Try.prog.info? 183).map (·.zero) = some (some (.int .u8 0)) := by kernel_rfl
theorem sz184 : (Try.prog.info? 184).map (·.size) = some 1 := by kernel_rfl
theorem z184 : (Try.prog.info? 184).map (·.zero) = some (some (.int .u8 0)) := by kernel_rfl
theorem sz185 : (Try.prog.info? 185).map (·.size) = some 1 := by kernel_rfl
theorem z185 : (Try.prog.info? 185).map (·.zero) = some (some (.nilFunc)) := by kernel_rfl
theorem sz186 : (Try.prog.info? 186).map (·.size) = some 1 := by kernel_rfl
theorem z186 : (Try.prog.info? 186).map (·.zero) = some (some (.pointer none)) := by kernel_rfl
theorem sz187 : (Try.prog.info? 187).map (·.size) = some 1 := by kernel_rfl
theorem z187 : (Try.prog.info? 187).map (·.zero) = some (some (.int .i32 0)) := by kernel_rfl
theorem sz188 : (Try.prog.info? 188).map (·.size) = some 1 := by kernel_rfl
theorem z188 : (Try.prog.info? 188).map (·.zero) = some (some (.int .i32 0)) := by kernel_rfl
theorem sz189 : (Try.prog.info? 189).map (·.size) = some 11 := by kernel_rfl
theorem z189 : (Try.prog.info? 189).map (·.zero) = some (some (.agg #[.int .u64 0, .int .u64 0, .int .u32 0, .int .u8 0, .int .u8 0, .int .u8 0, .int .u8 0, .nilFunc, .pointer none, .int .i32 0, .int .i32 0])) := by kernel_rfl
theorem sz190 : (Try.prog.info? 190).map (·.size) = some 11 := by kernel_rfl
theorem z190 : (Try.prog.info? 190).map (·.zero) = some (some (.agg #[.int .u64 0, .int .u64 0, .int .u32 0, .int .u8 0, .int .u8 0, .int .u8 0, .int .u8 0, .nilFunc, .pointer none, .int .i32 0, .int .i32 0])) := by kernel_rfl
theorem sz191 : (Try.prog.info? 191).map (·.size) = some 1 := by kernel_rfl
theorem z191 : (Try.prog.info? 191).map (·.zero) = some (some (.nilFunc)) := by kernel_rfl
theorem sz192 : (Try.prog.info? 192).map (·.size) = some 3 := by kernel_rfl
theorem z192 : (Try.prog.info? 192).map (·.zero) = some (some (.agg #[.int .i64 0, .int .i64 0, .int .i64 0])) := by kernel_rfl
theorem sz193 : (Try.prog.info? 193).map (·.size) = some 3 := by kernel_rfl
theorem in193 : (Try.prog.info? 193).map (fun i => (i.zero, i.size, i.bytes)) = some (some (.agg #[.int .i64 0, .int .i64 0, .int .i64 0]), 3, 24) := by kernel_rfl
theorem z193 : (Try.prog.info? 193).map (·.zero) = some (some (.agg #[.int .i64 0, .int .i64 0, .int .i64 0])) := by kernel_rfl
theorem sz194 : (Try.prog.info? 194).map (·.size) = some 1 := by kernel_rfl
theorem z194 : (Try.prog.info? 194).map (·.zero) = some (some (.nilFunc)) := by kernel_rfl
theorem sz195 : (Try.prog.info? 195).map (·.size) = some 17 := by kernel_rfl
theorem z195 : (Try.prog.info? 195).map (·.zero) = some (some (.agg #[.int .i64 0, .int .i64 0, .int .i64 0, .int .i64 0, .int .i64 0, .int .i64 0, .int .i64 0, .int .i64 0, .int .i64 0, .int .i64 0, .int .i64 0, .int .i64 0, .int .i64 0, .int .i64 0, .int .i64 0, .int .i64 0, .bool false])) := by kernel_rfl
theorem sz196 : (Try.prog.info? 196).map (·.size) = some 17 := by kernel_rfl
theorem z196 : (Try.prog.info? 196).map (·.zero) = some (some (.agg #[.int .i64 0, .int .i64 0, .int .i64 0, .int .i64 0, .int .i64 0, .int .i64 0, .int .i64 0, .int .i64 0, .int .i64 0, .int .i64 0, .int .i64 0, .int .i64 0, .int .i64 0, .int .i64 0, .int .i64 0, .int .i64 0, .bool false])) := by kernel_rfl
theorem sz197 : (Try.prog.info? 197).map (·.size) = some 1 := by kernel_rfl
theorem nm3 : Named Try.prog 3 := ⟨Try.f3, Try.func3, by kernel_rfl, by kernel_rfl⟩
theorem nm4 : Named Try.prog 4 := ⟨Try.f4, Try.func4, by kernel_rfl, by kernel_rfl⟩
theorem nm5 : Named Try.prog 5 := ⟨Try.f5, Try.func5, by kernel_rfl, by kernel_rfl⟩
theorem nm6 : Named Try.prog 6 := ⟨Try.f6, Try.func6, by kernel_rfl, by kernel_rfl⟩
theorem nm7 : Named Try.prog 7 := ⟨Try.f7, Try.func7, by kernel_rfl, by kernel_rfl⟩
theorem nm8 : Named Try.prog 8 := ⟨Try.f8, Try.func8, by kernel_rfl, by kernel_rfl⟩
theorem nm9 : Named Try.prog 9 := ⟨Try.f9, Try.func9, by kernel_rfl, by kernel_rfl⟩
theorem nm10 : Named Try.prog 10 := ⟨Try.f10, Try.func10, by kernel_rfl, by kernel_rfl⟩
theorem nm11 : Named Try.prog 11 := ⟨Try.f11, Try.func11, by kernel_rfl, by kernel_rfl⟩
theorem nm12 : Named Try.prog 12 := ⟨Try.f12, Try.func12, by kernel_rfl, by kernel_rfl⟩
theorem nm13 : Named Try.prog 13 := ⟨Try.f13, Try.func13, by kernel_rfl, by kernel_rfl⟩
theorem nm14 : Named Try.prog 14 := ⟨Try.f14, Try.func14, by kernel_rfl, by kernel_rfl⟩
theorem nm15 : Named Try.prog 15 := ⟨Try.f15, Try.func15, by kernel_rfl, by kernel_rfl⟩
theorem nm16 : Named Try.prog 16 := ⟨Try.f16, Try.func16, by kernel_rfl, by kernel_rfl⟩
theorem nm17 : Named Try.prog 17 := ⟨Try.f17, Try.func17, by kernel_rfl, by kernel_rfl⟩
theorem nm18 : Named Try.prog 18 := ⟨Try.f18, Try.func18, by kernel_rfl, by kernel_rfl⟩
theorem nm19 : Named Try.prog 19 := ⟨Try.f19, Try.func19, by kernel_rfl, by kernel_rfl⟩
theorem nm20 : Named Try.prog 20 := ⟨Try.f20, Try.func20, by kernel_rfl, by kernel_rfl⟩
theorem nm21 : Named Try.prog 21 := ⟨Try.f21, Try.func21, by kernel_rfl, by kernel_rfl⟩
theorem nm22 : Named Try.prog 22 := ⟨Try.f22, Try.func22, by kernel_rfl, by kernel_rfl⟩
theorem nm23 : Named Try.prog 23 := ⟨Try.f23, Try.func23, by kernel_rfl, by kernel_rfl⟩
theorem nm24 : Named Try.prog 24 := ⟨Try.f24, Try.func24, by kernel_rfl, by kernel_rfl⟩
theorem nm25 : Named Try.prog 25 := ⟨Try.f25, Try.func25, by kernel_rfl, by kernel_rfl⟩
theorem nm26 : Named Try.prog 26 := ⟨Try.f26, Try.func26, by kernel_rfl, by kernel_rfl⟩
theorem nm27 : Named Try.prog 27 := ⟨Try.f27, Try.func27, by kernel_rfl, by kernel_rfl⟩
theorem nm28 : Named Try.prog 28 := ⟨Try.f28, Try.func28, by kernel_rfl, by kernel_rfl⟩
theorem nm29 : Named Try.prog 29 := ⟨Try.f29, Try.func29, by kernel_rfl, by kernel_rfl⟩
theorem nm30 : Named Try.prog 30 := ⟨Try.f30, Try.func30, by kernel_rfl, by kernel_rfl⟩
theorem nm31 : Named Try.prog 31 := ⟨Try.f31, Try.func31, by kernel_rfl, by kernel_rfl⟩
theorem nm32 : Named Try.prog 32 := ⟨Try.f32, Try.func32, by kernel_rfl, by kernel_rfl⟩
theorem nm33 : Named Try.prog 33 := ⟨Try.f33, Try.func33, by kernel_rfl, by kernel_rfl⟩
theorem nm34 : Named Try.prog 34 := ⟨Try.f34, Try.func34, by kernel_rfl, by kernel_rfl⟩
theorem nm35 : Named Try.prog 35 := ⟨Try.f35, Try.func35, by kernel_rfl, by kernel_rfl⟩
theorem nm36 : Named Try.prog 36 := ⟨Try.f36, Try.func36, by kernel_rfl, by kernel_rfl⟩
theorem nm37 : Named Try.prog 37 := ⟨Try.f37, Try.func37, by kernel_rfl, by kernel_rfl⟩
theorem nm38 : Named Try.prog 38 := ⟨Try.f38, Try.func38, by kernel_rfl, by kernel_rfl⟩
theorem nm39 : Named Try.prog 39 := ⟨Try.f39, Try.func39, by kernel_rfl, by kernel_rfl⟩
theorem nm40 : Named Try.prog 40 := ⟨Try.f40, Try.func40, by kernel_rfl, by kernel_rfl⟩
theorem nm41 : Named Try.prog 41 := ⟨Try.f41, Try.func41, by kernel_rfl, by kernel_rfl⟩
theorem nm42 : Named Try.prog 42 := ⟨Try.f42, Try.func42, by kernel_rfl, by kernel_rfl⟩
theorem nm43 : Named Try.prog 43 := ⟨Try.f43, Try.func43, by kernel_rfl, by kernel_rfl⟩
theorem nm44 : Named Try.prog 44 := ⟨Try.f44, Try.func44, by kernel_rfl, by kernel_rfl⟩
theorem nm45 : Named Try.prog 45 := ⟨Try.f45, Try.func45, by kernel_rfl, by kernel_rfl⟩
theorem nm46 : Named Try.prog 46 := ⟨Try.f46, Try.func46, by kernel_rfl, by kernel_rfl⟩
theorem nm47 : Named Try.prog 47 := ⟨Try.f47, Try.func47, by kernel_rfl, by kernel_rfl⟩
theorem nm48 : Named Try.prog 48 := ⟨Try.f48, Try.func48, by kernel_rfl, by kernel_rfl⟩
theorem nm49 : Named Try.prog 49 := ⟨Try.f49, Try.func49, by kernel_rfl, by kernel_rfl⟩
theorem nm50 : Named Try.prog 50 := ⟨Try.f50, Try.func50, by kernel_rfl, by kernel_rfl⟩
theorem nm51 : Named Try.prog 51 := ⟨Try.f51, Try.func51, by kernel_rfl, by kernel_rfl⟩
theorem nm52 : Named Try.prog 52 := ⟨Try.f52, Try.func52, by kernel_rfl, by kernel_rfl⟩
theorem nm53 : Named Try.prog 53 := ⟨Try.f53, Try.func53, by kernel_rfl, by kernel_rfl⟩
theorem nm54 : Named Try.prog 54 := ⟨Try.f54, Try.func54, by kernel_rfl, by kernel_rfl⟩
theorem nm55 : Named Try.prog 55 := ⟨Try.f55, Try.func55, by kernel_rfl, by kernel_rfl⟩
theorem nm56 : Named Try.prog 56 := ⟨Try.f56, Try.func56, by kernel_rfl, by kernel_rfl⟩
theorem nm57 : Named Try.prog 57 := ⟨Try.f57, Try.func57, by kernel_rfl, by kernel_rfl⟩
theorem nm58 : Named Try.prog 58 := ⟨Try.f58, Try.func58, by kernel_rfl, by kernel_rfl⟩
theorem nm59 : Named Try.prog 59 := ⟨Try.f59, Try.func59, by kernel_rfl, by kernel_rfl⟩
theorem nm60 : Named Try.prog 60 := ⟨Try.f60, Try.func60, by kernel_rfl, by kernel_rfl⟩
theorem nm61 : Named Try.prog 61 := ⟨Try.f61, Try.func61, by kernel_rfl, by kernel_rfl⟩
theorem nm62 : Named Try.prog 62 := ⟨Try.f62, Try.func62, by kernel_rfl, by kernel_rfl⟩
theorem nm63 : Named Try.prog 63 := ⟨Try.f63, Try.func63, by kernel_rfl, by kernel_rfl⟩
theorem nm64 : Named Try.prog 64 := ⟨Try.f64, Try.func64, by kernel_rfl, by kernel_rfl⟩
theorem nm65 : Named Try.prog 65 := ⟨Try.f65, Try.func65, by kernel_rfl, by kernel_rfl⟩
theorem nm66 : Named Try.prog 66 := ⟨Try.f66, Try.func66, by kernel_rfl, by kernel_rfl⟩
theorem nm67 : Named Try.prog 67 := ⟨Try.f67, Try.func67, by kernel_rfl, by kernel_rfl⟩
theorem nm68 : Named Try.prog 68 := ⟨Try.f68, Try.func68, by kernel_rfl, by kernel_rfl⟩
theorem nm69 : Named Try.prog 69 := ⟨Try.f69, Try.func69, by kernel_rfl, by kernel_rfl⟩
theorem nm70 : Named Try.prog 70 := ⟨Try.f70, Try.func70, by kernel_rfl, by kernel_rfl⟩
theorem nm71 : Named Try.prog 71 := ⟨Try.f71, Try.func71, by kernel_rfl, by kernel_rfl⟩
theorem nm72 : Named Try.prog 72 := ⟨Try.f72, Try.func72, by kernel_rfl, by kernel_rfl⟩
theorem nm73 : Named Try.prog 73 := ⟨Try.f73, Try.func73, by kernel_rfl, by kernel_rfl⟩
theorem nm74 : Named Try.prog 74 := ⟨Try.f74, Try.func74, by kernel_rfl, by kernel_rfl⟩
theorem nm75 : Named Try.prog 75 := ⟨Try.f75, Try.func75, by kernel_rfl, by kernel_rfl⟩
theorem nm76 : Named Try.prog 76 := ⟨Try.f76, Try.func76, by kernel_rfl, by kernel_rfl⟩
end Go.Proofs.Ytdekgkmbcdlekaa
