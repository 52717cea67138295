/- What the program has of its types and functions. -/
import Derived.Test.YtahcjihhkmolpaaRows
import Derived.KernelRfl
namespace Go.Proofs.Ytahcjihhkmolpaa
theorem sz1 : (Try.prog.info? 1).map (·.size) = some 1 := by kernel_rfl
theorem zr1 : (Try.prog.info? 1).bind (·.zero) = some (.nilFunc) := by kernel_rfl
theorem sz2 : (Try.prog.info? 2).map (·.size) = some 1 := by kernel_rfl
theorem zr2 : (Try.prog.info? 2).bind (·.zero) = some (.int .i64 0) := by kernel_rfl
theorem in2 : (Try.prog.info? 2).map (fun i => (i.zero, i.size, i.bytes)) = some (some (.int .i64 0), 1, 8) := by kernel_rfl
theorem sz3 : (Try.prog.info? 3).map (·.size) = some 1 := by kernel_rfl
theorem zr3 : (Try.prog.info? 3).bind (·.zero) = some (.int .i64 0) := by kernel_rfl
theorem in3 : (Try.prog.info? 3).map (fun i => (i.zero, i.size, i.bytes)) = some (some (.int .i64 0), 1, 8) := by kernel_rfl
theorem sz4 : (Try.prog.info? 4).map (·.size) = some 1 := by kernel_rfl
theorem zr4 : (Try.prog.info? 4).bind (·.zero) = some (.bool false) := by kernel_rfl
theorem in4 : (Try.prog.info? 4).map (fun i => (i.zero, i.size, i.bytes)) = some (some (.bool false), 1, 1) := by kernel_rfl
theorem sz5 : (Try.prog.info? 5).map (·.size) = some 1 := by kernel_rfl
theorem zr5 : (Try.prog.info? 5).bind (·.zero) = some (.int .u8 0) := by kernel_rfl
theorem sz6 : (Try.prog.info? 6).map (·.size) = some 1 := by kernel_rfl
theorem zr6 : (Try.prog.info? 6).bind (·.zero) = some (.int .u8 0) := by kernel_rfl
theorem sz7 : (Try.prog.info? 7).map (·.size) = some 4 := by kernel_rfl
theorem zr7 : (Try.prog.info? 7).bind (·.zero) = some (.agg #[.int .i64 0, .int .i64 0, .bool false, .int .u8 0]) := by kernel_rfl
theorem sz8 : (Try.prog.info? 8).map (·.size) = some 4 := by kernel_rfl
theorem zr8 : (Try.prog.info? 8).bind (·.zero) = some (.agg #[.int .i64 0, .int .i64 0, .bool false, .int .u8 0]) := by kernel_rfl
theorem sz9 : (Try.prog.info? 9).map (·.size) = some 1 := by kernel_rfl
theorem zr9 : (Try.prog.info? 9).bind (·.zero) = some (.string ByteArray.empty) := by kernel_rfl
theorem sz10 : (Try.prog.info? 10).map (·.size) = some 1 := by kernel_rfl
theorem zr10 : (Try.prog.info? 10).bind (·.zero) = some (.string ByteArray.empty) := by kernel_rfl
theorem sz11 : (Try.prog.info? 11).map (·.size) = some 1 := by kernel_rfl
theorem zr11 : (Try.prog.info? 11).bind (·.zero) = some (.string ByteArray.empty) := by kernel_rfl
theorem sz12 : (Try.prog.info? 12).map (·.size) = some 1 := by kernel_rfl
theorem zr12 : (Try.prog.info? 12).bind (·.zero) = some (.int .u64 0) := by kernel_rfl
theorem sz13 : (Try.prog.info? 13).map (·.size) = some 2 := by kernel_rfl
theorem zr13 : (Try.prog.info? 13).bind (·.zero) = some (.agg #[.string ByteArray.empty, .int .u64 0]) := by kernel_rfl
theorem sz14 : (Try.prog.info? 14).map (·.size) = some 2 := by kernel_rfl
theorem zr14 : (Try.prog.info? 14).bind (·.zero) = some (.agg #[.string ByteArray.empty, .int .u64 0]) := by kernel_rfl
theorem sz15 : (Try.prog.info? 15).map (·.size) = some 1 := by kernel_rfl
theorem zr15 : (Try.prog.info? 15).bind (·.zero) = some (.pointer none) := by kernel_rfl
theorem sz16 : (Try.prog.info? 16).map (·.size) = some 1 := by kernel_rfl
theorem zr16 : (Try.prog.info? 16).bind (·.zero) = some (.pointer none) := by kernel_rfl
theorem sz17 : (Try.prog.info? 17).map (·.size) = some 1 := by kernel_rfl
theorem zr17 : (Try.prog.info? 17).bind (·.zero) = some (.pointer none) := by kernel_rfl
theorem sz18 : (Try.prog.info? 18).map (·.size) = some 1 := by kernel_rfl
theorem zr18 : (Try.prog.info? 18).bind (·.zero) = some (.agg #[.pointer none]) := by kernel_rfl
theorem sz19 : (Try.prog.info? 19).map (·.size) = some 1 := by kernel_rfl
theorem zr19 : (Try.prog.info? 19).bind (·.zero) = some (.agg #[.pointer none]) := by kernel_rfl
theorem sz20 : (Try.prog.info? 20).map (·.size) = some 1 := by kernel_rfl
theorem zr20 : (Try.prog.info? 20).bind (·.zero) = some (.nilIface) := by kernel_rfl
theorem sz21 : (Try.prog.info? 21).map (·.size) = some 1 := by kernel_rfl
theorem zr21 : (Try.prog.info? 21).bind (·.zero) = some (.int .i32 0) := by kernel_rfl
theorem sz22 : (Try.prog.info? 22).map (·.size) = some 1 := by kernel_rfl
theorem zr22 : (Try.prog.info? 22).bind (·.zero) = some (.slice none 0 0) := by kernel_rfl
theorem sz23 : (Try.prog.info? 23).map (·.size) = some 1 := by kernel_rfl
theorem zr23 : (Try.prog.info? 23).bind (·.zero) = some (.nilFunc) := by kernel_rfl
theorem sz24 : (Try.prog.info? 24).map (·.size) = some 1 := by kernel_rfl
theorem zr24 : (Try.prog.info? 24).bind (·.zero) = some (.pointer none) := by kernel_rfl
theorem sz25 : (Try.prog.info? 25).map (·.size) = some 1 := by kernel_rfl
theorem zr25 : (Try.prog.info? 25).bind (·.zero) = some (.int .i64 0) := by kernel_rfl
theorem sz27 : (Try.prog.info? 27).map (·.size) = some 1 := by kernel_rfl
theorem zr27 : (Try.prog.info? 27).bind (·.zero) = some (.nilFunc) := by kernel_rfl
theorem sz28 : (Try.prog.info? 28).map (·.size) = some 1 := by kernel_rfl
theorem zr28 : (Try.prog.info? 28).bind (·.zero) = some (.pointer none) := by kernel_rfl
theorem sz29 : (Try.prog.info? 29).map (·.size) = some 1 := by kernel_rfl
theorem zr29 : (Try.prog.info? 29).bind (·.zero) = some (.nilFunc) := by kernel_rfl
theorem sz30 : (Try.prog.info? 30).map (·.size) = some 1 := by kernel_rfl
theorem zr30 : (Try.prog.info? 30).bind (·.zero) = some (.nilFunc) := by kernel_rfl
theorem sz31 : (Try.prog.info? 31).map (·.size) = some 1 := by kernel_rfl
theorem zr31 : (Try.prog.info? 31).bind (·.zero) = some (.slice none 0 0) := by kernel_rfl
theorem sz32 : (Try.prog.info? 32).map (·.size) = some 1 := by kernel_rfl
theorem zr32 : (Try.prog.info? 32).bind (·.zero) = some (.slice none 0 0) := by kernel_rfl
theorem sz33 : (Try.prog.info? 33).map (·.size) = some 1 := by kernel_rfl
theorem zr33 : (Try.prog.info? 33).bind (·.zero) = some (.slice none 0 0) := by kernel_rfl
theorem sz34 : (Try.prog.info? 34).map (·.size) = some 2 := by kernel_rfl
theorem zr34 : (Try.prog.info? 34).bind (·.zero) = some (.agg #[.int .i64 0, .int .i64 0]) := by kernel_rfl
theorem sz35 : (Try.prog.info? 35).map (·.size) = some 2 := by kernel_rfl
theorem zr35 : (Try.prog.info? 35).bind (·.zero) = some (.agg #[.int .i64 0, .int .i64 0]) := by kernel_rfl
theorem in35 : (Try.prog.info? 35).map (fun i => (i.zero, i.size, i.bytes)) = some (some (.agg #[.int .i64 0, .int .i64 0]), 2, 16) := by kernel_rfl
theorem sz36 : (Try.prog.info? 36).map (·.size) = some 5 := by kernel_rfl
theorem zr36 : (Try.prog.info? 36).bind (·.zero) = some (.agg #[.int .i64 0, .int .i64 0, .int .i64 0, .int .i64 0, .int .i64 0]) := by kernel_rfl
theorem sz37 : (Try.prog.info? 37).map (·.size) = some 5 := by kernel_rfl
theorem zr37 : (Try.prog.info? 37).bind (·.zero) = some (.agg #[.int .i64 0, .int .i64 0, .int .i64 0, .int .i64 0, .int .i64 0]) := by kernel_rfl
theorem in37 : (Try.prog.info? 37).map (fun i => (i.zero, i.size, i.bytes)) = some (some (.agg #[.int .i64 0, .int .i64 0, .int .i64 0, .int .i64 0, .int .i64 0]), 5, 40) := by kernel_rfl
theorem sz38 : (Try.prog.info? 38).map (·.size) = some 1 := by kernel_rfl
theorem zr38 : (Try.prog.info? 38).bind (·.zero) = some (.nilFunc) := by kernel_rfl
theorem sz40 : (Try.prog.info? 40).map (·.size) = some 1 := by kernel_rfl
theorem zr40 : (Try.prog.info? 40).bind (·.zero) = some (.nilFunc) := by kernel_rfl
theorem sz41 : (Try.prog.info? 41).map (·.size) = some 1 := by kernel_rfl
theorem zr41 : (Try.prog.info? 41).bind (·.zero) = some (.nilFunc) := by kernel_rfl
theorem sz43 : (Try.prog.info? 43).map (·.size) = some 1 := by kernel_rfl
theorem zr43 : (Try.prog.info? 43).bind (·.zero) = some (.nilFunc) := by kernel_rfl
theorem sz44 : (Try.prog.info? 44).map (·.size) = some 1 := by kernel_rfl
theorem zr44 : (Try.prog.info? 44).bind (·.zero) = some (.nilFunc) := by kernel_rfl
theorem sz45 : (Try.prog.info? 45).map (·.size) = some 1 := by kernel_rfl
theorem zr45 : (Try.prog.info? 45).bind (·.zero) = some (.pointer none) := by kernel_rfl
theorem sz46 : (Try.prog.info? 46).map (·.size) = some 1 := by kernel_rfl
theorem zr46 : (Try.prog.info? 46).bind (·.zero) = some (.slice none 0 0) := by kernel_rfl
theorem sz47 : (Try.prog.info? 47).map (·.size) = some 1 := by kernel_rfl
theorem zr47 : (Try.prog.info? 47).bind (·.zero) = some (.slice none 0 0) := by kernel_rfl
theorem sz48 : (Try.prog.info? 48).map (·.size) = some 1 := by kernel_rfl
theorem zr48 : (Try.prog.info? 48).bind (·.zero) = some (.slice none 0 0) := by kernel_rfl
theorem sz49 : (Try.prog.info? 49).map (·.size) = some 1 := by kernel_rfl
theorem zr49 : (Try.prog.info? 49).bind (·.zero) = some (.slice none 0 0) := by kernel_rfl
theorem sz50 : (Try.prog.info? 50).map (·.size) = some 1 := by kernel_rfl
theorem zr50 : (Try.prog.info? 50).bind (·.zero) = some (.slice none 0 0) := by kernel_rfl
theorem sz51 : (Try.prog.info? 51).map (·.size) = some 6 := by kernel_rfl
theorem zr51 : (Try.prog.info? 51).bind (·.zero) = some (.agg #[.slice none 0 0, .slice none 0 0, .slice none 0 0, .slice none 0 0, .bool false, .int .i64 0]) := by kernel_rfl
theorem sz52 : (Try.prog.info? 52).map (·.size) = some 6 := by kernel_rfl
theorem zr52 : (Try.prog.info? 52).bind (·.zero) = some (.agg #[.slice none 0 0, .slice none 0 0, .slice none 0 0, .slice none 0 0, .bool false, .int .i64 0]) := by kernel_rfl
theorem sz53 : (Try.prog.info? 53).map (·.size) = some 9 := by kernel_rfl
theorem zr53 : (Try.prog.info? 53).bind (·.zero) = some (.agg #[.slice none 0 0, .slice none 0 0, .slice none 0 0, .slice none 0 0, .bool false, .int .i64 0, .pointer none, .slice none 0 0, .slice none 0 0]) := by kernel_rfl
theorem sz54 : (Try.prog.info? 54).map (·.size) = some 9 := by kernel_rfl
theorem zr54 : (Try.prog.info? 54).bind (·.zero) = some (.agg #[.slice none 0 0, .slice none 0 0, .slice none 0 0, .slice none 0 0, .bool false, .int .i64 0, .pointer none, .slice none 0 0, .slice none 0 0]) := by kernel_rfl
theorem sz55 : (Try.prog.info? 55).map (·.size) = some 1 := by kernel_rfl
theorem zr55 : (Try.prog.info? 55).bind (·.zero) = some (.nilFunc) := by kernel_rfl
theorem sz56 : (Try.prog.info? 56).map (·.size) = some 1 := by kernel_rfl
theorem zr56 : (Try.prog.info? 56).bind (·.zero) = some (.nilFunc) := by kernel_rfl
theorem sz57 : (Try.prog.info? 57).map (·.size) = some 1 := by kernel_rfl
theorem zr57 : (Try.prog.info? 57).bind (·.zero) = some (.pointer none) := by kernel_rfl
theorem sz59 : (Try.prog.info? 59).map (·.size) = some 1 := by kernel_rfl
theorem zr59 : (Try.prog.info? 59).bind (·.zero) = some (.nilFunc) := by kernel_rfl
theorem sz60 : (Try.prog.info? 60).map (·.size) = some 3 := by kernel_rfl
theorem zr60 : (Try.prog.info? 60).bind (·.zero) = some (.agg #[.int .i64 0, .slice none 0 0, .int .i64 0]) := by kernel_rfl
theorem sz61 : (Try.prog.info? 61).map (·.size) = some 3 := by kernel_rfl
theorem zr61 : (Try.prog.info? 61).bind (·.zero) = some (.agg #[.int .i64 0, .slice none 0 0, .int .i64 0]) := by kernel_rfl
theorem sz62 : (Try.prog.info? 62).map (·.size) = some 1 := by kernel_rfl
theorem zr62 : (Try.prog.info? 62).bind (·.zero) = some (.nilFunc) := by kernel_rfl
theorem sz63 : (Try.prog.info? 63).map (·.size) = some 1 := by kernel_rfl
theorem zr63 : (Try.prog.info? 63).bind (·.zero) = some (.nilFunc) := by kernel_rfl
theorem sz64 : (Try.prog.info? 64).map (·.size) = some 1 := by kernel_rfl
theorem zr64 : (Try.prog.info? 64).bind (·.zero) = some (.nilFunc) := by kernel_rfl
theorem sz65 : (Try.prog.info? 65).map (·.size) = some 1 := by kernel_rfl
theorem zr65 : (Try.prog.info? 65).bind (·.zero) = some (.nilFunc) := by kernel_rfl
theorem sz66 : (Try.prog.info? 66).map (·.size) = some 1 := by kernel_rfl
theorem zr66 : (Try.prog.info? 66).bind (·.zero) = some (.nilFunc) := by kernel_rfl
theorem sz67 : (Try.prog.info? 67).map (·.size) = some 1 := by kernel_rfl
theorem zr67 : (Try.prog.info? 67).bind (·.zero) = some (.nilFunc) := by kernel_rfl
theorem sz68 : (Try.prog.info? 68).map (·.size) = some 1 := by kernel_rfl
theorem zr68 : (Try.prog.info? 68).bind (·.zero) = some (.pointer none) := by kernel_rfl
theorem sz69 : (Try.prog.info? 69).map (·.size) = some 1 := by kernel_rfl
theorem zr69 : (Try.prog.info? 69).bind (·.zero) = some (.nilFunc) := by kernel_rfl
theorem sz70 : (Try.prog.info? 70).map (·.size) = some 1 := by kernel_rfl
theorem zr70 : (Try.prog.info? 70).bind (·.zero) = some (.pointer none) := by kernel_rfl
theorem sz71 : (Try.prog.info? 71).map (·.size) = some 0 := by kernel_rfl
theorem zr71 : (Try.prog.info? 71).bind (·.zero) = some (.agg #[]) := by kernel_rfl
theorem sz72 : (Try.prog.info? 72).map (·.size) = some 0 := by kernel_rfl
theorem zr72 : (Try.prog.info? 72).bind (·.zero) = some (.agg #[]) := by kernel_rfl
theorem sz73 : (Try.prog.info? 73).map (·.size) = some 0 := by kernel_rfl
theorem zr73 : (Try.prog.info? 73).bind (·.zero) = some (.agg #[]) := by kernel_rfl
theorem sz74 : (Try.prog.info? 74).map (·.size) = some 1 := by kernel_rfl
theorem zr74 : (Try.prog.info? 74).bind (·.zero) = some (.pointer none) := by kernel_rfl
theorem sz75 : (Try.prog.info? 75).map (·.size) = some 1 := by kernel_rfl
theorem zr75 : (Try.prog.info? 75).bind (·.zero) = some (.agg #[.pointer none]) := by kernel_rfl
theorem sz76 : (Try.prog.info? 76).map (·.size) = some 1 := by kernel_rfl
theorem zr76 : (Try.prog.info? 76).bind (·.zero) = some (.agg #[.pointer none]) := by kernel_rfl
theorem sz77 : (Try.prog.info? 77).map (·.size) = some 5 := by kernel_rfl
theorem zr77 : (Try.prog.info? 77).bind (·.zero) = some (.agg #[.pointer none, .int .i64 0, .int .i64 0, .pointer none, .pointer none]) := by kernel_rfl
theorem sz78 : (Try.prog.info? 78).map (·.size) = some 5 := by kernel_rfl
theorem zr78 : (Try.prog.info? 78).bind (·.zero) = some (.agg #[.pointer none, .int .i64 0, .int .i64 0, .pointer none, .pointer none]) := by kernel_rfl
theorem sz79 : (Try.prog.info? 79).map (·.size) = some 1 := by kernel_rfl
theorem zr79 : (Try.prog.info? 79).bind (·.zero) = some (.nilFunc) := by kernel_rfl
theorem sz80 : (Try.prog.info? 80).map (·.size) = some 1 := by kernel_rfl
theorem zr80 : (Try.prog.info? 80).bind (·.zero) = some (.slice none 0 0) := by kernel_rfl
theorem sz81 : (Try.prog.info? 81).map (·.size) = some 1 := by kernel_rfl
theorem zr81 : (Try.prog.info? 81).bind (·.zero) = some (.agg #[.bool false]) := by kernel_rfl
theorem sz82 : (Try.prog.info? 82).map (·.size) = some 1 := by kernel_rfl
theorem zr82 : (Try.prog.info? 82).bind (·.zero) = some (.agg #[.bool false]) := by kernel_rfl
theorem sz83 : (Try.prog.info? 83).map (·.size) = some 1 := by kernel_rfl
theorem zr83 : (Try.prog.info? 83).bind (·.zero) = some (.pointer none) := by kernel_rfl
theorem sz84 : (Try.prog.info? 84).map (·.size) = some 1 := by kernel_rfl
theorem zr84 : (Try.prog.info? 84).bind (·.zero) = some (.nilFunc) := by kernel_rfl
theorem sz85 : (Try.prog.info? 85).map (·.size) = some 1 := by kernel_rfl
theorem zr85 : (Try.prog.info? 85).bind (·.zero) = some (.pointer none) := by kernel_rfl
theorem in85 : (Try.prog.info? 85).map (fun i => (i.zero, i.size, i.bytes)) = some (some (.pointer none), 1, 8) := by kernel_rfl
theorem sz86 : (Try.prog.info? 86).map (·.size) = some 1 := by kernel_rfl
theorem zr86 : (Try.prog.info? 86).bind (·.zero) = some (.nilFunc) := by kernel_rfl
theorem sz87 : (Try.prog.info? 87).map (·.size) = some 1 := by kernel_rfl
theorem zr87 : (Try.prog.info? 87).bind (·.zero) = some (.nilFunc) := by kernel_rfl
theorem sz88 : (Try.prog.info? 88).map (·.size) = some 1 := by kernel_rfl
theorem zr88 : (Try.prog.info? 88).bind (·.zero) = some (.nilFunc) := by kernel_rfl
theorem sz89 : (Try.prog.info? 89).map (·.size) = some 3 := by kernel_rfl
theorem zr89 : (Try.prog.info? 89).bind (·.zero) = some (.agg #[.int .i64 0, .bool false, .int .i64 0]) := by kernel_rfl
theorem sz90 : (Try.prog.info? 90).map (·.size) = some 3 := by kernel_rfl
theorem zr90 : (Try.prog.info? 90).bind (·.zero) = some (.agg #[.int .i64 0, .bool false, .int .i64 0]) := by kernel_rfl
theorem sz91 : (Try.prog.info? 91).map (·.size) = some 1 := by kernel_rfl
theorem zr91 : (Try.prog.info? 91).bind (·.zero) = some (.nilFunc) := by kernel_rfl
theorem sz92 : (Try.prog.info? 92).map (·.size) = some 1 := by kernel_rfl
theorem zr92 : (Try.prog.info? 92).bind (·.zero) = some (.nilFunc) := by kernel_rfl
theorem sz93 : (Try.prog.info? 93).map (·.size) = some 1 := by kernel_rfl
theorem zr93 : (Try.prog.info? 93).bind (·.zero) = some (.nilFunc) := by kernel_rfl
theorem sz94 : (Try.prog.info? 94).map (·.size) = some 1 := by kernel_rfl
theorem zr94 : (Try.prog.info? 94).bind (·.zero) = some (.pointer none) := by kernel_rfl
theorem sz95 : (Try.prog.info? 95).map (·.size) = some 1 := by kernel_rfl
theorem zr95 : (Try.prog.info? 95).bind (·.zero) = some (.nilFunc) := by kernel_rfl
theorem sz96 : (Try.prog.info? 96).map (·.size) = some 1 := by kernel_rfl
theorem zr96 : (Try.prog.info? 96).bind (·.zero) = some (.pointer none) := by kernel_rfl
theorem sz97 : (Try.prog.info? 97).map (·.size) = some 1 := by kernel_rfl
theorem zr97 : (Try.prog.info? 97).bind (·.zero) = some (.nilFunc) := by kernel_rfl
theorem sz98 : (Try.prog.info? 98).map (·.size) = some 1 := by kernel_rfl
theorem zr98 : (Try.prog.info? 98).bind (·.zero) = some (.slice none 0 0) := by kernel_rfl
theorem sz99 : (Try.prog.info? 99).map (·.size) = some 1 := by kernel_rfl
theorem zr99 : (Try.prog.info? 99).bind (·.zero) = some (.slice none 0 0) := by kernel_rfl
theorem sz100 : (Try.prog.info? 100).map (·.size) = some 4 := by kernel_rfl
theorem zr100 : (Try.prog.info? 100).bind (·.zero) = some (.agg #[.pointer none, .pointer none, .slice none 0 0, .pointer none]) := by kernel_rfl
theorem sz101 : (Try.prog.info? 101).map (·.size) = some 4 := by kernel_rfl
theorem zr101 : (Try.prog.info? 101).bind (·.zero) = some (.agg #[.pointer none, .pointer none, .slice none 0 0, .pointer none]) := by kernel_rfl
theorem sz102 : (Try.prog.info? 102).map (·.size) = some 1 := by kernel_rfl
theorem zr102 : (Try.prog.info? 102).bind (·.zero) = some (.pointer none) := by kernel_rfl
theorem sz103 : (Try.prog.info? 103).map (·.size) = some 1 := by kernel_rfl
theorem zr103 : (Try.prog.info? 103).bind (·.zero) = some (.nilFunc) := by kernel_rfl
theorem sz104 : (Try.prog.info? 104).map (·.size) = some 1 := by kernel_rfl
theorem zr104 : (Try.prog.info? 104).bind (·.zero) = some (.nilFunc) := by kernel_rfl
theorem sz105 : (Try.prog.info? 105).map (·.size) = some 1 := by kernel_rfl
theorem zr105 : (Try.prog.info? 105).bind (·.zero) = some (.nilFunc) := by kernel_rfl
theorem sz106 : (Try.prog.info? 106).map (·.size) = some 1 := by kernel_rfl
theorem zr106 : (Try.prog.info? 106).bind (·.zero) = some (.nilFunc) := by kernel_rfl
theorem sz107 : (Try.prog.info? 107).map (·.size) = some 1 := by kernel_rfl
theorem zr107 : (Try.prog.info? 107).bind (·.zero) = some (.nilFunc) := by kernel_rfl
theorem sz108 : (Try.prog.info? 108).map (·.size) = some 1 := by kernel_rfl
theorem zr108 : (Try.prog.info? 108).bind (·.zero) = some (.nilFunc) := by kernel_rfl
theorem sz109 : (Try.prog.info? 109).map (·.size) = some 3 := by kernel_rfl
theorem zr109 : (Try.prog.info? 109).bind (·.zero) = some (.agg #[.int .i64 0, .int .i64 0, .int .i64 0]) := by kernel_rfl
theorem sz110 : (Try.prog.info? 110).map (·.size) = some 3 := by kernel_rfl
theorem zr110 : (Try.prog.info? 110).bind (·.zero) = some (.agg #[.int .i64 0, .int .i64 0, .int .i64 0]) := by kernel_rfl
theorem sz111 : (Try.prog.info? 111).map (·.size) = some 1 := by kernel_rfl
theorem zr111 : (Try.prog.info? 111).bind (·.zero) = some (.nilFunc) := by kernel_rfl
theorem sz112 : (Try.prog.info? 112).map (·.size) = some 1 := by kernel_rfl
theorem zr112 : (Try.prog.info? 112).bind (·.zero) = some (.nilFunc) := by kernel_rfl
theorem sz113 : (Try.prog.info? 113).map (·.size) = some 1 := by kernel_rfl
theorem zr113 : (Try.prog.info? 113).bind (·.zero) = some (.nilFunc) := by kernel_rfl
theorem sz114 : (Try.prog.info? 114).map (·.size) = some 1 := by kernel_rfl
theorem zr114 : (Try.prog.info? 114).bind (·.zero) = some (.pointer none) := by kernel_rfl
theorem sz115 : (Try.prog.info? 115).map (·.size) = some 1 := by kernel_rfl
theorem zr115 : (Try.prog.info? 115).bind (·.zero) = some (.nilFunc) := by kernel_rfl
theorem sz116 : (Try.prog.info? 116).map (·.size) = some 1 := by kernel_rfl
theorem zr116 : (Try.prog.info? 116).bind (·.zero) = some (.pointer none) := by kernel_rfl
theorem sz117 : (Try.prog.info? 117).map (·.size) = some 1 := by kernel_rfl
theorem zr117 : (Try.prog.info? 117).bind (·.zero) = some (.slice none 0 0) := by kernel_rfl
theorem sz118 : (Try.prog.info? 118).map (·.size) = some 3 := by kernel_rfl
theorem zr118 : (Try.prog.info? 118).bind (·.zero) = some (.agg #[.pointer none, .pointer none, .slice none 0 0]) := by kernel_rfl
theorem sz119 : (Try.prog.info? 119).map (·.size) = some 3 := by kernel_rfl
theorem zr119 : (Try.prog.info? 119).bind (·.zero) = some (.agg #[.pointer none, .pointer none, .slice none 0 0]) := by kernel_rfl
theorem sz120 : (Try.prog.info? 120).map (·.size) = some 1 := by kernel_rfl
theorem zr120 : (Try.prog.info? 120).bind (·.zero) = some (.nilFunc) := by kernel_rfl
theorem sz121 : (Try.prog.info? 121).map (·.size) = some 7 := by kernel_rfl
theorem zr121 : (Try.prog.info? 121).bind (·.zero) = some (.agg #[.int .i64 0, .int .i64 0, .int .i64 0, .slice none 0 0, .int .i64 0, .int .i64 0, .int .i64 0]) := by kernel_rfl
theorem sz122 : (Try.prog.info? 122).map (·.size) = some 7 := by kernel_rfl
theorem zr122 : (Try.prog.info? 122).bind (·.zero) = some (.agg #[.int .i64 0, .int .i64 0, .int .i64 0, .slice none 0 0, .int .i64 0, .int .i64 0, .int .i64 0]) := by kernel_rfl
theorem sz123 : (Try.prog.info? 123).map (·.size) = some 2 := by kernel_rfl
theorem zr123 : (Try.prog.info? 123).bind (·.zero) = some (.agg #[.int .i64 0, .int .i64 0]) := by kernel_rfl
theorem sz124 : (Try.prog.info? 124).map (·.size) = some 2 := by kernel_rfl
theorem zr124 : (Try.prog.info? 124).bind (·.zero) = some (.agg #[.int .i64 0, .int .i64 0]) := by kernel_rfl
theorem sz125 : (Try.prog.info? 125).map (·.size) = some 4 := by kernel_rfl
theorem zr125 : (Try.prog.info? 125).bind (·.zero) = some (.agg #[.int .i64 0, .int .i64 0, .pointer none, .slice none 0 0]) := by kernel_rfl
theorem sz126 : (Try.prog.info? 126).map (·.size) = some 4 := by kernel_rfl
theorem zr126 : (Try.prog.info? 126).bind (·.zero) = some (.agg #[.int .i64 0, .int .i64 0, .pointer none, .slice none 0 0]) := by kernel_rfl
theorem sz127 : (Try.prog.info? 127).map (·.size) = some 1 := by kernel_rfl
theorem zr127 : (Try.prog.info? 127).bind (·.zero) = some (.pointer none) := by kernel_rfl
theorem sz128 : (Try.prog.info? 128).map (·.size) = some 1 := by kernel_rfl
theorem zr128 : (Try.prog.info? 128).bind (·.zero) = some (.nilFunc) := by kernel_rfl
theorem sz129 : (Try.prog.info? 129).map (·.size) = some 1 := by kernel_rfl
theorem zr129 : (Try.prog.info? 129).bind (·.zero) = some (.pointer none) := by kernel_rfl
theorem sz130 : (Try.prog.info? 130).map (·.size) = some 1 := by kernel_rfl
theorem zr130 : (Try.prog.info? 130).bind (·.zero) = some (.nilFunc) := by kernel_rfl
theorem sz131 : (Try.prog.info? 131).map (·.size) = some 6 := by kernel_rfl
theorem zr131 : (Try.prog.info? 131).bind (·.zero) = some (.agg #[.int .i64 0, .int .i64 0, .pointer none, .int .i64 0, .bool false, .int .i64 0]) := by kernel_rfl
theorem sz132 : (Try.prog.info? 132).map (·.size) = some 6 := by kernel_rfl
theorem zr132 : (Try.prog.info? 132).bind (·.zero) = some (.agg #[.int .i64 0, .int .i64 0, .pointer none, .int .i64 0, .bool false, .int .i64 0]) := by kernel_rfl
theorem sz133 : (Try.prog.info? 133).map (·.size) = some 1 := by kernel_rfl
theorem zr133 : (Try.prog.info? 133).bind (·.zero) = some (.nilFunc) := by kernel_rfl
theorem sz134 : (Try.prog.info? 134).map (·.size) = some 1 := by kernel_rfl
theorem zr134 : (Try.prog.info? 134).bind (·.zero) = some (.pointer none) := by kernel_rfl
theorem sz135 : (Try.prog.info? 135).map (·.size) = some 0 := by kernel_rfl
theorem zr135 : (Try.prog.info? 135).bind (·.zero) = some (.agg #[]) := by kernel_rfl
theorem sz136 : (Try.prog.info? 136).map (·.size) = some 1 := by kernel_rfl
theorem zr136 : (Try.prog.info? 136).bind (·.zero) = some (.agg #[.pointer none]) := by kernel_rfl
theorem sz137 : (Try.prog.info? 137).map (·.size) = some 1 := by kernel_rfl
theorem zr137 : (Try.prog.info? 137).bind (·.zero) = some (.agg #[.pointer none]) := by kernel_rfl
theorem sz138 : (Try.prog.info? 138).map (·.size) = some 7 := by kernel_rfl
theorem zr138 : (Try.prog.info? 138).bind (·.zero) = some (.agg #[.int .i64 0, .int .i64 0, .pointer none, .int .i64 0, .slice none 0 0, .int .i64 0, .pointer none]) := by kernel_rfl
theorem sz139 : (Try.prog.info? 139).map (·.size) = some 7 := by kernel_rfl
theorem zr139 : (Try.prog.info? 139).bind (·.zero) = some (.agg #[.int .i64 0, .int .i64 0, .pointer none, .int .i64 0, .slice none 0 0, .int .i64 0, .pointer none]) := by kernel_rfl
theorem sz140 : (Try.prog.info? 140).map (·.size) = some 1 := by kernel_rfl
theorem zr140 : (Try.prog.info? 140).bind (·.zero) = some (.nilFunc) := by kernel_rfl
theorem sz141 : (Try.prog.info? 141).map (·.size) = some 4 := by kernel_rfl
theorem zr141 : (Try.prog.info? 141).bind (·.zero) = some (.agg #[.int .i64 0, .int .i64 0, .pointer none, .slice none 0 0]) := by kernel_rfl
theorem sz142 : (Try.prog.info? 142).map (·.size) = some 4 := by kernel_rfl
theorem zr142 : (Try.prog.info? 142).bind (·.zero) = some (.agg #[.int .i64 0, .int .i64 0, .pointer none, .slice none 0 0]) := by kernel_rfl
theorem sz143 : (Try.prog.info? 143).map (·.size) = some 1 := by kernel_rfl
theorem zr143 : (Try.prog.info? 143).bind (·.zero) = some (.pointer none) := by kernel_rfl
theorem sz144 : (Try.prog.info? 144).map (·.size) = some 0 := by kernel_rfl
theorem zr144 : (Try.prog.info? 144).bind (·.zero) = some (.agg #[]) := by kernel_rfl
theorem sz145 : (Try.prog.info? 145).map (·.size) = some 1 := by kernel_rfl
theorem zr145 : (Try.prog.info? 145).bind (·.zero) = some (.agg #[.pointer none]) := by kernel_rfl
theorem sz146 : (Try.prog.info? 146).map (·.size) = some 1 := by kernel_rfl
theorem zr146 : (Try.prog.info? 146).bind (·.zero) = some (.agg #[.pointer none]) := by kernel_rfl
theorem sz147 : (Try.prog.info? 147).map (·.size) = some 5 := by kernel_rfl
theorem zr147 : (Try.prog.info? 147).bind (·.zero) = some (.agg #[.int .i64 0, .int .i64 0, .pointer none, .int .i64 0, .pointer none]) := by kernel_rfl
theorem sz148 : (Try.prog.info? 148).map (·.size) = some 5 := by kernel_rfl
theorem zr148 : (Try.prog.info? 148).bind (·.zero) = some (.agg #[.int .i64 0, .int .i64 0, .pointer none, .int .i64 0, .pointer none]) := by kernel_rfl
theorem sz149 : (Try.prog.info? 149).map (·.size) = some 1 := by kernel_rfl
theorem zr149 : (Try.prog.info? 149).bind (·.zero) = some (.nilFunc) := by kernel_rfl
theorem sz150 : (Try.prog.info? 150).map (·.size) = some 1 := by kernel_rfl
theorem zr150 : (Try.prog.info? 150).bind (·.zero) = some (.nilFunc) := by kernel_rfl
theorem sz151 : (Try.prog.info? 151).map (·.size) = some 1 := by kernel_rfl
theorem zr151 : (Try.prog.info? 151).bind (·.zero) = some (.nilFunc) := by kernel_rfl
theorem sz152 : (Try.prog.info? 152).map (·.size) = some 1 := by kernel_rfl
theorem zr152 : (Try.prog.info? 152).bind (·.zero) = some (.slice none 0 0) := by kernel_rfl
theorem sz153 : (Try.prog.info? 153).map (·.size) = some 5 := by kernel_rfl
theorem zr153 : (Try.prog.info? 153).bind (·.zero) = some (.agg #[.int .i64 0, .slice none 0 0, .int .i64 0, .slice none 0 0, .bool false]) := by kernel_rfl
theorem sz154 : (Try.prog.info? 154).map (·.size) = some 5 := by kernel_rfl
theorem zr154 : (Try.prog.info? 154).bind (·.zero) = some (.agg #[.int .i64 0, .slice none 0 0, .int .i64 0, .slice none 0 0, .bool false]) := by kernel_rfl
theorem sz156 : (Try.prog.info? 156).map (·.size) = some 1 := by kernel_rfl
theorem zr156 : (Try.prog.info? 156).bind (·.zero) = some (.nilFunc) := by kernel_rfl
theorem sz157 : (Try.prog.info? 157).map (·.size) = some 5 := by kernel_rfl
theorem zr157 : (Try.prog.info? 157).bind (·.zero) = some (.agg #[.int .i64 0, .int .i64 0, .int .i64 0, .int .i64 0, .bool false]) := by kernel_rfl
theorem sz158 : (Try.prog.info? 158).map (·.size) = some 5 := by kernel_rfl
theorem zr158 : (Try.prog.info? 158).bind (·.zero) = some (.agg #[.int .i64 0, .int .i64 0, .int .i64 0, .int .i64 0, .bool false]) := by kernel_rfl
theorem sz159 : (Try.prog.info? 159).map (·.size) = some 1 := by kernel_rfl
theorem zr159 : (Try.prog.info? 159).bind (·.zero) = some (.nilFunc) := by kernel_rfl
theorem sz160 : (Try.prog.info? 160).map (·.size) = some 3 := by kernel_rfl
theorem zr160 : (Try.prog.info? 160).bind (·.zero) = some (.agg #[.int .i64 0, .int .i64 0, .int .i64 0]) := by kernel_rfl
theorem sz161 : (Try.prog.info? 161).map (·.size) = some 3 := by kernel_rfl
theorem zr161 : (Try.prog.info? 161).bind (·.zero) = some (.agg #[.int .i64 0, .int .i64 0, .int .i64 0]) := by kernel_rfl
theorem sz162 : (Try.prog.info? 162).map (·.size) = some 1 := by kernel_rfl
theorem zr162 : (Try.prog.info? 162).bind (·.zero) = some (.pointer none) := by kernel_rfl
theorem sz163 : (Try.prog.info? 163).map (·.size) = some 1 := by kernel_rfl
theorem zr163 : (Try.prog.info? 163).bind (·.zero) = some (.pointer none) := by kernel_rfl
theorem sz164 : (Try.prog.info? 164).map (·.size) = some 1 := by kernel_rfl
theorem zr164 : (Try.prog.info? 164).bind (·.zero) = some (.nilFunc) := by kernel_rfl
theorem sz165 : (Try.prog.info? 165).map (·.size) = some 1 := by kernel_rfl
theorem zr165 : (Try.prog.info? 165).bind (·.zero) = some (.pointer none) := by kernel_rfl
theorem sz166 : (Try.prog.info? 166).map (·.size) = some 1 := by kernel_rfl
theorem zr166 : (Try.prog.info? 166).bind (·.zero) = some (.chan none) := by kernel_rfl
theorem sz167 : (Try.prog.info? 167).map (·.size) = some 11 := by kernel_rfl
theorem zr167 : (Try.prog.info? 167).bind (·.zero) = some (.agg #[.int .i64 0, .pointer none, .chan none, .int .i64 0, .int .i64 0, .int .i64 0, .nilFunc, .nilFunc, .int .i64 0, .bool false, .bool false]) := by kernel_rfl
theorem sz168 : (Try.prog.info? 168).map (·.size) = some 11 := by kernel_rfl
theorem zr168 : (Try.prog.info? 168).bind (·.zero) = some (.agg #[.int .i64 0, .pointer none, .chan none, .int .i64 0, .int .i64 0, .int .i64 0, .nilFunc, .nilFunc, .int .i64 0, .bool false, .bool false]) := by kernel_rfl
theorem sz169 : (Try.prog.info? 169).map (·.size) = some 0 := by kernel_rfl
theorem zr169 : (Try.prog.info? 169).bind (·.zero) = some (.agg #[]) := by kernel_rfl
theorem sz170 : (Try.prog.info? 170).map (·.size) = some 1 := by kernel_rfl
theorem zr170 : (Try.prog.info? 170).bind (·.zero) = some (.slice none 0 0) := by kernel_rfl
theorem sz171 : (Try.prog.info? 171).map (·.size) = some 1 := by kernel_rfl
theorem zr171 : (Try.prog.info? 171).bind (·.zero) = some (.chan none) := by kernel_rfl
theorem sz172 : (Try.prog.info? 172).map (·.size) = some 0 := by kernel_rfl
theorem zr172 : (Try.prog.info? 172).bind (·.zero) = some (.agg #[]) := by kernel_rfl
theorem sz173 : (Try.prog.info? 173).map (·.size) = some 0 := by kernel_rfl
theorem zr173 : (Try.prog.info? 173).bind (·.zero) = some (.agg #[]) := by kernel_rfl
theorem sz174 : (Try.prog.info? 174).map (·.size) = some 1 := by kernel_rfl
theorem zr174 : (Try.prog.info? 174).bind (·.zero) = some (.int .u64 0) := by kernel_rfl
theorem sz175 : (Try.prog.info? 175).map (·.size) = some 1 := by kernel_rfl
theorem zr175 : (Try.prog.info? 175).bind (·.zero) = some (.agg #[.int .u64 0]) := by kernel_rfl
theorem sz176 : (Try.prog.info? 176).map (·.size) = some 1 := by kernel_rfl
theorem zr176 : (Try.prog.info? 176).bind (·.zero) = some (.agg #[.int .u64 0]) := by kernel_rfl
theorem sz177 : (Try.prog.info? 177).map (·.size) = some 1 := by kernel_rfl
theorem zr177 : (Try.prog.info? 177).bind (·.zero) = some (.int .u32 0) := by kernel_rfl
theorem sz178 : (Try.prog.info? 178).map (·.size) = some 2 := by kernel_rfl
theorem zr178 : (Try.prog.info? 178).bind (·.zero) = some (.agg #[.int .u64 0, .int .u32 0]) := by kernel_rfl
theorem sz179 : (Try.prog.info? 179).map (·.size) = some 2 := by kernel_rfl
theorem zr179 : (Try.prog.info? 179).bind (·.zero) = some (.agg #[.int .u64 0, .int .u32 0]) := by kernel_rfl
theorem sz180 : (Try.prog.info? 180).map (·.size) = some 10 := by kernel_rfl
theorem zr180 : (Try.prog.info? 180).bind (·.zero) = some (.agg #[.slice none 0 0, .slice none 0 0, .slice none 0 0, .slice none 0 0, .slice none 0 0, .bool false, .int .i64 0, .chan none, .int .u64 0, .int .u32 0]) := by kernel_rfl
theorem sz181 : (Try.prog.info? 181).map (·.size) = some 10 := by kernel_rfl
theorem zr181 : (Try.prog.info? 181).bind (·.zero) = some (.agg #[.slice none 0 0, .slice none 0 0, .slice none 0 0, .slice none 0 0, .slice none 0 0, .bool false, .int .i64 0, .chan none, .int .u64 0, .int .u32 0]) := by kernel_rfl
theorem sz182 : (Try.prog.info? 182).map (·.size) = some 1 := by kernel_rfl
theorem zr182 : (Try.prog.info? 182).bind (·.zero) = some (.nilFunc) := by kernel_rfl
theorem sz183 : (Try.prog.info? 183).map (·.size) = some 4 := by kernel_rfl
theorem zr183 : (Try.prog.info? 183).bind (·.zero) = some (.agg #[.pointer none, .pointer none, .pointer none, .string ByteArray.empty]) := by kernel_rfl
theorem sz184 : (Try.prog.info? 184).map (·.size) = some 4 := by kernel_rfl
theorem zr184 : (Try.prog.info? 184).bind (·.zero) = some (.agg #[.pointer none, .pointer none, .pointer none, .string ByteArray.empty]) := by kernel_rfl
theorem sz185 : (Try.prog.info? 185).map (·.size) = some 0 := by kernel_rfl
theorem zr185 : (Try.prog.info? 185).bind (·.zero) = some (.agg #[]) := by kernel_rfl
theorem sz186 : (Try.prog.info? 186).map (·.size) = some 0 := by kernel_rfl
theorem zr186 : (Try.prog.info? 186).bind (·.zero) = some (.agg #[]) := by kernel_rfl
theorem sz187 : (Try.prog.info? 187).map (·.size) = some 0 := by kernel_rfl
theorem zr187 : (Try.prog.info? 187).bind (·.zero) = some (.agg #[]) := by kernel_rfl
theorem sz188 : (Try.prog.info? 188).map (·.size) = some 1 := by kernel_rfl
theorem zr188 : (Try.prog.info? 188).bind (·.zero) = some (.int .u8 0) := by kernel_rfl
theorem sz189 : (Try.prog.info? 189).map (·.size) = some 1 := by kernel_rfl
theorem zr189 : (Try.prog.info? 189).bind (·.zero) = some (.int .u8 0) := by kernel_rfl
theorem sz190 : (Try.prog.info? 190).map (·.size) = some 1 := by kernel_rfl
theorem zr190 : (Try.prog.info? 190).bind (·.zero) = some (.nilFunc) := by kernel_rfl
theorem sz191 : (Try.prog.info? 191).map (·.size) = some 1 := by kernel_rfl
theorem zr191 : (Try.prog.info? 191).bind (·.zero) = some (.pointer none) := by kernel_rfl
theorem sz192 : (Try.prog.info? 192).map (·.size) = some 1 := by kernel_rfl
theorem zr192 : (Try.prog.info? 192).bind (·.zero) = some (.int .i32 0) := by kernel_rfl
theorem sz193 : (Try.prog.info? 193).map (·.size) = some 1 := by kernel_rfl
theorem zr193 : (Try.prog.info? 193).bind (·.zero) = some (.int .i32 0) := by kernel_rfl
theorem sz194 : (Try.prog.info? 194).map (·.size) = some 11 := by kernel_rfl
theorem zr194 : (Try.prog.info? 194).bind (·.zero) = some (.agg #[.int .u64 0, .int .u64 0, .int .u32 0, .int .u8 0, .int .u8 0, .int .u8 0, .int .u8 0, .nilFunc, .pointer none, .int .i32 0, .int .i32 0]) := by kernel_rfl
theorem sz195 : (Try.prog.info? 195).map (·.size) = some 11 := by kernel_rfl
theorem zr195 : (Try.prog.info? 195).bind (·.zero) = some (.agg #[.int .u64 0, .int .u64 0, .int .u32 0, .int .u8 0, .int .u8 0, .int .u8 0, .int .u8 0, .nilFunc, .pointer none, .int .i32 0, .int .i32 0]) := by kernel_rfl
theorem sz196 : (Try.prog.info? 196).map (·.size) = some 1 := by kernel_rfl
theorem zr196 : (Try.prog.info? 196).bind (·.zero) = some (.nilFunc) := by kernel_rfl
theorem sz197 : (Try.prog.info? 197).map (·.size) = some 1 := by kernel_rfl
theorem zr197 : (Try.prog.info? 197).bind (·.zero) = some (.slice none 0 0) := by kernel_rfl
theorem sz198 : (Try.prog.info? 198).map (·.size) = some 4 := by kernel_rfl
theorem zr198 : (Try.prog.info? 198).bind (·.zero) = some (.agg #[.int .i64 0, .int .i64 0, .int .i64 0, .int .i64 0]) := by kernel_rfl
theorem sz199 : (Try.prog.info? 199).map (·.size) = some 4 := by kernel_rfl
theorem zr199 : (Try.prog.info? 199).bind (·.zero) = some (.agg #[.int .i64 0, .int .i64 0, .int .i64 0, .int .i64 0]) := by kernel_rfl
theorem sz200 : (Try.prog.info? 200).map (·.size) = some 4 := by kernel_rfl
theorem zr200 : (Try.prog.info? 200).bind (·.zero) = some (.agg #[.int .i64 0, .int .i64 0, .int .i64 0, .string ByteArray.empty]) := by kernel_rfl
theorem sz201 : (Try.prog.info? 201).map (·.size) = some 4 := by kernel_rfl
theorem zr201 : (Try.prog.info? 201).bind (·.zero) = some (.agg #[.int .i64 0, .int .i64 0, .int .i64 0, .string ByteArray.empty]) := by kernel_rfl
theorem sz202 : (Try.prog.info? 202).map (·.size) = some 5 := by kernel_rfl
theorem zr202 : (Try.prog.info? 202).bind (·.zero) = some (.agg #[.int .i64 0, .int .i64 0, .int .i64 0, .int .i64 0, .bool false]) := by kernel_rfl
theorem sz203 : (Try.prog.info? 203).map (·.size) = some 5 := by kernel_rfl
theorem zr203 : (Try.prog.info? 203).bind (·.zero) = some (.agg #[.int .i64 0, .int .i64 0, .int .i64 0, .int .i64 0, .bool false]) := by kernel_rfl
theorem nm3 : (Try.f3.name == "runtime.NumGoroutine") = false := by kernel_rfl
theorem nm4 : (Try.f4.name == "runtime.NumGoroutine") = false := by kernel_rfl
theorem nm5 : (Try.f5.name == "runtime.NumGoroutine") = false := by kernel_rfl
theorem nm6 : (Try.f6.name == "runtime.NumGoroutine") = false := by kernel_rfl
theorem nm7 : (Try.f7.name == "runtime.NumGoroutine") = false := by kernel_rfl
theorem nm8 : (Try.f8.name == "runtime.NumGoroutine") = false := by kernel_rfl
theorem nm9 : (Try.f9.name == "runtime.NumGoroutine") = false := by kernel_rfl
theorem nm10 : (Try.f10.name == "runtime.NumGoroutine") = false := by kernel_rfl
theorem nm11 : (Try.f11.name == "runtime.NumGoroutine") = false := by kernel_rfl
theorem nm12 : (Try.f12.name == "runtime.NumGoroutine") = false := by kernel_rfl
theorem nm13 : (Try.f13.name == "runtime.NumGoroutine") = false := by kernel_rfl
theorem nm14 : (Try.f14.name == "runtime.NumGoroutine") = false := by kernel_rfl
theorem nm15 : (Try.f15.name == "runtime.NumGoroutine") = false := by kernel_rfl
theorem nm16 : (Try.f16.name == "runtime.NumGoroutine") = false := by kernel_rfl
theorem nm17 : (Try.f17.name == "runtime.NumGoroutine") = false := by kernel_rfl
theorem nm18 : (Try.f18.name == "runtime.NumGoroutine") = false := by kernel_rfl
theorem nm19 : (Try.f19.name == "runtime.NumGoroutine") = false := by kernel_rfl
theorem nm20 : (Try.f20.name == "runtime.NumGoroutine") = false := by kernel_rfl
theorem nm21 : (Try.f21.name == "runtime.NumGoroutine") = false := by kernel_rfl
theorem nm22 : (Try.f22.name == "runtime.NumGoroutine") = false := by kernel_rfl
theorem nm23 : (Try.f23.name == "runtime.NumGoroutine") = false := by kernel_rfl
theorem nm24 : (Try.f24.name == "runtime.NumGoroutine") = false := by kernel_rfl
theorem nm25 : (Try.f25.name == "runtime.NumGoroutine") = false := by kernel_rfl
theorem nm26 : (Try.f26.name == "runtime.NumGoroutine") = false := by kernel_rfl
theorem nm27 : (Try.f27.name == "runtime.NumGoroutine") = false := by kernel_rfl
theorem nm28 : (Try.f28.name == "runtime.NumGoroutine") = false := by kernel_rfl
theorem nm29 : (Try.f29.name == "runtime.NumGoroutine") = false := by kernel_rfl
theorem nm30 : (Try.f30.name == "runtime.NumGoroutine") = false := by kernel_rfl
theorem nm31 : (Try.f31.name == "runtime.NumGoroutine") = false := by kernel_rfl
theorem nm32 : (Try.f32.name == "runtime.NumGoroutine") = false := by kernel_rfl
theorem nm33 : (Try.f33.name == "runtime.NumGoroutine") = false := by kernel_rfl
theorem nm34 : (Try.f34.name == "runtime.NumGoroutine") = false := by kernel_rfl
theorem nm35 : (Try.f35.name == "runtime.NumGoroutine") = false := by kernel_rfl
theorem nm36 : (Try.f36.name == "runtime.NumGoroutine") = false := by kernel_rfl
theorem nm37 : (Try.f37.name == "runtime.NumGoroutine") = false := by kernel_rfl
theorem nm38 : (Try.f38.name == "runtime.NumGoroutine") = false := by kernel_rfl
theorem nm39 : (Try.f39.name == "runtime.NumGoroutine") = false := by kernel_rfl
theorem nm40 : (Try.f40.name == "runtime.NumGoroutine") = false := by kernel_rfl
theorem nm41 : (Try.f41.name == "runtime.NumGoroutine") = false := by kernel_rfl
theorem nm42 : (Try.f42.name == "runtime.NumGoroutine") = false := by kernel_rfl
theorem nm43 : (Try.f43.name == "runtime.NumGoroutine") = false := by kernel_rfl
theorem nm44 : (Try.f44.name == "runtime.NumGoroutine") = false := by kernel_rfl
theorem nm45 : (Try.f45.name == "runtime.NumGoroutine") = false := by kernel_rfl
theorem nm46 : (Try.f46.name == "runtime.NumGoroutine") = false := by kernel_rfl
theorem nm47 : (Try.f47.name == "runtime.NumGoroutine") = false := by kernel_rfl
theorem nm48 : (Try.f48.name == "runtime.NumGoroutine") = false := by kernel_rfl
theorem nm49 : (Try.f49.name == "runtime.NumGoroutine") = false := by kernel_rfl
theorem nm50 : (Try.f50.name == "runtime.NumGoroutine") = false := by kernel_rfl
theorem nm51 : (Try.f51.name == "runtime.NumGoroutine") = false := by kernel_rfl
theorem nm52 : (Try.f52.name == "runtime.NumGoroutine") = false := by kernel_rfl
theorem nm53 : (Try.f53.name == "runtime.NumGoroutine") = false := by kernel_rfl
theorem nm54 : (Try.f54.name == "runtime.NumGoroutine") = false := by kernel_rfl
theorem nm55 : (Try.f55.name == "runtime.NumGoroutine") = false := by kernel_rfl
theorem nm56 : (Try.f56.name == "runtime.NumGoroutine") = false := by kernel_rfl
theorem nm57 : (Try.f57.name == "runtime.NumGoroutine") = false := by kernel_rfl
theorem nm58 : (Try.f58.name == "runtime.NumGoroutine") = false := by kernel_rfl
theorem nm59 : (Try.f59.name == "runtime.NumGoroutine") = false := by kernel_rfl
theorem nm60 : (Try.f60.name == "runtime.NumGoroutine") = false := by kernel_rfl
theorem nm61 : (Try.f61.name == "runtime.NumGoroutine") = false := by kernel_rfl
theorem nm62 : (Try.f62.name == "runtime.NumGoroutine") = false := by kernel_rfl
theorem nm63 : (Try.f63.name == "runtime.NumGoroutine") = false := by kernel_rfl
theorem nm64 : (Try.f64.name == "runtime.NumGoroutine") = false := by kernel_rfl
theorem nm65 : (Try.f65.name == "runtime.NumGoroutine") = false := by kernel_rfl
theorem nm66 : (Try.f66.name == "runtime.NumGoroutine") = false := by kernel_rfl
theorem nm67 : (Try.f67.name == "runtime.NumGoroutine") = false := by kernel_rfl
theorem nm68 : (Try.f68.name == "runtime.NumGoroutine") = false := by kernel_rfl
theorem nm69 : (Try.f69.name == "runtime.NumGoroutine") = false := by kernel_rfl
theorem nm70 : (Try.f70.name == "runtime.NumGoroutine") = false := by kernel_rfl
theorem nm71 : (Try.f71.name == "runtime.NumGoroutine") = false := by kernel_rfl

end Go.Proofs.Ytahcjihhkmolpaa
