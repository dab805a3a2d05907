/-
  Texts T, Ch, one behind the other.
-/
import Derived.Test.YtaeacialcbahnaaG6
import Derived.Test.YtaeacialcbahnaaRows
/-
  Facts on the types of the program, by program.
-/


namespace Go.Proofs.Ytaeacialcbahnaa
open Go.Abs

theorem sz1 : szT Try.prog 1 = some 1 := by kernel_rfl
theorem ag1 : aggT Try.prog 1 = some false := by kernel_rfl
theorem zr1 : zrT Try.prog 1 = some .nilFunc := by kernel_rfl
theorem by1 : byT Try.prog 1 = some 8 := by kernel_rfl
theorem sz2 : szT Try.prog 2 = some 1 := by kernel_rfl
theorem ag2 : aggT Try.prog 2 = some false := by kernel_rfl
theorem zr2 : zrT Try.prog 2 = some (.int .i64 0) := by kernel_rfl
theorem by2 : byT Try.prog 2 = some 8 := by kernel_rfl
theorem in2 : intT Try.prog 2 = some .i64 := by kernel_rfl
theorem sz3 : szT Try.prog 3 = some 1 := by kernel_rfl
theorem ag3 : aggT Try.prog 3 = some false := by kernel_rfl
theorem zr3 : zrT Try.prog 3 = some (.int .i64 0) := by kernel_rfl
theorem by3 : byT Try.prog 3 = some 8 := by kernel_rfl
theorem in3 : intT Try.prog 3 = some .i64 := by kernel_rfl
theorem sz4 : szT Try.prog 4 = some 1 := by kernel_rfl
theorem ag4 : aggT Try.prog 4 = some false := by kernel_rfl
theorem zr4 : zrT Try.prog 4 = some (.bool false) := by kernel_rfl
theorem by4 : byT Try.prog 4 = some 1 := by kernel_rfl
theorem bo4 : Try.prog.underlying 4 = some .bool := by kernel_rfl
theorem sz5 : szT Try.prog 5 = some 1 := by kernel_rfl
theorem ag5 : aggT Try.prog 5 = some false := by kernel_rfl
theorem zr5 : zrT Try.prog 5 = some (.int .u8 0) := by kernel_rfl
theorem by5 : byT Try.prog 5 = some 1 := by kernel_rfl
theorem in5 : intT Try.prog 5 = some .u8 := by kernel_rfl
theorem sz6 : szT Try.prog 6 = some 1 := by kernel_rfl
theorem ag6 : aggT Try.prog 6 = some false := by kernel_rfl
theorem zr6 : zrT Try.prog 6 = some (.int .u8 0) := by kernel_rfl
theorem by6 : byT Try.prog 6 = some 1 := by kernel_rfl
theorem in6 : intT Try.prog 6 = some .u8 := by kernel_rfl
theorem sz7 : szT Try.prog 7 = some 4 := by kernel_rfl
theorem ag7 : aggT Try.prog 7 = some true := by kernel_rfl
theorem zr7 : zrT Try.prog 7 = some (.agg #[(.int .i64 0), (.int .i64 0), (.bool false), (.int .u8 0)]) := by kernel_rfl
theorem by7 : byT Try.prog 7 = some 24 := by kernel_rfl
theorem fl7_0 : fldT Try.prog 7 0 = some (0, 2) := by kernel_rfl
theorem fl7_1 : fldT Try.prog 7 1 = some (1, 3) := by kernel_rfl
theorem fl7_2 : fldT Try.prog 7 2 = some (2, 4) := by kernel_rfl
theorem fl7_3 : fldT Try.prog 7 3 = some (3, 6) := by kernel_rfl
theorem pl7 : plT Try.prog 7 = some [(0, 1), (1, 1), (2, 1), (3, 1)] := by kernel_rfl
theorem sz8 : szT Try.prog 8 = some 4 := by kernel_rfl
theorem ag8 : aggT Try.prog 8 = some true := by kernel_rfl
theorem zr8 : zrT Try.prog 8 = some (.agg #[(.int .i64 0), (.int .i64 0), (.bool false), (.int .u8 0)]) := by kernel_rfl
theorem by8 : byT Try.prog 8 = some 24 := by kernel_rfl
theorem fl8_0 : fldT Try.prog 8 0 = some (0, 2) := by kernel_rfl
theorem fl8_1 : fldT Try.prog 8 1 = some (1, 3) := by kernel_rfl
theorem fl8_2 : fldT Try.prog 8 2 = some (2, 4) := by kernel_rfl
theorem fl8_3 : fldT Try.prog 8 3 = some (3, 6) := by kernel_rfl
theorem pl8 : plT Try.prog 8 = some [(0, 1), (1, 1), (2, 1), (3, 1)] := by kernel_rfl
theorem sz9 : szT Try.prog 9 = some 1 := by kernel_rfl
theorem ag9 : aggT Try.prog 9 = some false := by kernel_rfl
theorem zr9 : zrT Try.prog 9 = some (.string ByteArray.empty) := by kernel_rfl
theorem by9 : byT Try.prog 9 = some 16 := by kernel_rfl
theorem st9 : isStr Try.prog 9 = true := by kernel_rfl
theorem sz10 : szT Try.prog 10 = some 1 := by kernel_rfl
theorem ag10 : aggT Try.prog 10 = some false := by kernel_rfl
theorem zr10 : zrT Try.prog 10 = some (.string ByteArray.empty) := by kernel_rfl
theorem by10 : byT Try.prog 10 = some 16 := by kernel_rfl
theorem st10 : isStr Try.prog 10 = true := by kernel_rfl
theorem sz11 : szT Try.prog 11 = some 1 := by kernel_rfl
theorem ag11 : aggT Try.prog 11 = some false := by kernel_rfl
theorem zr11 : zrT Try.prog 11 = some (.string ByteArray.empty) := by kernel_rfl
theorem by11 : byT Try.prog 11 = some 16 := by kernel_rfl
theorem st11 : isStr Try.prog 11 = true := by kernel_rfl
theorem sz12 : szT Try.prog 12 = some 1 := by kernel_rfl
theorem ag12 : aggT Try.prog 12 = some false := by kernel_rfl
theorem zr12 : zrT Try.prog 12 = some (.int .u64 0) := by kernel_rfl
theorem by12 : byT Try.prog 12 = some 8 := by kernel_rfl
theorem in12 : intT Try.prog 12 = some .u64 := by kernel_rfl
theorem sz13 : szT Try.prog 13 = some 2 := by kernel_rfl
theorem ag13 : aggT Try.prog 13 = some true := by kernel_rfl
theorem zr13 : zrT Try.prog 13 = some (.agg #[(.string ByteArray.empty), (.int .u64 0)]) := by kernel_rfl
theorem by13 : byT Try.prog 13 = some 24 := by kernel_rfl
theorem fl13_0 : fldT Try.prog 13 0 = some (0, 9) := by kernel_rfl
theorem fl13_1 : fldT Try.prog 13 1 = some (1, 12) := by kernel_rfl
theorem pl13 : plT Try.prog 13 = some [(0, 1), (1, 1)] := by kernel_rfl
theorem sz14 : szT Try.prog 14 = some 2 := by kernel_rfl
theorem ag14 : aggT Try.prog 14 = some true := by kernel_rfl
theorem zr14 : zrT Try.prog 14 = some (.agg #[(.string ByteArray.empty), (.int .u64 0)]) := by kernel_rfl
theorem by14 : byT Try.prog 14 = some 24 := by kernel_rfl
theorem fl14_0 : fldT Try.prog 14 0 = some (0, 9) := by kernel_rfl
theorem fl14_1 : fldT Try.prog 14 1 = some (1, 12) := by kernel_rfl
theorem pl14 : plT Try.prog 14 = some [(0, 1), (1, 1)] := by kernel_rfl
theorem sz15 : szT Try.prog 15 = some 1 := by kernel_rfl
theorem ag15 : aggT Try.prog 15 = some false := by kernel_rfl
theorem zr15 : zrT Try.prog 15 = some (.pointer none) := by kernel_rfl
theorem by15 : byT Try.prog 15 = some 8 := by kernel_rfl
theorem pt15 : ptrT Try.prog 15 = some 126 := by kernel_rfl
theorem sz16 : szT Try.prog 16 = some 1 := by kernel_rfl
theorem ag16 : aggT Try.prog 16 = some false := by kernel_rfl
theorem zr16 : zrT Try.prog 16 = some (.pointer none) := by kernel_rfl
theorem by16 : byT Try.prog 16 = some 8 := by kernel_rfl
theorem pt16 : ptrT Try.prog 16 = some 129 := by kernel_rfl
theorem sz17 : szT Try.prog 17 = some 1 := by kernel_rfl
theorem ag17 : aggT Try.prog 17 = some false := by kernel_rfl
theorem zr17 : zrT Try.prog 17 = some (.pointer none) := by kernel_rfl
theorem by17 : byT Try.prog 17 = some 8 := by kernel_rfl
theorem pt17 : ptrT Try.prog 17 = some 138 := by kernel_rfl
theorem sz18 : szT Try.prog 18 = some 1 := by kernel_rfl
theorem ag18 : aggT Try.prog 18 = some true := by kernel_rfl
theorem zr18 : zrT Try.prog 18 = some (.agg #[(.pointer none)]) := by kernel_rfl
theorem by18 : byT Try.prog 18 = some 8 := by kernel_rfl
theorem fl18_0 : fldT Try.prog 18 0 = some (0, 17) := by kernel_rfl
theorem pl18 : plT Try.prog 18 = some [(0, 1)] := by kernel_rfl
theorem sz19 : szT Try.prog 19 = some 1 := by kernel_rfl
theorem ag19 : aggT Try.prog 19 = some true := by kernel_rfl
theorem zr19 : zrT Try.prog 19 = some (.agg #[(.pointer none)]) := by kernel_rfl
theorem by19 : byT Try.prog 19 = some 8 := by kernel_rfl
theorem fl19_0 : fldT Try.prog 19 0 = some (0, 17) := by kernel_rfl
theorem pl19 : plT Try.prog 19 = some [(0, 1)] := by kernel_rfl
theorem sz20 : szT Try.prog 20 = some 1 := by kernel_rfl
theorem ag20 : aggT Try.prog 20 = some false := by kernel_rfl
theorem zr20 : zrT Try.prog 20 = some .nilIface := by kernel_rfl
theorem by20 : byT Try.prog 20 = some 16 := by kernel_rfl
theorem sz21 : szT Try.prog 21 = some 1 := by kernel_rfl
theorem ag21 : aggT Try.prog 21 = some false := by kernel_rfl
theorem zr21 : zrT Try.prog 21 = some (.int .i32 0) := by kernel_rfl
theorem by21 : byT Try.prog 21 = some 4 := by kernel_rfl
theorem in21 : intT Try.prog 21 = some .i32 := by kernel_rfl
theorem sz22 : szT Try.prog 22 = some 1 := by kernel_rfl
theorem ag22 : aggT Try.prog 22 = some false := by kernel_rfl
theorem zr22 : zrT Try.prog 22 = some .nilFunc := by kernel_rfl
theorem by22 : byT Try.prog 22 = some 8 := by kernel_rfl
theorem sz23 : szT Try.prog 23 = some 1 := by kernel_rfl
theorem ag23 : aggT Try.prog 23 = some false := by kernel_rfl
theorem zr23 : zrT Try.prog 23 = some .nilFunc := by kernel_rfl
theorem by23 : byT Try.prog 23 = some 8 := by kernel_rfl
theorem sz24 : szT Try.prog 24 = some 1 := by kernel_rfl
theorem ag24 : aggT Try.prog 24 = some false := by kernel_rfl
theorem zr24 : zrT Try.prog 24 = some (.slice none 0 0) := by kernel_rfl
theorem sl24 : slE Try.prog 24 = some 3 := by kernel_rfl
theorem by24 : byT Try.prog 24 = some 24 := by kernel_rfl
theorem sz26 : szT Try.prog 26 = some 1 := by kernel_rfl
theorem ag26 : aggT Try.prog 26 = some false := by kernel_rfl
theorem zr26 : zrT Try.prog 26 = some .nilFunc := by kernel_rfl
theorem by26 : byT Try.prog 26 = some 8 := by kernel_rfl
theorem sz28 : szT Try.prog 28 = some 1 := by kernel_rfl
theorem ag28 : aggT Try.prog 28 = some false := by kernel_rfl
theorem zr28 : zrT Try.prog 28 = some .nilFunc := by kernel_rfl
theorem by28 : byT Try.prog 28 = some 8 := by kernel_rfl
theorem sz29 : szT Try.prog 29 = some 1 := by kernel_rfl
theorem ag29 : aggT Try.prog 29 = some false := by kernel_rfl
theorem zr29 : zrT Try.prog 29 = some .nilFunc := by kernel_rfl
theorem by29 : byT Try.prog 29 = some 8 := by kernel_rfl
theorem sz30 : szT Try.prog 30 = some 1 := by kernel_rfl
theorem ag30 : aggT Try.prog 30 = some false := by kernel_rfl
theorem zr30 : zrT Try.prog 30 = some (.slice none 0 0) := by kernel_rfl
theorem sl30 : slE Try.prog 30 = some 5 := by kernel_rfl
theorem by30 : byT Try.prog 30 = some 24 := by kernel_rfl
theorem sz31 : szT Try.prog 31 = some 1 := by kernel_rfl
theorem ag31 : aggT Try.prog 31 = some false := by kernel_rfl
theorem zr31 : zrT Try.prog 31 = some .nilFunc := by kernel_rfl
theorem by31 : byT Try.prog 31 = some 8 := by kernel_rfl
theorem sz32 : szT Try.prog 32 = some 1 := by kernel_rfl
theorem ag32 : aggT Try.prog 32 = some false := by kernel_rfl
theorem zr32 : zrT Try.prog 32 = some .nilFunc := by kernel_rfl
theorem by32 : byT Try.prog 32 = some 8 := by kernel_rfl
theorem sz34 : szT Try.prog 34 = some 1 := by kernel_rfl
theorem ag34 : aggT Try.prog 34 = some false := by kernel_rfl
theorem zr34 : zrT Try.prog 34 = some .nilFunc := by kernel_rfl
theorem by34 : byT Try.prog 34 = some 8 := by kernel_rfl
theorem sz35 : szT Try.prog 35 = some 1 := by kernel_rfl
theorem ag35 : aggT Try.prog 35 = some false := by kernel_rfl
theorem zr35 : zrT Try.prog 35 = some .nilFunc := by kernel_rfl
theorem by35 : byT Try.prog 35 = some 8 := by kernel_rfl
theorem sz36 : szT Try.prog 36 = some 1 := by kernel_rfl
theorem ag36 : aggT Try.prog 36 = some false := by kernel_rfl
theorem zr36 : zrT Try.prog 36 = some .nilFunc := by kernel_rfl
theorem by36 : byT Try.prog 36 = some 8 := by kernel_rfl
theorem sz37 : szT Try.prog 37 = some 1 := by kernel_rfl
theorem ag37 : aggT Try.prog 37 = some false := by kernel_rfl
theorem zr37 : zrT Try.prog 37 = some (.slice none 0 0) := by kernel_rfl
theorem sl37 : slE Try.prog 37 = some 9 := by kernel_rfl
theorem by37 : byT Try.prog 37 = some 24 := by kernel_rfl
theorem sz38 : szT Try.prog 38 = some 1 := by kernel_rfl
theorem ag38 : aggT Try.prog 38 = some false := by kernel_rfl
theorem zr38 : zrT Try.prog 38 = some .nilFunc := by kernel_rfl
theorem by38 : byT Try.prog 38 = some 8 := by kernel_rfl
theorem sz39 : szT Try.prog 39 = some 1 := by kernel_rfl
theorem ag39 : aggT Try.prog 39 = some false := by kernel_rfl
theorem zr39 : zrT Try.prog 39 = some (.slice none 0 0) := by kernel_rfl
theorem sl39 : slE Try.prog 39 = some 49 := by kernel_rfl
theorem by39 : byT Try.prog 39 = some 24 := by kernel_rfl
theorem sz40 : szT Try.prog 40 = some 1 := by kernel_rfl
theorem ag40 : aggT Try.prog 40 = some false := by kernel_rfl
theorem zr40 : zrT Try.prog 40 = some (.map none) := by kernel_rfl
theorem by40 : byT Try.prog 40 = some 8 := by kernel_rfl
theorem sz41 : szT Try.prog 41 = some 1 := by kernel_rfl
theorem ag41 : aggT Try.prog 41 = some true := by kernel_rfl
theorem zr41 : zrT Try.prog 41 = some (.agg #[(.map none)]) := by kernel_rfl
theorem by41 : byT Try.prog 41 = some 8 := by kernel_rfl
theorem fl41_0 : fldT Try.prog 41 0 = some (0, 40) := by kernel_rfl
theorem pl41 : plT Try.prog 41 = some [(0, 1)] := by kernel_rfl
theorem sz42 : szT Try.prog 42 = some 1 := by kernel_rfl
theorem ag42 : aggT Try.prog 42 = some true := by kernel_rfl
theorem zr42 : zrT Try.prog 42 = some (.agg #[(.map none)]) := by kernel_rfl
theorem by42 : byT Try.prog 42 = some 8 := by kernel_rfl
theorem fl42_0 : fldT Try.prog 42 0 = some (0, 40) := by kernel_rfl
theorem pl42 : plT Try.prog 42 = some [(0, 1)] := by kernel_rfl
theorem sz43 : szT Try.prog 43 = some 1 := by kernel_rfl
theorem ag43 : aggT Try.prog 43 = some false := by kernel_rfl
theorem zr43 : zrT Try.prog 43 = some (.pointer none) := by kernel_rfl
theorem by43 : byT Try.prog 43 = some 8 := by kernel_rfl
theorem pt43 : ptrT Try.prog 43 = some 46 := by kernel_rfl
theorem sz44 : szT Try.prog 44 = some 1 := by kernel_rfl
theorem ag44 : aggT Try.prog 44 = some false := by kernel_rfl
theorem zr44 : zrT Try.prog 44 = some (.slice none 0 0) := by kernel_rfl
theorem sl44 : slE Try.prog 44 = some 88 := by kernel_rfl
theorem by44 : byT Try.prog 44 = some 24 := by kernel_rfl
theorem sz45 : szT Try.prog 45 = some 1 := by kernel_rfl
theorem ag45 : aggT Try.prog 45 = some true := by kernel_rfl
theorem zr45 : zrT Try.prog 45 = some (.agg #[(.slice none 0 0)]) := by kernel_rfl
theorem by45 : byT Try.prog 45 = some 24 := by kernel_rfl
theorem fl45_0 : fldT Try.prog 45 0 = some (0, 44) := by kernel_rfl
theorem pl45 : plT Try.prog 45 = some [(0, 1)] := by kernel_rfl
theorem sz46 : szT Try.prog 46 = some 1 := by kernel_rfl
theorem ag46 : aggT Try.prog 46 = some true := by kernel_rfl
theorem zr46 : zrT Try.prog 46 = some (.agg #[(.slice none 0 0)]) := by kernel_rfl
theorem by46 : byT Try.prog 46 = some 24 := by kernel_rfl
theorem fl46_0 : fldT Try.prog 46 0 = some (0, 44) := by kernel_rfl
theorem pl46 : plT Try.prog 46 = some [(0, 1)] := by kernel_rfl
theorem sz47 : szT Try.prog 47 = some 1 := by kernel_rfl
theorem ag47 : aggT Try.prog 47 = some false := by kernel_rfl
theorem zr47 : zrT Try.prog 47 = some .nilFunc := by kernel_rfl
theorem by47 : byT Try.prog 47 = some 8 := by kernel_rfl
theorem sz48 : szT Try.prog 48 = some 2 := by kernel_rfl
theorem ag48 : aggT Try.prog 48 = some true := by kernel_rfl
theorem zr48 : zrT Try.prog 48 = some (.agg #[(.string ByteArray.empty), (.string ByteArray.empty)]) := by kernel_rfl
theorem by48 : byT Try.prog 48 = some 32 := by kernel_rfl
theorem fl48_0 : fldT Try.prog 48 0 = some (0, 9) := by kernel_rfl
theorem fl48_1 : fldT Try.prog 48 1 = some (1, 9) := by kernel_rfl
theorem pl48 : plT Try.prog 48 = some [(0, 1), (1, 1)] := by kernel_rfl
theorem sz49 : szT Try.prog 49 = some 2 := by kernel_rfl
theorem ag49 : aggT Try.prog 49 = some true := by kernel_rfl
theorem zr49 : zrT Try.prog 49 = some (.agg #[(.string ByteArray.empty), (.string ByteArray.empty)]) := by kernel_rfl
theorem by49 : byT Try.prog 49 = some 32 := by kernel_rfl
theorem fl49_0 : fldT Try.prog 49 0 = some (0, 9) := by kernel_rfl
theorem fl49_1 : fldT Try.prog 49 1 = some (1, 9) := by kernel_rfl
theorem pl49 : plT Try.prog 49 = some [(0, 1), (1, 1)] := by kernel_rfl
theorem sz50 : szT Try.prog 50 = some 1 := by kernel_rfl
theorem ag50 : aggT Try.prog 50 = some false := by kernel_rfl
theorem zr50 : zrT Try.prog 50 = some (.int .i64 0) := by kernel_rfl
theorem by50 : byT Try.prog 50 = some 8 := by kernel_rfl
theorem in50 : intT Try.prog 50 = some .i64 := by kernel_rfl
theorem sz52 : szT Try.prog 52 = some 1 := by kernel_rfl
theorem ag52 : aggT Try.prog 52 = some false := by kernel_rfl
theorem zr52 : zrT Try.prog 52 = some .nilFunc := by kernel_rfl
theorem by52 : byT Try.prog 52 = some 8 := by kernel_rfl
theorem sz54 : szT Try.prog 54 = some 1 := by kernel_rfl
theorem ag54 : aggT Try.prog 54 = some false := by kernel_rfl
theorem zr54 : zrT Try.prog 54 = some .nilFunc := by kernel_rfl
theorem by54 : byT Try.prog 54 = some 8 := by kernel_rfl
theorem sz55 : szT Try.prog 55 = some 1 := by kernel_rfl
theorem ag55 : aggT Try.prog 55 = some false := by kernel_rfl
theorem zr55 : zrT Try.prog 55 = some .nilFunc := by kernel_rfl
theorem by55 : byT Try.prog 55 = some 8 := by kernel_rfl
theorem sz56 : szT Try.prog 56 = some 1 := by kernel_rfl
theorem ag56 : aggT Try.prog 56 = some false := by kernel_rfl
theorem zr56 : zrT Try.prog 56 = some .nilFunc := by kernel_rfl
theorem by56 : byT Try.prog 56 = some 8 := by kernel_rfl
theorem sz58 : szT Try.prog 58 = some 1 := by kernel_rfl
theorem ag58 : aggT Try.prog 58 = some false := by kernel_rfl
theorem zr58 : zrT Try.prog 58 = some .nilFunc := by kernel_rfl
theorem by58 : byT Try.prog 58 = some 8 := by kernel_rfl
theorem sz59 : szT Try.prog 59 = some 1 := by kernel_rfl
theorem ag59 : aggT Try.prog 59 = some false := by kernel_rfl
theorem zr59 : zrT Try.prog 59 = some (.slice none 0 0) := by kernel_rfl
theorem sl59 : slE Try.prog 59 = some 71 := by kernel_rfl
theorem by59 : byT Try.prog 59 = some 24 := by kernel_rfl
theorem sz60 : szT Try.prog 60 = some 1 := by kernel_rfl
theorem ag60 : aggT Try.prog 60 = some false := by kernel_rfl
theorem zr60 : zrT Try.prog 60 = some .nilFunc := by kernel_rfl
theorem by60 : byT Try.prog 60 = some 8 := by kernel_rfl
theorem sz62 : szT Try.prog 62 = some 1 := by kernel_rfl
theorem ag62 : aggT Try.prog 62 = some false := by kernel_rfl
theorem zr62 : zrT Try.prog 62 = some .nilFunc := by kernel_rfl
theorem by62 : byT Try.prog 62 = some 8 := by kernel_rfl
theorem sz63 : szT Try.prog 63 = some 3 := by kernel_rfl
theorem ag63 : aggT Try.prog 63 = some true := by kernel_rfl
theorem zr63 : zrT Try.prog 63 = some (.agg #[(.bool false), (.int .i64 0), (.int .i64 0)]) := by kernel_rfl
theorem by63 : byT Try.prog 63 = some 24 := by kernel_rfl
theorem fl63_0 : fldT Try.prog 63 0 = some (0, 4) := by kernel_rfl
theorem fl63_1 : fldT Try.prog 63 1 = some (1, 3) := by kernel_rfl
theorem fl63_2 : fldT Try.prog 63 2 = some (2, 3) := by kernel_rfl
theorem pl63 : plT Try.prog 63 = some [(0, 1), (1, 1), (2, 1)] := by kernel_rfl
theorem sz64 : szT Try.prog 64 = some 3 := by kernel_rfl
theorem ag64 : aggT Try.prog 64 = some true := by kernel_rfl
theorem zr64 : zrT Try.prog 64 = some (.agg #[(.bool false), (.int .i64 0), (.int .i64 0)]) := by kernel_rfl
theorem by64 : byT Try.prog 64 = some 24 := by kernel_rfl
theorem fl64_0 : fldT Try.prog 64 0 = some (0, 4) := by kernel_rfl
theorem fl64_1 : fldT Try.prog 64 1 = some (1, 3) := by kernel_rfl
theorem fl64_2 : fldT Try.prog 64 2 = some (2, 3) := by kernel_rfl
theorem pl64 : plT Try.prog 64 = some [(0, 1), (1, 1), (2, 1)] := by kernel_rfl
theorem sz66 : szT Try.prog 66 = some 1 := by kernel_rfl
theorem ag66 : aggT Try.prog 66 = some false := by kernel_rfl
theorem zr66 : zrT Try.prog 66 = some .nilFunc := by kernel_rfl
theorem by66 : byT Try.prog 66 = some 8 := by kernel_rfl
theorem sz67 : szT Try.prog 67 = some 3 := by kernel_rfl
theorem ag67 : aggT Try.prog 67 = some true := by kernel_rfl
theorem zr67 : zrT Try.prog 67 = some (.agg #[(.bool false), (.int .i64 0), (.int .i64 0)]) := by kernel_rfl
theorem by67 : byT Try.prog 67 = some 24 := by kernel_rfl
theorem fl67_0 : fldT Try.prog 67 0 = some (0, 4) := by kernel_rfl
theorem fl67_1 : fldT Try.prog 67 1 = some (1, 3) := by kernel_rfl
theorem fl67_2 : fldT Try.prog 67 2 = some (2, 3) := by kernel_rfl
theorem pl67 : plT Try.prog 67 = some [(0, 1), (1, 1), (2, 1)] := by kernel_rfl
theorem sz68 : szT Try.prog 68 = some 1 := by kernel_rfl
theorem ag68 : aggT Try.prog 68 = some false := by kernel_rfl
theorem zr68 : zrT Try.prog 68 = some .nilFunc := by kernel_rfl
theorem by68 : byT Try.prog 68 = some 8 := by kernel_rfl
theorem sz69 : szT Try.prog 69 = some 1 := by kernel_rfl
theorem ag69 : aggT Try.prog 69 = some false := by kernel_rfl
theorem zr69 : zrT Try.prog 69 = some (.slice none 0 0) := by kernel_rfl
theorem sl69 : slE Try.prog 69 = some 24 := by kernel_rfl
theorem by69 : byT Try.prog 69 = some 24 := by kernel_rfl
theorem sz70 : szT Try.prog 70 = some 2 := by kernel_rfl
theorem ag70 : aggT Try.prog 70 = some true := by kernel_rfl
theorem zr70 : zrT Try.prog 70 = some (.agg #[(.int .i64 0), (.slice none 0 0)]) := by kernel_rfl
theorem by70 : byT Try.prog 70 = some 32 := by kernel_rfl
theorem fl70_0 : fldT Try.prog 70 0 = some (0, 3) := by kernel_rfl
theorem fl70_1 : fldT Try.prog 70 1 = some (1, 24) := by kernel_rfl
theorem pl70 : plT Try.prog 70 = some [(0, 1), (1, 1)] := by kernel_rfl
theorem sz71 : szT Try.prog 71 = some 2 := by kernel_rfl
theorem ag71 : aggT Try.prog 71 = some true := by kernel_rfl
theorem zr71 : zrT Try.prog 71 = some (.agg #[(.int .i64 0), (.slice none 0 0)]) := by kernel_rfl
theorem by71 : byT Try.prog 71 = some 32 := by kernel_rfl
theorem fl71_0 : fldT Try.prog 71 0 = some (0, 3) := by kernel_rfl
theorem fl71_1 : fldT Try.prog 71 1 = some (1, 24) := by kernel_rfl
theorem pl71 : plT Try.prog 71 = some [(0, 1), (1, 1)] := by kernel_rfl
theorem sz73 : szT Try.prog 73 = some 1 := by kernel_rfl
theorem ag73 : aggT Try.prog 73 = some false := by kernel_rfl
theorem zr73 : zrT Try.prog 73 = some .nilFunc := by kernel_rfl
theorem by73 : byT Try.prog 73 = some 8 := by kernel_rfl
theorem sz74 : szT Try.prog 74 = some 1 := by kernel_rfl
theorem ag74 : aggT Try.prog 74 = some false := by kernel_rfl
theorem zr74 : zrT Try.prog 74 = some .nilFunc := by kernel_rfl
theorem by74 : byT Try.prog 74 = some 8 := by kernel_rfl
theorem sz75 : szT Try.prog 75 = some 1 := by kernel_rfl
theorem ag75 : aggT Try.prog 75 = some false := by kernel_rfl
theorem zr75 : zrT Try.prog 75 = some .nilFunc := by kernel_rfl
theorem by75 : byT Try.prog 75 = some 8 := by kernel_rfl
theorem sz76 : szT Try.prog 76 = some 1 := by kernel_rfl
theorem ag76 : aggT Try.prog 76 = some false := by kernel_rfl
theorem zr76 : zrT Try.prog 76 = some .nilFunc := by kernel_rfl
theorem by76 : byT Try.prog 76 = some 8 := by kernel_rfl
theorem sz77 : szT Try.prog 77 = some 1 := by kernel_rfl
theorem ag77 : aggT Try.prog 77 = some false := by kernel_rfl
theorem zr77 : zrT Try.prog 77 = some .nilFunc := by kernel_rfl
theorem by77 : byT Try.prog 77 = some 8 := by kernel_rfl
theorem sz78 : szT Try.prog 78 = some 1 := by kernel_rfl
theorem ag78 : aggT Try.prog 78 = some false := by kernel_rfl
theorem zr78 : zrT Try.prog 78 = some .nilFunc := by kernel_rfl
theorem by78 : byT Try.prog 78 = some 8 := by kernel_rfl
theorem sz79 : szT Try.prog 79 = some 1 := by kernel_rfl
theorem ag79 : aggT Try.prog 79 = some false := by kernel_rfl
theorem zr79 : zrT Try.prog 79 = some .nilFunc := by kernel_rfl
theorem by79 : byT Try.prog 79 = some 8 := by kernel_rfl
theorem sz80 : szT Try.prog 80 = some 1 := by kernel_rfl
theorem ag80 : aggT Try.prog 80 = some false := by kernel_rfl
theorem zr80 : zrT Try.prog 80 = some .nilFunc := by kernel_rfl
theorem by80 : byT Try.prog 80 = some 8 := by kernel_rfl
theorem sz81 : szT Try.prog 81 = some 1 := by kernel_rfl
theorem ag81 : aggT Try.prog 81 = some false := by kernel_rfl
theorem zr81 : zrT Try.prog 81 = some .nilFunc := by kernel_rfl
theorem by81 : byT Try.prog 81 = some 8 := by kernel_rfl
theorem sz82 : szT Try.prog 82 = some 1 := by kernel_rfl
theorem ag82 : aggT Try.prog 82 = some false := by kernel_rfl
theorem zr82 : zrT Try.prog 82 = some .nilFunc := by kernel_rfl
theorem by82 : byT Try.prog 82 = some 8 := by kernel_rfl
theorem sz84 : szT Try.prog 84 = some 1 := by kernel_rfl
theorem ag84 : aggT Try.prog 84 = some false := by kernel_rfl
theorem zr84 : zrT Try.prog 84 = some .nilFunc := by kernel_rfl
theorem by84 : byT Try.prog 84 = some 8 := by kernel_rfl
theorem sz85 : szT Try.prog 85 = some 1 := by kernel_rfl
theorem ag85 : aggT Try.prog 85 = some false := by kernel_rfl
theorem zr85 : zrT Try.prog 85 = some .nilFunc := by kernel_rfl
theorem by85 : byT Try.prog 85 = some 8 := by kernel_rfl
theorem sz86 : szT Try.prog 86 = some 1 := by kernel_rfl
theorem ag86 : aggT Try.prog 86 = some false := by kernel_rfl
theorem zr86 : zrT Try.prog 86 = some (.pointer none) := by kernel_rfl
theorem by86 : byT Try.prog 86 = some 8 := by kernel_rfl
theorem pt86 : ptrT Try.prog 86 = some 42 := by kernel_rfl
theorem sz87 : szT Try.prog 87 = some 2 := by kernel_rfl
theorem ag87 : aggT Try.prog 87 = some true := by kernel_rfl
theorem zr87 : zrT Try.prog 87 = some (.agg #[(.string ByteArray.empty), (.string ByteArray.empty)]) := by kernel_rfl
theorem by87 : byT Try.prog 87 = some 32 := by kernel_rfl
theorem fl87_0 : fldT Try.prog 87 0 = some (0, 9) := by kernel_rfl
theorem fl87_1 : fldT Try.prog 87 1 = some (1, 9) := by kernel_rfl
theorem pl87 : plT Try.prog 87 = some [(0, 1), (1, 1)] := by kernel_rfl
theorem sz88 : szT Try.prog 88 = some 2 := by kernel_rfl
theorem ag88 : aggT Try.prog 88 = some true := by kernel_rfl
theorem zr88 : zrT Try.prog 88 = some (.agg #[(.string ByteArray.empty), (.string ByteArray.empty)]) := by kernel_rfl
theorem by88 : byT Try.prog 88 = some 32 := by kernel_rfl
theorem fl88_0 : fldT Try.prog 88 0 = some (0, 9) := by kernel_rfl
theorem fl88_1 : fldT Try.prog 88 1 = some (1, 9) := by kernel_rfl
theorem pl88 : plT Try.prog 88 = some [(0, 1), (1, 1)] := by kernel_rfl
theorem sz89 : szT Try.prog 89 = some 1 := by kernel_rfl
theorem ag89 : aggT Try.prog 89 = some false := by kernel_rfl
theorem zr89 : zrT Try.prog 89 = some .nilFunc := by kernel_rfl
theorem by89 : byT Try.prog 89 = some 8 := by kernel_rfl
theorem sz90 : szT Try.prog 90 = some 1 := by kernel_rfl
theorem ag90 : aggT Try.prog 90 = some false := by kernel_rfl
theorem zr90 : zrT Try.prog 90 = some .nilFunc := by kernel_rfl
theorem by90 : byT Try.prog 90 = some 8 := by kernel_rfl
theorem sz92 : szT Try.prog 92 = some 1 := by kernel_rfl
theorem ag92 : aggT Try.prog 92 = some false := by kernel_rfl
theorem zr92 : zrT Try.prog 92 = some .nilFunc := by kernel_rfl
theorem by92 : byT Try.prog 92 = some 8 := by kernel_rfl
theorem sz93 : szT Try.prog 93 = some 1 := by kernel_rfl
theorem ag93 : aggT Try.prog 93 = some false := by kernel_rfl
theorem zr93 : zrT Try.prog 93 = some .nilFunc := by kernel_rfl
theorem by93 : byT Try.prog 93 = some 8 := by kernel_rfl
theorem sz94 : szT Try.prog 94 = some 1 := by kernel_rfl
theorem ag94 : aggT Try.prog 94 = some false := by kernel_rfl
theorem zr94 : zrT Try.prog 94 = some .nilFunc := by kernel_rfl
theorem by94 : byT Try.prog 94 = some 8 := by kernel_rfl
theorem sz95 : szT Try.prog 95 = some 1 := by kernel_rfl
theorem ag95 : aggT Try.prog 95 = some false := by kernel_rfl
theorem zr95 : zrT Try.prog 95 = some .nilFunc := by kernel_rfl
theorem by95 : byT Try.prog 95 = some 8 := by kernel_rfl
theorem sz97 : szT Try.prog 97 = some 1 := by kernel_rfl
theorem ag97 : aggT Try.prog 97 = some false := by kernel_rfl
theorem zr97 : zrT Try.prog 97 = some .nilFunc := by kernel_rfl
theorem by97 : byT Try.prog 97 = some 8 := by kernel_rfl
theorem sz98 : szT Try.prog 98 = some 1 := by kernel_rfl
theorem ag98 : aggT Try.prog 98 = some false := by kernel_rfl
theorem zr98 : zrT Try.prog 98 = some .nilFunc := by kernel_rfl
theorem by98 : byT Try.prog 98 = some 8 := by kernel_rfl
theorem sz99 : szT Try.prog 99 = some 1 := by kernel_rfl
theorem ag99 : aggT Try.prog 99 = some false := by kernel_rfl
theorem zr99 : zrT Try.prog 99 = some .nilFunc := by kernel_rfl
theorem by99 : byT Try.prog 99 = some 8 := by kernel_rfl
theorem sz100 : szT Try.prog 100 = some 1 := by kernel_rfl
theorem ag100 : aggT Try.prog 100 = some false := by kernel_rfl
theorem zr100 : zrT Try.prog 100 = some .nilFunc := by kernel_rfl
theorem by100 : byT Try.prog 100 = some 8 := by kernel_rfl
theorem sz101 : szT Try.prog 101 = some 1 := by kernel_rfl
theorem ag101 : aggT Try.prog 101 = some false := by kernel_rfl
theorem zr101 : zrT Try.prog 101 = some .nilFunc := by kernel_rfl
theorem by101 : byT Try.prog 101 = some 8 := by kernel_rfl
theorem sz102 : szT Try.prog 102 = some 1 := by kernel_rfl
theorem ag102 : aggT Try.prog 102 = some false := by kernel_rfl
theorem zr102 : zrT Try.prog 102 = some .nilFunc := by kernel_rfl
theorem by102 : byT Try.prog 102 = some 8 := by kernel_rfl
theorem sz103 : szT Try.prog 103 = some 1 := by kernel_rfl
theorem ag103 : aggT Try.prog 103 = some false := by kernel_rfl
theorem zr103 : zrT Try.prog 103 = some .nilFunc := by kernel_rfl
theorem by103 : byT Try.prog 103 = some 8 := by kernel_rfl
theorem sz104 : szT Try.prog 104 = some 1 := by kernel_rfl
theorem ag104 : aggT Try.prog 104 = some false := by kernel_rfl
theorem zr104 : zrT Try.prog 104 = some .nilFunc := by kernel_rfl
theorem by104 : byT Try.prog 104 = some 8 := by kernel_rfl
theorem sz105 : szT Try.prog 105 = some 1 := by kernel_rfl
theorem ag105 : aggT Try.prog 105 = some false := by kernel_rfl
theorem zr105 : zrT Try.prog 105 = some (.int .u64 0) := by kernel_rfl
theorem by105 : byT Try.prog 105 = some 8 := by kernel_rfl
theorem in105 : intT Try.prog 105 = some .u64 := by kernel_rfl
theorem sz106 : szT Try.prog 106 = some 1 := by kernel_rfl
theorem ag106 : aggT Try.prog 106 = some false := by kernel_rfl
theorem zr106 : zrT Try.prog 106 = some .nilFunc := by kernel_rfl
theorem by106 : byT Try.prog 106 = some 8 := by kernel_rfl
theorem sz107 : szT Try.prog 107 = some 1 := by kernel_rfl
theorem ag107 : aggT Try.prog 107 = some false := by kernel_rfl
theorem zr107 : zrT Try.prog 107 = some .nilFunc := by kernel_rfl
theorem by107 : byT Try.prog 107 = some 8 := by kernel_rfl
theorem sz108 : szT Try.prog 108 = some 1 := by kernel_rfl
theorem ag108 : aggT Try.prog 108 = some false := by kernel_rfl
theorem zr108 : zrT Try.prog 108 = some .nilFunc := by kernel_rfl
theorem by108 : byT Try.prog 108 = some 8 := by kernel_rfl
theorem sz109 : szT Try.prog 109 = some 1 := by kernel_rfl
theorem ag109 : aggT Try.prog 109 = some false := by kernel_rfl
theorem zr109 : zrT Try.prog 109 = some .nilFunc := by kernel_rfl
theorem by109 : byT Try.prog 109 = some 8 := by kernel_rfl
theorem sz110 : szT Try.prog 110 = some 1 := by kernel_rfl
theorem ag110 : aggT Try.prog 110 = some false := by kernel_rfl
theorem zr110 : zrT Try.prog 110 = some .nilFunc := by kernel_rfl
theorem by110 : byT Try.prog 110 = some 8 := by kernel_rfl
theorem sz111 : szT Try.prog 111 = some 1 := by kernel_rfl
theorem ag111 : aggT Try.prog 111 = some false := by kernel_rfl
theorem zr111 : zrT Try.prog 111 = some .nilFunc := by kernel_rfl
theorem by111 : byT Try.prog 111 = some 8 := by kernel_rfl
theorem sz112 : szT Try.prog 112 = some 1 := by kernel_rfl
theorem ag112 : aggT Try.prog 112 = some false := by kernel_rfl
theorem zr112 : zrT Try.prog 112 = some .nilFunc := by kernel_rfl
theorem by112 : byT Try.prog 112 = some 8 := by kernel_rfl
theorem sz113 : szT Try.prog 113 = some 1 := by kernel_rfl
theorem ag113 : aggT Try.prog 113 = some false := by kernel_rfl
theorem zr113 : zrT Try.prog 113 = some .nilFunc := by kernel_rfl
theorem by113 : byT Try.prog 113 = some 8 := by kernel_rfl
theorem sz114 : szT Try.prog 114 = some 1 := by kernel_rfl
theorem ag114 : aggT Try.prog 114 = some false := by kernel_rfl
theorem zr114 : zrT Try.prog 114 = some .nilFunc := by kernel_rfl
theorem by114 : byT Try.prog 114 = some 8 := by kernel_rfl
theorem sz115 : szT Try.prog 115 = some 1 := by kernel_rfl
theorem ag115 : aggT Try.prog 115 = some false := by kernel_rfl
theorem zr115 : zrT Try.prog 115 = some .nilFunc := by kernel_rfl
theorem by115 : byT Try.prog 115 = some 8 := by kernel_rfl
theorem sz117 : szT Try.prog 117 = some 1 := by kernel_rfl
theorem ag117 : aggT Try.prog 117 = some false := by kernel_rfl
theorem zr117 : zrT Try.prog 117 = some .nilFunc := by kernel_rfl
theorem by117 : byT Try.prog 117 = some 8 := by kernel_rfl
theorem sz118 : szT Try.prog 118 = some 1 := by kernel_rfl
theorem ag118 : aggT Try.prog 118 = some false := by kernel_rfl
theorem zr118 : zrT Try.prog 118 = some (.int .u32 0) := by kernel_rfl
theorem by118 : byT Try.prog 118 = some 4 := by kernel_rfl
theorem in118 : intT Try.prog 118 = some .u32 := by kernel_rfl
theorem sz120 : szT Try.prog 120 = some 1 := by kernel_rfl
theorem ag120 : aggT Try.prog 120 = some false := by kernel_rfl
theorem zr120 : zrT Try.prog 120 = some .nilFunc := by kernel_rfl
theorem by120 : byT Try.prog 120 = some 8 := by kernel_rfl
theorem sz121 : szT Try.prog 121 = some 1 := by kernel_rfl
theorem ag121 : aggT Try.prog 121 = some false := by kernel_rfl
theorem zr121 : zrT Try.prog 121 = some (.int .u64 0) := by kernel_rfl
theorem by121 : byT Try.prog 121 = some 8 := by kernel_rfl
theorem in121 : intT Try.prog 121 = some .u64 := by kernel_rfl
theorem sz123 : szT Try.prog 123 = some 1 := by kernel_rfl
theorem ag123 : aggT Try.prog 123 = some false := by kernel_rfl
theorem zr123 : zrT Try.prog 123 = some .nilFunc := by kernel_rfl
theorem by123 : byT Try.prog 123 = some 8 := by kernel_rfl
theorem sz124 : szT Try.prog 124 = some 1 := by kernel_rfl
theorem ag124 : aggT Try.prog 124 = some false := by kernel_rfl
theorem zr124 : zrT Try.prog 124 = some .nilFunc := by kernel_rfl
theorem by124 : byT Try.prog 124 = some 8 := by kernel_rfl
theorem sz125 : szT Try.prog 125 = some 4 := by kernel_rfl
theorem ag125 : aggT Try.prog 125 = some true := by kernel_rfl
theorem zr125 : zrT Try.prog 125 = some (.agg #[(.pointer none), (.pointer none), (.pointer none), (.string ByteArray.empty)]) := by kernel_rfl
theorem by125 : byT Try.prog 125 = some 40 := by kernel_rfl
theorem fl125_0 : fldT Try.prog 125 0 = some (0, 17) := by kernel_rfl
theorem fl125_1 : fldT Try.prog 125 1 = some (1, 17) := by kernel_rfl
theorem fl125_2 : fldT Try.prog 125 2 = some (2, 17) := by kernel_rfl
theorem fl125_3 : fldT Try.prog 125 3 = some (3, 9) := by kernel_rfl
theorem pl125 : plT Try.prog 125 = some [(0, 1), (1, 1), (2, 1), (3, 1)] := by kernel_rfl
theorem sz126 : szT Try.prog 126 = some 4 := by kernel_rfl
theorem ag126 : aggT Try.prog 126 = some true := by kernel_rfl
theorem zr126 : zrT Try.prog 126 = some (.agg #[(.pointer none), (.pointer none), (.pointer none), (.string ByteArray.empty)]) := by kernel_rfl
theorem by126 : byT Try.prog 126 = some 40 := by kernel_rfl
theorem fl126_0 : fldT Try.prog 126 0 = some (0, 17) := by kernel_rfl
theorem fl126_1 : fldT Try.prog 126 1 = some (1, 17) := by kernel_rfl
theorem fl126_2 : fldT Try.prog 126 2 = some (2, 17) := by kernel_rfl
theorem fl126_3 : fldT Try.prog 126 3 = some (3, 9) := by kernel_rfl
theorem pl126 : plT Try.prog 126 = some [(0, 1), (1, 1), (2, 1), (3, 1)] := by kernel_rfl
theorem sz127 : szT Try.prog 127 = some 0 := by kernel_rfl
theorem ag127 : aggT Try.prog 127 = some true := by kernel_rfl
theorem zr127 : zrT Try.prog 127 = some (.agg #[]) := by kernel_rfl
theorem by127 : byT Try.prog 127 = some 0 := by kernel_rfl
theorem ar127 : arrT Try.prog 127 = some (0, 16) := by kernel_rfl
theorem sz128 : szT Try.prog 128 = some 0 := by kernel_rfl
theorem ag128 : aggT Try.prog 128 = some true := by kernel_rfl
theorem zr128 : zrT Try.prog 128 = some (.agg #[]) := by kernel_rfl
theorem by128 : byT Try.prog 128 = some 0 := by kernel_rfl
theorem fl128_0 : fldT Try.prog 128 0 = some (0, 127) := by kernel_rfl
theorem pl128 : plT Try.prog 128 = some [(0, 0)] := by kernel_rfl
theorem sz129 : szT Try.prog 129 = some 0 := by kernel_rfl
theorem ag129 : aggT Try.prog 129 = some true := by kernel_rfl
theorem zr129 : zrT Try.prog 129 = some (.agg #[]) := by kernel_rfl
theorem by129 : byT Try.prog 129 = some 0 := by kernel_rfl
theorem fl129_0 : fldT Try.prog 129 0 = some (0, 127) := by kernel_rfl
theorem pl129 : plT Try.prog 129 = some [(0, 0)] := by kernel_rfl
theorem sz130 : szT Try.prog 130 = some 1 := by kernel_rfl
theorem ag130 : aggT Try.prog 130 = some false := by kernel_rfl
theorem zr130 : zrT Try.prog 130 = some .nilFunc := by kernel_rfl
theorem by130 : byT Try.prog 130 = some 8 := by kernel_rfl
theorem sz131 : szT Try.prog 131 = some 1 := by kernel_rfl
theorem ag131 : aggT Try.prog 131 = some false := by kernel_rfl
theorem zr131 : zrT Try.prog 131 = some (.int .u8 0) := by kernel_rfl
theorem by131 : byT Try.prog 131 = some 1 := by kernel_rfl
theorem in131 : intT Try.prog 131 = some .u8 := by kernel_rfl
theorem sz132 : szT Try.prog 132 = some 1 := by kernel_rfl
theorem ag132 : aggT Try.prog 132 = some false := by kernel_rfl
theorem zr132 : zrT Try.prog 132 = some (.int .u8 0) := by kernel_rfl
theorem by132 : byT Try.prog 132 = some 1 := by kernel_rfl
theorem in132 : intT Try.prog 132 = some .u8 := by kernel_rfl
theorem sz133 : szT Try.prog 133 = some 1 := by kernel_rfl
theorem ag133 : aggT Try.prog 133 = some false := by kernel_rfl
theorem zr133 : zrT Try.prog 133 = some .nilFunc := by kernel_rfl
theorem by133 : byT Try.prog 133 = some 8 := by kernel_rfl
theorem sz134 : szT Try.prog 134 = some 1 := by kernel_rfl
theorem ag134 : aggT Try.prog 134 = some false := by kernel_rfl
theorem zr134 : zrT Try.prog 134 = some (.pointer none) := by kernel_rfl
theorem by134 : byT Try.prog 134 = some 8 := by kernel_rfl
theorem pt134 : ptrT Try.prog 134 = some 5 := by kernel_rfl
theorem sz135 : szT Try.prog 135 = some 1 := by kernel_rfl
theorem ag135 : aggT Try.prog 135 = some false := by kernel_rfl
theorem zr135 : zrT Try.prog 135 = some (.int .i32 0) := by kernel_rfl
theorem by135 : byT Try.prog 135 = some 4 := by kernel_rfl
theorem in135 : intT Try.prog 135 = some .i32 := by kernel_rfl
theorem sz136 : szT Try.prog 136 = some 1 := by kernel_rfl
theorem ag136 : aggT Try.prog 136 = some false := by kernel_rfl
theorem zr136 : zrT Try.prog 136 = some (.int .i32 0) := by kernel_rfl
theorem by136 : byT Try.prog 136 = some 4 := by kernel_rfl
theorem in136 : intT Try.prog 136 = some .i32 := by kernel_rfl
theorem sz137 : szT Try.prog 137 = some 11 := by kernel_rfl
theorem ag137 : aggT Try.prog 137 = some true := by kernel_rfl
theorem zr137 : zrT Try.prog 137 = some (.agg #[(.int .u64 0), (.int .u64 0), (.int .u32 0), (.int .u8 0), (.int .u8 0), (.int .u8 0), (.int .u8 0), .nilFunc, (.pointer none), (.int .i32 0), (.int .i32 0)]) := by kernel_rfl
theorem by137 : byT Try.prog 137 = some 48 := by kernel_rfl
theorem fl137_0 : fldT Try.prog 137 0 = some (0, 12) := by kernel_rfl
theorem fl137_1 : fldT Try.prog 137 1 = some (1, 12) := by kernel_rfl
theorem fl137_2 : fldT Try.prog 137 2 = some (2, 118) := by kernel_rfl
theorem fl137_3 : fldT Try.prog 137 3 = some (3, 131) := by kernel_rfl
theorem fl137_4 : fldT Try.prog 137 4 = some (4, 5) := by kernel_rfl
theorem fl137_5 : fldT Try.prog 137 5 = some (5, 5) := by kernel_rfl
theorem fl137_6 : fldT Try.prog 137 6 = some (6, 132) := by kernel_rfl
theorem fl137_7 : fldT Try.prog 137 7 = some (7, 133) := by kernel_rfl
theorem fl137_8 : fldT Try.prog 137 8 = some (8, 134) := by kernel_rfl
theorem fl137_9 : fldT Try.prog 137 9 = some (9, 135) := by kernel_rfl
theorem fl137_10 : fldT Try.prog 137 10 = some (10, 136) := by kernel_rfl
theorem pl137 : plT Try.prog 137 = some [(0, 1), (1, 1), (2, 1), (3, 1), (4, 1), (5, 1), (6, 1), (7, 1), (8, 1), (9, 1), (10, 1)] := by kernel_rfl
theorem sz138 : szT Try.prog 138 = some 11 := by kernel_rfl
theorem ag138 : aggT Try.prog 138 = some true := by kernel_rfl
theorem zr138 : zrT Try.prog 138 = some (.agg #[(.int .u64 0), (.int .u64 0), (.int .u32 0), (.int .u8 0), (.int .u8 0), (.int .u8 0), (.int .u8 0), .nilFunc, (.pointer none), (.int .i32 0), (.int .i32 0)]) := by kernel_rfl
theorem by138 : byT Try.prog 138 = some 48 := by kernel_rfl
theorem fl138_0 : fldT Try.prog 138 0 = some (0, 12) := by kernel_rfl
theorem fl138_1 : fldT Try.prog 138 1 = some (1, 12) := by kernel_rfl
theorem fl138_2 : fldT Try.prog 138 2 = some (2, 118) := by kernel_rfl
theorem fl138_3 : fldT Try.prog 138 3 = some (3, 131) := by kernel_rfl
theorem fl138_4 : fldT Try.prog 138 4 = some (4, 5) := by kernel_rfl
theorem fl138_5 : fldT Try.prog 138 5 = some (5, 5) := by kernel_rfl
theorem fl138_6 : fldT Try.prog 138 6 = some (6, 132) := by kernel_rfl
theorem fl138_7 : fldT Try.prog 138 7 = some (7, 133) := by kernel_rfl
theorem fl138_8 : fldT Try.prog 138 8 = some (8, 134) := by kernel_rfl
theorem fl138_9 : fldT Try.prog 138 9 = some (9, 135) := by kernel_rfl
theorem fl138_10 : fldT Try.prog 138 10 = some (10, 136) := by kernel_rfl
theorem pl138 : plT Try.prog 138 = some [(0, 1), (1, 1), (2, 1), (3, 1), (4, 1), (5, 1), (6, 1), (7, 1), (8, 1), (9, 1), (10, 1)] := by kernel_rfl
theorem T1 : type_of% (And.intro sz1 (And.intro ag1 (And.intro zr1 (by1)))) := And.intro sz1 (And.intro ag1 (And.intro zr1 (by1)))
theorem T2 : type_of% (And.intro sz2 (And.intro ag2 (And.intro zr2 (And.intro by2 (in2))))) := And.intro sz2 (And.intro ag2 (And.intro zr2 (And.intro by2 (in2))))
theorem T3 : type_of% (And.intro sz3 (And.intro ag3 (And.intro zr3 (And.intro by3 (in3))))) := And.intro sz3 (And.intro ag3 (And.intro zr3 (And.intro by3 (in3))))
theorem T4 : type_of% (And.intro sz4 (And.intro ag4 (And.intro zr4 (And.intro by4 (bo4))))) := And.intro sz4 (And.intro ag4 (And.intro zr4 (And.intro by4 (bo4))))
theorem T5 : type_of% (And.intro sz5 (And.intro ag5 (And.intro zr5 (And.intro by5 (in5))))) := And.intro sz5 (And.intro ag5 (And.intro zr5 (And.intro by5 (in5))))
theorem T6 : type_of% (And.intro sz6 (And.intro ag6 (And.intro zr6 (And.intro by6 (in6))))) := And.intro sz6 (And.intro ag6 (And.intro zr6 (And.intro by6 (in6))))
theorem T7 : type_of% (And.intro sz7 (And.intro ag7 (And.intro zr7 (And.intro by7 (And.intro fl7_0 (And.intro fl7_1 (And.intro fl7_2 (And.intro fl7_3 (pl7))))))))) := And.intro sz7 (And.intro ag7 (And.intro zr7 (And.intro by7 (And.intro fl7_0 (And.intro fl7_1 (And.intro fl7_2 (And.intro fl7_3 (pl7))))))))
theorem T8 : type_of% (And.intro sz8 (And.intro ag8 (And.intro zr8 (And.intro by8 (And.intro fl8_0 (And.intro fl8_1 (And.intro fl8_2 (And.intro fl8_3 (pl8))))))))) := And.intro sz8 (And.intro ag8 (And.intro zr8 (And.intro by8 (And.intro fl8_0 (And.intro fl8_1 (And.intro fl8_2 (And.intro fl8_3 (pl8))))))))
theorem T9 : type_of% (And.intro sz9 (And.intro ag9 (And.intro zr9 (And.intro by9 (st9))))) := And.intro sz9 (And.intro ag9 (And.intro zr9 (And.intro by9 (st9))))
theorem T10 : type_of% (And.intro sz10 (And.intro ag10 (And.intro zr10 (And.intro by10 (st10))))) := And.intro sz10 (And.intro ag10 (And.intro zr10 (And.intro by10 (st10))))
theorem T11 : type_of% (And.intro sz11 (And.intro ag11 (And.intro zr11 (And.intro by11 (st11))))) := And.intro sz11 (And.intro ag11 (And.intro zr11 (And.intro by11 (st11))))
theorem T12 : type_of% (And.intro sz12 (And.intro ag12 (And.intro zr12 (And.intro by12 (in12))))) := And.intro sz12 (And.intro ag12 (And.intro zr12 (And.intro by12 (in12))))
theorem T13 : type_of% (And.intro sz13 (And.intro ag13 (And.intro zr13 (And.intro by13 (And.intro fl13_0 (And.intro fl13_1 (pl13))))))) := And.intro sz13 (And.intro ag13 (And.intro zr13 (And.intro by13 (And.intro fl13_0 (And.intro fl13_1 (pl13))))))
theorem T14 : type_of% (And.intro sz14 (And.intro ag14 (And.intro zr14 (And.intro by14 (And.intro fl14_0 (And.intro fl14_1 (pl14))))))) := And.intro sz14 (And.intro ag14 (And.intro zr14 (And.intro by14 (And.intro fl14_0 (And.intro fl14_1 (pl14))))))
theorem T15 : type_of% (And.intro sz15 (And.intro ag15 (And.intro zr15 (And.intro by15 (pt15))))) := And.intro sz15 (And.intro ag15 (And.intro zr15 (And.intro by15 (pt15))))
theorem T16 : type_of% (And.intro sz16 (And.intro ag16 (And.intro zr16 (And.intro by16 (pt16))))) := And.intro sz16 (And.intro ag16 (And.intro zr16 (And.intro by16 (pt16))))
theorem T17 : type_of% (And.intro sz17 (And.intro ag17 (And.intro zr17 (And.intro by17 (pt17))))) := And.intro sz17 (And.intro ag17 (And.intro zr17 (And.intro by17 (pt17))))
theorem T18 : type_of% (And.intro sz18 (And.intro ag18 (And.intro zr18 (And.intro by18 (And.intro fl18_0 (pl18)))))) := And.intro sz18 (And.intro ag18 (And.intro zr18 (And.intro by18 (And.intro fl18_0 (pl18)))))
theorem T19 : type_of% (And.intro sz19 (And.intro ag19 (And.intro zr19 (And.intro by19 (And.intro fl19_0 (pl19)))))) := And.intro sz19 (And.intro ag19 (And.intro zr19 (And.intro by19 (And.intro fl19_0 (pl19)))))
theorem T20 : type_of% (And.intro sz20 (And.intro ag20 (And.intro zr20 (by20)))) := And.intro sz20 (And.intro ag20 (And.intro zr20 (by20)))
theorem T21 : type_of% (And.intro sz21 (And.intro ag21 (And.intro zr21 (And.intro by21 (in21))))) := And.intro sz21 (And.intro ag21 (And.intro zr21 (And.intro by21 (in21))))
theorem T22 : type_of% (And.intro sz22 (And.intro ag22 (And.intro zr22 (by22)))) := And.intro sz22 (And.intro ag22 (And.intro zr22 (by22)))
theorem T23 : type_of% (And.intro sz23 (And.intro ag23 (And.intro zr23 (by23)))) := And.intro sz23 (And.intro ag23 (And.intro zr23 (by23)))
theorem T24 : type_of% (And.intro sz24 (And.intro ag24 (And.intro zr24 (And.intro sl24 (by24))))) := And.intro sz24 (And.intro ag24 (And.intro zr24 (And.intro sl24 (by24))))
theorem T26 : type_of% (And.intro sz26 (And.intro ag26 (And.intro zr26 (by26)))) := And.intro sz26 (And.intro ag26 (And.intro zr26 (by26)))
theorem T28 : type_of% (And.intro sz28 (And.intro ag28 (And.intro zr28 (by28)))) := And.intro sz28 (And.intro ag28 (And.intro zr28 (by28)))
theorem T29 : type_of% (And.intro sz29 (And.intro ag29 (And.intro zr29 (by29)))) := And.intro sz29 (And.intro ag29 (And.intro zr29 (by29)))
theorem T30 : type_of% (And.intro sz30 (And.intro ag30 (And.intro zr30 (And.intro sl30 (by30))))) := And.intro sz30 (And.intro ag30 (And.intro zr30 (And.intro sl30 (by30))))
theorem T31 : type_of% (And.intro sz31 (And.intro ag31 (And.intro zr31 (by31)))) := And.intro sz31 (And.intro ag31 (And.intro zr31 (by31)))
theorem T32 : type_of% (And.intro sz32 (And.intro ag32 (And.intro zr32 (by32)))) := And.intro sz32 (And.intro ag32 (And.intro zr32 (by32)))
theorem T34 : type_of% (And.intro sz34 (And.intro ag34 (And.intro zr34 (by34)))) := And.intro sz34 (And.intro ag34 (And.intro zr34 (by34)))
theorem T35 : type_of% (And.intro sz35 (And.intro ag35 (And.intro zr35 (by35)))) := And.intro sz35 (And.intro ag35 (And.intro zr35 (by35)))
theorem T36 : type_of% (And.intro sz36 (And.intro ag36 (And.intro zr36 (by36)))) := And.intro sz36 (And.intro ag36 (And.intro zr36 (by36)))
theorem T37 : type_of% (And.intro sz37 (And.intro ag37 (And.intro zr37 (And.intro sl37 (by37))))) := And.intro sz37 (And.intro ag37 (And.intro zr37 (And.intro sl37 (by37))))
theorem T38 : type_of% (And.intro sz38 (And.intro ag38 (And.intro zr38 (by38)))) := And.intro sz38 (And.intro ag38 (And.intro zr38 (by38)))
theorem T39 : type_of% (And.intro sz39 (And.intro ag39 (And.intro zr39 (And.intro sl39 (by39))))) := And.intro sz39 (And.intro ag39 (And.intro zr39 (And.intro sl39 (by39))))
theorem T40 : type_of% (And.intro sz40 (And.intro ag40 (And.intro zr40 (by40)))) := And.intro sz40 (And.intro ag40 (And.intro zr40 (by40)))
theorem T41 : type_of% (And.intro sz41 (And.intro ag41 (And.intro zr41 (And.intro by41 (And.intro fl41_0 (pl41)))))) := And.intro sz41 (And.intro ag41 (And.intro zr41 (And.intro by41 (And.intro fl41_0 (pl41)))))
theorem T42 : type_of% (And.intro sz42 (And.intro ag42 (And.intro zr42 (And.intro by42 (And.intro fl42_0 (pl42)))))) := And.intro sz42 (And.intro ag42 (And.intro zr42 (And.intro by42 (And.intro fl42_0 (pl42)))))
theorem T43 : type_of% (And.intro sz43 (And.intro ag43 (And.intro zr43 (And.intro by43 (pt43))))) := And.intro sz43 (And.intro ag43 (And.intro zr43 (And.intro by43 (pt43))))
theorem T44 : type_of% (And.intro sz44 (And.intro ag44 (And.intro zr44 (And.intro sl44 (by44))))) := And.intro sz44 (And.intro ag44 (And.intro zr44 (And.intro sl44 (by44))))
theorem T45 : type_of% (And.intro sz45 (And.intro ag45 (And.intro zr45 (And.intro by45 (And.intro fl45_0 (pl45)))))) := And.intro sz45 (And.intro ag45 (And.intro zr45 (And.intro by45 (And.intro fl45_0 (pl45)))))
theorem T46 : type_of% (And.intro sz46 (And.intro ag46 (And.intro zr46 (And.intro by46 (And.intro fl46_0 (pl46)))))) := And.intro sz46 (And.intro ag46 (And.intro zr46 (And.intro by46 (And.intro fl46_0 (pl46)))))
theorem T47 : type_of% (And.intro sz47 (And.intro ag47 (And.intro zr47 (by47)))) := And.intro sz47 (And.intro ag47 (And.intro zr47 (by47)))
theorem T48 : type_of% (And.intro sz48 (And.intro ag48 (And.intro zr48 (And.intro by48 (And.intro fl48_0 (And.intro fl48_1 (pl48))))))) := And.intro sz48 (And.intro ag48 (And.intro zr48 (And.intro by48 (And.intro fl48_0 (And.intro fl48_1 (pl48))))))
theorem T49 : type_of% (And.intro sz49 (And.intro ag49 (And.intro zr49 (And.intro by49 (And.intro fl49_0 (And.intro fl49_1 (pl49))))))) := And.intro sz49 (And.intro ag49 (And.intro zr49 (And.intro by49 (And.intro fl49_0 (And.intro fl49_1 (pl49))))))
theorem T50 : type_of% (And.intro sz50 (And.intro ag50 (And.intro zr50 (And.intro by50 (in50))))) := And.intro sz50 (And.intro ag50 (And.intro zr50 (And.intro by50 (in50))))
theorem T52 : type_of% (And.intro sz52 (And.intro ag52 (And.intro zr52 (by52)))) := And.intro sz52 (And.intro ag52 (And.intro zr52 (by52)))
theorem T54 : type_of% (And.intro sz54 (And.intro ag54 (And.intro zr54 (by54)))) := And.intro sz54 (And.intro ag54 (And.intro zr54 (by54)))
theorem T55 : type_of% (And.intro sz55 (And.intro ag55 (And.intro zr55 (by55)))) := And.intro sz55 (And.intro ag55 (And.intro zr55 (by55)))
theorem T56 : type_of% (And.intro sz56 (And.intro ag56 (And.intro zr56 (by56)))) := And.intro sz56 (And.intro ag56 (And.intro zr56 (by56)))
theorem T58 : type_of% (And.intro sz58 (And.intro ag58 (And.intro zr58 (by58)))) := And.intro sz58 (And.intro ag58 (And.intro zr58 (by58)))
theorem T59 : type_of% (And.intro sz59 (And.intro ag59 (And.intro zr59 (And.intro sl59 (by59))))) := And.intro sz59 (And.intro ag59 (And.intro zr59 (And.intro sl59 (by59))))
theorem T60 : type_of% (And.intro sz60 (And.intro ag60 (And.intro zr60 (by60)))) := And.intro sz60 (And.intro ag60 (And.intro zr60 (by60)))
theorem T62 : type_of% (And.intro sz62 (And.intro ag62 (And.intro zr62 (by62)))) := And.intro sz62 (And.intro ag62 (And.intro zr62 (by62)))
theorem T63 : type_of% (And.intro sz63 (And.intro ag63 (And.intro zr63 (And.intro by63 (And.intro fl63_0 (And.intro fl63_1 (And.intro fl63_2 (pl63)))))))) := And.intro sz63 (And.intro ag63 (And.intro zr63 (And.intro by63 (And.intro fl63_0 (And.intro fl63_1 (And.intro fl63_2 (pl63)))))))
theorem T64 : type_of% (And.intro sz64 (And.intro ag64 (And.intro zr64 (And.intro by64 (And.intro fl64_0 (And.intro fl64_1 (And.intro fl64_2 (pl64)))))))) := And.intro sz64 (And.intro ag64 (And.intro zr64 (And.intro by64 (And.intro fl64_0 (And.intro fl64_1 (And.intro fl64_2 (pl64)))))))
theorem T66 : type_of% (And.intro sz66 (And.intro ag66 (And.intro zr66 (by66)))) := And.intro sz66 (And.intro ag66 (And.intro zr66 (by66)))
theorem T67 : type_of% (And.intro sz67 (And.intro ag67 (And.intro zr67 (And.intro by67 (And.intro fl67_0 (And.intro fl67_1 (And.intro fl67_2 (pl67)))))))) := And.intro sz67 (And.intro ag67 (And.intro zr67 (And.intro by67 (And.intro fl67_0 (And.intro fl67_1 (And.intro fl67_2 (pl67)))))))
theorem T68 : type_of% (And.intro sz68 (And.intro ag68 (And.intro zr68 (by68)))) := And.intro sz68 (And.intro ag68 (And.intro zr68 (by68)))
theorem T69 : type_of% (And.intro sz69 (And.intro ag69 (And.intro zr69 (And.intro sl69 (by69))))) := And.intro sz69 (And.intro ag69 (And.intro zr69 (And.intro sl69 (by69))))
theorem T70 : type_of% (And.intro sz70 (And.intro ag70 (And.intro zr70 (And.intro by70 (And.intro fl70_0 (And.intro fl70_1 (pl70))))))) := And.intro sz70 (And.intro ag70 (And.intro zr70 (And.intro by70 (And.intro fl70_0 (And.intro fl70_1 (pl70))))))
theorem T71 : type_of% (And.intro sz71 (And.intro ag71 (And.intro zr71 (And.intro by71 (And.intro fl71_0 (And.intro fl71_1 (pl71))))))) := And.intro sz71 (And.intro ag71 (And.intro zr71 (And.intro by71 (And.intro fl71_0 (And.intro fl71_1 (pl71))))))
theorem T73 : type_of% (And.intro sz73 (And.intro ag73 (And.intro zr73 (by73)))) := And.intro sz73 (And.intro ag73 (And.intro zr73 (by73)))
theorem T74 : type_of% (And.intro sz74 (And.intro ag74 (And.intro zr74 (by74)))) := And.intro sz74 (And.intro ag74 (And.intro zr74 (by74)))
theorem T75 : type_of% (And.intro sz75 (And.intro ag75 (And.intro zr75 (by75)))) := And.intro sz75 (And.intro ag75 (And.intro zr75 (by75)))
theorem T76 : type_of% (And.intro sz76 (And.intro ag76 (And.intro zr76 (by76)))) := And.intro sz76 (And.intro ag76 (And.intro zr76 (by76)))
theorem T77 : type_of% (And.intro sz77 (And.intro ag77 (And.intro zr77 (by77)))) := And.intro sz77 (And.intro ag77 (And.intro zr77 (by77)))
theorem T78 : type_of% (And.intro sz78 (And.intro ag78 (And.intro zr78 (by78)))) := And.intro sz78 (And.intro ag78 (And.intro zr78 (by78)))
theorem T79 : type_of% (And.intro sz79 (And.intro ag79 (And.intro zr79 (by79)))) := And.intro sz79 (And.intro ag79 (And.intro zr79 (by79)))
theorem T80 : type_of% (And.intro sz80 (And.intro ag80 (And.intro zr80 (by80)))) := And.intro sz80 (And.intro ag80 (And.intro zr80 (by80)))
theorem T81 : type_of% (And.intro sz81 (And.intro ag81 (And.intro zr81 (by81)))) := And.intro sz81 (And.intro ag81 (And.intro zr81 (by81)))
theorem T82 : type_of% (And.intro sz82 (And.intro ag82 (And.intro zr82 (by82)))) := And.intro sz82 (And.intro ag82 (And.intro zr82 (by82)))
theorem T84 : type_of% (And.intro sz84 (And.intro ag84 (And.intro zr84 (by84)))) := And.intro sz84 (And.intro ag84 (And.intro zr84 (by84)))
theorem T85 : type_of% (And.intro sz85 (And.intro ag85 (And.intro zr85 (by85)))) := And.intro sz85 (And.intro ag85 (And.intro zr85 (by85)))
theorem T86 : type_of% (And.intro sz86 (And.intro ag86 (And.intro zr86 (And.intro by86 (pt86))))) := And.intro sz86 (And.intro ag86 (And.intro zr86 (And.intro by86 (pt86))))
theorem T87 : type_of% (And.intro sz87 (And.intro ag87 (And.intro zr87 (And.intro by87 (And.intro fl87_0 (And.intro fl87_1 (pl87))))))) := And.intro sz87 (And.intro ag87 (And.intro zr87 (And.intro by87 (And.intro fl87_0 (And.intro fl87_1 (pl87))))))
theorem T88 : type_of% (And.intro sz88 (And.intro ag88 (And.intro zr88 (And.intro by88 (And.intro fl88_0 (And.intro fl88_1 (pl88))))))) := And.intro sz88 (And.intro ag88 (And.intro zr88 (And.intro by88 (And.intro fl88_0 (And.intro fl88_1 (pl88))))))
theorem T89 : type_of% (And.intro sz89 (And.intro ag89 (And.intro zr89 (by89)))) := And.intro sz89 (And.intro ag89 (And.intro zr89 (by89)))
theorem T90 : type_of% (And.intro sz90 (And.intro ag90 (And.intro zr90 (by90)))) := And.intro sz90 (And.intro ag90 (And.intro zr90 (by90)))
theorem T92 : type_of% (And.intro sz92 (And.intro ag92 (And.intro zr92 (by92)))) := And.intro sz92 (And.intro ag92 (And.intro zr92 (by92)))
theorem T93 : type_of% (And.intro sz93 (And.intro ag93 (And.intro zr93 (by93)))) := And.intro sz93 (And.intro ag93 (And.intro zr93 (by93)))
theorem T94 : type_of% (And.intro sz94 (And.intro ag94 (And.intro zr94 (by94)))) := And.intro sz94 (And.intro ag94 (And.intro zr94 (by94)))
theorem T95 : type_of% (And.intro sz95 (And.intro ag95 (And.intro zr95 (by95)))) := And.intro sz95 (And.intro ag95 (And.intro zr95 (by95)))
theorem T97 : type_of% (And.intro sz97 (And.intro ag97 (And.intro zr97 (by97)))) := And.intro sz97 (And.intro ag97 (And.intro zr97 (by97)))
theorem T98 : type_of% (And.intro sz98 (And.intro ag98 (And.intro zr98 (by98)))) := And.intro sz98 (And.intro ag98 (And.intro zr98 (by98)))
theorem T99 : type_of% (And.intro sz99 (And.intro ag99 (And.intro zr99 (by99)))) := And.intro sz99 (And.intro ag99 (And.intro zr99 (by99)))
theorem T100 : type_of% (And.intro sz100 (And.intro ag100 (And.intro zr100 (by100)))) := And.intro sz100 (And.intro ag100 (And.intro zr100 (by100)))
theorem T101 : type_of% (And.intro sz101 (And.intro ag101 (And.intro zr101 (by101)))) := And.intro sz101 (And.intro ag101 (And.intro zr101 (by101)))
theorem T102 : type_of% (And.intro sz102 (And.intro ag102 (And.intro zr102 (by102)))) := And.intro sz102 (And.intro ag102 (And.intro zr102 (by102)))
theorem T103 : type_of% (And.intro sz103 (And.intro ag103 (And.intro zr103 (by103)))) := And.intro sz103 (And.intro ag103 (And.intro zr103 (by103)))
theorem T104 : type_of% (And.intro sz104 (And.intro ag104 (And.intro zr104 (by104)))) := And.intro sz104 (And.intro ag104 (And.intro zr104 (by104)))
theorem T105 : type_of% (And.intro sz105 (And.intro ag105 (And.intro zr105 (And.intro by105 (in105))))) := And.intro sz105 (And.intro ag105 (And.intro zr105 (And.intro by105 (in105))))
theorem T106 : type_of% (And.intro sz106 (And.intro ag106 (And.intro zr106 (by106)))) := And.intro sz106 (And.intro ag106 (And.intro zr106 (by106)))
theorem T107 : type_of% (And.intro sz107 (And.intro ag107 (And.intro zr107 (by107)))) := And.intro sz107 (And.intro ag107 (And.intro zr107 (by107)))
theorem T108 : type_of% (And.intro sz108 (And.intro ag108 (And.intro zr108 (by108)))) := And.intro sz108 (And.intro ag108 (And.intro zr108 (by108)))
theorem T109 : type_of% (And.intro sz109 (And.intro ag109 (And.intro zr109 (by109)))) := And.intro sz109 (And.intro ag109 (And.intro zr109 (by109)))
theorem T110 : type_of% (And.intro sz110 (And.intro ag110 (And.intro zr110 (by110)))) := And.intro sz110 (And.intro ag110 (And.intro zr110 (by110)))
theorem T111 : type_of% (And.intro sz111 (And.intro ag111 (And.intro zr111 (by111)))) := And.intro sz111 (And.intro ag111 (And.intro zr111 (by111)))
theorem T112 : type_of% (And.intro sz112 (And.intro ag112 (And.intro zr112 (by112)))) := And.intro sz112 (And.intro ag112 (And.intro zr112 (by112)))
theorem T113 : type_of% (And.intro sz113 (And.intro ag113 (And.intro zr113 (by113)))) := And.intro sz113 (And.intro ag113 (And.intro zr113 (by113)))
theorem T114 : type_of% (And.intro sz114 (And.intro ag114 (And.intro zr114 (by114)))) := And.intro sz114 (And.intro ag114 (And.intro zr114 (by114)))
theorem T115 : type_of% (And.intro sz115 (And.intro ag115 (And.intro zr115 (by115)))) := And.intro sz115 (And.intro ag115 (And.intro zr115 (by115)))
theorem T117 : type_of% (And.intro sz117 (And.intro ag117 (And.intro zr117 (by117)))) := And.intro sz117 (And.intro ag117 (And.intro zr117 (by117)))
theorem T118 : type_of% (And.intro sz118 (And.intro ag118 (And.intro zr118 (And.intro by118 (in118))))) := And.intro sz118 (And.intro ag118 (And.intro zr118 (And.intro by118 (in118))))
theorem T120 : type_of% (And.intro sz120 (And.intro ag120 (And.intro zr120 (by120)))) := And.intro sz120 (And.intro ag120 (And.intro zr120 (by120)))
theorem T121 : type_of% (And.intro sz121 (And.intro ag121 (And.intro zr121 (And.intro by121 (in121))))) := And.intro sz121 (And.intro ag121 (And.intro zr121 (And.intro by121 (in121))))
theorem T123 : type_of% (And.intro sz123 (And.intro ag123 (And.intro zr123 (by123)))) := And.intro sz123 (And.intro ag123 (And.intro zr123 (by123)))
theorem T124 : type_of% (And.intro sz124 (And.intro ag124 (And.intro zr124 (by124)))) := And.intro sz124 (And.intro ag124 (And.intro zr124 (by124)))
theorem T125 : type_of% (And.intro sz125 (And.intro ag125 (And.intro zr125 (And.intro by125 (And.intro fl125_0 (And.intro fl125_1 (And.intro fl125_2 (And.intro fl125_3 (pl125))))))))) := And.intro sz125 (And.intro ag125 (And.intro zr125 (And.intro by125 (And.intro fl125_0 (And.intro fl125_1 (And.intro fl125_2 (And.intro fl125_3 (pl125))))))))
theorem T126 : type_of% (And.intro sz126 (And.intro ag126 (And.intro zr126 (And.intro by126 (And.intro fl126_0 (And.intro fl126_1 (And.intro fl126_2 (And.intro fl126_3 (pl126))))))))) := And.intro sz126 (And.intro ag126 (And.intro zr126 (And.intro by126 (And.intro fl126_0 (And.intro fl126_1 (And.intro fl126_2 (And.intro fl126_3 (pl126))))))))
theorem T127 : type_of% (And.intro sz127 (And.intro ag127 (And.intro zr127 (And.intro by127 (ar127))))) := And.intro sz127 (And.intro ag127 (And.intro zr127 (And.intro by127 (ar127))))
theorem T128 : type_of% (And.intro sz128 (And.intro ag128 (And.intro zr128 (And.intro by128 (And.intro fl128_0 (pl128)))))) := And.intro sz128 (And.intro ag128 (And.intro zr128 (And.intro by128 (And.intro fl128_0 (pl128)))))
theorem T129 : type_of% (And.intro sz129 (And.intro ag129 (And.intro zr129 (And.intro by129 (And.intro fl129_0 (pl129)))))) := And.intro sz129 (And.intro ag129 (And.intro zr129 (And.intro by129 (And.intro fl129_0 (pl129)))))
theorem T130 : type_of% (And.intro sz130 (And.intro ag130 (And.intro zr130 (by130)))) := And.intro sz130 (And.intro ag130 (And.intro zr130 (by130)))
theorem T131 : type_of% (And.intro sz131 (And.intro ag131 (And.intro zr131 (And.intro by131 (in131))))) := And.intro sz131 (And.intro ag131 (And.intro zr131 (And.intro by131 (in131))))
theorem T132 : type_of% (And.intro sz132 (And.intro ag132 (And.intro zr132 (And.intro by132 (in132))))) := And.intro sz132 (And.intro ag132 (And.intro zr132 (And.intro by132 (in132))))
theorem T133 : type_of% (And.intro sz133 (And.intro ag133 (And.intro zr133 (by133)))) := And.intro sz133 (And.intro ag133 (And.intro zr133 (by133)))
theorem T134 : type_of% (And.intro sz134 (And.intro ag134 (And.intro zr134 (And.intro by134 (pt134))))) := And.intro sz134 (And.intro ag134 (And.intro zr134 (And.intro by134 (pt134))))
theorem T135 : type_of% (And.intro sz135 (And.intro ag135 (And.intro zr135 (And.intro by135 (in135))))) := And.intro sz135 (And.intro ag135 (And.intro zr135 (And.intro by135 (in135))))
theorem T136 : type_of% (And.intro sz136 (And.intro ag136 (And.intro zr136 (And.intro by136 (in136))))) := And.intro sz136 (And.intro ag136 (And.intro zr136 (And.intro by136 (in136))))
theorem T137 : type_of% (And.intro sz137 (And.intro ag137 (And.intro zr137 (And.intro by137 (And.intro fl137_0 (And.intro fl137_1 (And.intro fl137_2 (And.intro fl137_3 (And.intro fl137_4 (And.intro fl137_5 (And.intro fl137_6 (And.intro fl137_7 (And.intro fl137_8 (And.intro fl137_9 (And.intro fl137_10 (pl137)))))))))))))))) := And.intro sz137 (And.intro ag137 (And.intro zr137 (And.intro by137 (And.intro fl137_0 (And.intro fl137_1 (And.intro fl137_2 (And.intro fl137_3 (And.intro fl137_4 (And.intro fl137_5 (And.intro fl137_6 (And.intro fl137_7 (And.intro fl137_8 (And.intro fl137_9 (And.intro fl137_10 (pl137)))))))))))))))
theorem T138 : type_of% (And.intro sz138 (And.intro ag138 (And.intro zr138 (And.intro by138 (And.intro fl138_0 (And.intro fl138_1 (And.intro fl138_2 (And.intro fl138_3 (And.intro fl138_4 (And.intro fl138_5 (And.intro fl138_6 (And.intro fl138_7 (And.intro fl138_8 (And.intro fl138_9 (And.intro fl138_10 (pl138)))))))))))))))) := And.intro sz138 (And.intro ag138 (And.intro zr138 (And.intro by138 (And.intro fl138_0 (And.intro fl138_1 (And.intro fl138_2 (And.intro fl138_3 (And.intro fl138_4 (And.intro fl138_5 (And.intro fl138_6 (And.intro fl138_7 (And.intro fl138_8 (And.intro fl138_9 (And.intro fl138_10 (pl138)))))))))))))))
instance : TOne Try.prog 1 := ⟨ag1, sz1⟩
instance : TZr Try.prog 1 .nilFunc := ⟨zr1⟩
instance : TOne Try.prog 2 := ⟨ag2, sz2⟩
instance : TZr Try.prog 2 (.int .i64 0) := ⟨zr2⟩
instance : TIn Try.prog 2 .i64 := ⟨in2⟩
instance : TOne Try.prog 3 := ⟨ag3, sz3⟩
instance : TZr Try.prog 3 (.int .i64 0) := ⟨zr3⟩
instance : TIn Try.prog 3 .i64 := ⟨in3⟩
instance : TOne Try.prog 4 := ⟨ag4, sz4⟩
instance : TZr Try.prog 4 (.bool false) := ⟨zr4⟩
instance : TOne Try.prog 5 := ⟨ag5, sz5⟩
instance : TZr Try.prog 5 (.int .u8 0) := ⟨zr5⟩
instance : TIn Try.prog 5 .u8 := ⟨in5⟩
instance : TOne Try.prog 6 := ⟨ag6, sz6⟩
instance : TZr Try.prog 6 (.int .u8 0) := ⟨zr6⟩
instance : TIn Try.prog 6 .u8 := ⟨in6⟩
instance : TAgg Try.prog 7 4 := ⟨ag7, sz7⟩
instance : TZr Try.prog 7 (.agg #[(.int .i64 0), (.int .i64 0), (.bool false), (.int .u8 0)]) := ⟨zr7⟩
instance : TPl Try.prog 7 [(0, 1), (1, 1), (2, 1), (3, 1)] := ⟨pl7⟩
instance : TAgg Try.prog 8 4 := ⟨ag8, sz8⟩
instance : TZr Try.prog 8 (.agg #[(.int .i64 0), (.int .i64 0), (.bool false), (.int .u8 0)]) := ⟨zr8⟩
instance : TPl Try.prog 8 [(0, 1), (1, 1), (2, 1), (3, 1)] := ⟨pl8⟩
instance : TOne Try.prog 9 := ⟨ag9, sz9⟩
instance : TZr Try.prog 9 (.string ByteArray.empty) := ⟨zr9⟩
instance : TStr Try.prog 9 := ⟨st9⟩
instance : TOne Try.prog 10 := ⟨ag10, sz10⟩
instance : TZr Try.prog 10 (.string ByteArray.empty) := ⟨zr10⟩
instance : TStr Try.prog 10 := ⟨st10⟩
instance : TOne Try.prog 11 := ⟨ag11, sz11⟩
instance : TZr Try.prog 11 (.string ByteArray.empty) := ⟨zr11⟩
instance : TStr Try.prog 11 := ⟨st11⟩
instance : TOne Try.prog 12 := ⟨ag12, sz12⟩
instance : TZr Try.prog 12 (.int .u64 0) := ⟨zr12⟩
instance : TIn Try.prog 12 .u64 := ⟨in12⟩
instance : TAgg Try.prog 13 2 := ⟨ag13, sz13⟩
instance : TZr Try.prog 13 (.agg #[(.string ByteArray.empty), (.int .u64 0)]) := ⟨zr13⟩
instance : TPl Try.prog 13 [(0, 1), (1, 1)] := ⟨pl13⟩
instance : TAgg Try.prog 14 2 := ⟨ag14, sz14⟩
instance : TZr Try.prog 14 (.agg #[(.string ByteArray.empty), (.int .u64 0)]) := ⟨zr14⟩
instance : TPl Try.prog 14 [(0, 1), (1, 1)] := ⟨pl14⟩
instance : TOne Try.prog 15 := ⟨ag15, sz15⟩
instance : TZr Try.prog 15 (.pointer none) := ⟨zr15⟩
instance : TOne Try.prog 16 := ⟨ag16, sz16⟩
instance : TZr Try.prog 16 (.pointer none) := ⟨zr16⟩
instance : TOne Try.prog 17 := ⟨ag17, sz17⟩
instance : TZr Try.prog 17 (.pointer none) := ⟨zr17⟩
instance : TAgg Try.prog 18 1 := ⟨ag18, sz18⟩
instance : TZr Try.prog 18 (.agg #[(.pointer none)]) := ⟨zr18⟩
instance : TPl Try.prog 18 [(0, 1)] := ⟨pl18⟩
instance : TAgg Try.prog 19 1 := ⟨ag19, sz19⟩
instance : TZr Try.prog 19 (.agg #[(.pointer none)]) := ⟨zr19⟩
instance : TPl Try.prog 19 [(0, 1)] := ⟨pl19⟩
instance : TOne Try.prog 20 := ⟨ag20, sz20⟩
instance : TZr Try.prog 20 .nilIface := ⟨zr20⟩
instance : TOne Try.prog 21 := ⟨ag21, sz21⟩
instance : TZr Try.prog 21 (.int .i32 0) := ⟨zr21⟩
instance : TIn Try.prog 21 .i32 := ⟨in21⟩
instance : TOne Try.prog 22 := ⟨ag22, sz22⟩
instance : TZr Try.prog 22 .nilFunc := ⟨zr22⟩
instance : TOne Try.prog 23 := ⟨ag23, sz23⟩
instance : TZr Try.prog 23 .nilFunc := ⟨zr23⟩
instance : TOne Try.prog 24 := ⟨ag24, sz24⟩
instance : TZr Try.prog 24 (.slice none 0 0) := ⟨zr24⟩
instance : TSl Try.prog 24 3 1 8 (.int .i64 0) := ⟨sl24, sz3, by3, zr3, by decide, rfl⟩
instance : TOne Try.prog 26 := ⟨ag26, sz26⟩
instance : TZr Try.prog 26 .nilFunc := ⟨zr26⟩
instance : TOne Try.prog 28 := ⟨ag28, sz28⟩
instance : TZr Try.prog 28 .nilFunc := ⟨zr28⟩
instance : TOne Try.prog 29 := ⟨ag29, sz29⟩
instance : TZr Try.prog 29 .nilFunc := ⟨zr29⟩
instance : TOne Try.prog 30 := ⟨ag30, sz30⟩
instance : TZr Try.prog 30 (.slice none 0 0) := ⟨zr30⟩
instance : TSl Try.prog 30 5 1 1 (.int .u8 0) := ⟨sl30, sz5, by5, zr5, by decide, rfl⟩
instance : TOne Try.prog 31 := ⟨ag31, sz31⟩
instance : TZr Try.prog 31 .nilFunc := ⟨zr31⟩
instance : TOne Try.prog 32 := ⟨ag32, sz32⟩
instance : TZr Try.prog 32 .nilFunc := ⟨zr32⟩
instance : TOne Try.prog 34 := ⟨ag34, sz34⟩
instance : TZr Try.prog 34 .nilFunc := ⟨zr34⟩
instance : TOne Try.prog 35 := ⟨ag35, sz35⟩
instance : TZr Try.prog 35 .nilFunc := ⟨zr35⟩
instance : TOne Try.prog 36 := ⟨ag36, sz36⟩
instance : TZr Try.prog 36 .nilFunc := ⟨zr36⟩
instance : TOne Try.prog 37 := ⟨ag37, sz37⟩
instance : TZr Try.prog 37 (.slice none 0 0) := ⟨zr37⟩
instance : TSl Try.prog 37 9 1 16 (.string ByteArray.empty) := ⟨sl37, sz9, by9, zr9, by decide, rfl⟩
instance : TOne Try.prog 38 := ⟨ag38, sz38⟩
instance : TZr Try.prog 38 .nilFunc := ⟨zr38⟩
instance : TOne Try.prog 39 := ⟨ag39, sz39⟩
instance : TZr Try.prog 39 (.slice none 0 0) := ⟨zr39⟩
instance : TSl Try.prog 39 49 2 32 (.agg #[(.string ByteArray.empty), (.string ByteArray.empty)]) := ⟨sl39, sz49, by49, zr49, by decide, rfl⟩
instance : TOne Try.prog 40 := ⟨ag40, sz40⟩
instance : TZr Try.prog 40 (.map none) := ⟨zr40⟩
instance : TAgg Try.prog 41 1 := ⟨ag41, sz41⟩
instance : TZr Try.prog 41 (.agg #[(.map none)]) := ⟨zr41⟩
instance : TPl Try.prog 41 [(0, 1)] := ⟨pl41⟩
instance : TAgg Try.prog 42 1 := ⟨ag42, sz42⟩
instance : TZr Try.prog 42 (.agg #[(.map none)]) := ⟨zr42⟩
instance : TPl Try.prog 42 [(0, 1)] := ⟨pl42⟩
instance : TOne Try.prog 43 := ⟨ag43, sz43⟩
instance : TZr Try.prog 43 (.pointer none) := ⟨zr43⟩
instance : TOne Try.prog 44 := ⟨ag44, sz44⟩
instance : TZr Try.prog 44 (.slice none 0 0) := ⟨zr44⟩
instance : TSl Try.prog 44 88 2 32 (.agg #[(.string ByteArray.empty), (.string ByteArray.empty)]) := ⟨sl44, sz88, by88, zr88, by decide, rfl⟩
instance : TAgg Try.prog 45 1 := ⟨ag45, sz45⟩
instance : TZr Try.prog 45 (.agg #[(.slice none 0 0)]) := ⟨zr45⟩
instance : TPl Try.prog 45 [(0, 1)] := ⟨pl45⟩
instance : TAgg Try.prog 46 1 := ⟨ag46, sz46⟩
instance : TZr Try.prog 46 (.agg #[(.slice none 0 0)]) := ⟨zr46⟩
instance : TPl Try.prog 46 [(0, 1)] := ⟨pl46⟩
instance : TOne Try.prog 47 := ⟨ag47, sz47⟩
instance : TZr Try.prog 47 .nilFunc := ⟨zr47⟩
instance : TAgg Try.prog 48 2 := ⟨ag48, sz48⟩
instance : TZr Try.prog 48 (.agg #[(.string ByteArray.empty), (.string ByteArray.empty)]) := ⟨zr48⟩
instance : TPl Try.prog 48 [(0, 1), (1, 1)] := ⟨pl48⟩
instance : TAgg Try.prog 49 2 := ⟨ag49, sz49⟩
instance : TZr Try.prog 49 (.agg #[(.string ByteArray.empty), (.string ByteArray.empty)]) := ⟨zr49⟩
instance : TPl Try.prog 49 [(0, 1), (1, 1)] := ⟨pl49⟩
instance : TOne Try.prog 50 := ⟨ag50, sz50⟩
instance : TZr Try.prog 50 (.int .i64 0) := ⟨zr50⟩
instance : TIn Try.prog 50 .i64 := ⟨in50⟩
instance : TOne Try.prog 52 := ⟨ag52, sz52⟩
instance : TZr Try.prog 52 .nilFunc := ⟨zr52⟩
instance : TOne Try.prog 54 := ⟨ag54, sz54⟩
instance : TZr Try.prog 54 .nilFunc := ⟨zr54⟩
instance : TOne Try.prog 55 := ⟨ag55, sz55⟩
instance : TZr Try.prog 55 .nilFunc := ⟨zr55⟩
instance : TOne Try.prog 56 := ⟨ag56, sz56⟩
instance : TZr Try.prog 56 .nilFunc := ⟨zr56⟩
instance : TOne Try.prog 58 := ⟨ag58, sz58⟩
instance : TZr Try.prog 58 .nilFunc := ⟨zr58⟩
instance : TOne Try.prog 59 := ⟨ag59, sz59⟩
instance : TZr Try.prog 59 (.slice none 0 0) := ⟨zr59⟩
instance : TSl Try.prog 59 71 2 32 (.agg #[(.int .i64 0), (.slice none 0 0)]) := ⟨sl59, sz71, by71, zr71, by decide, rfl⟩
instance : TOne Try.prog 60 := ⟨ag60, sz60⟩
instance : TZr Try.prog 60 .nilFunc := ⟨zr60⟩
instance : TOne Try.prog 62 := ⟨ag62, sz62⟩
instance : TZr Try.prog 62 .nilFunc := ⟨zr62⟩
instance : TAgg Try.prog 63 3 := ⟨ag63, sz63⟩
instance : TZr Try.prog 63 (.agg #[(.bool false), (.int .i64 0), (.int .i64 0)]) := ⟨zr63⟩
instance : TPl Try.prog 63 [(0, 1), (1, 1), (2, 1)] := ⟨pl63⟩
instance : TAgg Try.prog 64 3 := ⟨ag64, sz64⟩
instance : TZr Try.prog 64 (.agg #[(.bool false), (.int .i64 0), (.int .i64 0)]) := ⟨zr64⟩
instance : TPl Try.prog 64 [(0, 1), (1, 1), (2, 1)] := ⟨pl64⟩
instance : TOne Try.prog 66 := ⟨ag66, sz66⟩
instance : TZr Try.prog 66 .nilFunc := ⟨zr66⟩
instance : TAgg Try.prog 67 3 := ⟨ag67, sz67⟩
instance : TZr Try.prog 67 (.agg #[(.bool false), (.int .i64 0), (.int .i64 0)]) := ⟨zr67⟩
instance : TPl Try.prog 67 [(0, 1), (1, 1), (2, 1)] := ⟨pl67⟩
instance : TOne Try.prog 68 := ⟨ag68, sz68⟩
instance : TZr Try.prog 68 .nilFunc := ⟨zr68⟩
instance : TOne Try.prog 69 := ⟨ag69, sz69⟩
instance : TZr Try.prog 69 (.slice none 0 0) := ⟨zr69⟩
instance : TSl Try.prog 69 24 1 24 (.slice none 0 0) := ⟨sl69, sz24, by24, zr24, by decide, rfl⟩
instance : TAgg Try.prog 70 2 := ⟨ag70, sz70⟩
instance : TZr Try.prog 70 (.agg #[(.int .i64 0), (.slice none 0 0)]) := ⟨zr70⟩
instance : TPl Try.prog 70 [(0, 1), (1, 1)] := ⟨pl70⟩
instance : TAgg Try.prog 71 2 := ⟨ag71, sz71⟩
instance : TZr Try.prog 71 (.agg #[(.int .i64 0), (.slice none 0 0)]) := ⟨zr71⟩
instance : TPl Try.prog 71 [(0, 1), (1, 1)] := ⟨pl71⟩
instance : TOne Try.prog 73 := ⟨ag73, sz73⟩
instance : TZr Try.prog 73 .nilFunc := ⟨zr73⟩
instance : TOne Try.prog 74 := ⟨ag74, sz74⟩
instance : TZr Try.prog 74 .nilFunc := ⟨zr74⟩
instance : TOne Try.prog 75 := ⟨ag75, sz75⟩
instance : TZr Try.prog 75 .nilFunc := ⟨zr75⟩
instance : TOne Try.prog 76 := ⟨ag76, sz76⟩
instance : TZr Try.prog 76 .nilFunc := ⟨zr76⟩
instance : TOne Try.prog 77 := ⟨ag77, sz77⟩
instance : TZr Try.prog 77 .nilFunc := ⟨zr77⟩
instance : TOne Try.prog 78 := ⟨ag78, sz78⟩
instance : TZr Try.prog 78 .nilFunc := ⟨zr78⟩
instance : TOne Try.prog 79 := ⟨ag79, sz79⟩
instance : TZr Try.prog 79 .nilFunc := ⟨zr79⟩
instance : TOne Try.prog 80 := ⟨ag80, sz80⟩
instance : TZr Try.prog 80 .nilFunc := ⟨zr80⟩
instance : TOne Try.prog 81 := ⟨ag81, sz81⟩
instance : TZr Try.prog 81 .nilFunc := ⟨zr81⟩
instance : TOne Try.prog 82 := ⟨ag82, sz82⟩
instance : TZr Try.prog 82 .nilFunc := ⟨zr82⟩
instance : TOne Try.prog 84 := ⟨ag84, sz84⟩
instance : TZr Try.prog 84 .nilFunc := ⟨zr84⟩
instance : TOne Try.prog 85 := ⟨ag85, sz85⟩
instance : TZr Try.prog 85 .nilFunc := ⟨zr85⟩
instance : TOne Try.prog 86 := ⟨ag86, sz86⟩
instance : TZr Try.prog 86 (.pointer none) := ⟨zr86⟩
instance : TAgg Try.prog 87 2 := ⟨ag87, sz87⟩
instance : TZr Try.prog 87 (.agg #[(.string ByteArray.empty), (.string ByteArray.empty)]) := ⟨zr87⟩
instance : TPl Try.prog 87 [(0, 1), (1, 1)] := ⟨pl87⟩
instance : TAgg Try.prog 88 2 := ⟨ag88, sz88⟩
instance : TZr Try.prog 88 (.agg #[(.string ByteArray.empty), (.string ByteArray.empty)]) := ⟨zr88⟩
instance : TPl Try.prog 88 [(0, 1), (1, 1)] := ⟨pl88⟩
instance : TOne Try.prog 89 := ⟨ag89, sz89⟩
instance : TZr Try.prog 89 .nilFunc := ⟨zr89⟩
instance : TOne Try.prog 90 := ⟨ag90, sz90⟩
instance : TZr Try.prog 90 .nilFunc := ⟨zr90⟩
instance : TOne Try.prog 92 := ⟨ag92, sz92⟩
instance : TZr Try.prog 92 .nilFunc := ⟨zr92⟩
instance : TOne Try.prog 93 := ⟨ag93, sz93⟩
instance : TZr Try.prog 93 .nilFunc := ⟨zr93⟩
instance : TOne Try.prog 94 := ⟨ag94, sz94⟩
instance : TZr Try.prog 94 .nilFunc := ⟨zr94⟩
instance : TOne Try.prog 95 := ⟨ag95, sz95⟩
instance : TZr Try.prog 95 .nilFunc := ⟨zr95⟩
instance : TOne Try.prog 97 := ⟨ag97, sz97⟩
instance : TZr Try.prog 97 .nilFunc := ⟨zr97⟩
instance : TOne Try.prog 98 := ⟨ag98, sz98⟩
instance : TZr Try.prog 98 .nilFunc := ⟨zr98⟩
instance : TOne Try.prog 99 := ⟨ag99, sz99⟩
instance : TZr Try.prog 99 .nilFunc := ⟨zr99⟩
instance : TOne Try.prog 100 := ⟨ag100, sz100⟩
instance : TZr Try.prog 100 .nilFunc := ⟨zr100⟩
instance : TOne Try.prog 101 := ⟨ag101, sz101⟩
instance : TZr Try.prog 101 .nilFunc := ⟨zr101⟩
instance : TOne Try.prog 102 := ⟨ag102, sz102⟩
instance : TZr Try.prog 102 .nilFunc := ⟨zr102⟩
instance : TOne Try.prog 103 := ⟨ag103, sz103⟩
instance : TZr Try.prog 103 .nilFunc := ⟨zr103⟩
instance : TOne Try.prog 104 := ⟨ag104, sz104⟩
instance : TZr Try.prog 104 .nilFunc := ⟨zr104⟩
instance : TOne Try.prog 105 := ⟨ag105, sz105⟩
instance : TZr Try.prog 105 (.int .u64 0) := ⟨zr105⟩
instance : TIn Try.prog 105 .u64 := ⟨in105⟩
instance : TOne Try.prog 106 := ⟨ag106, sz106⟩
instance : TZr Try.prog 106 .nilFunc := ⟨zr106⟩
instance : TOne Try.prog 107 := ⟨ag107, sz107⟩
instance : TZr Try.prog 107 .nilFunc := ⟨zr107⟩
instance : TOne Try.prog 108 := ⟨ag108, sz108⟩
instance : TZr Try.prog 108 .nilFunc := ⟨zr108⟩
instance : TOne Try.prog 109 := ⟨ag109, sz109⟩
instance : TZr Try.prog 109 .nilFunc := ⟨zr109⟩
instance : TOne Try.prog 110 := ⟨ag110, sz110⟩
instance : TZr Try.prog 110 .nilFunc := ⟨zr110⟩
instance : TOne Try.prog 111 := ⟨ag111, sz111⟩
instance : TZr Try.prog 111 .nilFunc := ⟨zr111⟩
instance : TOne Try.prog 112 := ⟨ag112, sz112⟩
instance : TZr Try.prog 112 .nilFunc := ⟨zr112⟩
instance : TOne Try.prog 113 := ⟨ag113, sz113⟩
instance : TZr Try.prog 113 .nilFunc := ⟨zr113⟩
instance : TOne Try.prog 114 := ⟨ag114, sz114⟩
instance : TZr Try.prog 114 .nilFunc := ⟨zr114⟩
instance : TOne Try.prog 115 := ⟨ag115, sz115⟩
instance : TZr Try.prog 115 .nilFunc := ⟨zr115⟩
instance : TOne Try.prog 117 := ⟨ag117, sz117⟩
instance : TZr Try.prog 117 .nilFunc := ⟨zr117⟩
instance : TOne Try.prog 118 := ⟨ag118, sz118⟩
instance : TZr Try.prog 118 (.int .u32 0) := ⟨zr118⟩
instance : TIn Try.prog 118 .u32 := ⟨in118⟩
instance : TOne Try.prog 120 := ⟨ag120, sz120⟩
instance : TZr Try.prog 120 .nilFunc := ⟨zr120⟩
instance : TOne Try.prog 121 := ⟨ag121, sz121⟩
instance : TZr Try.prog 121 (.int .u64 0) := ⟨zr121⟩
instance : TIn Try.prog 121 .u64 := ⟨in121⟩
instance : TOne Try.prog 123 := ⟨ag123, sz123⟩
instance : TZr Try.prog 123 .nilFunc := ⟨zr123⟩
instance : TOne Try.prog 124 := ⟨ag124, sz124⟩
instance : TZr Try.prog 124 .nilFunc := ⟨zr124⟩
instance : TAgg Try.prog 125 4 := ⟨ag125, sz125⟩
instance : TZr Try.prog 125 (.agg #[(.pointer none), (.pointer none), (.pointer none), (.string ByteArray.empty)]) := ⟨zr125⟩
instance : TPl Try.prog 125 [(0, 1), (1, 1), (2, 1), (3, 1)] := ⟨pl125⟩
instance : TAgg Try.prog 126 4 := ⟨ag126, sz126⟩
instance : TZr Try.prog 126 (.agg #[(.pointer none), (.pointer none), (.pointer none), (.string ByteArray.empty)]) := ⟨zr126⟩
instance : TPl Try.prog 126 [(0, 1), (1, 1), (2, 1), (3, 1)] := ⟨pl126⟩
instance : TAgg Try.prog 127 0 := ⟨ag127, sz127⟩
instance : TZr Try.prog 127 (.agg #[]) := ⟨zr127⟩
instance : TAr Try.prog 127 0 16 1 := ⟨ar127, sz16⟩
instance : TAgg Try.prog 128 0 := ⟨ag128, sz128⟩
instance : TZr Try.prog 128 (.agg #[]) := ⟨zr128⟩
instance : TPl Try.prog 128 [(0, 0)] := ⟨pl128⟩
instance : TAgg Try.prog 129 0 := ⟨ag129, sz129⟩
instance : TZr Try.prog 129 (.agg #[]) := ⟨zr129⟩
instance : TPl Try.prog 129 [(0, 0)] := ⟨pl129⟩
instance : TOne Try.prog 130 := ⟨ag130, sz130⟩
instance : TZr Try.prog 130 .nilFunc := ⟨zr130⟩
instance : TOne Try.prog 131 := ⟨ag131, sz131⟩
instance : TZr Try.prog 131 (.int .u8 0) := ⟨zr131⟩
instance : TIn Try.prog 131 .u8 := ⟨in131⟩
instance : TOne Try.prog 132 := ⟨ag132, sz132⟩
instance : TZr Try.prog 132 (.int .u8 0) := ⟨zr132⟩
instance : TIn Try.prog 132 .u8 := ⟨in132⟩
instance : TOne Try.prog 133 := ⟨ag133, sz133⟩
instance : TZr Try.prog 133 .nilFunc := ⟨zr133⟩
instance : TOne Try.prog 134 := ⟨ag134, sz134⟩
instance : TZr Try.prog 134 (.pointer none) := ⟨zr134⟩
instance : TOne Try.prog 135 := ⟨ag135, sz135⟩
instance : TZr Try.prog 135 (.int .i32 0) := ⟨zr135⟩
instance : TIn Try.prog 135 .i32 := ⟨in135⟩
instance : TOne Try.prog 136 := ⟨ag136, sz136⟩
instance : TZr Try.prog 136 (.int .i32 0) := ⟨zr136⟩
instance : TIn Try.prog 136 .i32 := ⟨in136⟩
instance : TAgg Try.prog 137 11 := ⟨ag137, sz137⟩
instance : TZr Try.prog 137 (.agg #[(.int .u64 0), (.int .u64 0), (.int .u32 0), (.int .u8 0), (.int .u8 0), (.int .u8 0), (.int .u8 0), .nilFunc, (.pointer none), (.int .i32 0), (.int .i32 0)]) := ⟨zr137⟩
instance : TPl Try.prog 137 [(0, 1), (1, 1), (2, 1), (3, 1), (4, 1), (5, 1), (6, 1), (7, 1), (8, 1), (9, 1), (10, 1)] := ⟨pl137⟩
instance : TAgg Try.prog 138 11 := ⟨ag138, sz138⟩
instance : TZr Try.prog 138 (.agg #[(.int .u64 0), (.int .u64 0), (.int .u32 0), (.int .u8 0), (.int .u8 0), (.int .u8 0), (.int .u8 0), .nilFunc, (.pointer none), (.int .i32 0), (.int .i32 0)]) := ⟨zr138⟩
instance : TPl Try.prog 138 [(0, 1), (1, 1), (2, 1), (3, 1), (4, 1), (5, 1), (6, 1), (7, 1), (8, 1), (9, 1), (10, 1)] := ⟨pl138⟩
theorem cok3 : callOk Try.prog 3 = True := eq_true ⟨_, Try.func3, by kernel_rfl, by kernel_rfl⟩
theorem cok4 : callOk Try.prog 4 = True := eq_true ⟨_, Try.func4, by kernel_rfl, by kernel_rfl⟩
theorem cok5 : callOk Try.prog 5 = True := eq_true ⟨_, Try.func5, by kernel_rfl, by kernel_rfl⟩
theorem cok6 : callOk Try.prog 6 = True := eq_true ⟨_, Try.func6, by kernel_rfl, by kernel_rfl⟩
theorem cok7 : callOk Try.prog 7 = True := eq_true ⟨_, Try.func7, by kernel_rfl, by kernel_rfl⟩
theorem cok8 : callOk Try.prog 8 = True := eq_true ⟨_, Try.func8, by kernel_rfl, by kernel_rfl⟩
theorem cok9 : callOk Try.prog 9 = True := eq_true ⟨_, Try.func9, by kernel_rfl, by kernel_rfl⟩
theorem cok10 : callOk Try.prog 10 = True := eq_true ⟨_, Try.func10, by kernel_rfl, by kernel_rfl⟩
theorem cok11 : callOk Try.prog 11 = True := eq_true ⟨_, Try.func11, by kernel_rfl, by kernel_rfl⟩
theorem cok12 : callOk Try.prog 12 = True := eq_true ⟨_, Try.func12, by kernel_rfl, by kernel_rfl⟩
theorem cok13 : callOk Try.prog 13 = True := eq_true ⟨_, Try.func13, by kernel_rfl, by kernel_rfl⟩
theorem cok14 : callOk Try.prog 14 = True := eq_true ⟨_, Try.func14, by kernel_rfl, by kernel_rfl⟩
theorem cok15 : callOk Try.prog 15 = True := eq_true ⟨_, Try.func15, by kernel_rfl, by kernel_rfl⟩
theorem cok16 : callOk Try.prog 16 = True := eq_true ⟨_, Try.func16, by kernel_rfl, by kernel_rfl⟩
theorem cok17 : callOk Try.prog 17 = True := eq_true ⟨_, Try.func17, by kernel_rfl, by kernel_rfl⟩
theorem cok18 : callOk Try.prog 18 = True := eq_true ⟨_, Try.func18, by kernel_rfl, by kernel_rfl⟩
theorem cok19 : callOk Try.prog 19 = True := eq_true ⟨_, Try.func19, by kernel_rfl, by kernel_rfl⟩
theorem cok20 : callOk Try.prog 20 = True := eq_true ⟨_, Try.func20, by kernel_rfl, by kernel_rfl⟩
theorem cok21 : callOk Try.prog 21 = True := eq_true ⟨_, Try.func21, by kernel_rfl, by kernel_rfl⟩
theorem cok22 : callOk Try.prog 22 = True := eq_true ⟨_, Try.func22, by kernel_rfl, by kernel_rfl⟩
theorem cok23 : callOk Try.prog 23 = True := eq_true ⟨_, Try.func23, by kernel_rfl, by kernel_rfl⟩
theorem cok24 : callOk Try.prog 24 = True := eq_true ⟨_, Try.func24, by kernel_rfl, by kernel_rfl⟩
theorem cok25 : callOk Try.prog 25 = True := eq_true ⟨_, Try.func25, by kernel_rfl, by kernel_rfl⟩
theorem cok26 : callOk Try.prog 26 = True := eq_true ⟨_, Try.func26, by kernel_rfl, by kernel_rfl⟩
theorem cok27 : callOk Try.prog 27 = True := eq_true ⟨_, Try.func27, by kernel_rfl, by kernel_rfl⟩
theorem cok28 : callOk Try.prog 28 = True := eq_true ⟨_, Try.func28, by kernel_rfl, by kernel_rfl⟩
theorem cok29 : callOk Try.prog 29 = True := eq_true ⟨_, Try.func29, by kernel_rfl, by kernel_rfl⟩
theorem cok30 : callOk Try.prog 30 = True := eq_true ⟨_, Try.func30, by kernel_rfl, by kernel_rfl⟩
theorem cok31 : callOk Try.prog 31 = True := eq_true ⟨_, Try.func31, by kernel_rfl, by kernel_rfl⟩
theorem cok32 : callOk Try.prog 32 = True := eq_true ⟨_, Try.func32, by kernel_rfl, by kernel_rfl⟩
theorem cok33 : callOk Try.prog 33 = True := eq_true ⟨_, Try.func33, by kernel_rfl, by kernel_rfl⟩
theorem cok34 : callOk Try.prog 34 = True := eq_true ⟨_, Try.func34, by kernel_rfl, by kernel_rfl⟩
theorem cok35 : callOk Try.prog 35 = True := eq_true ⟨_, Try.func35, by kernel_rfl, by kernel_rfl⟩
theorem cok36 : callOk Try.prog 36 = True := eq_true ⟨_, Try.func36, by kernel_rfl, by kernel_rfl⟩
theorem cok37 : callOk Try.prog 37 = True := eq_true ⟨_, Try.func37, by kernel_rfl, by kernel_rfl⟩
theorem cok38 : callOk Try.prog 38 = True := eq_true ⟨_, Try.func38, by kernel_rfl, by kernel_rfl⟩
theorem cok39 : callOk Try.prog 39 = True := eq_true ⟨_, Try.func39, by kernel_rfl, by kernel_rfl⟩
theorem cok40 : callOk Try.prog 40 = True := eq_true ⟨_, Try.func40, by kernel_rfl, by kernel_rfl⟩
theorem cok41 : callOk Try.prog 41 = True := eq_true ⟨_, Try.func41, by kernel_rfl, by kernel_rfl⟩
theorem cok42 : callOk Try.prog 42 = True := eq_true ⟨_, Try.func42, by kernel_rfl, by kernel_rfl⟩
theorem cok43 : callOk Try.prog 43 = True := eq_true ⟨_, Try.func43, by kernel_rfl, by kernel_rfl⟩
theorem cok44 : callOk Try.prog 44 = True := eq_true ⟨_, Try.func44, by kernel_rfl, by kernel_rfl⟩
theorem cok45 : callOk Try.prog 45 = True := eq_true ⟨_, Try.func45, by kernel_rfl, by kernel_rfl⟩
theorem cok46 : callOk Try.prog 46 = True := eq_true ⟨_, Try.func46, by kernel_rfl, by kernel_rfl⟩
theorem cok47 : callOk Try.prog 47 = True := eq_true ⟨_, Try.func47, by kernel_rfl, by kernel_rfl⟩
theorem cok48 : callOk Try.prog 48 = True := eq_true ⟨_, Try.func48, by kernel_rfl, by kernel_rfl⟩
theorem cok49 : callOk Try.prog 49 = True := eq_true ⟨_, Try.func49, by kernel_rfl, by kernel_rfl⟩
theorem cok50 : callOk Try.prog 50 = True := eq_true ⟨_, Try.func50, by kernel_rfl, by kernel_rfl⟩
theorem cok51 : callOk Try.prog 51 = True := eq_true ⟨_, Try.func51, by kernel_rfl, by kernel_rfl⟩
theorem cok52 : callOk Try.prog 52 = True := eq_true ⟨_, Try.func52, by kernel_rfl, by kernel_rfl⟩
theorem cok53 : callOk Try.prog 53 = True := eq_true ⟨_, Try.func53, by kernel_rfl, by kernel_rfl⟩
theorem cok54 : callOk Try.prog 54 = True := eq_true ⟨_, Try.func54, by kernel_rfl, by kernel_rfl⟩
theorem cok55 : callOk Try.prog 55 = True := eq_true ⟨_, Try.func55, by kernel_rfl, by kernel_rfl⟩
theorem cok56 : callOk Try.prog 56 = True := eq_true ⟨_, Try.func56, by kernel_rfl, by kernel_rfl⟩
theorem cok57 : callOk Try.prog 57 = True := eq_true ⟨_, Try.func57, by kernel_rfl, by kernel_rfl⟩
theorem cok58 : callOk Try.prog 58 = True := eq_true ⟨_, Try.func58, by kernel_rfl, by kernel_rfl⟩
theorem cok59 : callOk Try.prog 59 = True := eq_true ⟨_, Try.func59, by kernel_rfl, by kernel_rfl⟩
theorem cok60 : callOk Try.prog 60 = True := eq_true ⟨_, Try.func60, by kernel_rfl, by kernel_rfl⟩
theorem cok61 : callOk Try.prog 61 = True := eq_true ⟨_, Try.func61, by kernel_rfl, by kernel_rfl⟩
theorem cok62 : callOk Try.prog 62 = True := eq_true ⟨_, Try.func62, by kernel_rfl, by kernel_rfl⟩
theorem cok63 : callOk Try.prog 63 = True := eq_true ⟨_, Try.func63, by kernel_rfl, by kernel_rfl⟩
theorem cok64 : callOk Try.prog 64 = True := eq_true ⟨_, Try.func64, by kernel_rfl, by kernel_rfl⟩
theorem cok65 : callOk Try.prog 65 = True := eq_true ⟨_, Try.func65, by kernel_rfl, by kernel_rfl⟩
theorem cok66 : callOk Try.prog 66 = True := eq_true ⟨_, Try.func66, by kernel_rfl, by kernel_rfl⟩
theorem cok67 : callOk Try.prog 67 = True := eq_true ⟨_, Try.func67, by kernel_rfl, by kernel_rfl⟩
theorem cok68 : callOk Try.prog 68 = True := eq_true ⟨_, Try.func68, by kernel_rfl, by kernel_rfl⟩
theorem cok69 : callOk Try.prog 69 = True := eq_true ⟨_, Try.func69, by kernel_rfl, by kernel_rfl⟩
theorem cok70 : callOk Try.prog 70 = True := eq_true ⟨_, Try.func70, by kernel_rfl, by kernel_rfl⟩
theorem cok71 : callOk Try.prog 71 = True := eq_true ⟨_, Try.func71, by kernel_rfl, by kernel_rfl⟩
theorem cok72 : callOk Try.prog 72 = True := eq_true ⟨_, Try.func72, by kernel_rfl, by kernel_rfl⟩
theorem cok73 : callOk Try.prog 73 = True := eq_true ⟨_, Try.func73, by kernel_rfl, by kernel_rfl⟩
theorem cok74 : callOk Try.prog 74 = True := eq_true ⟨_, Try.func74, by kernel_rfl, by kernel_rfl⟩
theorem cok75 : callOk Try.prog 75 = True := eq_true ⟨_, Try.func75, by kernel_rfl, by kernel_rfl⟩
theorem cok76 : callOk Try.prog 76 = True := eq_true ⟨_, Try.func76, by kernel_rfl, by kernel_rfl⟩
theorem cok77 : callOk Try.prog 77 = True := eq_true ⟨_, Try.func77, by kernel_rfl, by kernel_rfl⟩
theorem cok78 : callOk Try.prog 78 = True := eq_true ⟨_, Try.func78, by kernel_rfl, by kernel_rfl⟩
theorem cok79 : callOk Try.prog 79 = True := eq_true ⟨_, Try.func79, by kernel_rfl, by kernel_rfl⟩
theorem cok80 : callOk Try.prog 80 = True := eq_true ⟨_, Try.func80, by kernel_rfl, by kernel_rfl⟩
theorem cok81 : callOk Try.prog 81 = True := eq_true ⟨_, Try.func81, by kernel_rfl, by kernel_rfl⟩
theorem cok82 : callOk Try.prog 82 = True := eq_true ⟨_, Try.func82, by kernel_rfl, by kernel_rfl⟩
theorem cok83 : callOk Try.prog 83 = True := eq_true ⟨_, Try.func83, by kernel_rfl, by kernel_rfl⟩
theorem cok84 : callOk Try.prog 84 = True := eq_true ⟨_, Try.func84, by kernel_rfl, by kernel_rfl⟩
theorem cok85 : callOk Try.prog 85 = True := eq_true ⟨_, Try.func85, by kernel_rfl, by kernel_rfl⟩
theorem cok86 : callOk Try.prog 86 = True := eq_true ⟨_, Try.func86, by kernel_rfl, by kernel_rfl⟩
theorem cok87 : callOk Try.prog 87 = True := eq_true ⟨_, Try.func87, by kernel_rfl, by kernel_rfl⟩
theorem cok88 : callOk Try.prog 88 = True := eq_true ⟨_, Try.func88, by kernel_rfl, by kernel_rfl⟩
theorem cok89 : callOk Try.prog 89 = True := eq_true ⟨_, Try.func89, by kernel_rfl, by kernel_rfl⟩
theorem cok90 : callOk Try.prog 90 = True := eq_true ⟨_, Try.func90, by kernel_rfl, by kernel_rfl⟩
theorem cok91 : callOk Try.prog 91 = True := eq_true ⟨_, Try.func91, by kernel_rfl, by kernel_rfl⟩
theorem cok94 : callOk Try.prog 94 = True := eq_true ⟨_, Try.func94, by kernel_rfl, by kernel_rfl⟩
theorem cok95 : callOk Try.prog 95 = True := eq_true ⟨_, Try.func95, by kernel_rfl, by kernel_rfl⟩
theorem cok96 : callOk Try.prog 96 = True := eq_true ⟨_, Try.func96, by kernel_rfl, by kernel_rfl⟩
theorem cok97 : callOk Try.prog 97 = True := eq_true ⟨_, Try.func97, by kernel_rfl, by kernel_rfl⟩
theorem cok98 : callOk Try.prog 98 = True := eq_true ⟨_, Try.func98, by kernel_rfl, by kernel_rfl⟩
theorem cok99 : callOk Try.prog 99 = True := eq_true ⟨_, Try.func99, by kernel_rfl, by kernel_rfl⟩
theorem cok100 : callOk Try.prog 100 = True := eq_true ⟨_, Try.func100, by kernel_rfl, by kernel_rfl⟩
theorem cok101 : callOk Try.prog 101 = True := eq_true ⟨_, Try.func101, by kernel_rfl, by kernel_rfl⟩
theorem cok102 : callOk Try.prog 102 = True := eq_true ⟨_, Try.func102, by kernel_rfl, by kernel_rfl⟩
theorem cok103 : callOk Try.prog 103 = True := eq_true ⟨_, Try.func103, by kernel_rfl, by kernel_rfl⟩
theorem cok104 : callOk Try.prog 104 = True := eq_true ⟨_, Try.func104, by kernel_rfl, by kernel_rfl⟩
theorem cok105 : callOk Try.prog 105 = True := eq_true ⟨_, Try.func105, by kernel_rfl, by kernel_rfl⟩
theorem cok106 : callOk Try.prog 106 = True := eq_true ⟨_, Try.func106, by kernel_rfl, by kernel_rfl⟩
theorem cok107 : callOk Try.prog 107 = True := eq_true ⟨_, Try.func107, by kernel_rfl, by kernel_rfl⟩
theorem cok108 : callOk Try.prog 108 = True := eq_true ⟨_, Try.func108, by kernel_rfl, by kernel_rfl⟩
theorem cok109 : callOk Try.prog 109 = True := eq_true ⟨_, Try.func109, by kernel_rfl, by kernel_rfl⟩
theorem cok110 : callOk Try.prog 110 = True := eq_true ⟨_, Try.func110, by kernel_rfl, by kernel_rfl⟩
theorem cok111 : callOk Try.prog 111 = True := eq_true ⟨_, Try.func111, by kernel_rfl, by kernel_rfl⟩
theorem cok112 : callOk Try.prog 112 = True := eq_true ⟨_, Try.func112, by kernel_rfl, by kernel_rfl⟩
theorem cok115 : callOk Try.prog 115 = True := eq_true ⟨_, Try.func115, by kernel_rfl, by kernel_rfl⟩
theorem cok116 : callOk Try.prog 116 = True := eq_true ⟨_, Try.func116, by kernel_rfl, by kernel_rfl⟩
theorem cok117 : callOk Try.prog 117 = True := eq_true ⟨_, Try.func117, by kernel_rfl, by kernel_rfl⟩
theorem cok118 : callOk Try.prog 118 = True := eq_true ⟨_, Try.func118, by kernel_rfl, by kernel_rfl⟩
theorem cok119 : callOk Try.prog 119 = True := eq_true ⟨_, Try.func119, by kernel_rfl, by kernel_rfl⟩
theorem cok120 : callOk Try.prog 120 = True := eq_true ⟨_, Try.func120, by kernel_rfl, by kernel_rfl⟩
theorem mixed : Try.prog.follows .mixedOrders = true := by kernel_rfl

end Go.Proofs.Ytaeacialcbahnaa
/-
  Walks: chapter 2's functions, and the reference's; equality of lists.
-/


namespace Go.Proofs.Ytaeacialcbahnaa
open Go.Abs
set_option linter.unusedVariables false
set_option linter.unusedSimpArgs false
-- hb: 2000000
variable {κ : Ctx} {σ : List Res} {K : Ret → List Res → Prop} {o o' : Option (Option (Nat × Nat))}

-- chars.Blank
set_option maxHeartbeats 2000000 in
theorem Blank {c : Int} (hK : K (.ret (B (blankI c))) σ) : ACallF κ Try.prog 76 [I c] σ K := by
  refine ACallF.dropL (ACallF_intro Try.func76 rfl ?_)
  simp only [Try.ntmps76]
  repeat' (first
    | simp only [WL, intF, strF, WM, Int.reduceToNat, ne_eq, reduceCtorEq, not_false_eq_true, Nat.reduceAdd, Nat.reduceSub, Nat.reduceLT, Nat.reduceLeDiff, Nat.reduceEqDiff, Bool.not_true, Bool.not_false, beq_self_eq_true, true_and, and_true, reduceIte, Bool.false_eq_true, T3, T4, Try.results76]
    | simp (disch := first | omega | (simp only [LN_]; omega)) only [wrap_id, getI]
    | with_reducible first | refine andA (hb := ?_)
    | with_reducible refine y_nil (hK := ?_)
    | (with_reducible refine nilTC_split (fun h => ?_) (fun h bn => ?_) <;> (try simp only [List.length_map] at h))
    | ((with_reducible first | refine grd_cases (fun h => ?_) (fun h => ?_) | refine condC_split (fun h => ?_) (fun h => ?_)) <;> (try simp only [h]) <;> (try simp only [NR_, Bool.not_true, Bool.not_false, Bool.not_eq_eq_eq_not, ne_eq] at h))
    | omega | (simp only [LN_]; omega))
  all_goals (refine leafL sub_rfl (leT_eq (congrArg B ?_)) hK; simp [blankI, *])
  all_goals (rw [Bool.eq_iff_iff]; simp)

-- marginaliaref1.Blank
set_option maxHeartbeats 2000000 in
theorem rBlank {c : Int} (hK : K (.ret (B (blankI c))) σ) : ACallF κ Try.prog 55 [I c] σ K := by
  refine ACallF.dropL (ACallF_intro Try.func55 rfl ?_)
  simp only [Try.ntmps55]
  repeat' (first
    | simp only [WL, intF, strF, WM, Int.reduceToNat, ne_eq, reduceCtorEq, not_false_eq_true, Nat.reduceAdd, Nat.reduceSub, Nat.reduceLT, Nat.reduceLeDiff, Nat.reduceEqDiff, Bool.not_true, Bool.not_false, beq_self_eq_true, true_and, and_true, reduceIte, Bool.false_eq_true, T3, T4, Try.results55]
    | simp (disch := first | omega | (simp only [LN_]; omega)) only [wrap_id, getI]
    | with_reducible first | refine andA (hb := ?_)
    | with_reducible refine y_nil (hK := ?_)
    | (with_reducible refine nilTC_split (fun h => ?_) (fun h bn => ?_) <;> (try simp only [List.length_map] at h))
    | ((with_reducible first | refine grd_cases (fun h => ?_) (fun h => ?_) | refine condC_split (fun h => ?_) (fun h => ?_)) <;> (try simp only [h]) <;> (try simp only [NR_, Bool.not_true, Bool.not_false, Bool.not_eq_eq_eq_not, ne_eq] at h))
    | omega | (simp only [LN_]; omega))
  all_goals (refine leafL sub_rfl (leT_eq (congrArg B ?_)) hK; simp [blankI, *])
  all_goals (rw [Bool.eq_iff_iff]; simp)

-- chars.within[int]
set_option maxHeartbeats 2000000 in
theorem within {c a b : Int} (hK : K (.ret (B (decide (a ≤ c ∧ c ≤ b)))) σ) : ACallF κ Try.prog 115 [I c, I a, I b] σ K := by
  refine ACallF.dropL (ACallF_intro Try.func115 rfl ?_)
  simp only [Try.ntmps115]
  repeat' (first
    | simp only [WL, intF, strF, WM, Int.reduceToNat, ne_eq, reduceCtorEq, not_false_eq_true, Nat.reduceAdd, Nat.reduceSub, Nat.reduceLT, Nat.reduceLeDiff, Nat.reduceEqDiff, Bool.not_true, Bool.not_false, beq_self_eq_true, true_and, and_true, reduceIte, Bool.false_eq_true, T3, T4, Try.results115]
    | simp (disch := first | omega | (simp only [LN_]; omega)) only [wrap_id, getI]
    | with_reducible first | refine andA (hb := ?_)
    | with_reducible refine y_nil (hK := ?_)
    | (with_reducible refine nilTC_split (fun h => ?_) (fun h bn => ?_) <;> (try simp only [List.length_map] at h))
    | ((with_reducible first | refine grd_cases (fun h => ?_) (fun h => ?_) | refine condC_split (fun h => ?_) (fun h => ?_)) <;> (try simp only [h]) <;> (try simp only [NR_, Bool.not_true, Bool.not_false, Bool.not_eq_eq_eq_not, ne_eq] at h))
    | omega | (simp only [LN_]; omega))
  all_goals (refine leafL sub_rfl (leT_eq (congrArg B ?_)) hK; rw [Bool.eq_iff_iff]; simp; omega)

-- chars.Print
set_option maxHeartbeats 2000000 in
theorem Print {c : Int} (hK : K (.ret (B (printI c))) σ) : ACallF κ Try.prog 112 [I c] σ K := by
  refine ACallF.dropL (ACallF_intro Try.func112 rfl ?_)
  simp only [Try.ntmps112]
  repeat' (first
    | simp only [WL, intF, strF, WM, Int.reduceToNat, ne_eq, reduceCtorEq, not_false_eq_true, Nat.reduceAdd, Nat.reduceSub, Nat.reduceLT, Nat.reduceLeDiff, Nat.reduceEqDiff, Bool.not_true, Bool.not_false, beq_self_eq_true, true_and, and_true, reduceIte, Bool.false_eq_true, T3, T4, cok115, Try.results112]
    | simp (disch := first | omega | (simp only [LN_]; omega)) only [wrap_id, getI]
    | with_reducible first | refine andA (hb := ?_) | refine cD (within ?_)
    | with_reducible refine y_nil (hK := ?_)
    | (with_reducible refine nilTC_split (fun h => ?_) (fun h bn => ?_) <;> (try simp only [List.length_map] at h))
    | ((with_reducible first | refine grd_cases (fun h => ?_) (fun h => ?_) | refine condC_split (fun h => ?_) (fun h => ?_)) <;> (try simp only [h]) <;> (try simp only [NR_, Bool.not_true, Bool.not_false, Bool.not_eq_eq_eq_not, ne_eq] at h))
    | omega | (simp only [LN_]; omega))
  all_goals (refine leafL sub_rfl (leT_eq (congrArg B ?_)) hK; rw [Bool.eq_iff_iff]; simp only [printI, decide_eq_true_eq, Bool.false_eq_true, false_iff, true_iff, eq_self]; omega)

-- marginaliaref1.Print
set_option maxHeartbeats 2000000 in
theorem rPrint {c : Int} (hK : K (.ret (B (printI c))) σ) : ACallF κ Try.prog 35 [I c] σ K := by
  refine ACallF.dropL (ACallF_intro Try.func35 rfl ?_)
  simp only [Try.ntmps35]
  repeat' (first
    | simp only [WL, intF, strF, WM, Int.reduceToNat, ne_eq, reduceCtorEq, not_false_eq_true, Nat.reduceAdd, Nat.reduceSub, Nat.reduceLT, Nat.reduceLeDiff, Nat.reduceEqDiff, Bool.not_true, Bool.not_false, beq_self_eq_true, true_and, and_true, reduceIte, Bool.false_eq_true, T3, T4, Try.results35]
    | simp (disch := first | omega | (simp only [LN_]; omega)) only [wrap_id, getI]
    | with_reducible first | refine andA (hb := ?_)
    | with_reducible refine y_nil (hK := ?_)
    | (with_reducible refine nilTC_split (fun h => ?_) (fun h bn => ?_) <;> (try simp only [List.length_map] at h))
    | ((with_reducible first | refine grd_cases (fun h => ?_) (fun h => ?_) | refine condC_split (fun h => ?_) (fun h => ?_)) <;> (try simp only [h]) <;> (try simp only [NR_, Bool.not_true, Bool.not_false, Bool.not_eq_eq_eq_not, ne_eq] at h))
    | omega | (simp only [LN_]; omega))
  all_goals (refine leafL sub_rfl (leT_eq (congrArg B ?_)) hK; rw [Bool.eq_iff_iff]; simp only [printI, decide_eq_true_eq, Bool.false_eq_true, false_iff, true_iff, eq_self]; omega)

-- marginaliaref1.Past
set_option maxHeartbeats 2000000 in
theorem rPast {l : List Int} (hl : l.length ≤ 1000000000) (hK : K (.ret (I ((l.takeWhile blankI).length : Nat))) σ) : ACallF κ Try.prog 88 [SI o l] σ K := by
  refine ACallF.dropL (ACallF_intro Try.func88 rfl ?_)
  simp only [Try.ntmps88]
  repeat' (first
    | simp only [WL, intF, strF, WM, Int.reduceToNat, ne_eq, reduceCtorEq, not_false_eq_true, Nat.reduceAdd, Nat.reduceSub, Nat.reduceLT, Nat.reduceLeDiff, Nat.reduceEqDiff, Bool.not_true, Bool.not_false, beq_self_eq_true, true_and, and_true, reduceIte, Bool.false_eq_true, T3, T4, T24, cok55, Try.results88]
    | simp (disch := first | omega | (simp only [LN_]; omega)) only [wrap_id, getI]
    | with_reducible first | refine andA (hb := ?_) | refine y_load (hK := ?_) | refine cD (rBlank ?_)
    | with_reducible refine y_nil (hK := ?_)
    | (with_reducible refine nilTC_split (fun h => ?_) (fun h bn => ?_) <;> (try simp only [List.length_map] at h))
    | ((with_reducible first | refine grd_cases (fun h => ?_) (fun h => ?_) | refine condC_split (fun h => ?_) (fun h => ?_)) <;> (try simp only [h]) <;> (try simp only [NR_, Bool.not_true, Bool.not_false, Bool.not_eq_eq_eq_not, ne_eq] at h))
    | omega | (simp only [LN_]; omega))
  refine loop_by (fun k : Nat => ⟨(SI o l :: .any :: .any :: I k :: .any :: .any :: .any :: .any :: .any :: .any :: .any :: .any :: .any :: .any :: .any :: .any :: .any :: .any :: []), σ, true, []⟩) (fun k => k ≤ (l.takeWhile blankI).length) (fun k => l.length - k) 0 (St_le_same (by repeat (first | exact trivial | refine ⟨le_rfl, ?_⟩ | refine ⟨le_any, ?_⟩ | refine ⟨le_ro, ?_⟩ | refine ⟨le_nil (by decide), ?_⟩ | refine ⟨le_wrap (by omega) (by omega) (by omega), ?_⟩ | refine ⟨le_int (by omega), ?_⟩ | refine ⟨le_eq (by simp), ?_⟩)) id) (Nat.zero_le _) (fun k hk => ?_)
  repeat' (first
    | simp only [WL, intF, strF, WM, Int.reduceToNat, ne_eq, reduceCtorEq, not_false_eq_true, Nat.reduceAdd, Nat.reduceSub, Nat.reduceLT, Nat.reduceLeDiff, Nat.reduceEqDiff, Bool.not_true, Bool.not_false, beq_self_eq_true, true_and, and_true, reduceIte, Bool.false_eq_true, T3, T4, T24, cok55, Try.results88]
    | simp (disch := first | omega | (simp only [LN_]; omega)) only [wrap_id, getI]
    | with_reducible first | refine andA (hb := ?_) | refine y_load (hK := ?_) | refine cD (rBlank ?_)
    | with_reducible refine y_nil (hK := ?_)
    | (with_reducible refine nilTC_split (fun h => ?_) (fun h bn => ?_) <;> (try simp only [List.length_map] at h))
    | ((with_reducible first | refine grd_cases (fun h => ?_) (fun h => ?_) | refine condC_split (fun h => ?_) (fun h => ?_)) <;> (try simp only [h]) <;> (try simp only [NR_, Bool.not_true, Bool.not_false, Bool.not_eq_eq_eq_not, ne_eq] at h))
    | omega | (simp only [LN_]; omega))
  · exact ⟨k + 1, St_le_same (by repeat (first | exact trivial | refine ⟨le_rfl, ?_⟩ | refine ⟨le_any, ?_⟩ | refine ⟨le_ro, ?_⟩ | refine ⟨le_nil (by decide), ?_⟩ | refine ⟨le_wrap (by omega) (by omega) (by omega), ?_⟩ | refine ⟨le_int (by omega), ?_⟩ | refine ⟨le_eq (by simp), ?_⟩)) id, tw_step hk (by omega) (by assumption), by omega⟩
  · exact leafL sub_rfl (leT_eq (by rw [tw_stop hk (by omega) (by assumption)])) hK
  · exact leafL sub_rfl (leT_eq (by rw [tw_end hk (by omega)])) hK
-- lines.rest
-- (no function lines.rest in this program)
-- lines.Empty
-- (no function lines.Empty in this program)
-- lines.Bare
-- (no function lines.Bare in this program)
-- marginaliaref1.Bare
-- (no function marginaliaref1.Bare in this program)
-- marginaliaref1.Empty
-- (no function marginaliaref1.Empty in this program)
