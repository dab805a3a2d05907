/-
  Facts on the types of the program, by program.
-/
import Derived.Test.YthepmgdoophoaaaRows
import Derived.Test.YthepmgdoophoaaaMx
namespace Go.Proofs.Ythepmgdoophoaaa
open Go.Abs

theorem sz1 : szT Try.prog 1 = some 1 := by kernel_rfl
theorem ag1 : aggT Try.prog 1 = some false := by kernel_rfl
theorem zr1 : zrT Try.prog 1 = some .nilFunc := by kernel_rfl
theorem by1 : byT Try.prog 1 = some 8 := by kernel_rfl
theorem sz2 : szT Try.prog 2 = some 1 := by kernel_rfl
theorem ag2 : aggT Try.prog 2 = some false := by kernel_rfl
theorem zr2 : zrT Try.prog 2 = some (.int .i64 0) := by kernel_rfl
theorem by2 : byT Try.prog 2 = some 8 := by kernel_rfl
theorem in2 : intT Try.prog 2 = some .i64 := by kernel_rfl
theorem sz3 : szT Try.prog 3 = some 1 := by kernel_rfl
theorem ag3 : aggT Try.prog 3 = some false := by kernel_rfl
theorem zr3 : zrT Try.prog 3 = some (.int .i64 0) := by kernel_rfl
theorem by3 : byT Try.prog 3 = some 8 := by kernel_rfl
theorem in3 : intT Try.prog 3 = some .i64 := by kernel_rfl
theorem sz4 : szT Try.prog 4 = some 1 := by kernel_rfl
theorem ag4 : aggT Try.prog 4 = some false := by kernel_rfl
theorem zr4 : zrT Try.prog 4 = some (.bool false) := by kernel_rfl
theorem by4 : byT Try.prog 4 = some 1 := by kernel_rfl
theorem bo4 : Try.prog.underlying 4 = some .bool := by kernel_rfl
theorem sz5 : szT Try.prog 5 = some 1 := by kernel_rfl
theorem ag5 : aggT Try.prog 5 = some false := by kernel_rfl
theorem zr5 : zrT Try.prog 5 = some (.int .u8 0) := by kernel_rfl
theorem by5 : byT Try.prog 5 = some 1 := by kernel_rfl
theorem in5 : intT Try.prog 5 = some .u8 := by kernel_rfl
theorem sz6 : szT Try.prog 6 = some 1 := by kernel_rfl
theorem ag6 : aggT Try.prog 6 = some false := by kernel_rfl
theorem zr6 : zrT Try.prog 6 = some (.int .u8 0) := by kernel_rfl
theorem by6 : byT Try.prog 6 = some 1 := by kernel_rfl
theorem in6 : intT Try.prog 6 = some .u8 := by kernel_rfl
theorem sz7 : szT Try.prog 7 = some 4 := by kernel_rfl
theorem ag7 : aggT Try.prog 7 = some true := by kernel_rfl
theorem zr7 : zrT Try.prog 7 = some (.agg #[(.int .i64 0), (.int .i64 0), (.bool false), (.int .u8 0)]) := by kernel_rfl
theorem by7 : byT Try.prog 7 = some 24 := by kernel_rfl
theorem fl7_0 : fldT Try.prog 7 0 = some (0, 2) := by kernel_rfl
theorem fl7_1 : fldT Try.prog 7 1 = some (1, 3) := by kernel_rfl
theorem fl7_2 : fldT Try.prog 7 2 = some (2, 4) := by kernel_rfl
theorem fl7_3 : fldT Try.prog 7 3 = some (3, 6) := by kernel_rfl
theorem pl7 : plT Try.prog 7 = some [(0, 1), (1, 1), (2, 1), (3, 1)] := by kernel_rfl
theorem sz8 : szT Try.prog 8 = some 4 := by kernel_rfl
theorem ag8 : aggT Try.prog 8 = some true := by kernel_rfl
theorem zr8 : zrT Try.prog 8 = some (.agg #[(.int .i64 0), (.int .i64 0), (.bool false), (.int .u8 0)]) := by kernel_rfl
theorem by8 : byT Try.prog 8 = some 24 := by kernel_rfl
theorem fl8_0 : fldT Try.prog 8 0 = some (0, 2) := by kernel_rfl
theorem fl8_1 : fldT Try.prog 8 1 = some (1, 3) := by kernel_rfl
theorem fl8_2 : fldT Try.prog 8 2 = some (2, 4) := by kernel_rfl
theorem fl8_3 : fldT Try.prog 8 3 = some (3, 6) := by kernel_rfl
theorem pl8 : plT Try.prog 8 = some [(0, 1), (1, 1), (2, 1), (3, 1)] := by kernel_rfl
theorem sz9 : szT Try.prog 9 = some 1 := by kernel_rfl
theorem ag9 : aggT Try.prog 9 = some false := by kernel_rfl
theorem zr9 : zrT Try.prog 9 = some (.string ByteArray.empty) := by kernel_rfl
theorem by9 : byT Try.prog 9 = some 16 := by kernel_rfl
theorem st9 : isStr Try.prog 9 = true := by kernel_rfl
theorem sz10 : szT Try.prog 10 = some 1 := by kernel_rfl
theorem ag10 : aggT Try.prog 10 = some false := by kernel_rfl
theorem zr10 : zrT Try.prog 10 = some (.string ByteArray.empty) := by kernel_rfl
theorem by10 : byT Try.prog 10 = some 16 := by kernel_rfl
theorem st10 : isStr Try.prog 10 = true := by kernel_rfl
theorem sz11 : szT Try.prog 11 = some 1 := by kernel_rfl
theorem ag11 : aggT Try.prog 11 = some false := by kernel_rfl
theorem zr11 : zrT Try.prog 11 = some (.string ByteArray.empty) := by kernel_rfl
theorem by11 : byT Try.prog 11 = some 16 := by kernel_rfl
theorem st11 : isStr Try.prog 11 = true := by kernel_rfl
theorem sz12 : szT Try.prog 12 = some 1 := by kernel_rfl
theorem ag12 : aggT Try.prog 12 = some false := by kernel_rfl
theorem zr12 : zrT Try.prog 12 = some (.int .u64 0) := by kernel_rfl
theorem by12 : byT Try.prog 12 = some 8 := by kernel_rfl
theorem in12 : intT Try.prog 12 = some .u64 := by kernel_rfl
theorem sz13 : szT Try.prog 13 = some 2 := by kernel_rfl
theorem ag13 : aggT Try.prog 13 = some true := by kernel_rfl
theorem zr13 : zrT Try.prog 13 = some (.agg #[(.string ByteArray.empty), (.int .u64 0)]) := by kernel_rfl
theorem by13 : byT Try.prog 13 = some 24 := by kernel_rfl
theorem fl13_0 : fldT Try.prog 13 0 = some (0, 9) := by kernel_rfl
theorem fl13_1 : fldT Try.prog 13 1 = some (1, 12) := by kernel_rfl
theorem pl13 : plT Try.prog 13 = some [(0, 1), (1, 1)] := by kernel_rfl
theorem sz14 : szT Try.prog 14 = some 2 := by kernel_rfl
theorem ag14 : aggT Try.prog 14 = some true := by kernel_rfl
theorem zr14 : zrT Try.prog 14 = some (.agg #[(.string ByteArray.empty), (.int .u64 0)]) := by kernel_rfl
theorem by14 : byT Try.prog 14 = some 24 := by kernel_rfl
theorem fl14_0 : fldT Try.prog 14 0 = some (0, 9) := by kernel_rfl
theorem fl14_1 : fldT Try.prog 14 1 = some (1, 12) := by kernel_rfl
theorem pl14 : plT Try.prog 14 = some [(0, 1), (1, 1)] := by kernel_rfl
theorem sz15 : szT Try.prog 15 = some 1 := by kernel_rfl
theorem ag15 : aggT Try.prog 15 = some false := by kernel_rfl
theorem zr15 : zrT Try.prog 15 = some (.pointer none) := by kernel_rfl
theorem by15 : byT Try.prog 15 = some 8 := by kernel_rfl
theorem pt15 : ptrT Try.prog 15 = some 79 := by kernel_rfl
theorem sz16 : szT Try.prog 16 = some 1 := by kernel_rfl
theorem ag16 : aggT Try.prog 16 = some false := by kernel_rfl
theorem zr16 : zrT Try.prog 16 = some (.pointer none) := by kernel_rfl
theorem by16 : byT Try.prog 16 = some 8 := by kernel_rfl
theorem pt16 : ptrT Try.prog 16 = some 82 := by kernel_rfl
theorem sz17 : szT Try.prog 17 = some 1 := by kernel_rfl
theorem ag17 : aggT Try.prog 17 = some false := by kernel_rfl
theorem zr17 : zrT Try.prog 17 = some (.pointer none) := by kernel_rfl
theorem by17 : byT Try.prog 17 = some 8 := by kernel_rfl
theorem pt17 : ptrT Try.prog 17 = some 91 := by kernel_rfl
theorem sz18 : szT Try.prog 18 = some 1 := by kernel_rfl
theorem ag18 : aggT Try.prog 18 = some true := by kernel_rfl
theorem zr18 : zrT Try.prog 18 = some (.agg #[(.pointer none)]) := by kernel_rfl
theorem by18 : byT Try.prog 18 = some 8 := by kernel_rfl
theorem fl18_0 : fldT Try.prog 18 0 = some (0, 17) := by kernel_rfl
theorem pl18 : plT Try.prog 18 = some [(0, 1)] := by kernel_rfl
theorem sz19 : szT Try.prog 19 = some 1 := by kernel_rfl
theorem ag19 : aggT Try.prog 19 = some true := by kernel_rfl
theorem zr19 : zrT Try.prog 19 = some (.agg #[(.pointer none)]) := by kernel_rfl
theorem by19 : byT Try.prog 19 = some 8 := by kernel_rfl
theorem fl19_0 : fldT Try.prog 19 0 = some (0, 17) := by kernel_rfl
theorem pl19 : plT Try.prog 19 = some [(0, 1)] := by kernel_rfl
theorem sz20 : szT Try.prog 20 = some 1 := by kernel_rfl
theorem ag20 : aggT Try.prog 20 = some false := by kernel_rfl
theorem zr20 : zrT Try.prog 20 = some .nilIface := by kernel_rfl
theorem by20 : byT Try.prog 20 = some 16 := by kernel_rfl
theorem sz21 : szT Try.prog 21 = some 1 := by kernel_rfl
theorem ag21 : aggT Try.prog 21 = some false := by kernel_rfl
theorem zr21 : zrT Try.prog 21 = some (.int .i32 0) := by kernel_rfl
theorem by21 : byT Try.prog 21 = some 4 := by kernel_rfl
theorem in21 : intT Try.prog 21 = some .i32 := by kernel_rfl
theorem sz22 : szT Try.prog 22 = some 1 := by kernel_rfl
theorem ag22 : aggT Try.prog 22 = some false := by kernel_rfl
theorem zr22 : zrT Try.prog 22 = some (.slice none 0 0) := by kernel_rfl
theorem sl22 : slE Try.prog 22 = some 3 := by kernel_rfl
theorem by22 : byT Try.prog 22 = some 24 := by kernel_rfl
theorem sz23 : szT Try.prog 23 = some 1 := by kernel_rfl
theorem ag23 : aggT Try.prog 23 = some false := by kernel_rfl
theorem zr23 : zrT Try.prog 23 = some .nilFunc := by kernel_rfl
theorem by23 : byT Try.prog 23 = some 8 := by kernel_rfl
theorem sz24 : szT Try.prog 24 = some 1 := by kernel_rfl
theorem ag24 : aggT Try.prog 24 = some false := by kernel_rfl
theorem zr24 : zrT Try.prog 24 = some (.slice none 0 0) := by kernel_rfl
theorem sl24 : slE Try.prog 24 = some 36 := by kernel_rfl
theorem by24 : byT Try.prog 24 = some 24 := by kernel_rfl
theorem sz25 : szT Try.prog 25 = some 1 := by kernel_rfl
theorem ag25 : aggT Try.prog 25 = some false := by kernel_rfl
theorem zr25 : zrT Try.prog 25 = some (.int .i64 0) := by kernel_rfl
theorem by25 : byT Try.prog 25 = some 8 := by kernel_rfl
theorem in25 : intT Try.prog 25 = some .i64 := by kernel_rfl
theorem sz27 : szT Try.prog 27 = some 1 := by kernel_rfl
theorem ag27 : aggT Try.prog 27 = some false := by kernel_rfl
theorem zr27 : zrT Try.prog 27 = some .nilFunc := by kernel_rfl
theorem by27 : byT Try.prog 27 = some 8 := by kernel_rfl
theorem sz29 : szT Try.prog 29 = some 1 := by kernel_rfl
theorem ag29 : aggT Try.prog 29 = some false := by kernel_rfl
theorem zr29 : zrT Try.prog 29 = some .nilFunc := by kernel_rfl
theorem by29 : byT Try.prog 29 = some 8 := by kernel_rfl
theorem sz30 : szT Try.prog 30 = some 1 := by kernel_rfl
theorem ag30 : aggT Try.prog 30 = some false := by kernel_rfl
theorem zr30 : zrT Try.prog 30 = some .nilFunc := by kernel_rfl
theorem by30 : byT Try.prog 30 = some 8 := by kernel_rfl
theorem sz31 : szT Try.prog 31 = some 1 := by kernel_rfl
theorem ag31 : aggT Try.prog 31 = some false := by kernel_rfl
theorem zr31 : zrT Try.prog 31 = some .nilFunc := by kernel_rfl
theorem by31 : byT Try.prog 31 = some 8 := by kernel_rfl
theorem sz32 : szT Try.prog 32 = some 1 := by kernel_rfl
theorem ag32 : aggT Try.prog 32 = some false := by kernel_rfl
theorem zr32 : zrT Try.prog 32 = some .nilFunc := by kernel_rfl
theorem by32 : byT Try.prog 32 = some 8 := by kernel_rfl
theorem sz33 : szT Try.prog 33 = some 1 := by kernel_rfl
theorem ag33 : aggT Try.prog 33 = some false := by kernel_rfl
theorem zr33 : zrT Try.prog 33 = some (.slice none 0 0) := by kernel_rfl
theorem sl33 : slE Try.prog 33 = some 22 := by kernel_rfl
theorem by33 : byT Try.prog 33 = some 24 := by kernel_rfl
theorem sz34 : szT Try.prog 34 = some 1 := by kernel_rfl
theorem ag34 : aggT Try.prog 34 = some false := by kernel_rfl
theorem zr34 : zrT Try.prog 34 = some .nilFunc := by kernel_rfl
theorem by34 : byT Try.prog 34 = some 8 := by kernel_rfl
theorem sz35 : szT Try.prog 35 = some 2 := by kernel_rfl
theorem ag35 : aggT Try.prog 35 = some true := by kernel_rfl
theorem zr35 : zrT Try.prog 35 = some (.agg #[(.int .i64 0), (.slice none 0 0)]) := by kernel_rfl
theorem by35 : byT Try.prog 35 = some 32 := by kernel_rfl
theorem fl35_0 : fldT Try.prog 35 0 = some (0, 3) := by kernel_rfl
theorem fl35_1 : fldT Try.prog 35 1 = some (1, 22) := by kernel_rfl
theorem pl35 : plT Try.prog 35 = some [(0, 1), (1, 1)] := by kernel_rfl
theorem sz36 : szT Try.prog 36 = some 2 := by kernel_rfl
theorem ag36 : aggT Try.prog 36 = some true := by kernel_rfl
theorem zr36 : zrT Try.prog 36 = some (.agg #[(.int .i64 0), (.slice none 0 0)]) := by kernel_rfl
theorem by36 : byT Try.prog 36 = some 32 := by kernel_rfl
theorem fl36_0 : fldT Try.prog 36 0 = some (0, 3) := by kernel_rfl
theorem fl36_1 : fldT Try.prog 36 1 = some (1, 22) := by kernel_rfl
theorem pl36 : plT Try.prog 36 = some [(0, 1), (1, 1)] := by kernel_rfl
theorem sz37 : szT Try.prog 37 = some 1 := by kernel_rfl
theorem ag37 : aggT Try.prog 37 = some false := by kernel_rfl
theorem zr37 : zrT Try.prog 37 = some .nilFunc := by kernel_rfl
theorem by37 : byT Try.prog 37 = some 8 := by kernel_rfl
theorem sz38 : szT Try.prog 38 = some 1 := by kernel_rfl
theorem ag38 : aggT Try.prog 38 = some false := by kernel_rfl
theorem zr38 : zrT Try.prog 38 = some .nilFunc := by kernel_rfl
theorem by38 : byT Try.prog 38 = some 8 := by kernel_rfl
theorem sz39 : szT Try.prog 39 = some 1 := by kernel_rfl
theorem ag39 : aggT Try.prog 39 = some false := by kernel_rfl
theorem zr39 : zrT Try.prog 39 = some .nilFunc := by kernel_rfl
theorem by39 : byT Try.prog 39 = some 8 := by kernel_rfl
theorem sz40 : szT Try.prog 40 = some 1 := by kernel_rfl
theorem ag40 : aggT Try.prog 40 = some false := by kernel_rfl
theorem zr40 : zrT Try.prog 40 = some .nilFunc := by kernel_rfl
theorem by40 : byT Try.prog 40 = some 8 := by kernel_rfl
theorem sz41 : szT Try.prog 41 = some 1 := by kernel_rfl
theorem ag41 : aggT Try.prog 41 = some false := by kernel_rfl
theorem zr41 : zrT Try.prog 41 = some .nilFunc := by kernel_rfl
theorem by41 : byT Try.prog 41 = some 8 := by kernel_rfl
theorem sz42 : szT Try.prog 42 = some 1 := by kernel_rfl
theorem ag42 : aggT Try.prog 42 = some false := by kernel_rfl
theorem zr42 : zrT Try.prog 42 = some .nilFunc := by kernel_rfl
theorem by42 : byT Try.prog 42 = some 8 := by kernel_rfl
theorem sz43 : szT Try.prog 43 = some 1 := by kernel_rfl
theorem ag43 : aggT Try.prog 43 = some false := by kernel_rfl
theorem zr43 : zrT Try.prog 43 = some .nilFunc := by kernel_rfl
theorem by43 : byT Try.prog 43 = some 8 := by kernel_rfl
theorem sz45 : szT Try.prog 45 = some 1 := by kernel_rfl
theorem ag45 : aggT Try.prog 45 = some false := by kernel_rfl
theorem zr45 : zrT Try.prog 45 = some .nilFunc := by kernel_rfl
theorem by45 : byT Try.prog 45 = some 8 := by kernel_rfl
theorem sz46 : szT Try.prog 46 = some 1 := by kernel_rfl
theorem ag46 : aggT Try.prog 46 = some false := by kernel_rfl
theorem zr46 : zrT Try.prog 46 = some .nilFunc := by kernel_rfl
theorem by46 : byT Try.prog 46 = some 8 := by kernel_rfl
theorem sz47 : szT Try.prog 47 = some 1 := by kernel_rfl
theorem ag47 : aggT Try.prog 47 = some false := by kernel_rfl
theorem zr47 : zrT Try.prog 47 = some .nilFunc := by kernel_rfl
theorem by47 : byT Try.prog 47 = some 8 := by kernel_rfl
theorem sz48 : szT Try.prog 48 = some 3 := by kernel_rfl
theorem ag48 : aggT Try.prog 48 = some true := by kernel_rfl
theorem zr48 : zrT Try.prog 48 = some (.agg #[(.slice none 0 0), (.slice none 0 0), (.slice none 0 0)]) := by kernel_rfl
theorem by48 : byT Try.prog 48 = some 72 := by kernel_rfl
theorem ar48 : arrT Try.prog 48 = some (3, 22) := by kernel_rfl
theorem sz49 : szT Try.prog 49 = some 1 := by kernel_rfl
theorem ag49 : aggT Try.prog 49 = some false := by kernel_rfl
theorem zr49 : zrT Try.prog 49 = some .nilFunc := by kernel_rfl
theorem by49 : byT Try.prog 49 = some 8 := by kernel_rfl
theorem sz50 : szT Try.prog 50 = some 1 := by kernel_rfl
theorem ag50 : aggT Try.prog 50 = some false := by kernel_rfl
theorem zr50 : zrT Try.prog 50 = some .nilFunc := by kernel_rfl
theorem by50 : byT Try.prog 50 = some 8 := by kernel_rfl
theorem sz51 : szT Try.prog 51 = some 1 := by kernel_rfl
theorem ag51 : aggT Try.prog 51 = some false := by kernel_rfl
theorem zr51 : zrT Try.prog 51 = some .nilFunc := by kernel_rfl
theorem by51 : byT Try.prog 51 = some 8 := by kernel_rfl
theorem sz52 : szT Try.prog 52 = some 1 := by kernel_rfl
theorem ag52 : aggT Try.prog 52 = some false := by kernel_rfl
theorem zr52 : zrT Try.prog 52 = some .nilFunc := by kernel_rfl
theorem by52 : byT Try.prog 52 = some 8 := by kernel_rfl
theorem sz53 : szT Try.prog 53 = some 1 := by kernel_rfl
theorem ag53 : aggT Try.prog 53 = some false := by kernel_rfl
theorem zr53 : zrT Try.prog 53 = some .nilFunc := by kernel_rfl
theorem by53 : byT Try.prog 53 = some 8 := by kernel_rfl
theorem sz54 : szT Try.prog 54 = some 1 := by kernel_rfl
theorem ag54 : aggT Try.prog 54 = some false := by kernel_rfl
theorem zr54 : zrT Try.prog 54 = some .nilFunc := by kernel_rfl
theorem by54 : byT Try.prog 54 = some 8 := by kernel_rfl
theorem sz55 : szT Try.prog 55 = some 1 := by kernel_rfl
theorem ag55 : aggT Try.prog 55 = some false := by kernel_rfl
theorem zr55 : zrT Try.prog 55 = some .nilFunc := by kernel_rfl
theorem by55 : byT Try.prog 55 = some 8 := by kernel_rfl
theorem sz56 : szT Try.prog 56 = some 1 := by kernel_rfl
theorem ag56 : aggT Try.prog 56 = some false := by kernel_rfl
theorem zr56 : zrT Try.prog 56 = some .nilFunc := by kernel_rfl
theorem by56 : byT Try.prog 56 = some 8 := by kernel_rfl
theorem sz57 : szT Try.prog 57 = some 1 := by kernel_rfl
theorem ag57 : aggT Try.prog 57 = some false := by kernel_rfl
theorem zr57 : zrT Try.prog 57 = some .nilFunc := by kernel_rfl
theorem by57 : byT Try.prog 57 = some 8 := by kernel_rfl
theorem sz58 : szT Try.prog 58 = some 1 := by kernel_rfl
theorem ag58 : aggT Try.prog 58 = some false := by kernel_rfl
theorem zr58 : zrT Try.prog 58 = some .nilFunc := by kernel_rfl
theorem by58 : byT Try.prog 58 = some 8 := by kernel_rfl
theorem sz59 : szT Try.prog 59 = some 1 := by kernel_rfl
theorem ag59 : aggT Try.prog 59 = some false := by kernel_rfl
theorem zr59 : zrT Try.prog 59 = some (.slice none 0 0) := by kernel_rfl
theorem sl59 : slE Try.prog 59 = some 5 := by kernel_rfl
theorem by59 : byT Try.prog 59 = some 24 := by kernel_rfl
theorem sz60 : szT Try.prog 60 = some 1 := by kernel_rfl
theorem ag60 : aggT Try.prog 60 = some false := by kernel_rfl
theorem zr60 : zrT Try.prog 60 = some .nilFunc := by kernel_rfl
theorem by60 : byT Try.prog 60 = some 8 := by kernel_rfl
theorem sz61 : szT Try.prog 61 = some 1 := by kernel_rfl
theorem ag61 : aggT Try.prog 61 = some false := by kernel_rfl
theorem zr61 : zrT Try.prog 61 = some .nilFunc := by kernel_rfl
theorem by61 : byT Try.prog 61 = some 8 := by kernel_rfl
theorem sz62 : szT Try.prog 62 = some 1 := by kernel_rfl
theorem ag62 : aggT Try.prog 62 = some false := by kernel_rfl
theorem zr62 : zrT Try.prog 62 = some .nilFunc := by kernel_rfl
theorem by62 : byT Try.prog 62 = some 8 := by kernel_rfl
theorem sz63 : szT Try.prog 63 = some 1 := by kernel_rfl
theorem ag63 : aggT Try.prog 63 = some false := by kernel_rfl
theorem zr63 : zrT Try.prog 63 = some .nilFunc := by kernel_rfl
theorem by63 : byT Try.prog 63 = some 8 := by kernel_rfl
theorem sz64 : szT Try.prog 64 = some 1 := by kernel_rfl
theorem ag64 : aggT Try.prog 64 = some false := by kernel_rfl
theorem zr64 : zrT Try.prog 64 = some .nilFunc := by kernel_rfl
theorem by64 : byT Try.prog 64 = some 8 := by kernel_rfl
theorem sz65 : szT Try.prog 65 = some 1 := by kernel_rfl
theorem ag65 : aggT Try.prog 65 = some false := by kernel_rfl
theorem zr65 : zrT Try.prog 65 = some .nilFunc := by kernel_rfl
theorem by65 : byT Try.prog 65 = some 8 := by kernel_rfl
theorem sz66 : szT Try.prog 66 = some 1 := by kernel_rfl
theorem ag66 : aggT Try.prog 66 = some false := by kernel_rfl
theorem zr66 : zrT Try.prog 66 = some .nilFunc := by kernel_rfl
theorem by66 : byT Try.prog 66 = some 8 := by kernel_rfl
theorem sz67 : szT Try.prog 67 = some 1 := by kernel_rfl
theorem ag67 : aggT Try.prog 67 = some false := by kernel_rfl
theorem zr67 : zrT Try.prog 67 = some .nilFunc := by kernel_rfl
theorem by67 : byT Try.prog 67 = some 8 := by kernel_rfl
theorem sz68 : szT Try.prog 68 = some 1 := by kernel_rfl
theorem ag68 : aggT Try.prog 68 = some false := by kernel_rfl
theorem zr68 : zrT Try.prog 68 = some (.int .u64 0) := by kernel_rfl
theorem by68 : byT Try.prog 68 = some 8 := by kernel_rfl
theorem in68 : intT Try.prog 68 = some .u64 := by kernel_rfl
theorem sz70 : szT Try.prog 70 = some 1 := by kernel_rfl
theorem ag70 : aggT Try.prog 70 = some false := by kernel_rfl
theorem zr70 : zrT Try.prog 70 = some .nilFunc := by kernel_rfl
theorem by70 : byT Try.prog 70 = some 8 := by kernel_rfl
theorem sz71 : szT Try.prog 71 = some 1 := by kernel_rfl
theorem ag71 : aggT Try.prog 71 = some false := by kernel_rfl
theorem zr71 : zrT Try.prog 71 = some (.int .u32 0) := by kernel_rfl
theorem by71 : byT Try.prog 71 = some 4 := by kernel_rfl
theorem in71 : intT Try.prog 71 = some .u32 := by kernel_rfl
theorem sz73 : szT Try.prog 73 = some 1 := by kernel_rfl
theorem ag73 : aggT Try.prog 73 = some false := by kernel_rfl
theorem zr73 : zrT Try.prog 73 = some .nilFunc := by kernel_rfl
theorem by73 : byT Try.prog 73 = some 8 := by kernel_rfl
theorem sz74 : szT Try.prog 74 = some 1 := by kernel_rfl
theorem ag74 : aggT Try.prog 74 = some false := by kernel_rfl
theorem zr74 : zrT Try.prog 74 = some (.int .u64 0) := by kernel_rfl
theorem by74 : byT Try.prog 74 = some 8 := by kernel_rfl
theorem in74 : intT Try.prog 74 = some .u64 := by kernel_rfl
theorem sz76 : szT Try.prog 76 = some 1 := by kernel_rfl
theorem ag76 : aggT Try.prog 76 = some false := by kernel_rfl
theorem zr76 : zrT Try.prog 76 = some .nilFunc := by kernel_rfl
theorem by76 : byT Try.prog 76 = some 8 := by kernel_rfl
theorem sz77 : szT Try.prog 77 = some 1 := by kernel_rfl
theorem ag77 : aggT Try.prog 77 = some false := by kernel_rfl
theorem zr77 : zrT Try.prog 77 = some .nilFunc := by kernel_rfl
theorem by77 : byT Try.prog 77 = some 8 := by kernel_rfl
theorem sz78 : szT Try.prog 78 = some 4 := by kernel_rfl
theorem ag78 : aggT Try.prog 78 = some true := by kernel_rfl
theorem zr78 : zrT Try.prog 78 = some (.agg #[(.pointer none), (.pointer none), (.pointer none), (.string ByteArray.empty)]) := by kernel_rfl
theorem by78 : byT Try.prog 78 = some 40 := by kernel_rfl
theorem fl78_0 : fldT Try.prog 78 0 = some (0, 17) := by kernel_rfl
theorem fl78_1 : fldT Try.prog 78 1 = some (1, 17) := by kernel_rfl
theorem fl78_2 : fldT Try.prog 78 2 = some (2, 17) := by kernel_rfl
theorem fl78_3 : fldT Try.prog 78 3 = some (3, 9) := by kernel_rfl
theorem pl78 : plT Try.prog 78 = some [(0, 1), (1, 1), (2, 1), (3, 1)] := by kernel_rfl
theorem sz79 : szT Try.prog 79 = some 4 := by kernel_rfl
theorem ag79 : aggT Try.prog 79 = some true := by kernel_rfl
theorem zr79 : zrT Try.prog 79 = some (.agg #[(.pointer none), (.pointer none), (.pointer none), (.string ByteArray.empty)]) := by kernel_rfl
theorem by79 : byT Try.prog 79 = some 40 := by kernel_rfl
theorem fl79_0 : fldT Try.prog 79 0 = some (0, 17) := by kernel_rfl
theorem fl79_1 : fldT Try.prog 79 1 = some (1, 17) := by kernel_rfl
theorem fl79_2 : fldT Try.prog 79 2 = some (2, 17) := by kernel_rfl
theorem fl79_3 : fldT Try.prog 79 3 = some (3, 9) := by kernel_rfl
theorem pl79 : plT Try.prog 79 = some [(0, 1), (1, 1), (2, 1), (3, 1)] := by kernel_rfl
theorem sz80 : szT Try.prog 80 = some 0 := by kernel_rfl
theorem ag80 : aggT Try.prog 80 = some true := by kernel_rfl
theorem zr80 : zrT Try.prog 80 = some (.agg #[]) := by kernel_rfl
theorem by80 : byT Try.prog 80 = some 0 := by kernel_rfl
theorem ar80 : arrT Try.prog 80 = some (0, 16) := by kernel_rfl
theorem sz81 : szT Try.prog 81 = some 0 := by kernel_rfl
theorem ag81 : aggT Try.prog 81 = some true := by kernel_rfl
theorem zr81 : zrT Try.prog 81 = some (.agg #[]) := by kernel_rfl
theorem by81 : byT Try.prog 81 = some 0 := by kernel_rfl
theorem fl81_0 : fldT Try.prog 81 0 = some (0, 80) := by kernel_rfl
theorem pl81 : plT Try.prog 81 = some [(0, 0)] := by kernel_rfl
theorem sz82 : szT Try.prog 82 = some 0 := by kernel_rfl
theorem ag82 : aggT Try.prog 82 = some true := by kernel_rfl
theorem zr82 : zrT Try.prog 82 = some (.agg #[]) := by kernel_rfl
theorem by82 : byT Try.prog 82 = some 0 := by kernel_rfl
theorem fl82_0 : fldT Try.prog 82 0 = some (0, 80) := by kernel_rfl
theorem pl82 : plT Try.prog 82 = some [(0, 0)] := by kernel_rfl
theorem sz83 : szT Try.prog 83 = some 1 := by kernel_rfl
theorem ag83 : aggT Try.prog 83 = some false := by kernel_rfl
theorem zr83 : zrT Try.prog 83 = some .nilFunc := by kernel_rfl
theorem by83 : byT Try.prog 83 = some 8 := by kernel_rfl
theorem sz84 : szT Try.prog 84 = some 1 := by kernel_rfl
theorem ag84 : aggT Try.prog 84 = some false := by kernel_rfl
theorem zr84 : zrT Try.prog 84 = some (.int .u8 0) := by kernel_rfl
theorem by84 : byT Try.prog 84 = some 1 := by kernel_rfl
theorem in84 : intT Try.prog 84 = some .u8 := by kernel_rfl
theorem sz85 : szT Try.prog 85 = some 1 := by kernel_rfl
theorem ag85 : aggT Try.prog 85 = some false := by kernel_rfl
theorem zr85 : zrT Try.prog 85 = some (.int .u8 0) := by kernel_rfl
theorem by85 : byT Try.prog 85 = some 1 := by kernel_rfl
theorem in85 : intT Try.prog 85 = some .u8 := by kernel_rfl
theorem sz86 : szT Try.prog 86 = some 1 := by kernel_rfl
theorem ag86 : aggT Try.prog 86 = some false := by kernel_rfl
theorem zr86 : zrT Try.prog 86 = some .nilFunc := by kernel_rfl
theorem by86 : byT Try.prog 86 = some 8 := by kernel_rfl
theorem sz87 : szT Try.prog 87 = some 1 := by kernel_rfl
theorem ag87 : aggT Try.prog 87 = some false := by kernel_rfl
theorem zr87 : zrT Try.prog 87 = some (.pointer none) := by kernel_rfl
theorem by87 : byT Try.prog 87 = some 8 := by kernel_rfl
theorem pt87 : ptrT Try.prog 87 = some 5 := by kernel_rfl
theorem sz88 : szT Try.prog 88 = some 1 := by kernel_rfl
theorem ag88 : aggT Try.prog 88 = some false := by kernel_rfl
theorem zr88 : zrT Try.prog 88 = some (.int .i32 0) := by kernel_rfl
theorem by88 : byT Try.prog 88 = some 4 := by kernel_rfl
theorem in88 : intT Try.prog 88 = some .i32 := by kernel_rfl
theorem sz89 : szT Try.prog 89 = some 1 := by kernel_rfl
theorem ag89 : aggT Try.prog 89 = some false := by kernel_rfl
theorem zr89 : zrT Try.prog 89 = some (.int .i32 0) := by kernel_rfl
theorem by89 : byT Try.prog 89 = some 4 := by kernel_rfl
theorem in89 : intT Try.prog 89 = some .i32 := by kernel_rfl
theorem sz90 : szT Try.prog 90 = some 11 := by kernel_rfl
theorem ag90 : aggT Try.prog 90 = some true := by kernel_rfl
theorem zr90 : zrT Try.prog 90 = some (.agg #[(.int .u64 0), (.int .u64 0), (.int .u32 0), (.int .u8 0), (.int .u8 0), (.int .u8 0), (.int .u8 0), .nilFunc, (.pointer none), (.int .i32 0), (.int .i32 0)]) := by kernel_rfl
theorem by90 : byT Try.prog 90 = some 48 := by kernel_rfl
theorem fl90_0 : fldT Try.prog 90 0 = some (0, 12) := by kernel_rfl
theorem fl90_1 : fldT Try.prog 90 1 = some (1, 12) := by kernel_rfl
theorem fl90_2 : fldT Try.prog 90 2 = some (2, 71) := by kernel_rfl
theorem fl90_3 : fldT Try.prog 90 3 = some (3, 84) := by kernel_rfl
theorem fl90_4 : fldT Try.prog 90 4 = some (4, 5) := by kernel_rfl
theorem fl90_5 : fldT Try.prog 90 5 = some (5, 5) := by kernel_rfl
theorem fl90_6 : fldT Try.prog 90 6 = some (6, 85) := by kernel_rfl
theorem fl90_7 : fldT Try.prog 90 7 = some (7, 86) := by kernel_rfl
theorem fl90_8 : fldT Try.prog 90 8 = some (8, 87) := by kernel_rfl
theorem fl90_9 : fldT Try.prog 90 9 = some (9, 88) := by kernel_rfl
theorem fl90_10 : fldT Try.prog 90 10 = some (10, 89) := by kernel_rfl
theorem pl90 : plT Try.prog 90 = some [(0, 1), (1, 1), (2, 1), (3, 1), (4, 1), (5, 1), (6, 1), (7, 1), (8, 1), (9, 1), (10, 1)] := by kernel_rfl
theorem sz91 : szT Try.prog 91 = some 11 := by kernel_rfl
theorem ag91 : aggT Try.prog 91 = some true := by kernel_rfl
theorem zr91 : zrT Try.prog 91 = some (.agg #[(.int .u64 0), (.int .u64 0), (.int .u32 0), (.int .u8 0), (.int .u8 0), (.int .u8 0), (.int .u8 0), .nilFunc, (.pointer none), (.int .i32 0), (.int .i32 0)]) := by kernel_rfl
theorem by91 : byT Try.prog 91 = some 48 := by kernel_rfl
theorem fl91_0 : fldT Try.prog 91 0 = some (0, 12) := by kernel_rfl
theorem fl91_1 : fldT Try.prog 91 1 = some (1, 12) := by kernel_rfl
theorem fl91_2 : fldT Try.prog 91 2 = some (2, 71) := by kernel_rfl
theorem fl91_3 : fldT Try.prog 91 3 = some (3, 84) := by kernel_rfl
theorem fl91_4 : fldT Try.prog 91 4 = some (4, 5) := by kernel_rfl
theorem fl91_5 : fldT Try.prog 91 5 = some (5, 5) := by kernel_rfl
theorem fl91_6 : fldT Try.prog 91 6 = some (6, 85) := by kernel_rfl
theorem fl91_7 : fldT Try.prog 91 7 = some (7, 86) := by kernel_rfl
theorem fl91_8 : fldT Try.prog 91 8 = some (8, 87) := by kernel_rfl
theorem fl91_9 : fldT Try.prog 91 9 = some (9, 88) := by kernel_rfl
theorem fl91_10 : fldT Try.prog 91 10 = some (10, 89) := by kernel_rfl
theorem pl91 : plT Try.prog 91 = some [(0, 1), (1, 1), (2, 1), (3, 1), (4, 1), (5, 1), (6, 1), (7, 1), (8, 1), (9, 1), (10, 1)] := by kernel_rfl
theorem T1 : type_of% (And.intro sz1 (And.intro ag1 (And.intro zr1 (by1)))) := And.intro sz1 (And.intro ag1 (And.intro zr1 (by1)))
theorem T2 : type_of% (And.intro sz2 (And.intro ag2 (And.intro zr2 (And.intro by2 (in2))))) := And.intro sz2 (And.intro ag2 (And.intro zr2 (And.intro by2 (in2))))
theorem T3 : type_of% (And.intro sz3 (And.intro ag3 (And.intro zr3 (And.intro by3 (in3))))) := And.intro sz3 (And.intro ag3 (And.intro zr3 (And.intro by3 (in3))))
theorem T4 : type_of% (And.intro sz4 (And.intro ag4 (And.intro zr4 (And.intro by4 (bo4))))) := And.intro sz4 (And.intro ag4 (And.intro zr4 (And.intro by4 (bo4))))
theorem T5 : type_of% (And.intro sz5 (And.intro ag5 (And.intro zr5 (And.intro by5 (in5))))) := And.intro sz5 (And.intro ag5 (And.intro zr5 (And.intro by5 (in5))))
theorem T6 : type_of% (And.intro sz6 (And.intro ag6 (And.intro zr6 (And.intro by6 (in6))))) := And.intro sz6 (And.intro ag6 (And.intro zr6 (And.intro by6 (in6))))
theorem T7 : type_of% (And.intro sz7 (And.intro ag7 (And.intro zr7 (And.intro by7 (And.intro fl7_0 (And.intro fl7_1 (And.intro fl7_2 (And.intro fl7_3 (pl7))))))))) := And.intro sz7 (And.intro ag7 (And.intro zr7 (And.intro by7 (And.intro fl7_0 (And.intro fl7_1 (And.intro fl7_2 (And.intro fl7_3 (pl7))))))))
theorem T8 : type_of% (And.intro sz8 (And.intro ag8 (And.intro zr8 (And.intro by8 (And.intro fl8_0 (And.intro fl8_1 (And.intro fl8_2 (And.intro fl8_3 (pl8))))))))) := And.intro sz8 (And.intro ag8 (And.intro zr8 (And.intro by8 (And.intro fl8_0 (And.intro fl8_1 (And.intro fl8_2 (And.intro fl8_3 (pl8))))))))
theorem T9 : type_of% (And.intro sz9 (And.intro ag9 (And.intro zr9 (And.intro by9 (st9))))) := And.intro sz9 (And.intro ag9 (And.intro zr9 (And.intro by9 (st9))))
theorem T10 : type_of% (And.intro sz10 (And.intro ag10 (And.intro zr10 (And.intro by10 (st10))))) := And.intro sz10 (And.intro ag10 (And.intro zr10 (And.intro by10 (st10))))
theorem T11 : type_of% (And.intro sz11 (And.intro ag11 (And.intro zr11 (And.intro by11 (st11))))) := And.intro sz11 (And.intro ag11 (And.intro zr11 (And.intro by11 (st11))))
theorem T12 : type_of% (And.intro sz12 (And.intro ag12 (And.intro zr12 (And.intro by12 (in12))))) := And.intro sz12 (And.intro ag12 (And.intro zr12 (And.intro by12 (in12))))
theorem T13 : type_of% (And.intro sz13 (And.intro ag13 (And.intro zr13 (And.intro by13 (And.intro fl13_0 (And.intro fl13_1 (pl13))))))) := And.intro sz13 (And.intro ag13 (And.intro zr13 (And.intro by13 (And.intro fl13_0 (And.intro fl13_1 (pl13))))))
theorem T14 : type_of% (And.intro sz14 (And.intro ag14 (And.intro zr14 (And.intro by14 (And.intro fl14_0 (And.intro fl14_1 (pl14))))))) := And.intro sz14 (And.intro ag14 (And.intro zr14 (And.intro by14 (And.intro fl14_0 (And.intro fl14_1 (pl14))))))
theorem T15 : type_of% (And.intro sz15 (And.intro ag15 (And.intro zr15 (And.intro by15 (pt15))))) := And.intro sz15 (And.intro ag15 (And.intro zr15 (And.intro by15 (pt15))))
theorem T16 : type_of% (And.intro sz16 (And.intro ag16 (And.intro zr16 (And.intro by16 (pt16))))) := And.intro sz16 (And.intro ag16 (And.intro zr16 (And.intro by16 (pt16))))
theorem T17 : type_of% (And.intro sz17 (And.intro ag17 (And.intro zr17 (And.intro by17 (pt17))))) := And.intro sz17 (And.intro ag17 (And.intro zr17 (And.intro by17 (pt17))))
theorem T18 : type_of% (And.intro sz18 (And.intro ag18 (And.intro zr18 (And.intro by18 (And.intro fl18_0 (pl18)))))) := And.intro sz18 (And.intro ag18 (And.intro zr18 (And.intro by18 (And.intro fl18_0 (pl18)))))
theorem T19 : type_of% (And.intro sz19 (And.intro ag19 (And.intro zr19 (And.intro by19 (And.intro fl19_0 (pl19)))))) := And.intro sz19 (And.intro ag19 (And.intro zr19 (And.intro by19 (And.intro fl19_0 (pl19)))))
theorem T20 : type_of% (And.intro sz20 (And.intro ag20 (And.intro zr20 (by20)))) := And.intro sz20 (And.intro ag20 (And.intro zr20 (by20)))
theorem T21 : type_of% (And.intro sz21 (And.intro ag21 (And.intro zr21 (And.intro by21 (in21))))) := And.intro sz21 (And.intro ag21 (And.intro zr21 (And.intro by21 (in21))))
theorem T22 : type_of% (And.intro sz22 (And.intro ag22 (And.intro zr22 (And.intro sl22 (by22))))) := And.intro sz22 (And.intro ag22 (And.intro zr22 (And.intro sl22 (by22))))
theorem T23 : type_of% (And.intro sz23 (And.intro ag23 (And.intro zr23 (by23)))) := And.intro sz23 (And.intro ag23 (And.intro zr23 (by23)))
theorem T24 : type_of% (And.intro sz24 (And.intro ag24 (And.intro zr24 (And.intro sl24 (by24))))) := And.intro sz24 (And.intro ag24 (And.intro zr24 (And.intro sl24 (by24))))
theorem T25 : type_of% (And.intro sz25 (And.intro ag25 (And.intro zr25 (And.intro by25 (in25))))) := And.intro sz25 (And.intro ag25 (And.intro zr25 (And.intro by25 (in25))))
theorem T27 : type_of% (And.intro sz27 (And.intro ag27 (And.intro zr27 (by27)))) := And.intro sz27 (And.intro ag27 (And.intro zr27 (by27)))
theorem T29 : type_of% (And.intro sz29 (And.intro ag29 (And.intro zr29 (by29)))) := And.intro sz29 (And.intro ag29 (And.intro zr29 (by29)))
theorem T30 : type_of% (And.intro sz30 (And.intro ag30 (And.intro zr30 (by30)))) := And.intro sz30 (And.intro ag30 (And.intro zr30 (by30)))
theorem T31 : type_of% (And.intro sz31 (And.intro ag31 (And.intro zr31 (by31)))) := And.intro sz31 (And.intro ag31 (And.intro zr31 (by31)))
theorem T32 : type_of% (And.intro sz32 (And.intro ag32 (And.intro zr32 (by32)))) := And.intro sz32 (And.intro ag32 (And.intro zr32 (by32)))
theorem T33 : type_of% (And.intro sz33 (And.intro ag33 (And.intro zr33 (And.intro sl33 (by33))))) := And.intro sz33 (And.intro ag33 (And.intro zr33 (And.intro sl33 (by33))))
theorem T34 : type_of% (And.intro sz34 (And.intro ag34 (And.intro zr34 (by34)))) := And.intro sz34 (And.intro ag34 (And.intro zr34 (by34)))
theorem T35 : type_of% (And.intro sz35 (And.intro ag35 (And.intro zr35 (And.intro by35 (And.intro fl35_0 (And.intro fl35_1 (pl35))))))) := And.intro sz35 (And.intro ag35 (And.intro zr35 (And.intro by35 (And.intro fl35_0 (And.intro fl35_1 (pl35))))))
theorem T36 : type_of% (And.intro sz36 (And.intro ag36 (And.intro zr36 (And.intro by36 (And.intro fl36_0 (And.intro fl36_1 (pl36))))))) := And.intro sz36 (And.intro ag36 (And.intro zr36 (And.intro by36 (And.intro fl36_0 (And.intro fl36_1 (pl36))))))
theorem T37 : type_of% (And.intro sz37 (And.intro ag37 (And.intro zr37 (by37)))) := And.intro sz37 (And.intro ag37 (And.intro zr37 (by37)))
theorem T38 : type_of% (And.intro sz38 (And.intro ag38 (And.intro zr38 (by38)))) := And.intro sz38 (And.intro ag38 (And.intro zr38 (by38)))
theorem T39 : type_of% (And.intro sz39 (And.intro ag39 (And.intro zr39 (by39)))) := And.intro sz39 (And.intro ag39 (And.intro zr39 (by39)))
theorem T40 : type_of% (And.intro sz40 (And.intro ag40 (And.intro zr40 (by40)))) := And.intro sz40 (And.intro ag40 (And.intro zr40 (by40)))
theorem T41 : type_of% (And.intro sz41 (And.intro ag41 (And.intro zr41 (by41)))) := And.intro sz41 (And.intro ag41 (And.intro zr41 (by41)))
theorem T42 : type_of% (And.intro sz42 (And.intro ag42 (And.intro zr42 (by42)))) := And.intro sz42 (And.intro ag42 (And.intro zr42 (by42)))
theorem T43 : type_of% (And.intro sz43 (And.intro ag43 (And.intro zr43 (by43)))) := And.intro sz43 (And.intro ag43 (And.intro zr43 (by43)))
theorem T45 : type_of% (And.intro sz45 (And.intro ag45 (And.intro zr45 (by45)))) := And.intro sz45 (And.intro ag45 (And.intro zr45 (by45)))
theorem T46 : type_of% (And.intro sz46 (And.intro ag46 (And.intro zr46 (by46)))) := And.intro sz46 (And.intro ag46 (And.intro zr46 (by46)))
theorem T47 : type_of% (And.intro sz47 (And.intro ag47 (And.intro zr47 (by47)))) := And.intro sz47 (And.intro ag47 (And.intro zr47 (by47)))
theorem T48 : type_of% (And.intro sz48 (And.intro ag48 (And.intro zr48 (And.intro by48 (ar48))))) := And.intro sz48 (And.intro ag48 (And.intro zr48 (And.intro by48 (ar48))))
theorem T49 : type_of% (And.intro sz49 (And.intro ag49 (And.intro zr49 (by49)))) := And.intro sz49 (And.intro ag49 (And.intro zr49 (by49)))
theorem T50 : type_of% (And.intro sz50 (And.intro ag50 (And.intro zr50 (by50)))) := And.intro sz50 (And.intro ag50 (And.intro zr50 (by50)))
theorem T51 : type_of% (And.intro sz51 (And.intro ag51 (And.intro zr51 (by51)))) := And.intro sz51 (And.intro ag51 (And.intro zr51 (by51)))
theorem T52 : type_of% (And.intro sz52 (And.intro ag52 (And.intro zr52 (by52)))) := And.intro sz52 (And.intro ag52 (And.intro zr52 (by52)))
theorem T53 : type_of% (And.intro sz53 (And.intro ag53 (And.intro zr53 (by53)))) := And.intro sz53 (And.intro ag53 (And.intro zr53 (by53)))
theorem T54 : type_of% (And.intro sz54 (And.intro ag54 (And.intro zr54 (by54)))) := And.intro sz54 (And.intro ag54 (And.intro zr54 (by54)))
theorem T55 : type_of% (And.intro sz55 (And.intro ag55 (And.intro zr55 (by55)))) := And.intro sz55 (And.intro ag55 (And.intro zr55 (by55)))
theorem T56 : type_of% (And.intro sz56 (And.intro ag56 (And.intro zr56 (by56)))) := And.intro sz56 (And.intro ag56 (And.intro zr56 (by56)))
theorem T57 : type_of% (And.intro sz57 (And.intro ag57 (And.intro zr57 (by57)))) := And.intro sz57 (And.intro ag57 (And.intro zr57 (by57)))
theorem T58 : type_of% (And.intro sz58 (And.intro ag58 (And.intro zr58 (by58)))) := And.intro sz58 (And.intro ag58 (And.intro zr58 (by58)))
theorem T59 : type_of% (And.intro sz59 (And.intro ag59 (And.intro zr59 (And.intro sl59 (by59))))) := And.intro sz59 (And.intro ag59 (And.intro zr59 (And.intro sl59 (by59))))
theorem T60 : type_of% (And.intro sz60 (And.intro ag60 (And.intro zr60 (by60)))) := And.intro sz60 (And.intro ag60 (And.intro zr60 (by60)))
theorem T61 : type_of% (And.intro sz61 (And.intro ag61 (And.intro zr61 (by61)))) := And.intro sz61 (And.intro ag61 (And.intro zr61 (by61)))
theorem T62 : type_of% (And.intro sz62 (And.intro ag62 (And.intro zr62 (by62)))) := And.intro sz62 (And.intro ag62 (And.intro zr62 (by62)))
theorem T63 : type_of% (And.intro sz63 (And.intro ag63 (And.intro zr63 (by63)))) := And.intro sz63 (And.intro ag63 (And.intro zr63 (by63)))
theorem T64 : type_of% (And.intro sz64 (And.intro ag64 (And.intro zr64 (by64)))) := And.intro sz64 (And.intro ag64 (And.intro zr64 (by64)))
theorem T65 : type_of% (And.intro sz65 (And.intro ag65 (And.intro zr65 (by65)))) := And.intro sz65 (And.intro ag65 (And.intro zr65 (by65)))
theorem T66 : type_of% (And.intro sz66 (And.intro ag66 (And.intro zr66 (by66)))) := And.intro sz66 (And.intro ag66 (And.intro zr66 (by66)))
theorem T67 : type_of% (And.intro sz67 (And.intro ag67 (And.intro zr67 (by67)))) := And.intro sz67 (And.intro ag67 (And.intro zr67 (by67)))
theorem T68 : type_of% (And.intro sz68 (And.intro ag68 (And.intro zr68 (And.intro by68 (in68))))) := And.intro sz68 (And.intro ag68 (And.intro zr68 (And.intro by68 (in68))))
theorem T70 : type_of% (And.intro sz70 (And.intro ag70 (And.intro zr70 (by70)))) := And.intro sz70 (And.intro ag70 (And.intro zr70 (by70)))
theorem T71 : type_of% (And.intro sz71 (And.intro ag71 (And.intro zr71 (And.intro by71 (in71))))) := And.intro sz71 (And.intro ag71 (And.intro zr71 (And.intro by71 (in71))))
theorem T73 : type_of% (And.intro sz73 (And.intro ag73 (And.intro zr73 (by73)))) := And.intro sz73 (And.intro ag73 (And.intro zr73 (by73)))
theorem T74 : type_of% (And.intro sz74 (And.intro ag74 (And.intro zr74 (And.intro by74 (in74))))) := And.intro sz74 (And.intro ag74 (And.intro zr74 (And.intro by74 (in74))))
theorem T76 : type_of% (And.intro sz76 (And.intro ag76 (And.intro zr76 (by76)))) := And.intro sz76 (And.intro ag76 (And.intro zr76 (by76)))
theorem T77 : type_of% (And.intro sz77 (And.intro ag77 (And.intro zr77 (by77)))) := And.intro sz77 (And.intro ag77 (And.intro zr77 (by77)))
theorem T78 : type_of% (And.intro sz78 (And.intro ag78 (And.intro zr78 (And.intro by78 (And.intro fl78_0 (And.intro fl78_1 (And.intro fl78_2 (And.intro fl78_3 (pl78))))))))) := And.intro sz78 (And.intro ag78 (And.intro zr78 (And.intro by78 (And.intro fl78_0 (And.intro fl78_1 (And.intro fl78_2 (And.intro fl78_3 (pl78))))))))
theorem T79 : type_of% (And.intro sz79 (And.intro ag79 (And.intro zr79 (And.intro by79 (And.intro fl79_0 (And.intro fl79_1 (And.intro fl79_2 (And.intro fl79_3 (pl79))))))))) := And.intro sz79 (And.intro ag79 (And.intro zr79 (And.intro by79 (And.intro fl79_0 (And.intro fl79_1 (And.intro fl79_2 (And.intro fl79_3 (pl79))))))))
theorem T80 : type_of% (And.intro sz80 (And.intro ag80 (And.intro zr80 (And.intro by80 (ar80))))) := And.intro sz80 (And.intro ag80 (And.intro zr80 (And.intro by80 (ar80))))
theorem T81 : type_of% (And.intro sz81 (And.intro ag81 (And.intro zr81 (And.intro by81 (And.intro fl81_0 (pl81)))))) := And.intro sz81 (And.intro ag81 (And.intro zr81 (And.intro by81 (And.intro fl81_0 (pl81)))))
theorem T82 : type_of% (And.intro sz82 (And.intro ag82 (And.intro zr82 (And.intro by82 (And.intro fl82_0 (pl82)))))) := And.intro sz82 (And.intro ag82 (And.intro zr82 (And.intro by82 (And.intro fl82_0 (pl82)))))
theorem T83 : type_of% (And.intro sz83 (And.intro ag83 (And.intro zr83 (by83)))) := And.intro sz83 (And.intro ag83 (And.intro zr83 (by83)))
theorem T84 : type_of% (And.intro sz84 (And.intro ag84 (And.intro zr84 (And.intro by84 (in84))))) := And.intro sz84 (And.intro ag84 (And.intro zr84 (And.intro by84 (in84))))
theorem T85 : type_of% (And.intro sz85 (And.intro ag85 (And.intro zr85 (And.intro by85 (in85))))) := And.intro sz85 (And.intro ag85 (And.intro zr85 (And.intro by85 (in85))))
theorem T86 : type_of% (And.intro sz86 (And.intro ag86 (And.intro zr86 (by86)))) := And.intro sz86 (And.intro ag86 (And.intro zr86 (by86)))
theorem T87 : type_of% (And.intro sz87 (And.intro ag87 (And.intro zr87 (And.intro by87 (pt87))))) := And.intro sz87 (And.intro ag87 (And.intro zr87 (And.intro by87 (pt87))))
theorem T88 : type_of% (And.intro sz88 (And.intro ag88 (And.intro zr88 (And.intro by88 (in88))))) := And.intro sz88 (And.intro ag88 (And.intro zr88 (And.intro by88 (in88))))
theorem T89 : type_of% (And.intro sz89 (And.intro ag89 (And.intro zr89 (And.intro by89 (in89))))) := And.intro sz89 (And.intro ag89 (And.intro zr89 (And.intro by89 (in89))))
theorem T90 : type_of% (And.intro sz90 (And.intro ag90 (And.intro zr90 (And.intro by90 (And.intro fl90_0 (And.intro fl90_1 (And.intro fl90_2 (And.intro fl90_3 (And.intro fl90_4 (And.intro fl90_5 (And.intro fl90_6 (And.intro fl90_7 (And.intro fl90_8 (And.intro fl90_9 (And.intro fl90_10 (pl90)))))))))))))))) := And.intro sz90 (And.intro ag90 (And.intro zr90 (And.intro by90 (And.intro fl90_0 (And.intro fl90_1 (And.intro fl90_2 (And.intro fl90_3 (And.intro fl90_4 (And.intro fl90_5 (And.intro fl90_6 (And.intro fl90_7 (And.intro fl90_8 (And.intro fl90_9 (And.intro fl90_10 (pl90)))))))))))))))
theorem T91 : type_of% (And.intro sz91 (And.intro ag91 (And.intro zr91 (And.intro by91 (And.intro fl91_0 (And.intro fl91_1 (And.intro fl91_2 (And.intro fl91_3 (And.intro fl91_4 (And.intro fl91_5 (And.intro fl91_6 (And.intro fl91_7 (And.intro fl91_8 (And.intro fl91_9 (And.intro fl91_10 (pl91)))))))))))))))) := And.intro sz91 (And.intro ag91 (And.intro zr91 (And.intro by91 (And.intro fl91_0 (And.intro fl91_1 (And.intro fl91_2 (And.intro fl91_3 (And.intro fl91_4 (And.intro fl91_5 (And.intro fl91_6 (And.intro fl91_7 (And.intro fl91_8 (And.intro fl91_9 (And.intro fl91_10 (pl91)))))))))))))))
theorem cok3 : callOk Try.prog 3 = True := eq_true ⟨_, Try.func3, by kernel_rfl, by kernel_rfl⟩
theorem cok4 : callOk Try.prog 4 = True := eq_true ⟨_, Try.func4, by kernel_rfl, by kernel_rfl⟩
theorem cok5 : callOk Try.prog 5 = True := eq_true ⟨_, Try.func5, by kernel_rfl, by kernel_rfl⟩
theorem cok6 : callOk Try.prog 6 = True := eq_true ⟨_, Try.func6, by kernel_rfl, by kernel_rfl⟩
theorem cok7 : callOk Try.prog 7 = True := eq_true ⟨_, Try.func7, by kernel_rfl, by kernel_rfl⟩
theorem cok8 : callOk Try.prog 8 = True := eq_true ⟨_, Try.func8, by kernel_rfl, by kernel_rfl⟩
theorem cok9 : callOk Try.prog 9 = True := eq_true ⟨_, Try.func9, by kernel_rfl, by kernel_rfl⟩
theorem cok10 : callOk Try.prog 10 = True := eq_true ⟨_, Try.func10, by kernel_rfl, by kernel_rfl⟩
theorem cok11 : callOk Try.prog 11 = True := eq_true ⟨_, Try.func11, by kernel_rfl, by kernel_rfl⟩
theorem cok12 : callOk Try.prog 12 = True := eq_true ⟨_, Try.func12, by kernel_rfl, by kernel_rfl⟩
theorem cok13 : callOk Try.prog 13 = True := eq_true ⟨_, Try.func13, by kernel_rfl, by kernel_rfl⟩
theorem cok14 : callOk Try.prog 14 = True := eq_true ⟨_, Try.func14, by kernel_rfl, by kernel_rfl⟩
theorem cok15 : callOk Try.prog 15 = True := eq_true ⟨_, Try.func15, by kernel_rfl, by kernel_rfl⟩
theorem cok16 : callOk Try.prog 16 = True := eq_true ⟨_, Try.func16, by kernel_rfl, by kernel_rfl⟩
theorem cok17 : callOk Try.prog 17 = True := eq_true ⟨_, Try.func17, by kernel_rfl, by kernel_rfl⟩
theorem cok18 : callOk Try.prog 18 = True := eq_true ⟨_, Try.func18, by kernel_rfl, by kernel_rfl⟩
theorem cok19 : callOk Try.prog 19 = True := eq_true ⟨_, Try.func19, by kernel_rfl, by kernel_rfl⟩
theorem cok20 : callOk Try.prog 20 = True := eq_true ⟨_, Try.func20, by kernel_rfl, by kernel_rfl⟩
theorem cok21 : callOk Try.prog 21 = True := eq_true ⟨_, Try.func21, by kernel_rfl, by kernel_rfl⟩
theorem cok22 : callOk Try.prog 22 = True := eq_true ⟨_, Try.func22, by kernel_rfl, by kernel_rfl⟩
theorem cok23 : callOk Try.prog 23 = True := eq_true ⟨_, Try.func23, by kernel_rfl, by kernel_rfl⟩
theorem cok24 : callOk Try.prog 24 = True := eq_true ⟨_, Try.func24, by kernel_rfl, by kernel_rfl⟩
theorem cok25 : callOk Try.prog 25 = True := eq_true ⟨_, Try.func25, by kernel_rfl, by kernel_rfl⟩
theorem cok26 : callOk Try.prog 26 = True := eq_true ⟨_, Try.func26, by kernel_rfl, by kernel_rfl⟩
theorem cok27 : callOk Try.prog 27 = True := eq_true ⟨_, Try.func27, by kernel_rfl, by kernel_rfl⟩
theorem cok28 : callOk Try.prog 28 = True := eq_true ⟨_, Try.func28, by kernel_rfl, by kernel_rfl⟩
theorem cok29 : callOk Try.prog 29 = True := eq_true ⟨_, Try.func29, by kernel_rfl, by kernel_rfl⟩
theorem cok30 : callOk Try.prog 30 = True := eq_true ⟨_, Try.func30, by kernel_rfl, by kernel_rfl⟩
theorem cok31 : callOk Try.prog 31 = True := eq_true ⟨_, Try.func31, by kernel_rfl, by kernel_rfl⟩
theorem cok32 : callOk Try.prog 32 = True := eq_true ⟨_, Try.func32, by kernel_rfl, by kernel_rfl⟩
theorem cok33 : callOk Try.prog 33 = True := eq_true ⟨_, Try.func33, by kernel_rfl, by kernel_rfl⟩
theorem cok34 : callOk Try.prog 34 = True := eq_true ⟨_, Try.func34, by kernel_rfl, by kernel_rfl⟩
theorem cok35 : callOk Try.prog 35 = True := eq_true ⟨_, Try.func35, by kernel_rfl, by kernel_rfl⟩
theorem cok36 : callOk Try.prog 36 = True := eq_true ⟨_, Try.func36, by kernel_rfl, by kernel_rfl⟩
theorem cok37 : callOk Try.prog 37 = True := eq_true ⟨_, Try.func37, by kernel_rfl, by kernel_rfl⟩
theorem cok38 : callOk Try.prog 38 = True := eq_true ⟨_, Try.func38, by kernel_rfl, by kernel_rfl⟩
theorem cok39 : callOk Try.prog 39 = True := eq_true ⟨_, Try.func39, by kernel_rfl, by kernel_rfl⟩
theorem cok40 : callOk Try.prog 40 = True := eq_true ⟨_, Try.func40, by kernel_rfl, by kernel_rfl⟩
theorem cok41 : callOk Try.prog 41 = True := eq_true ⟨_, Try.func41, by kernel_rfl, by kernel_rfl⟩
theorem cok42 : callOk Try.prog 42 = True := eq_true ⟨_, Try.func42, by kernel_rfl, by kernel_rfl⟩
theorem cok43 : callOk Try.prog 43 = True := eq_true ⟨_, Try.func43, by kernel_rfl, by kernel_rfl⟩
theorem cok44 : callOk Try.prog 44 = True := eq_true ⟨_, Try.func44, by kernel_rfl, by kernel_rfl⟩
theorem cok45 : callOk Try.prog 45 = True := eq_true ⟨_, Try.func45, by kernel_rfl, by kernel_rfl⟩
theorem cok46 : callOk Try.prog 46 = True := eq_true ⟨_, Try.func46, by kernel_rfl, by kernel_rfl⟩
theorem cok47 : callOk Try.prog 47 = True := eq_true ⟨_, Try.func47, by kernel_rfl, by kernel_rfl⟩
theorem cok48 : callOk Try.prog 48 = True := eq_true ⟨_, Try.func48, by kernel_rfl, by kernel_rfl⟩
theorem cok49 : callOk Try.prog 49 = True := eq_true ⟨_, Try.func49, by kernel_rfl, by kernel_rfl⟩
theorem cok50 : callOk Try.prog 50 = True := eq_true ⟨_, Try.func50, by kernel_rfl, by kernel_rfl⟩
theorem cok51 : callOk Try.prog 51 = True := eq_true ⟨_, Try.func51, by kernel_rfl, by kernel_rfl⟩
theorem cok52 : callOk Try.prog 52 = True := eq_true ⟨_, Try.func52, by kernel_rfl, by kernel_rfl⟩
theorem cok53 : callOk Try.prog 53 = True := eq_true ⟨_, Try.func53, by kernel_rfl, by kernel_rfl⟩
theorem cok54 : callOk Try.prog 54 = True := eq_true ⟨_, Try.func54, by kernel_rfl, by kernel_rfl⟩
theorem cok55 : callOk Try.prog 55 = True := eq_true ⟨_, Try.func55, by kernel_rfl, by kernel_rfl⟩
theorem cok56 : callOk Try.prog 56 = True := eq_true ⟨_, Try.func56, by kernel_rfl, by kernel_rfl⟩
theorem cok57 : callOk Try.prog 57 = True := eq_true ⟨_, Try.func57, by kernel_rfl, by kernel_rfl⟩
theorem cok58 : callOk Try.prog 58 = True := eq_true ⟨_, Try.func58, by kernel_rfl, by kernel_rfl⟩
theorem cok59 : callOk Try.prog 59 = True := eq_true ⟨_, Try.func59, by kernel_rfl, by kernel_rfl⟩
theorem cok60 : callOk Try.prog 60 = True := eq_true ⟨_, Try.func60, by kernel_rfl, by kernel_rfl⟩
theorem cok61 : callOk Try.prog 61 = True := eq_true ⟨_, Try.func61, by kernel_rfl, by kernel_rfl⟩
theorem cok62 : callOk Try.prog 62 = True := eq_true ⟨_, Try.func62, by kernel_rfl, by kernel_rfl⟩
theorem cok63 : callOk Try.prog 63 = True := eq_true ⟨_, Try.func63, by kernel_rfl, by kernel_rfl⟩
theorem cok64 : callOk Try.prog 64 = True := eq_true ⟨_, Try.func64, by kernel_rfl, by kernel_rfl⟩
theorem cok65 : callOk Try.prog 65 = True := eq_true ⟨_, Try.func65, by kernel_rfl, by kernel_rfl⟩
theorem cok66 : callOk Try.prog 66 = True := eq_true ⟨_, Try.func66, by kernel_rfl, by kernel_rfl⟩
theorem cok67 : callOk Try.prog 67 = True := eq_true ⟨_, Try.func67, by kernel_rfl, by kernel_rfl⟩
theorem cok68 : callOk Try.prog 68 = True := eq_true ⟨_, Try.func68, by kernel_rfl, by kernel_rfl⟩
theorem cok69 : callOk Try.prog 69 = True := eq_true ⟨_, Try.func69, by kernel_rfl, by kernel_rfl⟩
theorem cok70 : callOk Try.prog 70 = True := eq_true ⟨_, Try.func70, by kernel_rfl, by kernel_rfl⟩
theorem cok71 : callOk Try.prog 71 = True := eq_true ⟨_, Try.func71, by kernel_rfl, by kernel_rfl⟩
theorem cok72 : callOk Try.prog 72 = True := eq_true ⟨_, Try.func72, by kernel_rfl, by kernel_rfl⟩
theorem cok73 : callOk Try.prog 73 = True := eq_true ⟨_, Try.func73, by kernel_rfl, by kernel_rfl⟩
theorem cok74 : callOk Try.prog 74 = True := eq_true ⟨_, Try.func74, by kernel_rfl, by kernel_rfl⟩
theorem cok75 : callOk Try.prog 75 = True := eq_true ⟨_, Try.func75, by kernel_rfl, by kernel_rfl⟩
theorem cok76 : callOk Try.prog 76 = True := eq_true ⟨_, Try.func76, by kernel_rfl, by kernel_rfl⟩
theorem mixed : Try.prog.follows .mixedOrders = true := by kernel_rfl

end Go.Proofs.Ythepmgdoophoaaa
