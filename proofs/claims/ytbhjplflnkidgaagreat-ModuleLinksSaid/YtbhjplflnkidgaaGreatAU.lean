/- Chapter 22: short names of the program's types -/
import Derived.Test.YtbhjplflnkidgaaGreatGl37
import Derived.Test.YtbhjplflnkidgaaGreatProg
namespace Go.Proofs.YtbhjplflnkidgaaGreat
theorem u3 : type_of% @Tryz.underlying3 := Tryz.underlying3
theorem u4 : type_of% @Tryz.underlying4 := Tryz.underlying4
theorem u8 : type_of% @Tryz.underlying8 := Tryz.underlying8
theorem u9 : type_of% @Tryz.underlying9 := Tryz.underlying9
theorem u22 : type_of% @Tryz.underlying22 := Tryz.underlying22
theorem u25 : type_of% @Tryz.underlying25 := Tryz.underlying25
theorem u26 : type_of% @Tryz.underlying26 := Tryz.underlying26
theorem u32 : type_of% @Tryz.underlying32 := Tryz.underlying32
theorem u33 : type_of% @Tryz.underlying33 := Tryz.underlying33
theorem u34 : type_of% @Tryz.underlying34 := Tryz.underlying34
theorem u35 : type_of% @Tryz.underlying35 := Tryz.underlying35
theorem u36 : type_of% @Tryz.underlying36 := Tryz.underlying36
theorem u38 : type_of% @Tryz.underlying38 := Tryz.underlying38
theorem u47 : type_of% @Tryz.underlying47 := Tryz.underlying47
theorem u49 : type_of% @Tryz.underlying49 := Tryz.underlying49
theorem u51 : type_of% @Tryz.underlying51 := Tryz.underlying51
theorem u52 : type_of% @Tryz.underlying52 := Tryz.underlying52
theorem u58 : type_of% @Tryz.underlying58 := Tryz.underlying58
theorem u60 : type_of% @Tryz.underlying60 := Tryz.underlying60
theorem u62 : type_of% @Tryz.underlying62 := Tryz.underlying62
theorem u82 : type_of% @Tryz.underlying82 := Tryz.underlying82
theorem u89 : type_of% @Tryz.underlying89 := Tryz.underlying89
theorem u90 : type_of% @Tryz.underlying90 := Tryz.underlying90
theorem u92 : type_of% @Tryz.underlying92 := Tryz.underlying92
theorem u94 : type_of% @Tryz.underlying94 := Tryz.underlying94
theorem u113 : type_of% @Tryz.underlying113 := Tryz.underlying113
theorem u132 : type_of% @Tryz.underlying132 := Tryz.underlying132
theorem u139 : type_of% @Tryz.underlying139 := Tryz.underlying139
theorem u140 : type_of% @Tryz.underlying140 := Tryz.underlying140
theorem u141 : type_of% @Tryz.underlying141 := Tryz.underlying141
theorem u144 : type_of% @Tryz.underlying144 := Tryz.underlying144
theorem u147 : type_of% @Tryz.underlying147 := Tryz.underlying147
theorem u158 : type_of% @Tryz.underlying158 := Tryz.underlying158
end Go.Proofs.YtbhjplflnkidgaaGreat
