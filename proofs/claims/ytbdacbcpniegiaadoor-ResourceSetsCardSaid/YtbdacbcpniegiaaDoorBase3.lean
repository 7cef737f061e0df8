/- Own work: a part of the symbolic executor and of the walks of the functions that the claim reaches. -/
import Derived.Test.YtbdacbcpniegiaaDoorBase2
import Derived.Test.YtbdacbcpniegiaaDoorProg
import Derived.KernelRfl
import Derived.Laws.StructEq
import Derived.Test.YtbdacbcpniegiaaDoorChecked
import Derived.WalkKit
import Derived.LaidEql
import Derived.Stop.Asserts
import Derived.RowKitTokens
import Derived.RangeFuncNested
import Derived.RangeFuncBound
import Derived.RangeFuncCalls
import Derived.RangeFuncLeaves
import Derived.RangeFuncBox
import Derived.Shelf.Abstract
import Derived.OwnWalkIn
import Derived.TacticsInMore
import Derived.LoopNIn
import Derived.LoopIn
import Derived.Maps.AppendAt
import Derived.Shelf.Pu.Clone
import Derived.Shelf.Strings.SlTrimAscii
namespace Go.Proofs.YtbdacbcpniegiaaDoor.Ty
open Go Go.Sx Go.Proofs
set_option linter.unusedSimpArgs false
theorem ag119 : aggOf Tryd.prog 119 = some false := by kernel_rfl
theorem ag125 : aggOf Tryd.prog 125 = some false := by kernel_rfl
theorem ag132 : aggOf Tryd.prog 132 = some false := by kernel_rfl
theorem ag134 : aggOf Tryd.prog 134 = some true := by kernel_rfl
theorem ag136 : aggOf Tryd.prog 136 = some false := by kernel_rfl
theorem ag138 : aggOf Tryd.prog 138 = some false := by kernel_rfl
theorem ag143 : aggOf Tryd.prog 143 = some true := by kernel_rfl
theorem ag146 : aggOf Tryd.prog 146 = some false := by kernel_rfl
theorem ag168 : aggOf Tryd.prog 168 = some false := by kernel_rfl
theorem ag171 : aggOf Tryd.prog 171 = some false := by kernel_rfl
theorem ag179 : aggOf Tryd.prog 179 = some true := by kernel_rfl
theorem ag22 : aggOf Tryd.prog 22 = some false := by kernel_rfl
theorem ag220 : aggOf Tryd.prog 220 = some true := by kernel_rfl
theorem ag248 : aggOf Tryd.prog 248 = some true := by kernel_rfl
theorem ag26 : aggOf Tryd.prog 26 = some true := by kernel_rfl
theorem ag3 : aggOf Tryd.prog 3 = some false := by kernel_rfl
theorem ag30 : aggOf Tryd.prog 30 = some true := by kernel_rfl
theorem ag38 : aggOf Tryd.prog 38 = some false := by kernel_rfl
theorem ag39 : aggOf Tryd.prog 39 = some false := by kernel_rfl
theorem ag4 : aggOf Tryd.prog 4 = some false := by kernel_rfl
theorem ag41 : aggOf Tryd.prog 41 = some true := by kernel_rfl
theorem ag5 : aggOf Tryd.prog 5 = some false := by kernel_rfl
theorem ag53 : aggOf Tryd.prog 53 = some true := by kernel_rfl
theorem ag58 : aggOf Tryd.prog 58 = some false := by kernel_rfl
theorem ag59 : aggOf Tryd.prog 59 = some false := by kernel_rfl
theorem ag62 : aggOf Tryd.prog 62 = some true := by kernel_rfl
theorem ag67 : aggOf Tryd.prog 67 = some false := by kernel_rfl
theorem ag72 : aggOf Tryd.prog 72 = some true := by kernel_rfl
theorem ag74 : aggOf Tryd.prog 74 = some true := by kernel_rfl
theorem ag78 : aggOf Tryd.prog 78 = some true := by kernel_rfl
theorem ag79 : aggOf Tryd.prog 79 = some false := by kernel_rfl
theorem ag81 : aggOf Tryd.prog 81 = some true := by kernel_rfl
theorem ag83 : aggOf Tryd.prog 83 = some true := by kernel_rfl
theorem ag87 : aggOf Tryd.prog 87 = some true := by kernel_rfl
theorem ag89 : aggOf Tryd.prog 89 = some true := by kernel_rfl
theorem ag9 : aggOf Tryd.prog 9 = some false := by kernel_rfl
theorem ag96 : aggOf Tryd.prog 96 = some true := by kernel_rfl
theorem ar220 : arrInf Tryd.prog 220 = some (256, 1) := by kernel_rfl
theorem ar246 : arrInf Tryd.prog 246 = some (256, 1) := by kernel_rfl
theorem ar249 : arrInf Tryd.prog 249 = some (16, 2) := by kernel_rfl
theorem ar64 : arrInf Tryd.prog 64 = some (3, 1) := by kernel_rfl
theorem co101 : calleeOk Tryd.prog 101 = true := by kernel_rfl
theorem co102 : calleeOk Tryd.prog 102 = true := by kernel_rfl
theorem co103 : calleeOk Tryd.prog 103 = true := by kernel_rfl
theorem co104 : calleeOk Tryd.prog 104 = true := by kernel_rfl
theorem co105 : calleeOk Tryd.prog 105 = true := by kernel_rfl
theorem co106 : calleeOk Tryd.prog 106 = true := by kernel_rfl
theorem co107 : calleeOk Tryd.prog 107 = true := by kernel_rfl
theorem co108 : calleeOk Tryd.prog 108 = true := by kernel_rfl
theorem co109 : calleeOk Tryd.prog 109 = true := by kernel_rfl
theorem co110 : calleeOk Tryd.prog 110 = true := by kernel_rfl
theorem co111 : calleeOk Tryd.prog 111 = true := by kernel_rfl
theorem co112 : calleeOk Tryd.prog 112 = true := by kernel_rfl
theorem co113 : calleeOk Tryd.prog 113 = true := by kernel_rfl
theorem co114 : calleeOk Tryd.prog 114 = true := by kernel_rfl
theorem co115 : calleeOk Tryd.prog 115 = true := by kernel_rfl
theorem co116 : calleeOk Tryd.prog 116 = true := by kernel_rfl
theorem co117 : calleeOk Tryd.prog 117 = true := by kernel_rfl
theorem co118 : calleeOk Tryd.prog 118 = true := by kernel_rfl
theorem co119 : calleeOk Tryd.prog 119 = true := by kernel_rfl
theorem co120 : calleeOk Tryd.prog 120 = true := by kernel_rfl
theorem co121 : calleeOk Tryd.prog 121 = true := by kernel_rfl
theorem co122 : calleeOk Tryd.prog 122 = true := by kernel_rfl
theorem co123 : calleeOk Tryd.prog 123 = true := by kernel_rfl
theorem co124 : calleeOk Tryd.prog 124 = true := by kernel_rfl
theorem co125 : calleeOk Tryd.prog 125 = true := by kernel_rfl
theorem co126 : calleeOk Tryd.prog 126 = true := by kernel_rfl
theorem co127 : calleeOk Tryd.prog 127 = true := by kernel_rfl
theorem co128 : calleeOk Tryd.prog 128 = true := by kernel_rfl
theorem co129 : calleeOk Tryd.prog 129 = true := by kernel_rfl
theorem co130 : calleeOk Tryd.prog 130 = true := by kernel_rfl
theorem co132 : calleeOk Tryd.prog 132 = true := by kernel_rfl
theorem co133 : calleeOk Tryd.prog 133 = true := by kernel_rfl
theorem co134 : calleeOk Tryd.prog 134 = true := by kernel_rfl
theorem co135 : calleeOk Tryd.prog 135 = true := by kernel_rfl
theorem co136 : calleeOk Tryd.prog 136 = true := by kernel_rfl
theorem co137 : calleeOk Tryd.prog 137 = true := by kernel_rfl
theorem co138 : calleeOk Tryd.prog 138 = true := by kernel_rfl
theorem co139 : calleeOk Tryd.prog 139 = true := by kernel_rfl
theorem co140 : calleeOk Tryd.prog 140 = true := by kernel_rfl
theorem co141 : calleeOk Tryd.prog 141 = true := by kernel_rfl
theorem co142 : calleeOk Tryd.prog 142 = true := by kernel_rfl
theorem co143 : calleeOk Tryd.prog 143 = true := by kernel_rfl
theorem co144 : calleeOk Tryd.prog 144 = true := by kernel_rfl
theorem co146 : calleeOk Tryd.prog 146 = true := by kernel_rfl
theorem co147 : calleeOk Tryd.prog 147 = true := by kernel_rfl
theorem co148 : calleeOk Tryd.prog 148 = true := by kernel_rfl
theorem co149 : calleeOk Tryd.prog 149 = true := by kernel_rfl
theorem co152 : calleeOk Tryd.prog 152 = true := by kernel_rfl
theorem co153 : calleeOk Tryd.prog 153 = true := by kernel_rfl
theorem co154 : calleeOk Tryd.prog 154 = true := by kernel_rfl
theorem co155 : calleeOk Tryd.prog 155 = true := by kernel_rfl
theorem co156 : calleeOk Tryd.prog 156 = true := by kernel_rfl
theorem co157 : calleeOk Tryd.prog 157 = true := by kernel_rfl
theorem co158 : calleeOk Tryd.prog 158 = true := by kernel_rfl
theorem co159 : calleeOk Tryd.prog 159 = true := by kernel_rfl
theorem co160 : calleeOk Tryd.prog 160 = true := by kernel_rfl
theorem co161 : calleeOk Tryd.prog 161 = true := by kernel_rfl
theorem co162 : calleeOk Tryd.prog 162 = true := by kernel_rfl
theorem co163 : calleeOk Tryd.prog 163 = true := by kernel_rfl
theorem co164 : calleeOk Tryd.prog 164 = true := by kernel_rfl
theorem co165 : calleeOk Tryd.prog 165 = true := by kernel_rfl
theorem co166 : calleeOk Tryd.prog 166 = true := by kernel_rfl
theorem co167 : calleeOk Tryd.prog 167 = true := by kernel_rfl
theorem co168 : calleeOk Tryd.prog 168 = true := by kernel_rfl
theorem co169 : calleeOk Tryd.prog 169 = true := by kernel_rfl
theorem co17 : calleeOk Tryd.prog 17 = true := by kernel_rfl
theorem co170 : calleeOk Tryd.prog 170 = true := by kernel_rfl
theorem co171 : calleeOk Tryd.prog 171 = true := by kernel_rfl
theorem co172 : calleeOk Tryd.prog 172 = true := by kernel_rfl
theorem co173 : calleeOk Tryd.prog 173 = true := by kernel_rfl
theorem co174 : calleeOk Tryd.prog 174 = true := by kernel_rfl
theorem co175 : calleeOk Tryd.prog 175 = true := by kernel_rfl
theorem co176 : calleeOk Tryd.prog 176 = true := by kernel_rfl
theorem co177 : calleeOk Tryd.prog 177 = true := by kernel_rfl
theorem co178 : calleeOk Tryd.prog 178 = true := by kernel_rfl
theorem co179 : calleeOk Tryd.prog 179 = true := by kernel_rfl
theorem co18 : calleeOk Tryd.prog 18 = true := by kernel_rfl
theorem co181 : calleeOk Tryd.prog 181 = true := by kernel_rfl
theorem co19 : calleeOk Tryd.prog 19 = true := by kernel_rfl
theorem co20 : calleeOk Tryd.prog 20 = true := by kernel_rfl
theorem co21 : calleeOk Tryd.prog 21 = true := by kernel_rfl
theorem co216 : calleeOk Tryd.prog 216 = true := by kernel_rfl
theorem co22 : calleeOk Tryd.prog 22 = true := by kernel_rfl
theorem co23 : calleeOk Tryd.prog 23 = true := by kernel_rfl
theorem co24 : calleeOk Tryd.prog 24 = true := by kernel_rfl
theorem co25 : calleeOk Tryd.prog 25 = true := by kernel_rfl
theorem co26 : calleeOk Tryd.prog 26 = true := by kernel_rfl
theorem co27 : calleeOk Tryd.prog 27 = true := by kernel_rfl
theorem co28 : calleeOk Tryd.prog 28 = true := by kernel_rfl
theorem co29 : calleeOk Tryd.prog 29 = true := by kernel_rfl
theorem co30 : calleeOk Tryd.prog 30 = true := by kernel_rfl
theorem co31 : calleeOk Tryd.prog 31 = true := by kernel_rfl
theorem co32 : calleeOk Tryd.prog 32 = true := by kernel_rfl
theorem co33 : calleeOk Tryd.prog 33 = true := by kernel_rfl
theorem co34 : calleeOk Tryd.prog 34 = true := by kernel_rfl
theorem co35 : calleeOk Tryd.prog 35 = true := by kernel_rfl
theorem co36 : calleeOk Tryd.prog 36 = true := by kernel_rfl
theorem co37 : calleeOk Tryd.prog 37 = true := by kernel_rfl
theorem co38 : calleeOk Tryd.prog 38 = true := by kernel_rfl
theorem co39 : calleeOk Tryd.prog 39 = true := by kernel_rfl
theorem co40 : calleeOk Tryd.prog 40 = true := by kernel_rfl
theorem co41 : calleeOk Tryd.prog 41 = true := by kernel_rfl
theorem co42 : calleeOk Tryd.prog 42 = true := by kernel_rfl
theorem co43 : calleeOk Tryd.prog 43 = true := by kernel_rfl
theorem co44 : calleeOk Tryd.prog 44 = true := by kernel_rfl
theorem co45 : calleeOk Tryd.prog 45 = true := by kernel_rfl
theorem co46 : calleeOk Tryd.prog 46 = true := by kernel_rfl
theorem co47 : calleeOk Tryd.prog 47 = true := by kernel_rfl
theorem co48 : calleeOk Tryd.prog 48 = true := by kernel_rfl
theorem co49 : calleeOk Tryd.prog 49 = true := by kernel_rfl
theorem co50 : calleeOk Tryd.prog 50 = true := by kernel_rfl
theorem co51 : calleeOk Tryd.prog 51 = true := by kernel_rfl
theorem co52 : calleeOk Tryd.prog 52 = true := by kernel_rfl
theorem co53 : calleeOk Tryd.prog 53 = true := by kernel_rfl
theorem co54 : calleeOk Tryd.prog 54 = true := by kernel_rfl
theorem co55 : calleeOk Tryd.prog 55 = true := by kernel_rfl
theorem co56 : calleeOk Tryd.prog 56 = true := by kernel_rfl
theorem co57 : calleeOk Tryd.prog 57 = true := by kernel_rfl
theorem co58 : calleeOk Tryd.prog 58 = true := by kernel_rfl
theorem co59 : calleeOk Tryd.prog 59 = true := by kernel_rfl
theorem co60 : calleeOk Tryd.prog 60 = true := by kernel_rfl
theorem co61 : calleeOk Tryd.prog 61 = true := by kernel_rfl
theorem co62 : calleeOk Tryd.prog 62 = true := by kernel_rfl
theorem co63 : calleeOk Tryd.prog 63 = true := by kernel_rfl
theorem co64 : calleeOk Tryd.prog 64 = true := by kernel_rfl
theorem co65 : calleeOk Tryd.prog 65 = true := by kernel_rfl
theorem co66 : calleeOk Tryd.prog 66 = true := by kernel_rfl
theorem co67 : calleeOk Tryd.prog 67 = true := by kernel_rfl
theorem co68 : calleeOk Tryd.prog 68 = true := by kernel_rfl
theorem co69 : calleeOk Tryd.prog 69 = true := by kernel_rfl
theorem co70 : calleeOk Tryd.prog 70 = true := by kernel_rfl
theorem co71 : calleeOk Tryd.prog 71 = true := by kernel_rfl
theorem co72 : calleeOk Tryd.prog 72 = true := by kernel_rfl
theorem co73 : calleeOk Tryd.prog 73 = true := by kernel_rfl
theorem co74 : calleeOk Tryd.prog 74 = true := by kernel_rfl
theorem co75 : calleeOk Tryd.prog 75 = true := by kernel_rfl
theorem co76 : calleeOk Tryd.prog 76 = true := by kernel_rfl
theorem co77 : calleeOk Tryd.prog 77 = true := by kernel_rfl
theorem co78 : calleeOk Tryd.prog 78 = true := by kernel_rfl
theorem co79 : calleeOk Tryd.prog 79 = true := by kernel_rfl
theorem co80 : calleeOk Tryd.prog 80 = true := by kernel_rfl
theorem co81 : calleeOk Tryd.prog 81 = true := by kernel_rfl
theorem co83 : calleeOk Tryd.prog 83 = true := by kernel_rfl
theorem co84 : calleeOk Tryd.prog 84 = true := by kernel_rfl
theorem co86 : calleeOk Tryd.prog 86 = true := by kernel_rfl
theorem co87 : calleeOk Tryd.prog 87 = true := by kernel_rfl
theorem co88 : calleeOk Tryd.prog 88 = true := by kernel_rfl
theorem co89 : calleeOk Tryd.prog 89 = true := by kernel_rfl
theorem co90 : calleeOk Tryd.prog 90 = true := by kernel_rfl
theorem co91 : calleeOk Tryd.prog 91 = true := by kernel_rfl
theorem co92 : calleeOk Tryd.prog 92 = true := by kernel_rfl
theorem co94 : calleeOk Tryd.prog 94 = true := by kernel_rfl
theorem co95 : calleeOk Tryd.prog 95 = true := by kernel_rfl
theorem co96 : calleeOk Tryd.prog 96 = true := by kernel_rfl
theorem co97 : calleeOk Tryd.prog 97 = true := by kernel_rfl
theorem co98 : calleeOk Tryd.prog 98 = true := by kernel_rfl
theorem co99 : calleeOk Tryd.prog 99 = true := by kernel_rfl
theorem cx1 : calleeOk Tryd.prog 1 = false := by kernel_rfl
theorem cx131 : calleeOk Tryd.prog 131 = false := by kernel_rfl
theorem cx145 : calleeOk Tryd.prog 145 = false := by kernel_rfl
theorem cx150 : calleeOk Tryd.prog 150 = false := by kernel_rfl
theorem cx151 : calleeOk Tryd.prog 151 = false := by kernel_rfl
theorem cx180 : calleeOk Tryd.prog 180 = false := by kernel_rfl
theorem cx182 : calleeOk Tryd.prog 182 = false := by kernel_rfl
theorem ei106 : elemInf Tryd.prog 106 = some (96, 7, 64, (Value.agg #[(Value.int IntKind.i64 0), (Value.string { data := #[] }), (Value.int IntKind.u64 0), (Value.bool false), (Value.string { data := #[] }), (Value.bool false), (Value.int IntKind.u8 0)])) := by kernel_rfl
theorem ei171 : elemInf Tryd.prog 171 = some (143, 4, 40, (Value.agg #[(Value.int IntKind.i64 0), (Value.int IntKind.i64 0), (Value.int IntKind.u64 0), (Value.string { data := #[] })])) := by kernel_rfl
theorem ei176 : elemInf Tryd.prog 176 = some (179, 4, 40, (Value.agg #[(Value.int IntKind.i64 0), (Value.int IntKind.i64 0), (Value.int IntKind.u64 0), (Value.string { data := #[] })])) := by kernel_rfl
theorem ei38 : elemInf Tryd.prog 38 = some (9, 1, 16, (Value.string { data := #[] })) := by kernel_rfl
theorem ei39 : elemInf Tryd.prog 39 = some (87, 2, 24, (Value.agg #[(Value.string { data := #[] }), (Value.int IntKind.u64 0)])) := by kernel_rfl
theorem ei51 : elemInf Tryd.prog 51 = some (3, 1, 8, (Value.int IntKind.i64 0)) := by kernel_rfl
theorem ei58 : elemInf Tryd.prog 58 = some (5, 1, 1, (Value.int IntKind.u8 0)) := by kernel_rfl
theorem ei59 : elemInf Tryd.prog 59 = some (62, 5, 56, (Value.agg #[(Value.int IntKind.i64 0), (Value.string { data := #[] }), (Value.int IntKind.u64 0), (Value.int IntKind.i64 0), (Value.string { data := #[] })])) := by kernel_rfl
theorem ei67 : elemInf Tryd.prog 67 = some (74, 5, 56, (Value.agg #[(Value.int IntKind.i64 0), (Value.string { data := #[] }), (Value.int IntKind.u64 0), (Value.int IntKind.i64 0), (Value.string { data := #[] })])) := by kernel_rfl
theorem ei79 : elemInf Tryd.prog 79 = some (89, 5, 56, (Value.agg #[(Value.int IntKind.i64 0), (Value.string { data := #[] }), (Value.int IntKind.u64 0), (Value.bool false), (Value.string { data := #[] })])) := by kernel_rfl
theorem el106 : elemSz Tryd.prog 106 = some (96, 7) := by kernel_rfl
theorem el171 : elemSz Tryd.prog 171 = some (143, 4) := by kernel_rfl
theorem el176 : elemSz Tryd.prog 176 = some (179, 4) := by kernel_rfl
theorem el238 : elemSz Tryd.prog 238 = some (125, 1) := by kernel_rfl
theorem el38 : elemSz Tryd.prog 38 = some (9, 1) := by kernel_rfl
theorem el39 : elemSz Tryd.prog 39 = some (87, 2) := by kernel_rfl
theorem el46 : elemSz Tryd.prog 46 = some (53, 7) := by kernel_rfl
theorem el51 : elemSz Tryd.prog 51 = some (3, 1) := by kernel_rfl
theorem el58 : elemSz Tryd.prog 58 = some (5, 1) := by kernel_rfl
theorem el59 : elemSz Tryd.prog 59 = some (62, 5) := by kernel_rfl
theorem el67 : elemSz Tryd.prog 67 = some (74, 5) := by kernel_rfl
theorem el79 : elemSz Tryd.prog 79 = some (89, 5) := by kernel_rfl
theorem fl143_2 : fldInf Tryd.prog 143 2 = some (2, false, 1) := by kernel_rfl
theorem fl143_3 : fldInf Tryd.prog 143 3 = some (3, false, 1) := by kernel_rfl
theorem fo121_0 : fieldOff Tryd.prog 121 0 = some 0 := by kernel_rfl
theorem fo121_1 : fieldOff Tryd.prog 121 1 = some 1 := by kernel_rfl
theorem fo123_0 : fieldOff Tryd.prog 123 0 = some 0 := by kernel_rfl
theorem fo134_0 : fieldOff Tryd.prog 134 0 = some 0 := by kernel_rfl
theorem fo134_1 : fieldOff Tryd.prog 134 1 = some 1 := by kernel_rfl
theorem fo143_0 : fieldOff Tryd.prog 143 0 = some 0 := by kernel_rfl
theorem fo143_1 : fieldOff Tryd.prog 143 1 = some 1 := by kernel_rfl
theorem fo143_2 : fieldOff Tryd.prog 143 2 = some 2 := by kernel_rfl
theorem fo143_3 : fieldOff Tryd.prog 143 3 = some 3 := by kernel_rfl
theorem fo148_0 : fieldOff Tryd.prog 148 0 = some 0 := by kernel_rfl
theorem fo179_0 : fieldOff Tryd.prog 179 0 = some 0 := by kernel_rfl
theorem fo179_1 : fieldOff Tryd.prog 179 1 = some 1 := by kernel_rfl
theorem fo179_2 : fieldOff Tryd.prog 179 2 = some 2 := by kernel_rfl
theorem fo179_3 : fieldOff Tryd.prog 179 3 = some 3 := by kernel_rfl
theorem fo229_1 : fieldOff Tryd.prog 229 1 = some 1 := by kernel_rfl
theorem fo248_0 : fieldOff Tryd.prog 248 0 = some 0 := by kernel_rfl
theorem fo248_1 : fieldOff Tryd.prog 248 1 = some 1 := by kernel_rfl
theorem fo26_0 : fieldOff Tryd.prog 26 0 = some 0 := by kernel_rfl
theorem fo26_1 : fieldOff Tryd.prog 26 1 = some 1 := by kernel_rfl
theorem fo30_0 : fieldOff Tryd.prog 30 0 = some 0 := by kernel_rfl
theorem fo30_1 : fieldOff Tryd.prog 30 1 = some 2 := by kernel_rfl
theorem fo30_2 : fieldOff Tryd.prog 30 2 = some 3 := by kernel_rfl
theorem fo30_3 : fieldOff Tryd.prog 30 3 = some 4 := by kernel_rfl
theorem fo41_0 : fieldOff Tryd.prog 41 0 = some 0 := by kernel_rfl
theorem fo41_1 : fieldOff Tryd.prog 41 1 = some 1 := by kernel_rfl
theorem fo41_2 : fieldOff Tryd.prog 41 2 = some 2 := by kernel_rfl
theorem fo41_3 : fieldOff Tryd.prog 41 3 = some 3 := by kernel_rfl
theorem fo41_4 : fieldOff Tryd.prog 41 4 = some 4 := by kernel_rfl
theorem fo41_5 : fieldOff Tryd.prog 41 5 = some 5 := by kernel_rfl
theorem fo41_6 : fieldOff Tryd.prog 41 6 = some 6 := by kernel_rfl
theorem fo53_0 : fieldOff Tryd.prog 53 0 = some 0 := by kernel_rfl
theorem fo53_1 : fieldOff Tryd.prog 53 1 = some 1 := by kernel_rfl
theorem fo53_2 : fieldOff Tryd.prog 53 2 = some 2 := by kernel_rfl
theorem fo53_3 : fieldOff Tryd.prog 53 3 = some 4 := by kernel_rfl
theorem fo53_4 : fieldOff Tryd.prog 53 4 = some 5 := by kernel_rfl
theorem fo53_5 : fieldOff Tryd.prog 53 5 = some 6 := by kernel_rfl
theorem fo62_0 : fieldOff Tryd.prog 62 0 = some 0 := by kernel_rfl
theorem fo62_1 : fieldOff Tryd.prog 62 1 = some 2 := by kernel_rfl
theorem fo62_2 : fieldOff Tryd.prog 62 2 = some 3 := by kernel_rfl
theorem fo62_3 : fieldOff Tryd.prog 62 3 = some 4 := by kernel_rfl
theorem fo69_0 : fieldOff Tryd.prog 69 0 = some 0 := by kernel_rfl
theorem fo72_0 : fieldOff Tryd.prog 72 0 = some 0 := by kernel_rfl
theorem fo72_1 : fieldOff Tryd.prog 72 1 = some 2 := by kernel_rfl
theorem fo72_2 : fieldOff Tryd.prog 72 2 = some 3 := by kernel_rfl
theorem fo72_3 : fieldOff Tryd.prog 72 3 = some 4 := by kernel_rfl
theorem fo74_0 : fieldOff Tryd.prog 74 0 = some 0 := by kernel_rfl
theorem fo74_1 : fieldOff Tryd.prog 74 1 = some 2 := by kernel_rfl
theorem fo74_2 : fieldOff Tryd.prog 74 2 = some 3 := by kernel_rfl
theorem fo74_3 : fieldOff Tryd.prog 74 3 = some 4 := by kernel_rfl
theorem fo78_0 : fieldOff Tryd.prog 78 0 = some 0 := by kernel_rfl
theorem fo78_1 : fieldOff Tryd.prog 78 1 = some 7 := by kernel_rfl
theorem fo78_2 : fieldOff Tryd.prog 78 2 = some 8 := by kernel_rfl
theorem fo78_3 : fieldOff Tryd.prog 78 3 = some 9 := by kernel_rfl
theorem fo81_0 : fieldOff Tryd.prog 81 0 = some 0 := by kernel_rfl
theorem fo81_1 : fieldOff Tryd.prog 81 1 = some 1 := by kernel_rfl
theorem fo81_2 : fieldOff Tryd.prog 81 2 = some 2 := by kernel_rfl
theorem fo81_3 : fieldOff Tryd.prog 81 3 = some 3 := by kernel_rfl
theorem fo81_4 : fieldOff Tryd.prog 81 4 = some 4 := by kernel_rfl
theorem fo81_5 : fieldOff Tryd.prog 81 5 = some 5 := by kernel_rfl
theorem fo81_6 : fieldOff Tryd.prog 81 6 = some 6 := by kernel_rfl
theorem fo83_0 : fieldOff Tryd.prog 83 0 = some 0 := by kernel_rfl
theorem fo83_1 : fieldOff Tryd.prog 83 1 = some 7 := by kernel_rfl
theorem fo83_2 : fieldOff Tryd.prog 83 2 = some 8 := by kernel_rfl
theorem fo83_3 : fieldOff Tryd.prog 83 3 = some 9 := by kernel_rfl
theorem fo87_0 : fieldOff Tryd.prog 87 0 = some 0 := by kernel_rfl
theorem fo87_1 : fieldOff Tryd.prog 87 1 = some 1 := by kernel_rfl
theorem fo89_0 : fieldOff Tryd.prog 89 0 = some 0 := by kernel_rfl
theorem fo89_1 : fieldOff Tryd.prog 89 1 = some 2 := by kernel_rfl
theorem fo89_2 : fieldOff Tryd.prog 89 2 = some 3 := by kernel_rfl
theorem fo89_3 : fieldOff Tryd.prog 89 3 = some 4 := by kernel_rfl
theorem fo96_0 : fieldOff Tryd.prog 96 0 = some 0 := by kernel_rfl
theorem fo96_1 : fieldOff Tryd.prog 96 1 = some 5 := by kernel_rfl
theorem fo96_2 : fieldOff Tryd.prog 96 2 = some 6 := by kernel_rfl
theorem fs134 : fieldsOf Tryd.prog 134 = some [(0, 1), (1, 1)] := by kernel_rfl
theorem fs143 : fieldsOf Tryd.prog 143 = some [(0, 1), (1, 1), (2, 1), (3, 1)] := by kernel_rfl
theorem fs148 : fieldsOf Tryd.prog 148 = some [(0, 1)] := by kernel_rfl
theorem fs179 : fieldsOf Tryd.prog 179 = some [(0, 1), (1, 1), (2, 1), (3, 1)] := by kernel_rfl
theorem fs229 : fieldsOf Tryd.prog 229 = some [(0, 1), (1, 1)] := by kernel_rfl
theorem fs248 : fieldsOf Tryd.prog 248 = some [(0, 1), (1, 1)] := by kernel_rfl
theorem fs26 : fieldsOf Tryd.prog 26 = some [(0, 1), (1, 1)] := by kernel_rfl
theorem fs277 : fieldsOf Tryd.prog 277 = some [(0, 1)] := by kernel_rfl
theorem fs30 : fieldsOf Tryd.prog 30 = some [(0, 2), (2, 1), (3, 1), (4, 1)] := by kernel_rfl
theorem fs41 : fieldsOf Tryd.prog 41 = some [(0, 1), (1, 1), (2, 1), (3, 1), (4, 1), (5, 1), (6, 1)] := by kernel_rfl
theorem fs62 : fieldsOf Tryd.prog 62 = some [(0, 2), (2, 1), (3, 1), (4, 1)] := by kernel_rfl
theorem fs69 : fieldsOf Tryd.prog 69 = some [(0, 1)] := by kernel_rfl
theorem fs72 : fieldsOf Tryd.prog 72 = some [(0, 2), (2, 1), (3, 1), (4, 1)] := by kernel_rfl
theorem fs74 : fieldsOf Tryd.prog 74 = some [(0, 2), (2, 1), (3, 1), (4, 1)] := by kernel_rfl
theorem fs81 : fieldsOf Tryd.prog 81 = some [(0, 1), (1, 1), (2, 1), (3, 1), (4, 1), (5, 1), (6, 1)] := by kernel_rfl
theorem fs87 : fieldsOf Tryd.prog 87 = some [(0, 1), (1, 1)] := by kernel_rfl
theorem fs89 : fieldsOf Tryd.prog 89 = some [(0, 2), (2, 1), (3, 1), (4, 1)] := by kernel_rfl
theorem ib103 : isBytesT Tryd.prog 103 = false := by kernel_rfl
theorem ib119 : isBytesT Tryd.prog 119 = false := by kernel_rfl
theorem ib164 : isBytesT Tryd.prog 164 = false := by kernel_rfl
theorem ib21 : isBytesT Tryd.prog 21 = false := by kernel_rfl
theorem ib211 : isBytesT Tryd.prog 211 = false := by kernel_rfl
theorem ib22 : isBytesT Tryd.prog 22 = false := by kernel_rfl
theorem ib3 : isBytesT Tryd.prog 3 = false := by kernel_rfl
theorem ib5 : isBytesT Tryd.prog 5 = false := by kernel_rfl
theorem ib58 : isBytesT Tryd.prog 58 = true := by kernel_rfl
theorem ib9 : isBytesT Tryd.prog 9 = false := by kernel_rfl
theorem is106 : isStrT Tryd.prog 106 = false := by kernel_rfl
theorem is119 : isStrT Tryd.prog 119 = false := by kernel_rfl
theorem is164 : isStrT Tryd.prog 164 = false := by kernel_rfl
theorem is171 : isStrT Tryd.prog 171 = false := by kernel_rfl
theorem is176 : isStrT Tryd.prog 176 = false := by kernel_rfl
theorem is21 : isStrT Tryd.prog 21 = false := by kernel_rfl
theorem is211 : isStrT Tryd.prog 211 = false := by kernel_rfl
theorem is22 : isStrT Tryd.prog 22 = false := by kernel_rfl
theorem is3 : isStrT Tryd.prog 3 = false := by kernel_rfl
theorem is38 : isStrT Tryd.prog 38 = false := by kernel_rfl
theorem is39 : isStrT Tryd.prog 39 = false := by kernel_rfl
theorem is5 : isStrT Tryd.prog 5 = false := by kernel_rfl
theorem is58 : isStrT Tryd.prog 58 = false := by kernel_rfl
theorem is59 : isStrT Tryd.prog 59 = false := by kernel_rfl
theorem is67 : isStrT Tryd.prog 67 = false := by kernel_rfl
theorem is79 : isStrT Tryd.prog 79 = false := by kernel_rfl
theorem is9 : isStrT Tryd.prog 9 = true := by kernel_rfl
theorem mi139 : mapInf Tryd.prog 139 = some ((TypeDesc.int IntKind.i64), (Value.agg #[(Value.int IntKind.i64 0), Value.nilFunc])) := by kernel_rfl
theorem mi174 : mapInf Tryd.prog 174 = some ((TypeDesc.int IntKind.i64), (Value.int IntKind.i64 0)) := by kernel_rfl
theorem mi175 : mapInf Tryd.prog 175 = some ((TypeDesc.int IntKind.i64), (Value.agg #[(Value.int IntKind.i64 0), (Value.int IntKind.i64 0), (Value.int IntKind.u64 0), (Value.string { data := #[] })])) := by kernel_rfl
theorem sz119 : szOf Tryd.prog 119 = some 1 := by kernel_rfl
theorem sz125 : szOf Tryd.prog 125 = some 1 := by kernel_rfl
theorem sz132 : szOf Tryd.prog 132 = some 1 := by kernel_rfl
theorem sz134 : szOf Tryd.prog 134 = some 2 := by kernel_rfl
theorem sz136 : szOf Tryd.prog 136 = some 1 := by kernel_rfl
theorem sz138 : szOf Tryd.prog 138 = some 1 := by kernel_rfl
theorem sz143 : szOf Tryd.prog 143 = some 4 := by kernel_rfl
theorem sz146 : szOf Tryd.prog 146 = some 1 := by kernel_rfl
theorem sz168 : szOf Tryd.prog 168 = some 1 := by kernel_rfl
theorem sz171 : szOf Tryd.prog 171 = some 1 := by kernel_rfl
theorem sz179 : szOf Tryd.prog 179 = some 4 := by kernel_rfl
theorem sz22 : szOf Tryd.prog 22 = some 1 := by kernel_rfl
theorem sz220 : szOf Tryd.prog 220 = some 256 := by kernel_rfl
theorem sz248 : szOf Tryd.prog 248 = some 2 := by kernel_rfl
theorem sz249 : szOf Tryd.prog 249 = some 32 := by kernel_rfl
theorem sz26 : szOf Tryd.prog 26 = some 2 := by kernel_rfl
theorem sz3 : szOf Tryd.prog 3 = some 1 := by kernel_rfl
theorem sz30 : szOf Tryd.prog 30 = some 5 := by kernel_rfl
theorem sz38 : szOf Tryd.prog 38 = some 1 := by kernel_rfl
theorem sz39 : szOf Tryd.prog 39 = some 1 := by kernel_rfl
theorem sz4 : szOf Tryd.prog 4 = some 1 := by kernel_rfl
theorem sz41 : szOf Tryd.prog 41 = some 7 := by kernel_rfl
theorem sz5 : szOf Tryd.prog 5 = some 1 := by kernel_rfl
theorem sz53 : szOf Tryd.prog 53 = some 7 := by kernel_rfl
theorem sz58 : szOf Tryd.prog 58 = some 1 := by kernel_rfl
theorem sz59 : szOf Tryd.prog 59 = some 1 := by kernel_rfl
theorem sz62 : szOf Tryd.prog 62 = some 5 := by kernel_rfl
theorem sz67 : szOf Tryd.prog 67 = some 1 := by kernel_rfl
theorem sz72 : szOf Tryd.prog 72 = some 5 := by kernel_rfl
theorem sz74 : szOf Tryd.prog 74 = some 5 := by kernel_rfl
theorem sz78 : szOf Tryd.prog 78 = some 10 := by kernel_rfl
theorem sz79 : szOf Tryd.prog 79 = some 1 := by kernel_rfl
theorem sz81 : szOf Tryd.prog 81 = some 7 := by kernel_rfl
theorem sz83 : szOf Tryd.prog 83 = some 10 := by kernel_rfl
theorem sz87 : szOf Tryd.prog 87 = some 2 := by kernel_rfl
theorem sz89 : szOf Tryd.prog 89 = some 5 := by kernel_rfl
theorem sz9 : szOf Tryd.prog 9 = some 1 := by kernel_rfl
theorem sz96 : szOf Tryd.prog 96 = some 7 := by kernel_rfl
theorem ze123 : zeroCells Tryd.prog 123 = some [(Value.pointer none), (Value.slice none 0 0)] := by kernel_rfl
theorem ze134 : zeroCells Tryd.prog 134 = some [(Value.int IntKind.i64 0), Value.nilFunc] := by kernel_rfl
theorem ze143 : zeroCells Tryd.prog 143 = some [(Value.int IntKind.i64 0), (Value.int IntKind.i64 0), (Value.int IntKind.u64 0), (Value.string { data := #[] })] := by kernel_rfl
theorem ze148 : zeroCells Tryd.prog 148 = some [(Value.slice none 0 0)] := by kernel_rfl
theorem ze171 : zeroCells Tryd.prog 171 = some [(Value.slice none 0 0)] := by kernel_rfl
theorem ze179 : zeroCells Tryd.prog 179 = some [(Value.int IntKind.i64 0), (Value.int IntKind.i64 0), (Value.int IntKind.u64 0), (Value.string { data := #[] })] := by kernel_rfl
theorem ze22 : zeroCells Tryd.prog 22 = some [(Value.int IntKind.u64 0)] := by kernel_rfl
theorem ze229 : zeroCells Tryd.prog 229 = some [(Value.int IntKind.i64 0), Value.nilIface] := by kernel_rfl
theorem ze248 : zeroCells Tryd.prog 248 = some [(Value.int IntKind.u8 0), (Value.int IntKind.u8 0)] := by kernel_rfl
theorem ze26 : zeroCells Tryd.prog 26 = some [(Value.int IntKind.i64 0), (Value.string { data := #[] })] := by kernel_rfl
theorem ze277 : zeroCells Tryd.prog 277 = some [(Value.string { data := #[] })] := by kernel_rfl
theorem ze3 : zeroCells Tryd.prog 3 = some [(Value.int IntKind.i64 0)] := by kernel_rfl
theorem ze30 : zeroCells Tryd.prog 30 = some [(Value.int IntKind.i64 0), (Value.string { data := #[] }), (Value.int IntKind.u64 0), (Value.bool false), (Value.string { data := #[] })] := by kernel_rfl
theorem ze4 : zeroCells Tryd.prog 4 = some [(Value.bool false)] := by kernel_rfl
theorem ze41 : zeroCells Tryd.prog 41 = some [(Value.int IntKind.i64 0), (Value.bool false), (Value.int IntKind.u64 0), (Value.slice none 0 0), (Value.slice none 0 0), (Value.slice none 0 0), (Value.string { data := #[] })] := by kernel_rfl
theorem ze5 : zeroCells Tryd.prog 5 = some [(Value.int IntKind.u8 0)] := by kernel_rfl
theorem ze53 : zeroCells Tryd.prog 53 = some [(Value.int IntKind.u8 0), (Value.int IntKind.u8 0), (Value.int IntKind.i64 0), (Value.string { data := #[] }), (Value.int IntKind.u64 0), (Value.bool false), (Value.string { data := #[] })] := by kernel_rfl
theorem ze62 : zeroCells Tryd.prog 62 = some [(Value.int IntKind.i64 0), (Value.string { data := #[] }), (Value.int IntKind.u64 0), (Value.int IntKind.i64 0), (Value.string { data := #[] })] := by kernel_rfl
theorem ze64 : zeroCells Tryd.prog 64 = some [(Value.int IntKind.u64 0), (Value.int IntKind.u64 0), (Value.int IntKind.u64 0)] := by kernel_rfl
theorem ze69 : zeroCells Tryd.prog 69 = some [(Value.slice none 0 0)] := by kernel_rfl
theorem ze72 : zeroCells Tryd.prog 72 = some [(Value.int IntKind.i64 0), (Value.string { data := #[] }), (Value.int IntKind.u64 0), (Value.bool false), (Value.string { data := #[] })] := by kernel_rfl
theorem ze74 : zeroCells Tryd.prog 74 = some [(Value.int IntKind.i64 0), (Value.string { data := #[] }), (Value.int IntKind.u64 0), (Value.int IntKind.i64 0), (Value.string { data := #[] })] := by kernel_rfl
theorem ze81 : zeroCells Tryd.prog 81 = some [(Value.int IntKind.i64 0), (Value.bool false), (Value.bool false), (Value.int IntKind.u64 0), (Value.int IntKind.u64 0), (Value.slice none 0 0), (Value.slice none 0 0)] := by kernel_rfl
theorem ze87 : zeroCells Tryd.prog 87 = some [(Value.string { data := #[] }), (Value.int IntKind.u64 0)] := by kernel_rfl
theorem ze89 : zeroCells Tryd.prog 89 = some [(Value.int IntKind.i64 0), (Value.string { data := #[] }), (Value.int IntKind.u64 0), (Value.bool false), (Value.string { data := #[] })] := by kernel_rfl
theorem ze9 : zeroCells Tryd.prog 9 = some [(Value.string { data := #[] })] := by kernel_rfl
theorem eqS26 (x0 y0 : Int) (x1 y1 : List UInt8) : StrEq Tryd.prog 26 [Value.int .i64 x0, Value.string (B x1)].toArray [Value.int .i64 y0, Value.string (B y1)].toArray (x0 == y0 && x1 == y1) := by
  refine ⟨by kernel_rfl, fun w => ?_⟩
  have hS26 : Tryd.prog.underlying 26 = some (.struct (Tryd.prog.fieldsOf 26)) := by kernel_rfl
  have hp26 : Tryd.prog.stoodInHeld 26 = false := by kernel_rfl
  rw [show (10000 : Nat) = 9999 + 1 from rfl, run_equalIn_agg w 9999 26 _ _ hS26 hp26]
  skip
  simp only [Program.fieldsOf, Tryd.underlying26]
  simp only [Program.fieldsOf, Tryd.underlying26] at hS26
  have u3 := Tryd.underlying3
  have a3 := Tryd.isAgg3
  have z3 := Tryd.sizeOf3
  have u9 := Tryd.underlying9
  have a9 := Tryd.isAgg9
  have z9 := Tryd.sizeOf9
  go_simp
  by_cases h0 : x0 = y0 <;> by_cases h1 : x1 = y1 <;> simp [h0, h1, B_toList, B_inj]
theorem eqS30 (x0 y0 : Int) (x1 y1 : List UInt8) (x2 y2 : Int) (x3 y3 : Bool) (x4 y4 : List UInt8) : StrEq Tryd.prog 30 [Value.int .i64 x0, Value.string (B x1), Value.int .u64 x2, Value.bool x3, Value.string (B x4)].toArray [Value.int .i64 y0, Value.string (B y1), Value.int .u64 y2, Value.bool y3, Value.string (B y4)].toArray (x0 == y0 && (x1 == y1 && (x2 == y2 && (x3 == y3 && x4 == y4)))) := by
  refine ⟨by kernel_rfl, fun w => ?_⟩
  have hS30 : Tryd.prog.underlying 30 = some (.struct (Tryd.prog.fieldsOf 30)) := by kernel_rfl
  have hp30 : Tryd.prog.stoodInHeld 30 = false := by kernel_rfl
  have hS26 : Tryd.prog.underlying 26 = some (.struct (Tryd.prog.fieldsOf 26)) := by kernel_rfl
  have hp26 : Tryd.prog.stoodInHeld 26 = false := by kernel_rfl
  rw [show (10000 : Nat) = 9999 + 1 from rfl, run_equalIn_agg w 9999 30 _ _ hS30 hp30]
  rw [show (9999 : Nat) = 9998 + 1 from rfl]
  simp only [Program.fieldsOf, Tryd.underlying30, Tryd.underlying26]
  simp only [Program.fieldsOf, Tryd.underlying30, Tryd.underlying26] at hS30 hS26
  have u3 := Tryd.underlying3
  have a3 := Tryd.isAgg3
  have z3 := Tryd.sizeOf3
  have u4 := Tryd.underlying4
  have a4 := Tryd.isAgg4
  have z4 := Tryd.sizeOf4
  have u9 := Tryd.underlying9
  have a9 := Tryd.isAgg9
  have z9 := Tryd.sizeOf9
  have u22 := Tryd.underlying22
  have a22 := Tryd.isAgg22
  have z22 := Tryd.sizeOf22
  have u26 := Tryd.underlying26
  have a26 := Tryd.isAgg26
  have z26 := Tryd.sizeOf26
  go_simp
  by_cases h0 : x0 = y0 <;> by_cases h1 : x1 = y1 <;> by_cases h2 : x2 = y2 <;> by_cases h3 : x3 = y3 <;> by_cases h4 : x4 = y4 <;> simp [h0, h1, h2, h3, h4, B_toList, B_inj]
theorem eqS62 (x0 y0 : Int) (x1 y1 : List UInt8) (x2 y2 : Int) (x3 y3 : Int) (x4 y4 : List UInt8) : StrEq Tryd.prog 62 [Value.int .i64 x0, Value.string (B x1), Value.int .u64 x2, Value.int .i64 x3, Value.string (B x4)].toArray [Value.int .i64 y0, Value.string (B y1), Value.int .u64 y2, Value.int .i64 y3, Value.string (B y4)].toArray (x0 == y0 && (x1 == y1 && (x2 == y2 && (x3 == y3 && x4 == y4)))) := by
  refine ⟨by kernel_rfl, fun w => ?_⟩
  have hS62 : Tryd.prog.underlying 62 = some (.struct (Tryd.prog.fieldsOf 62)) := by kernel_rfl
  have hp62 : Tryd.prog.stoodInHeld 62 = false := by kernel_rfl
  have hS26 : Tryd.prog.underlying 26 = some (.struct (Tryd.prog.fieldsOf 26)) := by kernel_rfl
  have hp26 : Tryd.prog.stoodInHeld 26 = false := by kernel_rfl
  rw [show (10000 : Nat) = 9999 + 1 from rfl, run_equalIn_agg w 9999 62 _ _ hS62 hp62]
  rw [show (9999 : Nat) = 9998 + 1 from rfl]
  simp only [Program.fieldsOf, Tryd.underlying62, Tryd.underlying26]
  simp only [Program.fieldsOf, Tryd.underlying62, Tryd.underlying26] at hS62 hS26
  have u3 := Tryd.underlying3
  have a3 := Tryd.isAgg3
  have z3 := Tryd.sizeOf3
  have u9 := Tryd.underlying9
  have a9 := Tryd.isAgg9
  have z9 := Tryd.sizeOf9
  have u22 := Tryd.underlying22
  have a22 := Tryd.isAgg22
  have z22 := Tryd.sizeOf22
  have u26 := Tryd.underlying26
  have a26 := Tryd.isAgg26
  have z26 := Tryd.sizeOf26
  go_simp
  by_cases h0 : x0 = y0 <;> by_cases h1 : x1 = y1 <;> by_cases h2 : x2 = y2 <;> by_cases h3 : x3 = y3 <;> by_cases h4 : x4 = y4 <;> simp [h0, h1, h2, h3, h4, B_toList, B_inj]
theorem eqS89 (x0 y0 : Int) (x1 y1 : List UInt8) (x2 y2 : Int) (x3 y3 : Bool) (x4 y4 : List UInt8) : StrEq Tryd.prog 89 [Value.int .i64 x0, Value.string (B x1), Value.int .u64 x2, Value.bool x3, Value.string (B x4)].toArray [Value.int .i64 y0, Value.string (B y1), Value.int .u64 y2, Value.bool y3, Value.string (B y4)].toArray (x0 == y0 && (x1 == y1 && (x2 == y2 && (x3 == y3 && x4 == y4)))) := by
  refine ⟨by kernel_rfl, fun w => ?_⟩
  have hS89 : Tryd.prog.underlying 89 = some (.struct (Tryd.prog.fieldsOf 89)) := by kernel_rfl
  have hp89 : Tryd.prog.stoodInHeld 89 = false := by kernel_rfl
  have hS26 : Tryd.prog.underlying 26 = some (.struct (Tryd.prog.fieldsOf 26)) := by kernel_rfl
  have hp26 : Tryd.prog.stoodInHeld 26 = false := by kernel_rfl
  rw [show (10000 : Nat) = 9999 + 1 from rfl, run_equalIn_agg w 9999 89 _ _ hS89 hp89]
  rw [show (9999 : Nat) = 9998 + 1 from rfl]
  simp only [Program.fieldsOf, Tryd.underlying89, Tryd.underlying26]
  simp only [Program.fieldsOf, Tryd.underlying89, Tryd.underlying26] at hS89 hS26
  have u3 := Tryd.underlying3
  have a3 := Tryd.isAgg3
  have z3 := Tryd.sizeOf3
  have u4 := Tryd.underlying4
  have a4 := Tryd.isAgg4
  have z4 := Tryd.sizeOf4
  have u9 := Tryd.underlying9
  have a9 := Tryd.isAgg9
  have z9 := Tryd.sizeOf9
  have u22 := Tryd.underlying22
  have a22 := Tryd.isAgg22
  have z22 := Tryd.sizeOf22
  have u26 := Tryd.underlying26
  have a26 := Tryd.isAgg26
  have z26 := Tryd.sizeOf26
  go_simp
  by_cases h0 : x0 = y0 <;> by_cases h1 : x1 = y1 <;> by_cases h2 : x2 = y2 <;> by_cases h3 : x3 = y3 <;> by_cases h4 : x4 = y4 <;> simp [h0, h1, h2, h3, h4, B_toList, B_inj]
end Go.Proofs.YtbdacbcpniegiaaDoor.Ty
namespace Go.Proofs.YtbdacbcpniegiaaDoor
open Go Go.RowKit Go.Extern.Stop Go.Stop Go.Extern Go.Proofs
set_option linter.unusedSimpArgs false
set_option linter.unusedVariables false
set_option maxRecDepth 100000
set_option maxHeartbeats 4000000
theorem isTypeOf (v : Value) (w : World) : (Extern.ReflectliteType.typeOf #[.iface 253 v]).run Tryd.prog w = .ok (.iface 231 (.agg #[.pointer (some ⟨7, 253, none⟩)])) w := by kernel_rfl
theorem isComparable (w : World) : (callFunc 204 #[.agg #[.pointer (some ⟨7, 253, none⟩)]]).run Tryd.prog w = .ok (.value (.bool true)) w := by kernel_rfl
theorem isMethodComparable (v : Value) (w : World) : (Go.method 387 231 v "Comparable").run Tryd.prog w = .ok (204, v) w := by kernel_rfl
theorem isComp : (Tryd.prog.info? 253).map (·.comparable) = some true := by kernel_rfl
theorem isSize : (Tryd.prog.info? 277).map (·.size) = some 1 := by kernel_rfl
theorem noIsE (v : Value) (xT : TypeId) (w : World) : (Instr.typeAssert (.iface 253 v) xT 233 true).run Tryd.prog w = .ok (.tuple #[.nilIface, .bool false]) w := run_typeAssert_lacksB Tryd.underlying233 (by kernel_rfl) (by kernel_rfl) v xT w
theorem noUnwrapE (v : Value) (xT : TypeId) (w : World) : (Instr.typeAssert (.iface 253 v) xT 235 true).run Tryd.prog w = .ok (.tuple #[.nilIface, .bool false]) w := run_typeAssert_lacksB Tryd.underlying235 (by kernel_rfl) (by kernel_rfl) v xT w
theorem noUnwrapsE (v : Value) (xT : TypeId) (w : World) : (Instr.typeAssert (.iface 253 v) xT 237 true).run Tryd.prog w = .ok (.tuple #[.nilIface, .bool false]) w := run_typeAssert_lacksB Tryd.underlying237 (by kernel_rfl) (by kernel_rfl) v xT w
theorem noIsA (v : Value) (xT : TypeId) (w : World) : (Instr.typeAssert (.iface 229 v) xT 233 true).run Tryd.prog w = .ok (.tuple #[.nilIface, .bool false]) w := run_typeAssert_lacksB Tryd.underlying233 (by kernel_rfl) (by kernel_rfl) v xT w
theorem hasUnwrapA (v : Value) (xT : TypeId) (w : World) : (Instr.typeAssert (.iface 229 v) xT 235 true).run Tryd.prog w = .ok (.tuple #[.iface 229 v, .bool true]) w := run_typeAssert_hasB Tryd.underlying235 (by kernel_rfl) v xT w
theorem methodUnwrap (v : Value) (w : World) : (Go.method 387 229 v "Unwrap").run Tryd.prog w = .ok (200, v) w := by kernel_rfl
theorem is_same (a : Addr) (w : World) : Calls Tryd.prog 126 #[.iface 253 (.pointer (some a)), .iface 253 (.pointer (some a))] w fun e w' => e = .returned (.bool true) ∧ w' = w := by
  obtain ⟨i, hi, hcmp⟩ := Option.map_eq_some_iff.1 isComp
  obtain ⟨j, hj, hjs⟩ := Option.map_eq_some_iff.1 isSize
  have h8 := @run_callFunc_extern Tryd.prog 151 _ Extern.ReflectliteType.typeOf Tryd.func151 (by kernel_rfl) (by kernel_rfl) (by kernel_rfl) (by kernel_rfl)
  have tT := isTypeOf
  have cT := isComparable
  have mR := isMethodComparable
  have heq := run_eql_iface_ptr_same (P := Tryd.prog) w a Tryd.underlying125 Tryd.underlying253 hi hcmp hj
  go_enter Tryd.func126, Tryd.ntmps126
  go_wp2
  refine wp_loop_rounds 1 ?_
  rw [rounds_succ]
  go_wp2
  go_ret
  exact ⟨rfl, rfl⟩
theorem is_nil (b : Addr) (w : World) : Calls Tryd.prog 126 #[.nilIface, .iface 253 (.pointer (some b))] w fun e w' => e = .returned (.bool false) ∧ w' = w := by
  have hn := run_eql_iface_nil_left (P := Tryd.prog) w 253 (.pointer (some b)) Tryd.underlying125
  go_enter Tryd.func126, Tryd.ntmps126
  go_wp2
  go_ret
  exact ⟨rfl, rfl⟩
theorem is_other (a b : Addr) (ca cb : Array Value) (ta tb : TypeId) (w : World) (hne : a ≠ b) (ha : w.heap[a.block]? = some (.cells ca ta (0, 0))) (hb : w.heap[b.block]? = some (.cells cb tb (0, 0))) :
    Calls Tryd.prog 126 #[.iface 253 (.pointer (some a)), .iface 253 (.pointer (some b))] w fun e w' => e = .returned (.bool false) ∧ w' = w := by
  obtain ⟨i, hi, hcmp⟩ := Option.map_eq_some_iff.1 isComp
  obtain ⟨j, hj, hjs⟩ := Option.map_eq_some_iff.1 isSize
  have h8 := @run_callFunc_extern Tryd.prog 151 _ Extern.ReflectliteType.typeOf Tryd.func151 (by kernel_rfl) (by kernel_rfl) (by kernel_rfl) (by kernel_rfl)
  have tT := isTypeOf
  have cT := isComparable
  have mR := isMethodComparable
  have nE := noIsE
  have uE := noUnwrapE
  have vE := noUnwrapsE
  have heq := run_eql_iface_ptr_other (P := Tryd.prog) w Tryd.underlying125 Tryd.underlying253 hi hcmp hj (by rw [hjs]; decide) hne ha hb
  go_enter Tryd.func126, Tryd.ntmps126
  go_wp2
  refine wp_loop_rounds 1 ?_
  rw [rounds_succ]
  go_wp2
  go_ret
  exact ⟨rfl, rfl⟩
theorem unwrap_any (p : Int) (v : Value) (hv : v.oneCell' = true) (w : World) : Calls Tryd.prog 200 #[.agg #[.int .i64 p, v]] w fun e w' => e = .returned v ∧ w' = w.alloc (.cells #[.int .i64 p, v] 229) := by
  go_enter Tryd.func200, Tryd.ntmps200
  go_wp2
  go_ret
  exact ⟨rfl, rfl⟩
theorem is_at_same (p : Int) (b : Addr) (w : World) : Calls Tryd.prog 126 #[.iface 229 (.agg #[.int .i64 p, .iface 253 (.pointer (some b))]), .iface 253 (.pointer (some b))] w fun e w' => e = .returned (.bool true) ∧ Below w.heap.size w w' := by
  obtain ⟨i, hi, hcmp⟩ := Option.map_eq_some_iff.1 isComp
  obtain ⟨j, hj, hjs⟩ := Option.map_eq_some_iff.1 isSize
  have h8 := @run_callFunc_extern Tryd.prog 151 _ Extern.ReflectliteType.typeOf Tryd.func151 (by kernel_rfl) (by kernel_rfl) (by kernel_rfl) (by kernel_rfl)
  have tT := isTypeOf
  have cT := isComparable
  have mR := isMethodComparable
  have nE := noIsE
  have uE := noUnwrapE
  have vE := noUnwrapsE
  have nA := noIsA
  have uA := hasUnwrapA
  have mU := methodUnwrap
  have heq := run_eql_iface_ptr_same (P := Tryd.prog) (w.alloc (.cells #[.int .i64 p, .iface 253 (.pointer (some b))] 229)) b Tryd.underlying125 Tryd.underlying253 hi hcmp hj
  have hty := run_eql_iface_types (P := Tryd.prog) 229 253 (.agg #[.int .i64 p, .iface 253 (.pointer (some b))]) (.pointer (some b)) Tryd.underlying125 (by decide) w
  go_enter Tryd.func126, Tryd.ntmps126
  go_wp2
  refine wp_loop_rounds 2 ?_
  rw [rounds_succ]
  go_wp2_with (go_at_call 200; refine (unwrap_any p _ rfl _).mono ?_; rintro e w' ⟨rfl, rfl⟩)
  rw [rounds_succ]
  go_wp2
  go_ret
  exact ⟨rfl, (Below.refl _ _).alloc (Nat.le_refl _) _⟩
theorem is_at_other (p : Int) (a b : Addr) (ca cb : Array Value) (ta tb : TypeId) (w : World) (hne : a ≠ b) (ha : w.heap[a.block]? = some (.cells ca ta (0, 0))) (hb : w.heap[b.block]? = some (.cells cb tb (0, 0))) :
    Calls Tryd.prog 126 #[.iface 229 (.agg #[.int .i64 p, .iface 253 (.pointer (some a))]), .iface 253 (.pointer (some b))] w fun e w' => e = .returned (.bool false) ∧ Below w.heap.size w w' := by
  obtain ⟨i, hi, hcmp⟩ := Option.map_eq_some_iff.1 isComp
  obtain ⟨j, hj, hjs⟩ := Option.map_eq_some_iff.1 isSize
  have h8 := @run_callFunc_extern Tryd.prog 151 _ Extern.ReflectliteType.typeOf Tryd.func151 (by kernel_rfl) (by kernel_rfl) (by kernel_rfl) (by kernel_rfl)
  have tT := isTypeOf
  have cT := isComparable
  have mR := isMethodComparable
  have nE := noIsE
  have uE := noUnwrapE
  have vE := noUnwrapsE
  have nA := noIsA
  have uA := hasUnwrapA
  have mU := methodUnwrap
  have hB := (Below.refl w.heap.size w).alloc (Nat.le_refl _) (.cells #[.int .i64 p, .iface 253 (.pointer (some a))] 229)
  have ha' := (hB.block a.block (Array.getElem?_eq_some_iff.1 ha).1).trans ha
  have hb' := (hB.block b.block (Array.getElem?_eq_some_iff.1 hb).1).trans hb
  have heq := run_eql_iface_ptr_other (P := Tryd.prog) (w.alloc (.cells #[.int .i64 p, .iface 253 (.pointer (some a))] 229)) Tryd.underlying125 Tryd.underlying253 hi hcmp hj (by rw [hjs]; decide) hne ha' hb'
  have hty := run_eql_iface_types (P := Tryd.prog) 229 253 (.agg #[.int .i64 p, .iface 253 (.pointer (some a))]) (.pointer (some b)) Tryd.underlying125 (by decide) w
  go_enter Tryd.func126, Tryd.ntmps126
  go_wp2
  refine wp_loop_rounds 2 ?_
  rw [rounds_succ]
  go_wp2_with (go_at_call 200; refine (unwrap_any p _ rfl _).mono ?_; rintro e w' ⟨rfl, rfl⟩)
  rw [rounds_succ]
  go_wp2
  go_ret
  exact ⟨rfl, hB⟩
end Go.Proofs.YtbdacbcpniegiaaDoor
set_option linter.unusedVariables false
namespace NW
abbrev Bytes := List UInt8
def varint (n : Nat) : Bytes :=
  if h : n < 128 then [UInt8.ofNat n] else UInt8.ofNat (n % 128 + 128) :: varint (n / 128)
termination_by n
decreasing_by omega
def readAt : Nat → Bytes → Option (Nat × Nat)
  | _, [] => none
  | k, b :: t =>
    if k ≥ 10 then none
    else if k = 9 ∧ b.toNat > 1 then none
    else if b.toNat < 128 then some (b.toNat * 2 ^ (7 * k), k + 1)
    else (readAt (k + 1) t).map fun r => (b.toNat % 128 * 2 ^ (7 * k) + r.1, r.2)
def readVar (s : Bytes) : Option (Nat × Nat) := readAt 0 s
structure Fld where
  num : Nat
  kind : Nat
  n : Nat
  s : Bytes
deriving DecidableEq
def body (kind : Nat) (s : Bytes) : Option (Nat × Nat × Bytes) :=
  if kind = 0 then (readVar s).map fun r => (r.1, 0, s.drop r.2)
  else if kind = 1 then some (0, 8, s)
  else if kind = 2 then (readVar s).map fun r => (0, r.1, s.drop r.2)
  else if kind = 5 then some (0, 4, s)
  else none
def takeF (s : Bytes) : Option (Fld × Bytes) :=
  match readVar s with
  | none => none
  | some (tag, z) =>
    if tag < 8 ∨ 2 ^ 32 ≤ tag then none
    else match body (tag % 8) (s.drop z) with
      | none => none
      | some (n, size, r) => if size ≤ r.length then some (⟨tag / 8, tag % 8, n, r.take size⟩, r.drop size) else none
theorem readAt_bd (s : Bytes) : ∀ k r, readAt k s = some r → k < r.2 ∧ r.2 ≤ k + s.length ∧ r.2 ≤ 10 := by
  induction s with
  | nil => intro k r h; simp [readAt] at h
  | cons b t ih =>
    intro k r h
    simp only [readAt] at h
    split at h
    · simp at h
    · split at h
      · simp at h
      · split at h
        · simp at h; subst h; simp; omega
        · cases hr : readAt (k + 1) t with
          | none => simp [hr] at h
          | some q =>
            simp [hr] at h; subst h
            have := ih _ _ hr
            simp; omega
theorem readVar_bd {s : Bytes} {r} (h : readVar s = some r) : 1 ≤ r.2 ∧ r.2 ≤ s.length ∧ r.2 ≤ 10 := by
  have := readAt_bd s 0 r h
  omega
theorem readAt_lt (s : Bytes) : ∀ k r, k ≤ 10 → readAt k s = some r → r.1 + 2 ^ (7 * k) ≤ 2 ^ 64 + 0 ∨ r.1 < 2 ^ 64 ∧ 2 ^ (7 * k) ∣ r.1 := by
  induction s with
  | nil => intro k r _ h; simp [readAt] at h
  | cons b t ih =>
    intro k r hk h
    simp only [readAt] at h
    split at h
    · simp at h
    · rename_i h10
      split at h
      · simp at h
      · rename_i h9
        have hb := b.toNat_lt
        split at h
        · rename_i hlt
          simp at h; subst h
          right
          refine ⟨?_, Nat.dvd_mul_left _ _⟩
          simp only
          by_cases e : k = 9
          · subst e
            have : b.toNat ≤ 1 := by omega
            calc b.toNat * 2 ^ 63 ≤ 1 * 2 ^ 63 := Nat.mul_le_mul_right _ this
              _ < 2 ^ 64 := by decide
          · have h1 : 7 * k ≤ 56 := by omega
            have h2 : 2 ^ (7 * k) ≤ 2 ^ 56 := Nat.pow_le_pow_right (by decide) h1
            calc b.toNat * 2 ^ (7 * k) ≤ 128 * 2 ^ 56 := Nat.mul_le_mul (by omega) h2
              _ < 2 ^ 64 := by decide
        · cases hr : readAt (k + 1) t with
          | none => simp [hr] at h
          | some q =>
            simp [hr] at h; subst h
            have hk9 : k ≠ 9 := by
              intro e; apply h9; subst e; omega
            have h8 : k ≤ 8 := by omega
            have hpow : 2 ^ (7 * (k + 1)) = 128 * 2 ^ (7 * k) := by
              rw [show 7 * (k + 1) = 7 * k + 7 by omega, Nat.pow_add]; omega
            have := ih _ _ (by omega) hr
            rcases this with this | ⟨h1, h2⟩
            · left
              simp only
              rw [hpow] at this
              have h3 : b.toNat % 128 * 2 ^ (7 * k) + 2 ^ (7 * k) ≤ 128 * 2 ^ (7 * k) := by
                rw [← Nat.succ_mul]; exact Nat.mul_le_mul_right _ (by omega)
              omega
            · left
              simp only
              rw [hpow] at h2
              obtain ⟨c, hc⟩ := h2
              have h3 : b.toNat % 128 * 2 ^ (7 * k) + 2 ^ (7 * k) ≤ 128 * 2 ^ (7 * k) := by
                rw [← Nat.succ_mul]; exact Nat.mul_le_mul_right _ (by omega)
              have h64 : ∃ e, 2 ^ 64 = 2 ^ (7 * (k + 1)) * e := ⟨2 ^ (64 - 7 * (k + 1)), by rw [← Nat.pow_add]; congr 1; omega⟩
              obtain ⟨e, he⟩ := h64
              rw [hpow] at he
              rw [he] at h1
              have hce : c < e := by
                rw [hc] at h1
                exact Nat.lt_of_mul_lt_mul_left h1
              have h5 : 128 * 2 ^ (7 * k) * (c + 1) ≤ 128 * 2 ^ (7 * k) * e := Nat.mul_le_mul_left _ (by omega)
              rw [Nat.mul_add] at h5
              rw [hc, he]
              omega
theorem readVar_lt {s : Bytes} {r} (h : readVar s = some r) : r.1 < 2 ^ 64 := by
  rcases readAt_lt s 0 r (by omega) h with h | h
  · simp at h; omega
  · exact h.1
theorem readAt_append (p q : Bytes) : ∀ k r, readAt k p = some r → readAt k (p ++ q) = some r := by
  induction p with
  | nil => intro k r h; simp [readAt] at h
  | cons b t ih =>
    intro k r h
    simp only [readAt, List.cons_append] at h ⊢
    split
    · rename_i h1; rw [if_pos h1] at h; simp at h
    · rename_i h1; rw [if_neg h1] at h
      split
      · rename_i h2; rw [if_pos h2] at h; simp at h
      · rename_i h2; rw [if_neg h2] at h
        split
        · rename_i h3; rw [if_pos h3] at h; exact h
        · rename_i h3; rw [if_neg h3] at h
          cases hr : readAt (k + 1) t with
          | none => simp [hr] at h
          | some x => rw [hr] at h; rw [ih _ _ hr]; exact h
theorem readVar_append {p q : Bytes} {r} (h : readVar p = some r) : readVar (p ++ q) = some r := readAt_append p q 0 r h
theorem body_append {k : Nat} {p q : Bytes} {n z r} (h : body k p = some (n, z, r)) : body k (p ++ q) = some (n, z, r ++ q) := by
  simp only [body] at h ⊢
  split at h
  · rename_i h0; rw [if_pos h0]
    cases hr : readVar p with
    | none => simp [hr] at h
    | some x =>
      rw [readVar_append hr]
      simp [hr] at h ⊢
      obtain ⟨rfl, rfl, rfl⟩ := h
      have := readVar_bd hr
      exact ⟨rfl, rfl, by rw [List.drop_append_of_le_length (by omega)]⟩
  · rename_i h0; rw [if_neg h0]
    split at h
    · rename_i h1; rw [if_pos h1]; simp at h ⊢; obtain ⟨rfl, rfl, rfl⟩ := h; exact ⟨rfl, rfl, rfl⟩
    · rename_i h1; rw [if_neg h1]
      split at h
      · rename_i h2; rw [if_pos h2]
        cases hr : readVar p with
        | none => simp [hr] at h
        | some x =>
          rw [readVar_append hr]
          simp [hr] at h ⊢
          obtain ⟨rfl, rfl, rfl⟩ := h
          have := readVar_bd hr
          exact ⟨rfl, rfl, by rw [List.drop_append_of_le_length (by omega)]⟩
      · rename_i h2; rw [if_neg h2]
        split at h
        · rename_i h3; rw [if_pos h3]; simp at h ⊢; obtain ⟨rfl, rfl, rfl⟩ := h; exact ⟨rfl, rfl, rfl⟩
        · simp at h
theorem body_len {k : Nat} {p : Bytes} {n z r} (h : body k p = some (n, z, r)) : r.length ≤ p.length := by
  simp only [body] at h
  split at h
  · cases hr : readVar p with
    | none => simp [hr] at h
    | some x => simp [hr] at h; obtain ⟨_, _, rfl⟩ := h; simp
  · split at h
    · simp at h; obtain ⟨_, _, rfl⟩ := h; simp
    · split at h
      · cases hr : readVar p with
        | none => simp [hr] at h
        | some x => simp [hr] at h; obtain ⟨_, _, rfl⟩ := h; simp
      · split at h
        · simp at h; obtain ⟨_, _, rfl⟩ := h; simp
        · simp at h
theorem takeF_append {p q : Bytes} {f r} (h : takeF p = some (f, r)) : takeF (p ++ q) = some (f, r ++ q) := by
  simp only [takeF] at h ⊢
  cases hr : readVar p with
  | none => simp [hr] at h
  | some x =>
    obtain ⟨tag, z⟩ := x
    rw [readVar_append hr]
    simp only [hr] at h ⊢
    split at h
    · simp at h
    · rename_i ht
      rw [if_neg ht]
      have hz := (readVar_bd hr).2.1
      rw [List.drop_append_of_le_length (by simpa using hz)]
      cases hb : body (tag % 8) (p.drop z) with
      | none => simp [hb] at h
      | some y =>
        obtain ⟨n, size, s1⟩ := y
        rw [body_append hb]
        simp only [hb] at h ⊢
        split at h
        · rename_i hs
          rw [if_pos (by simp; omega)]
          simp at h ⊢
          obtain ⟨rfl, rfl⟩ := h
          rw [List.take_append_of_le_length hs, List.drop_append_of_le_length hs]
          exact ⟨rfl, rfl⟩
        · simp at h
theorem takeF_len {p : Bytes} {f r} (h : takeF p = some (f, r)) : r.length < p.length := by
  simp only [takeF] at h
  cases hr : readVar p with
  | none => simp [hr] at h
  | some x =>
    obtain ⟨tag, z⟩ := x
    simp only [hr] at h
    have hz := readVar_bd hr
    simp only at hz
    split at h
    · simp at h
    · cases hb : body (tag % 8) (p.drop z) with
      | none => simp [hb] at h
      | some y =>
        obtain ⟨n, size, s1⟩ := y
        simp only [hb] at h
        have := body_len hb
        simp only [List.length_drop] at this
        split at h
        · simp at h; obtain ⟨_, rfl⟩ := h; simp; omega
        · simp at h
def parse (s : Bytes) : Option (List Fld) :=
  if s = [] then some []
  else match h : takeF s with
    | none => none
    | some (f, r) => (parse r).map (f :: ·)
termination_by s.length
decreasing_by exact takeF_len h
theorem parse_nil : parse [] = some [] := by rw [parse]; simp
theorem parse_none {s : Bytes} (hs : s ≠ []) (h : takeF s = none) : parse s = none := by
  rw [parse, if_neg hs]; split <;> simp_all
theorem parse_some {s : Bytes} {f r} (h : takeF s = some (f, r)) : parse s = (parse r).map (f :: ·) := by
  have hs : s ≠ [] := by intro e; have := takeF_len h; simp [e] at this
  rw [parse, if_neg hs]; split <;> simp_all
theorem parse_append : ∀ (n : Nat) (p q : Bytes) (gs : List Fld), p.length ≤ n → parse p = some gs → parse (p ++ q) = (parse q).map (gs ++ ·) := by
  intro n
  induction n with
  | zero =>
    intro p q gs hp h
    have : p = [] := by simpa using hp
    subst this
    rw [parse_nil] at h
    simp at h; subst h; simp
  | succ n ih =>
    intro p q gs hp h
    by_cases e : p = []
    · subst e
      rw [parse_nil] at h
      simp at h; subst h; simp
    · cases ht : takeF p with
      | none => rw [parse_none e ht] at h; simp at h
      | some x =>
        obtain ⟨f, r⟩ := x
        rw [parse_some ht] at h
        cases hr : parse r with
        | none => simp [hr] at h
        | some g =>
          simp [hr] at h; subst h
          rw [parse_some (takeF_append ht), ih r q g (by have := takeF_len ht; omega) hr]
          cases parse q <;> simp
theorem parse_app {p q : Bytes} {gs : List Fld} (h : parse p = some gs) : parse (p ++ q) = (parse q).map (gs ++ ·) := parse_append _ p q gs (Nat.le_refl _) h
theorem varint_lt {n : Nat} (h : n < 128) : varint n = [UInt8.ofNat n] := by rw [varint]; simp [h]
theorem varint_ge {n : Nat} (h : ¬ n < 128) : varint n = UInt8.ofNat (n % 128 + 128) :: varint (n / 128) := by rw [varint]; simp [h]
theorem readAt_varint (t : Bytes) : ∀ (d n k : Nat), n < 2 ^ d → k < 10 → d + 7 * k = 64 → readAt k (varint n ++ t) = some (n * 2 ^ (7 * k), k + (varint n).length) := by
  intro d
  induction d using Nat.strongRecOn with
  | _ d ih =>
    intro n k hn hk hd
    by_cases h : n < 128
    · rw [varint_lt h]
      simp only [List.cons_append, List.nil_append, readAt, List.length_cons, List.length_nil]
      have hb : (UInt8.ofNat n).toNat = n := by simp [UInt8.toNat_ofNat']; omega
      rw [if_neg (by omega), if_neg (by
        rw [hb]; intro ⟨e, h1⟩; subst e
        have : d = 1 := by omega
        subst this; omega), hb, if_pos h]
    · rw [varint_ge h]
      simp only [List.cons_append, readAt, List.length_cons]
      have hb : (UInt8.ofNat (n % 128 + 128)).toNat = n % 128 + 128 := by simp [UInt8.toNat_ofNat']; omega
      have hd7 : 8 ≤ d := by
        rcases Nat.lt_or_ge d 8 with h8 | h8
        · have : 2 ^ d ≤ 2 ^ 7 := Nat.pow_le_pow_right (by decide) (by omega)
          omega
        · exact h8
      have hn' : n / 128 < 2 ^ (d - 7) := by
        apply Nat.div_lt_of_lt_mul
        calc n < 2 ^ d := hn
          _ = 128 * 2 ^ (d - 7) := by rw [show (128 : Nat) = 2 ^ 7 by decide, ← Nat.pow_add]; congr 1; omega
      rw [if_neg (by omega), if_neg (by omega), hb, if_neg (by omega), ih (d - 7) (by omega) (n / 128) (k + 1) hn' (by omega) (by omega)]
      simp only [Option.map_some]
      have hpow : 2 ^ (7 * (k + 1)) = 128 * 2 ^ (7 * k) := by
        rw [show 7 * (k + 1) = 7 * k + 7 by omega, Nat.pow_add]; omega
      rw [hpow]
      have e1 : (n % 128 + 128) % 128 = n % 128 := by omega
      rw [e1, ← Nat.mul_assoc, ← Nat.add_mul]
      have e2 : n % 128 + n / 128 * 128 = n := by omega
      rw [e2]
      congr 2
      omega
theorem readVar_varint {n : Nat} (t : Bytes) (h : n < 2 ^ 64) : readVar (varint n ++ t) = some (n, (varint n).length) := by
  have := readAt_varint t 64 n 0 h (by omega) (by omega)
  simpa [readVar] using this
theorem varint_length : ∀ (d n : Nat), n < 2 ^ (7 * d) → 1 ≤ d → (varint n).length ≤ d := by
  intro d
  induction d with
  | zero => intro n _ h; omega
  | succ d ih =>
    intro n hn _
    by_cases h : n < 128
    · rw [varint_lt h]; simp
    · rw [varint_ge h]
      have hd : 1 ≤ d := by
        rcases Nat.eq_zero_or_pos d with e | e
        · subst e; simp at hn; omega
        · exact e
      have : n / 128 < 2 ^ (7 * d) := by
        apply Nat.div_lt_of_lt_mul
        calc n < 2 ^ (7 * (d + 1)) := hn
          _ = 128 * 2 ^ (7 * d) := by rw [show (128 : Nat) = 2 ^ 7 by decide, ← Nat.pow_add]; congr 1; omega
      have := ih _ this hd
      simp; omega
theorem varint_len10 {n : Nat} (h : n < 2 ^ 64) : (varint n).length ≤ 10 :=
  varint_length 10 n (Nat.lt_of_lt_of_le h (by decide)) (by decide)
theorem varint_ne (n : Nat) : varint n ≠ [] := by
  by_cases h : n < 128
  · rw [varint_lt h]; simp
  · rw [varint_ge h]; simp
def Fld.Ok (f : Fld) : Prop := 1 ≤ f.num ∧ f.num < 2 ^ 29 ∧ ((f.kind = 0 ∧ f.s = [] ∧ f.n < 2 ^ 64) ∨ (f.kind = 1 ∧ f.s.length = 8 ∧ f.n = 0) ∨ (f.kind = 2 ∧ f.s.length < 2 ^ 64 ∧ f.n = 0) ∨ (f.kind = 5 ∧ f.s.length = 4 ∧ f.n = 0))
def Fld.enc (f : Fld) : Bytes :=
  varint (f.num * 8 + f.kind) ++ (if f.kind = 0 then varint f.n else if f.kind = 2 then varint f.s.length else []) ++ f.s
theorem takeF_enc {f : Fld} (h : f.Ok) (t : Bytes) : takeF (f.enc ++ t) = some (f, t) := by
  obtain ⟨num, kind, n, s⟩ := f
  obtain ⟨h1, h2, h⟩ := h
  simp only at h1 h2 h
  simp only [Fld.enc, takeF]
  have hk : kind < 8 := by omega
  have htag : num * 8 + kind < 2 ^ 64 := by omega
  rw [show (varint (num * 8 + kind) ++ (if kind = 0 then varint n else if kind = 2 then varint s.length else []) ++ s ++ t) = varint (num * 8 + kind) ++ ((if kind = 0 then varint n else if kind = 2 then varint s.length else []) ++ (s ++ t)) by simp]
  rw [readVar_varint _ htag]
  simp only
  rw [if_neg (by omega), List.drop_left]
  have e1 : (num * 8 + kind) % 8 = kind := by omega
  have e2 : (num * 8 + kind) / 8 = num := by omega
  rw [e1, e2]
  rcases h with ⟨rfl, rfl, h⟩ | ⟨rfl, h, rfl⟩ | ⟨rfl, h, rfl⟩ | ⟨rfl, h, rfl⟩
  · simp only [body, if_true, List.nil_append]
    rw [readVar_varint _ h]
    simp
  · simp [body, h]
  · simp only [body]
    simp only [show ¬ ((2 : Nat) = 0) by decide, show ¬ ((2 : Nat) = 1) by decide, if_false, if_true]
    rw [readVar_varint _ h]
    simp
  · simp [body, h]
theorem parse_enc {f : Fld} (h : f.Ok) (t : Bytes) : parse (f.enc ++ t) = (parse t).map (f :: ·) := parse_some (takeF_enc h t)
def encs (l : List Fld) : Bytes := l.flatMap Fld.enc
theorem parse_encs (l : List Fld) (h : ∀ f ∈ l, f.Ok) (t : Bytes) : parse (encs l ++ t) = (parse t).map (l ++ ·) := by
  induction l with
  | nil => simp [encs]
  | cons f l ih =>
    have e : encs (f :: l) ++ t = f.enc ++ (encs l ++ t) := by simp [encs]
    rw [e, parse_enc (h f (by simp)), ih (fun g hg => h g (by simp [hg]))]
    cases parse t <;> simp
theorem parse_encs' (l : List Fld) (h : ∀ f ∈ l, f.Ok) : parse (encs l) = some l := by
  have := parse_encs l h []
  simpa [parse_nil] using this
theorem parse_prefix {l : List Fld} (h : ∀ f ∈ l, f.Ok) {p q : Bytes} (e : encs l = p ++ q) {gs} (hp : parse p = some gs) : ∃ hs, l = gs ++ hs := by
  have h1 := parse_encs' l h
  rw [e, parse_app hp] at h1
  cases hq : parse q with
  | none => simp [hq] at h1
  | some x => simp [hq] at h1; exact ⟨x, h1.symm⟩
end NW
namespace Go.Proofs.YtbdacbcpniegiaaDoor
open Go Go.RowKit Go.Proofs Go.Sx
set_option maxHeartbeats 1000000
set_option linter.unusedSimpArgs false
set_option linter.unusedVariables false
set_option maxRecDepth 10000 in
theorem or128 {x : Int} (h0 : 0 ≤ x) (h1 : x < 256) : bits .or .u8 x 128 = x % 128 + 128 := by
  have := (by decide : ∀ x : Fin 256, bits .or .u8 (x.val : Int) 128 = (x.val : Int) % 128 + 128) ⟨x.toNat, by omega⟩
  simp only [Int.toNat_of_nonneg h0] at this
  exact this
theorem varint_any (n : Nat) (hn : n < 18446744073709551616) (w : World) :
    Calls Tryd.prog 128 #[.int .u64 n] w fun e w' => e = .returned (.string (B (NW.varint n))) ∧ Below w.heap.size w w' := by
  have hlen := NW.varint_len10 (n := n) (by omega)
  refine calls_pureK (args := [.int .u64 n]) w Tryd.func128 rfl Tryd.ntmps128 (by simp) ?_
  intro X K hX hK
  have hnt : X.nt = 21 := by rw [hX]
  have hwi : X.wi = w := by rw [hX]
  have hP : X.P = Tryd.prog := by rw [hX]
  have hown : X.own = [] := by rw [hX]
  have hbl : X.base.length = 0 := by rw [hX]; rfl
  clear hX
  have hT : elemInf X.P 58 = some (5, 1, 1, (Value.int IntKind.u8 0)) ∧ X.P.underlying 22 = some (TypeDesc.int IntKind.u64) ∧ X.P.underlying 5 = some (TypeDesc.int IntKind.u8) ∧ isBytesT X.P 22 = false ∧ isStrT X.P 5 = false ∧ elemSz X.P 58 = some (5, 1) ∧ zeroCells X.P 5 = some [(Value.int IntKind.u8 0)] ∧ isStrT X.P 58 = false ∧ X.P.underlying 58 = some (TypeDesc.slice 5) ∧ X.P.underlying 9 = some TypeDesc.string ∧ isBytesT X.P 58 = true ∧ isStrT X.P 9 = true := by rw [hP]; exact ⟨Ty.ei58, Tryd.underlying22, Tryd.underlying5, Ty.ib22, Ty.is5, Ty.el58, Ty.ze5, Ty.is58, Tryd.underlying58, Tryd.underlying9, Ty.ib58, Ty.is9⟩
  refine SX.seqK ?_
  intro N hN
  refine SX.ops ?_
  simp only [GA, ↓GB, List.filterMap_cons, eq_self, BEq.rfl, simprocAttr, hnt, hT]
  refine hN _ ?_
  clear hN N
  refine SX.seqK ?_
  intro N hN
  refine SX.ops ?_
  simp only [GA, ↓GB, List.filterMap_cons, eq_self, BEq.rfl, simprocAttr, hnt, hT]
  refine hN _ ?_
  clear hN N
  refine SX.seqK ?_
  intro N hN
  refine SX.block (SX.loop (ι := { p : Nat × List UInt8 // p.2 ++ NW.varint p.1 = NW.varint n ∧ p.1 < 18446744073709551616 }) (fun i => ⟨[(0, vv (.int .u64 i.1.1)), (3, .one (.c (.row 0)))], [.row 5 1 i.1.2.length (bcells i.1.2)]⟩) (fun i => i.1.1) ⟨(n, []), by simp, hn⟩ ⟨[0], (LeR.of (by rw [hbl]; decide) (by simp only [GA, ↓GB, List.filterMap_cons, eq_self, BEq.rfl, simprocAttr, List.getD_cons_zero, List.getD_cons_succ, or_false, false_or, or_self, or_true, true_or, decide_true]; try (rfl)) (by simp only [GA, ↓GB, List.filterMap_cons, eq_self, BEq.rfl, simprocAttr, List.getD_cons_zero, List.getD_cons_succ, or_false, false_or, or_self, or_true, true_or, decide_true]; try (rfl)) (by decide) (by simp only [GA, ↓GB, List.filterMap_cons, eq_self, BEq.rfl, simprocAttr, List.getD_cons_zero, List.getD_cons_succ, or_false, false_or, or_self, or_true, true_or, decide_true]) (by simp only [GA, ↓GB, List.filterMap_cons, eq_self, BEq.rfl, simprocAttr, List.getD_cons_zero, List.getD_cons_succ, or_false, false_or, or_self, or_true, true_or, decide_true]) (by simp only [GA, ↓GB, List.filterMap_cons, eq_self, BEq.rfl, simprocAttr, List.getD_cons_zero, List.getD_cons_succ, or_false, false_or, or_self, or_true, true_or, decide_true]))⟩ ?_)
  rintro ⟨⟨m, l⟩, hml, hm⟩
  simp only at hml hm ⊢
  have hl10 : l.length ≤ 10 := by have := congrArg List.length hml; simp at this; omega
  refine SX.seqK ?_; intro N2 hN2
  refine SX.seqK ?_; intro N3 hN3
  refine SX.ops ?_
  simp only [GA, ↓GB, List.filterMap_cons, eq_self, BEq.rfl, simprocAttr, hnt, hT]
  refine hN3 _ ?_
  clear hN3 N3
  refine SX.cond (b := decide ((128 : Int) ≤ m)) rfl (fun hb => ?_) (fun hb => ?_)
  · refine SX.skip (hN2 _ ?_)
    clear hN2 N2
    have hb' : 128 ≤ m := by have := of_decide_eq_true hb; omega
    refine SX.seqK ?_; intro N4 hN4
    refine SX.block ?_
    refine SX.ops ?_
    simp only [GA, ↓GB, List.filterMap_cons, eq_self, BEq.rfl, simprocAttr, hnt, hT]
    have e1 : IntKind.u8.wrap (m : Int) = ((m % 256 : Nat) : Int) := by rw [IntKind.wrap_u8]; omega
    rw [e1, or128 (by omega) (by omega)]
    first | refine ⟨by omega, hN4 _ ?_⟩ | refine hN4 _ ?_
    clear hN4 N4
    refine SX.ops ?_
    simp only [GA, ↓GB, List.filterMap_cons, eq_self, BEq.rfl, simprocAttr, hnt, hT]
    have e2 : (m : Int).fdiv (2 ^ (min 7 IntKind.u64.bits)) = ((m / 128 : Nat) : Int) := by
      rw [show (2 : Int) ^ (min 7 IntKind.u64.bits) = 128 from rfl, Int.fdiv_eq_ediv_of_nonneg _ (by decide)]; omega
    have e3 : ((m % 256 : Nat) : Int) % 128 + 128 = ((UInt8.ofNat (m % 128 + 128)).toNat : Int) := by
      simp [UInt8.toNat_ofNat']; omega
    rw [e2, e3]
    refine ⟨⟨(m / 128, l ++ [UInt8.ofNat (m % 128 + 128)]), ?_, by omega⟩, [2], (LeR.of (by rw [hbl]; decide) (by simp only [GA, ↓GB, List.filterMap_cons, eq_self, BEq.rfl, simprocAttr, List.getD_cons_zero, List.getD_cons_succ, or_false, false_or, or_self, or_true, true_or, decide_true]; try (simp [bcells])) (by simp only [GA, ↓GB, List.filterMap_cons, eq_self, BEq.rfl, simprocAttr, List.getD_cons_zero, List.getD_cons_succ, or_false, false_or, or_self, or_true, true_or, decide_true]; try (simp [bcells])) (by decide) (by simp only [GA, ↓GB, List.filterMap_cons, eq_self, BEq.rfl, simprocAttr, List.getD_cons_zero, List.getD_cons_succ, or_false, false_or, or_self, or_true, true_or, decide_true]) (by simp only [GA, ↓GB, List.filterMap_cons, eq_self, BEq.rfl, simprocAttr, List.getD_cons_zero, List.getD_cons_succ, or_false, false_or, or_self, or_true, true_or, decide_true]) (by simp only [GA, ↓GB, List.filterMap_cons, eq_self, BEq.rfl, simprocAttr, List.getD_cons_zero, List.getD_cons_succ, or_false, false_or, or_self, or_true, true_or, decide_true])), (by show m / 128 < m; omega)⟩
    rw [← hml, NW.varint_ge (by omega : ¬ m < 128)]; simp
  · refine SX.exit ?_
    simp only [GA, ↓GB, List.filterMap_cons, eq_self, BEq.rfl, simprocAttr, hnt]
    have hb' : m < 128 := by have := of_decide_eq_false hb; omega
    refine hN _ ?_
    clear hN hN2 N N2
    refine SX.seqK ?_
    intro N hN
    refine SX.ops ?_
    simp only [GA, ↓GB, List.filterMap_cons, eq_self, BEq.rfl, simprocAttr, hnt, hT]
    have e1 : IntKind.u8.wrap (m : Int) = ((UInt8.ofNat m).toNat : Int) := by rw [IntKind.wrap_u8]; simp [UInt8.toNat_ofNat']
    rw [e1]
    refine ⟨by omega, l ++ [UInt8.ofNat m], by simp [bcells], ?_⟩
    refine hN _ ?_
    clear hN N
    refine SX.ret (hK _ _ (Fin.one rfl rfl hown ?_))
    rw [hwi]; intro w' hb; exact ⟨by rw [← hml, NW.varint_lt hb'], hb⟩
end Go.Proofs.YtbdacbcpniegiaaDoor
namespace Go.Proofs.YtbdacbcpniegiaaDoor
open Go Go.RowKit Go.Proofs Go.Sx
set_option maxHeartbeats 1000000
set_option linter.unusedSimpArgs false
set_option linter.unusedVariables false
set_option maxRecDepth 10000 in
theorem andNot128 {x : Int} (h0 : 0 ≤ x) (h1 : x < 256) : bits .andNot .u8 x 128 = x % 128 := by
  have := (by decide : ∀ x : Fin 256, bits .andNot .u8 (x.val : Int) 128 = (x.val : Int) % 128) ⟨x.toNat, by omega⟩
  simp only [Int.toNat_of_nonneg h0] at this
  exact this
theorem wi64 {x : Int} (h0 : -9223372036854775808 ≤ x) (h1 : x < 9223372036854775808) : IntKind.i64.wrap x = x := by
  rw [IntKind.wrap_i64, Int.emod_eq_of_lt (by omega) (by omega)]; omega
theorem wu64 {x : Int} (h0 : 0 ≤ x) (h1 : x < 18446744073709551616) : IntKind.u64.wrap x = x := by
  rw [IntKind.wrap_u64, Int.emod_eq_of_lt h0 h1]
theorem orShift (acc k x : Nat) (hk : k ≤ 9) (hacc : acc < 2 ^ (7 * k)) (hx : x * 2 ^ (7 * k) < 18446744073709551616) (hx8 : x < 128) :
    bits .or .u64 acc (IntKind.u64.wrap (IntKind.u64.wrap x * 2 ^ min (IntKind.i64.wrap (7 * (k : Int))).toNat IntKind.u64.bits)) = ((acc + x * 2 ^ (7 * k) : Nat) : Int) := by
  have h1 : (IntKind.i64.wrap (7 * (k : Int))).toNat = 7 * k := by rw [wi64 (by omega) (by omega)]; omega
  have h2 : min (7 * k) IntKind.u64.bits = 7 * k := by have : IntKind.u64.bits = 64 := rfl; omega
  have h3 : IntKind.u64.wrap (x : Int) = x := by rw [IntKind.wrap_u64]; omega
  have h4 : ((x : Int) * 2 ^ (7 * k)) = ((x * 2 ^ (7 * k) : Nat) : Int) := by simp
  have h5 : IntKind.u64.wrap ((x * 2 ^ (7 * k) : Nat) : Int) = ((x * 2 ^ (7 * k) : Nat) : Int) := by rw [IntKind.wrap_u64]; omega
  have hp : 2 ^ (7 * k) ≤ 2 ^ 63 := Nat.pow_le_pow_right (by decide) (by omega)
  rw [h1, h2, h3, h4, h5, bits_or_u64_nat _ _ (by omega) hx]
  congr 1
  rw [Nat.mul_comm x, Nat.or_comm, ← Nat.two_pow_add_eq_or_of_lt hacc, Nat.add_comm]
def rvR (s : List UInt8) : Nat × Nat × Bool := match NW.readVar s with | some (n, z) => (n, z, true) | none => (0, 0, false)
theorem rvR_none {s : List UInt8} (h : NW.readVar s = none) : rvR s = (0, 0, false) := by simp [rvR, h]
theorem rvR_some {s : List UInt8} {r : Nat × Nat} (h : NW.readVar s = some r) : rvR s = (r.1, r.2, true) := by simp [rvR, h]
theorem readVarint_any (s : List UInt8) (hs : s.length ≤ 4611686018427387904) (w : World) :
    Calls Tryd.prog 172 #[.string (B s)] w fun e w' => e = .returned (.tuple #[.int .u64 (rvR s).1, .int .i64 (rvR s).2.1, .bool (rvR s).2.2]) ∧ Below w.heap.size w w' := by
  refine calls_pureK (args := [.string (B s)]) w Tryd.func172 rfl Tryd.ntmps172 (by simp) ?_
  intro X K hX hK
  have hnt : X.nt = 36 := by rw [hX]
  have hwi : X.wi = w := by rw [hX]
  have hP : X.P = Tryd.prog := by rw [hX]
  have hown : X.own = [] := by rw [hX]
  have hbl : X.base.length = 0 := by rw [hX]; rfl
  clear hX
  have hT : X.P.underlying 9 = some TypeDesc.string ∧ isStrT X.P 9 = true ∧ X.P.underlying 5 = some (TypeDesc.int IntKind.u8) ∧ X.P.underlying 22 = some (TypeDesc.int IntKind.u64) ∧ isBytesT X.P 5 = false ∧ isStrT X.P 22 = false := by rw [hP]; exact ⟨Tryd.underlying9, Ty.is9, Tryd.underlying5, Tryd.underlying22, Ty.ib5, Ty.is22⟩
  repeat (refine SX.seqK ?_; intro N hN)
  refine SX.ops ?_
  simp only [GA, ↓GB, List.filterMap_cons, eq_self, BEq.rfl, simprocAttr, hnt, hT]
  refine hN _ ?_
  clear hN N
  repeat (refine SX.seqK ?_; intro N hN)
  refine SX.ops ?_
  simp only [GA, ↓GB, List.filterMap_cons, eq_self, BEq.rfl, simprocAttr, hnt, hT]
  have hmin : (if (s.length : Int) < 10 then (s.length : Int) else 10) = ((min 10 s.length : Nat) : Int) := by split <;> omega
  rw [hmin]
  refine hN _ ?_
  clear hN N
  refine SX.block (SX.loop (ι := { p : Nat × Nat // p.1 ≤ min 10 s.length ∧ p.2 < 2 ^ (7 * p.1) ∧ NW.readVar s = (NW.readAt p.1 (s.drop p.1)).map (fun r => (p.2 + r.1, r.2)) })
    (fun i => ⟨[(0, vv (.string (B s))), (2, vv (.int .u64 i.1.2)), (9, vv (.int .i64 ((min 10 s.length : Nat) : Int))), (10, vv (.int .i64 i.1.1))], []⟩) (fun i => 10 - i.1.1)
    ⟨(0, 0), by omega, by decide, by cases h : NW.readAt 0 s <;> simp [NW.readVar, h]⟩ ⟨[], (LeR.of (by rw [hbl]; decide) (by simp only [GA, ↓GB, List.filterMap_cons, eq_self, BEq.rfl, simprocAttr, List.getD_cons_zero, List.getD_cons_succ, or_false, false_or, or_self, or_true, true_or, decide_true]; try (exact ⟨rfl, rfl⟩)) (by simp only [GA, ↓GB, List.filterMap_cons, eq_self, BEq.rfl, simprocAttr, List.getD_cons_zero, List.getD_cons_succ, or_false, false_or, or_self, or_true, true_or, decide_true]; try (exact ⟨rfl, rfl⟩)) (by decide) (by simp only [GA, ↓GB, List.filterMap_cons, eq_self, BEq.rfl, simprocAttr, List.getD_cons_zero, List.getD_cons_succ, or_false, false_or, or_self, or_true, true_or, decide_true]) (by simp only [GA, ↓GB, List.filterMap_cons, eq_self, BEq.rfl, simprocAttr, List.getD_cons_zero, List.getD_cons_succ, or_false, false_or, or_self, or_true, true_or, decide_true]) (by simp only [GA, ↓GB, List.filterMap_cons, eq_self, BEq.rfl, simprocAttr, List.getD_cons_zero, List.getD_cons_succ, or_false, false_or, or_self, or_true, true_or, decide_true]))⟩ ?_)
  rintro ⟨⟨k, acc⟩, hk, hacc, hrv⟩
  simp only at hk hacc hrv ⊢
  repeat (refine SX.seqK ?_; intro N hN)
  refine SX.ops ?_
  simp only [GA, ↓GB, List.filterMap_cons, eq_self, BEq.rfl, simprocAttr, hnt, hT]
  refine hN _ ?_
  clear hN N
  repeat (refine SX.seqK ?_; intro N hN)
  refine SX.cond (b := decide ((k : Int) < ((min 10 s.length : Nat) : Int))) rfl (fun hb => ?_) (fun hb => ?_)
  · refine SX.skip (hN _ ?_); clear hN N
    have hlt : k < min 10 s.length := by have := of_decide_eq_true hb; omega
    have hdrop : s.drop k = s[k]'(by omega) :: s.drop (k + 1) := List.drop_eq_getElem_cons (by omega)
    have hget : s.getD (k) 0 = s[k]'(by omega) := by simp [List.getD_eq_getElem?_getD, show k < s.length by omega]
    rw [hdrop] at hrv
    have hb8 := (s[k]'(by omega)).toNat_lt
    repeat (refine SX.seqK ?_; intro N hN)
    refine SX.block ?_
    repeat (refine SX.seqK ?_; intro N hN)
    refine SX.ops ?_
    simp only [GA, ↓GB, List.filterMap_cons, eq_self, BEq.rfl, simprocAttr, hnt, hT]
    refine hN _ ?_
    clear hN N
    repeat (refine SX.seqK ?_; intro N hN)
    refine SX.ops ?_
    simp only [GA, ↓GB, List.filterMap_cons, eq_self, BEq.rfl, simprocAttr, hnt, hT]
    refine ⟨by omega, by omega, ?_⟩
    rw [hget]
    generalize s[k]'(by omega) = b at *
    refine hN _ ?_
    clear hN N
    repeat (refine SX.seqK ?_; intro N hN)
    refine SX.ops ?_
    simp only [GA, ↓GB, List.filterMap_cons, eq_self, BEq.rfl, simprocAttr, hnt, hT]
    refine SX.merge (d := ⟨[(21, vv (.bool (decide (k = 9) && decide (1 < b.toNat)))), (0, vv (.string (B s))), (2, vv (.int .u64 acc)), (5, vv (.int .i64 k)), (6, vv (.int .u8 b.toNat)), (9, vv (.int .i64 ((min 10 s.length : Nat) : Int))), (10, vv (.int .i64 k))], []⟩) hN [] []
      (fun h9 => (LeR.of (by rw [hbl]; decide) (by simp only [GA, ↓GB, List.filterMap_cons, eq_self, BEq.rfl, simprocAttr, List.getD_cons_zero, List.getD_cons_succ, or_false, false_or, or_self, or_true, true_or, decide_true]; try ((have h9' : k = 9 := by have := eq_of_beq h9; omega); simp [h9']; omega)) (by simp only [GA, ↓GB, List.filterMap_cons, eq_self, BEq.rfl, simprocAttr, List.getD_cons_zero, List.getD_cons_succ, or_false, false_or, or_self, or_true, true_or, decide_true]; try ((have h9' : k = 9 := by have := eq_of_beq h9; omega); simp [h9']; omega)) (by decide) (by simp only [GA, ↓GB, List.filterMap_cons, eq_self, BEq.rfl, simprocAttr, List.getD_cons_zero, List.getD_cons_succ, or_false, false_or, or_self, or_true, true_or, decide_true]) (by simp only [GA, ↓GB, List.filterMap_cons, eq_self, BEq.rfl, simprocAttr, List.getD_cons_zero, List.getD_cons_succ, or_false, false_or, or_self, or_true, true_or, decide_true]) (by simp only [GA, ↓GB, List.filterMap_cons, eq_self, BEq.rfl, simprocAttr, List.getD_cons_zero, List.getD_cons_succ, or_false, false_or, or_self, or_true, true_or, decide_true]))) (fun h9 => (LeR.of (by rw [hbl]; decide) (by simp only [GA, ↓GB, List.filterMap_cons, eq_self, BEq.rfl, simprocAttr, List.getD_cons_zero, List.getD_cons_succ, or_false, false_or, or_self, or_true, true_or, decide_true]; try (simp [show k ≠ 9 by intro e; subst e; simp at h9])) (by simp only [GA, ↓GB, List.filterMap_cons, eq_self, BEq.rfl, simprocAttr, List.getD_cons_zero, List.getD_cons_succ, or_false, false_or, or_self, or_true, true_or, decide_true]; try (simp [show k ≠ 9 by intro e; subst e; simp at h9])) (by decide) (by simp only [GA, ↓GB, List.filterMap_cons, eq_self, BEq.rfl, simprocAttr, List.getD_cons_zero, List.getD_cons_succ, or_false, false_or, or_self, or_true, true_or, decide_true]) (by simp only [GA, ↓GB, List.filterMap_cons, eq_self, BEq.rfl, simprocAttr, List.getD_cons_zero, List.getD_cons_succ, or_false, false_or, or_self, or_true, true_or, decide_true]) (by simp only [GA, ↓GB, List.filterMap_cons, eq_self, BEq.rfl, simprocAttr, List.getD_cons_zero, List.getD_cons_succ, or_false, false_or, or_self, or_true, true_or, decide_true]))) ?_
    clear hN N
    repeat (refine SX.seqK ?_; intro N hN)
    refine SX.cond (b := (decide (k = 9) && decide (1 < b.toNat))) rfl (fun hb => ?_) (fun hb => ?_)
    · refine SX.exit ?_
      simp only [GA, ↓GB, List.filterMap_cons, eq_self, BEq.rfl, simprocAttr, hnt]
      have hnone : NW.readVar s = none := by
        simp only [Bool.and_eq_true, decide_eq_true_eq] at hb
        obtain ⟨rfl, hb⟩ := hb
        rw [hrv, NW.readAt, if_neg (by omega), if_pos ⟨rfl, by omega⟩]; rfl
      clear hN N; clear hN N
      refine hN _ ?_
      clear hN N
      repeat (refine SX.seqK ?_; intro N hN)
      refine SX.ops ?_
      simp only [GA, ↓GB, List.filterMap_cons, eq_self, BEq.rfl, simprocAttr, hnt, hT]
      refine hN _ ?_
      clear hN N
      refine SX.ret (hK _ _ (Fin.three rfl rfl rfl rfl hown ?_))
      rw [hwi]; intro w' hb; exact ⟨by rw [rvR_none hnone]; rfl, hb⟩
    · refine SX.skip (hN _ ?_); clear hN N
      have hr : NW.readAt k (b :: s.drop (k + 1)) = if b.toNat < 128 then some (b.toNat * 2 ^ (7 * k), k + 1) else (NW.readAt (k + 1) (s.drop (k + 1))).map fun r => (b.toNat % 128 * 2 ^ (7 * k) + r.1, r.2) := by
        simp only [Bool.and_eq_false_iff, decide_eq_false_iff_not] at hb
        rw [NW.readAt, if_neg (by omega), if_neg (by omega)]
      rw [hr] at hrv
      repeat (refine SX.seqK ?_; intro N hN)
      refine SX.ops ?_
      simp only [GA, ↓GB, List.filterMap_cons, eq_self, BEq.rfl, simprocAttr, hnt, hT]
      have hx8 : b.toNat % 128 < 128 := Nat.mod_lt _ (by decide)
      have hx : b.toNat % 128 * 2 ^ (7 * k) < 18446744073709551616 := by
        by_cases e9 : k = 9
        · subst e9
          have : b.toNat ≤ 1 := by simp at hb; exact hb
          omega
        · have h2 : 2 ^ (7 * k) ≤ 2 ^ 56 := Nat.pow_le_pow_right (by decide) (by omega)
          have : b.toNat % 128 * 2 ^ (7 * k) ≤ 127 * 2 ^ 56 := Nat.mul_le_mul (by omega) h2
          omega
      have hv : bits .or .u64 acc (IntKind.u64.wrap (IntKind.u64.wrap (bits .andNot .u8 b.toNat 128) * 2 ^ min (IntKind.i64.wrap (7 * (k : Int))).toNat IntKind.u64.bits)) = ((acc + b.toNat % 128 * 2 ^ (7 * k) : Nat) : Int) := by
        rw [andNot128 (by omega) (by omega)]
        have := orShift acc k (b.toNat % 128) (by omega) hacc hx hx8
        simpa using this
      rw [hv]
      refine ⟨by rw [wi64 (by omega) (by omega)]; omega, ?_⟩
      refine hN _ ?_
      clear hN N
      repeat (refine SX.seqK ?_; intro N hN)
      refine SX.ops ?_
      simp only [GA, ↓GB, List.filterMap_cons, eq_self, BEq.rfl, simprocAttr, hnt, hT]
      refine hN _ ?_
      clear hN N
      repeat (refine SX.seqK ?_; intro N hN)
      refine SX.cond (b := decide ((b.toNat : Int) < 128)) rfl (fun hb => ?_) (fun hb => ?_)
      · have hb2 : b.toNat < 128 := by have := of_decide_eq_true ‹decide ((b.toNat : Int) < 128) = true›; omega
        rw [if_pos hb2] at hrv
        simp only [Option.map_some] at hrv
        have e1 : IntKind.i64.wrap ((k : Int) + 1) = ((k + 1 : Nat) : Int) := by rw [wi64 (by omega) (by omega)]; rfl
        repeat (refine SX.seqK ?_; intro N hN)
        refine SX.ops ?_
        simp only [GA, ↓GB, List.filterMap_cons, eq_self, BEq.rfl, simprocAttr, hnt, hT]
        rw [e1]
        refine hN _ ?_
        clear hN N
        refine SX.ret ?_
        simp only [GA, ↓GB, List.filterMap_cons, eq_self, BEq.rfl, simprocAttr, hnt]
        refine hK _ _ (Fin.three rfl rfl rfl rfl hown ?_)
        rw [hwi]; intro w' hb; exact ⟨by rw [rvR_some hrv]; simp [Nat.mod_eq_of_lt hb2], hb⟩
      · have hb2 : ¬ b.toNat < 128 := by have := of_decide_eq_false ‹decide ((b.toNat : Int) < 128) = false›; omega
        rw [if_neg hb2] at hrv
        refine SX.skip ?_
        simp only [GA, ↓GB, List.filterMap_cons, eq_self, BEq.rfl, simprocAttr, hnt]
        refine hN _ ?_
        clear hN N
        refine SX.ops ?_
        simp only [GA, ↓GB, List.filterMap_cons, eq_self, BEq.rfl, simprocAttr, hnt, hT]
        have e1 : IntKind.i64.wrap ((k : Int) + 1) = ((k + 1 : Nat) : Int) := by rw [wi64 (by omega) (by omega)]; rfl
        rw [e1]
        refine ⟨⟨(k + 1, acc + b.toNat % 128 * 2 ^ (7 * k)), by omega, ?_, ?_⟩, [], (LeR.of (by rw [hbl]; decide) (by simp only [GA, ↓GB, List.filterMap_cons, eq_self, BEq.rfl, simprocAttr, List.getD_cons_zero, List.getD_cons_succ, or_false, false_or, or_self, or_true, true_or, decide_true]; try (exact ⟨rfl, rfl⟩)) (by simp only [GA, ↓GB, List.filterMap_cons, eq_self, BEq.rfl, simprocAttr, List.getD_cons_zero, List.getD_cons_succ, or_false, false_or, or_self, or_true, true_or, decide_true]; try (exact ⟨rfl, rfl⟩)) (by decide) (by simp only [GA, ↓GB, List.filterMap_cons, eq_self, BEq.rfl, simprocAttr, List.getD_cons_zero, List.getD_cons_succ, or_false, false_or, or_self, or_true, true_or, decide_true]) (by simp only [GA, ↓GB, List.filterMap_cons, eq_self, BEq.rfl, simprocAttr, List.getD_cons_zero, List.getD_cons_succ, or_false, false_or, or_self, or_true, true_or, decide_true]) (by simp only [GA, ↓GB, List.filterMap_cons, eq_self, BEq.rfl, simprocAttr, List.getD_cons_zero, List.getD_cons_succ, or_false, false_or, or_self, or_true, true_or, decide_true])), ?_⟩
        · show _ < 2 ^ (7 * (k + 1))
          rw [show 7 * (k + 1) = 7 * k + 7 by omega, Nat.pow_add]
          have : b.toNat % 128 * 2 ^ (7 * k) ≤ 127 * 2 ^ (7 * k) := Nat.mul_le_mul_right _ (by omega)
          show _ + _ < _
          omega
        · rw [hrv]
          cases NW.readAt (k + 1) (s.drop (k + 1)) <;> simp
          omega
        · show 10 - (k + 1) < 10 - k
          omega
  · refine SX.exit ?_
    simp only [GA, ↓GB, List.filterMap_cons, eq_self, BEq.rfl, simprocAttr, hnt]
    clear hN N
    refine hN _ ?_
    clear hN N
    repeat (refine SX.seqK ?_; intro N hN)
    refine SX.ops ?_
    simp only [GA, ↓GB, List.filterMap_cons, eq_self, BEq.rfl, simprocAttr, hnt, hT]
    refine hN _ ?_
    clear hN N
    have hk' : k = min 10 s.length := by have := of_decide_eq_false hb; omega
    have hnone : NW.readVar s = none := by
      rw [hrv]
      by_cases h10 : 10 ≤ s.length
      · have : k = 10 := by omega
        subst this
        cases h : s.drop 10 <;> simp [NW.readAt]
      · rw [List.drop_eq_nil_of_le (by omega)]; simp [NW.readAt]
    refine SX.ret (hK _ _ (Fin.three rfl rfl rfl rfl hown ?_))
    rw [hwi]; intro w' hb; exact ⟨by rw [rvR_none hnone]; rfl, hb⟩
end Go.Proofs.YtbdacbcpniegiaaDoor
namespace Go.Proofs.YtbdacbcpniegiaaDoor
open Go Go.RowKit Go.Proofs Go.Sx
set_option maxHeartbeats 4000000
set_option linter.unusedSimpArgs false
set_option linter.unusedVariables false
structure Wire (w : World) (es ew : Value) : Prop where
  short : w.cell? ⟨2, 0, none⟩ = some es
  wrong : w.cell? ⟨3, 0, none⟩ = some ew
  s1 : es.oneCell' = true
  w1 : ew.oneCell' = true
def takeS (s : List UInt8) (es ew : Value) (v : Value) : Prop := ∃ (num kind : Int) (n : Nat) (fs r : List UInt8) (ev : Value),
  v = .tuple #[.agg #[.int .i64 num, .int .i64 kind, .int .u64 n, .string (B fs)], .string (B r), ev] ∧ r.length ≤ s.length ∧
  (match NW.takeF s with | some (f, r') => num = f.num ∧ kind = f.kind ∧ n = f.n ∧ fs = f.s ∧ r = r' ∧ ev = .nilIface | none => ev = es ∨ ev = ew)
theorem take_any (s : List UInt8) (hs : s.length ≤ 1152921504606846976) (w : World) (es ew : Value) (hw : Wire w es ew) :
    Calls Tryd.prog 164 #[.string (B s)] w fun e w' => ∃ v, e = .returned v ∧ takeS s es ew v ∧ Below w.heap.size w w' := by
  have hw1 := hw.short
  have hw2 := hw.wrong
  have h1 := hw.s1
  have h2 := hw.w1
  cases h : NW.readVar s with
  | none =>
    have hT0 : NW.takeF s = none := by simp [NW.takeF, h]
    refine calls_pureK (args := [.string (B s)]) w Tryd.func164 rfl Tryd.ntmps164 (by simp) ?_
    intro X K hX hK
    have hnt : X.nt = 107 := by rw [hX]
    have hwi : X.wi = w := by rw [hX]
    have hP : X.P = Tryd.prog := by rw [hX]
    have hown : X.own = [] := by rw [hX]
    have hbl : X.base.length = 0 := by rw [hX]; rfl
    clear hX
    have hT : zeroCells X.P 143 = some [(Value.int IntKind.i64 0), (Value.int IntKind.i64 0), (Value.int IntKind.u64 0), (Value.string { data := #[] })] ∧ calleeOk X.P 172 = true ∧ aggOf X.P 143 = some true ∧ szOf X.P 143 = some 4 ∧ aggOf X.P 125 = some false ∧ szOf X.P 125 = some 1 ∧ X.P.underlying 22 = some (TypeDesc.int IntKind.u64) ∧ X.P.underlying 3 = some (TypeDesc.int IntKind.i64) ∧ isBytesT X.P 22 = false ∧ isStrT X.P 3 = false ∧ fieldOff X.P 143 0 = some 0 ∧ szOf X.P 3 = some 1 ∧ fieldOff X.P 143 1 = some 1 ∧ isStrT X.P 9 = true ∧ calleeOk X.P 127 = true ∧ aggOf X.P 3 = some false ∧ mapInf X.P 174 = some ((TypeDesc.int IntKind.i64), (Value.int IntKind.i64 0)) ∧ isBytesT X.P 3 = false ∧ isStrT X.P 22 = false ∧ fieldOff X.P 143 2 = some 2 ∧ szOf X.P 22 = some 1 ∧ X.P.underlying 9 = some TypeDesc.string ∧ fieldOff X.P 143 3 = some 3 ∧ szOf X.P 9 = some 1 := by rw [hP]; exact ⟨Ty.ze143, Ty.co172, Ty.ag143, Ty.sz143, Ty.ag125, Ty.sz125, Tryd.underlying22, Tryd.underlying3, Ty.ib22, Ty.is3, Ty.fo143_0, Ty.sz3, Ty.fo143_1, Ty.is9, Ty.co127, Ty.ag3, Ty.mi174, Ty.ib3, Ty.is22, Ty.fo143_2, Ty.sz22, Tryd.underlying9, Ty.fo143_3, Ty.sz9⟩
    rw [← hwi] at hw1 hw2
    repeat (refine SX.seqK ?_; intro N hN)
    refine SX.ops ?_
    simp only [GA, ↓GB, List.filterMap_cons, eq_self, BEq.rfl, simprocAttr, hnt, hT]
    refine hN _ ?_
    clear hN N
    repeat (refine SX.seqK ?_; intro N hN)
    refine SX.ops ?_
    simp only [GA, ↓GB, List.filterMap_cons, eq_self, BEq.rfl, simprocAttr, hnt, hT]
    refine CallVC.pt (l := [_, _, _]) hP (readVarint_any s (by omega)) rfl ?_
    simp only [GA, ↓GB, List.filterMap_cons, eq_self, BEq.rfl, simprocAttr, hnt, hT, rvR_none h]
    refine hN _ ?_
    clear hN N
    repeat (refine SX.seqK ?_; intro N hN)
    refine SX.ops ?_
    simp only [GA, ↓GB, List.filterMap_cons, eq_self, BEq.rfl, simprocAttr, hnt, hT]
    refine hN _ ?_
    clear hN N
    repeat (refine SX.seqK ?_; intro N hN)
    refine SX.cond (b := true) rfl (fun hb => ?_) (fun hb => ?_)
    · repeat (refine SX.seqK ?_; intro N hN)
      refine SX.draw 5 (by rw [hP]; kernel_rfl) (by kernel_rfl) ?_
      simp only [GA, ↓GB, List.filterMap_cons, eq_self, BEq.rfl, simprocAttr, d_nil, d_cons, d_move, d_assign, d_load, d_slice, d_store, d_sto, d_sam, List.take_succ_cons, List.drop_succ_cons, List.drop_zero, List.take_zero, hnt, hT , hw1, hw2, hown, List.not_mem_nil, not_false_eq_true]
      refine hN _ ?_
      clear hN N
      refine SX.ret (hK _ _ (Fin.res rfl hown ?_))
      simp only [GA, ↓GB, List.filterMap_cons, eq_self, BEq.rfl, simprocAttr, f_a, f_b, f_n, f_c, f_B, f_v, f_g, f_0, f_1, f_2, hT, hwi]
      intro w' hb
      exact ⟨_, rfl, ⟨0, 0, 0, [], s, es, rfl, by omega, by rw [hT0]; exact .inl rfl⟩, hb⟩
    · cases hb
  | some tz =>
    obtain ⟨tag, z⟩ := tz
    have hz := NW.readVar_bd h
    have htag := NW.readVar_lt h
    simp only at hz htag
    have d1 : ((tag : Int) * 1 = tag) := by omega
    by_cases ht : tag < 8 ∨ 4294967296 ≤ tag
    · have hT0 : NW.takeF s = none := by simp [NW.takeF, h, ht]
      have hd : (decide (4294967296 ≤ (tag : Int)) || decide ((tag : Int) < 8)) = true := by simp; omega
      refine calls_pureK (args := [.string (B s)]) w Tryd.func164 rfl Tryd.ntmps164 (by simp) ?_
      intro X K hX hK
      have hnt : X.nt = 107 := by rw [hX]
      have hwi : X.wi = w := by rw [hX]
      have hP : X.P = Tryd.prog := by rw [hX]
      have hown : X.own = [] := by rw [hX]
      have hbl : X.base.length = 0 := by rw [hX]; rfl
      clear hX
      have hT : zeroCells X.P 143 = some [(Value.int IntKind.i64 0), (Value.int IntKind.i64 0), (Value.int IntKind.u64 0), (Value.string { data := #[] })] ∧ calleeOk X.P 172 = true ∧ aggOf X.P 143 = some true ∧ szOf X.P 143 = some 4 ∧ aggOf X.P 125 = some false ∧ szOf X.P 125 = some 1 ∧ X.P.underlying 22 = some (TypeDesc.int IntKind.u64) ∧ X.P.underlying 3 = some (TypeDesc.int IntKind.i64) ∧ isBytesT X.P 22 = false ∧ isStrT X.P 3 = false ∧ fieldOff X.P 143 0 = some 0 ∧ szOf X.P 3 = some 1 ∧ fieldOff X.P 143 1 = some 1 ∧ isStrT X.P 9 = true ∧ calleeOk X.P 127 = true ∧ aggOf X.P 3 = some false ∧ mapInf X.P 174 = some ((TypeDesc.int IntKind.i64), (Value.int IntKind.i64 0)) ∧ isBytesT X.P 3 = false ∧ isStrT X.P 22 = false ∧ fieldOff X.P 143 2 = some 2 ∧ szOf X.P 22 = some 1 ∧ X.P.underlying 9 = some TypeDesc.string ∧ fieldOff X.P 143 3 = some 3 ∧ szOf X.P 9 = some 1 := by rw [hP]; exact ⟨Ty.ze143, Ty.co172, Ty.ag143, Ty.sz143, Ty.ag125, Ty.sz125, Tryd.underlying22, Tryd.underlying3, Ty.ib22, Ty.is3, Ty.fo143_0, Ty.sz3, Ty.fo143_1, Ty.is9, Ty.co127, Ty.ag3, Ty.mi174, Ty.ib3, Ty.is22, Ty.fo143_2, Ty.sz22, Tryd.underlying9, Ty.fo143_3, Ty.sz9⟩
      rw [← hwi] at hw1 hw2
      repeat (refine SX.seqK ?_; intro N hN)
      refine SX.ops ?_
      simp only [GA, ↓GB, List.filterMap_cons, eq_self, BEq.rfl, simprocAttr, hnt, hT]
      refine hN _ ?_
      clear hN N
      repeat (refine SX.seqK ?_; intro N hN)
      refine SX.ops ?_
      simp only [GA, ↓GB, List.filterMap_cons, eq_self, BEq.rfl, simprocAttr, hnt, hT]
      refine CallVC.pt (l := [_, _, _]) hP (readVarint_any s (by omega)) rfl ?_
      simp only [GA, ↓GB, List.filterMap_cons, eq_self, BEq.rfl, simprocAttr, hnt, hT, rvR_some h]
      refine hN _ ?_
      clear hN N
      repeat (refine SX.seqK ?_; intro N hN)
      refine SX.ops ?_
      simp only [GA, ↓GB, List.filterMap_cons, eq_self, BEq.rfl, simprocAttr, hnt, hT]
      refine hN _ ?_
      clear hN N
      repeat (refine SX.seqK ?_; intro N hN)
      refine SX.cond (b := false) rfl (fun hb => ?_) (fun hb => ?_)
      · cases hb
      refine SX.skip (hN _ ?_); clear hN N
      repeat (refine SX.seqK ?_; intro N hN)
      refine SX.ops ?_
      simp only [GA, ↓GB, List.filterMap_cons, eq_self, BEq.rfl, simprocAttr, hnt, hT]
      refine SX.merge (d := ⟨[(31, vv (.bool true)), (0, vv (.string (B s))), (2, .one (.c (.loc 0 0))), (5, vv (.int .u64 tag)), (6, vv (.int .i64 z))], [.cells [.v (.int .i64 0), .v (.int .i64 0), .v (.int .u64 0), .v (.string ⟨#[]⟩)] 143]⟩) hN [0] [0] (fun hq => (LeR.of (by rw [hbl]; decide) (by simp only [GA, ↓GB, List.filterMap_cons, eq_self, BEq.rfl, simprocAttr, List.getD_cons_zero, List.getD_cons_succ, or_false, false_or, or_self, or_true, true_or, decide_true]; try (rfl)) (by simp only [GA, ↓GB, List.filterMap_cons, eq_self, BEq.rfl, simprocAttr, List.getD_cons_zero, List.getD_cons_succ, or_false, false_or, or_self, or_true, true_or, decide_true]; try (rfl)) (by decide) (by simp only [GA, ↓GB, List.filterMap_cons, eq_self, BEq.rfl, simprocAttr, List.getD_cons_zero, List.getD_cons_succ, or_false, false_or, or_self, or_true, true_or, decide_true]) (by simp only [GA, ↓GB, List.filterMap_cons, eq_self, BEq.rfl, simprocAttr, List.getD_cons_zero, List.getD_cons_succ, or_false, false_or, or_self, or_true, true_or, decide_true]) (by simp only [GA, ↓GB, List.filterMap_cons, eq_self, BEq.rfl, simprocAttr, List.getD_cons_zero, List.getD_cons_succ, or_false, false_or, or_self, or_true, true_or, decide_true]))) (fun hq => (LeR.of (by rw [hbl]; decide) (by simp only [GA, ↓GB, List.filterMap_cons, eq_self, BEq.rfl, simprocAttr, List.getD_cons_zero, List.getD_cons_succ, or_false, false_or, or_self, or_true, true_or, decide_true]; try (have := of_decide_eq_false hq; simp; omega)) (by simp only [GA, ↓GB, List.filterMap_cons, eq_self, BEq.rfl, simprocAttr, List.getD_cons_zero, List.getD_cons_succ, or_false, false_or, or_self, or_true, true_or, decide_true]; try (have := of_decide_eq_false hq; simp; omega)) (by decide) (by simp only [GA, ↓GB, List.filterMap_cons, eq_self, BEq.rfl, simprocAttr, List.getD_cons_zero, List.getD_cons_succ, or_false, false_or, or_self, or_true, true_or, decide_true]) (by simp only [GA, ↓GB, List.filterMap_cons, eq_self, BEq.rfl, simprocAttr, List.getD_cons_zero, List.getD_cons_succ, or_false, false_or, or_self, or_true, true_or, decide_true]) (by simp only [GA, ↓GB, List.filterMap_cons, eq_self, BEq.rfl, simprocAttr, List.getD_cons_zero, List.getD_cons_succ, or_false, false_or, or_self, or_true, true_or, decide_true]))) ?_
      clear hN N
      repeat (refine SX.seqK ?_; intro N hN)
      refine SX.cond (b := true) rfl (fun hb => ?_) (fun hb => ?_)
      · repeat (refine SX.seqK ?_; intro N hN)
        refine SX.draw 5 (by rw [hP]; kernel_rfl) (by kernel_rfl) ?_
        simp only [GA, ↓GB, List.filterMap_cons, eq_self, BEq.rfl, simprocAttr, d_nil, d_cons, d_move, d_assign, d_load, d_slice, d_store, d_sto, d_sam, List.take_succ_cons, List.drop_succ_cons, List.drop_zero, List.take_zero, hnt, hT , hw1, hw2, hown, List.not_mem_nil, not_false_eq_true]
        refine hN _ ?_
        clear hN N
        refine SX.ret (hK _ _ (Fin.res rfl hown ?_))
        simp only [GA, ↓GB, List.filterMap_cons, eq_self, BEq.rfl, simprocAttr, f_a, f_b, f_n, f_c, f_B, f_v, f_g, f_0, f_1, f_2, hT, hwi]
        intro w' hb
        exact ⟨_, rfl, ⟨0, 0, 0, [], s, ew, rfl, by omega, by rw [hT0]; exact .inr rfl⟩, hb⟩
      · cases hb
    · have g1 : decide (4294967296 ≤ (tag : Int)) = false := by simp; omega
      have g2 : decide ((tag : Int) < 8) = false := by simp; omega
      have q1 : IntKind.u64.wrap ((tag : Int).tdiv 8) = ((tag / 8 : Nat) : Int) := by rw [Int.tdiv_eq_ediv_of_nonneg (by omega), wu64 (by omega) (by omega)]; omega
      have q2 : IntKind.i64.wrap ((tag / 8 : Nat) : Int) = ((tag / 8 : Nat) : Int) := wi64 (by omega) (by omega)
      have q3 : (tag : Int).tmod 8 = ((tag % 8 : Nat) : Int) := by rw [Int.tmod_eq_emod_of_nonneg (by omega)]; omega
      have q4 : IntKind.i64.wrap ((tag % 8 : Nat) : Int) = ((tag % 8 : Nat) : Int) := wi64 (by omega) (by omega)
      have hk8 : tag % 8 < 8 := Nat.mod_lt _ (by decide)
      refine calls_pureK (args := [.string (B s)]) w Tryd.func164 rfl Tryd.ntmps164 (by simp) ?_
      intro X K hX hK
      have hnt : X.nt = 107 := by rw [hX]
      have hwi : X.wi = w := by rw [hX]
      have hP : X.P = Tryd.prog := by rw [hX]
      have hown : X.own = [] := by rw [hX]
      have hbl : X.base.length = 0 := by rw [hX]; rfl
      clear hX
      have hT : zeroCells X.P 143 = some [(Value.int IntKind.i64 0), (Value.int IntKind.i64 0), (Value.int IntKind.u64 0), (Value.string { data := #[] })] ∧ calleeOk X.P 172 = true ∧ aggOf X.P 143 = some true ∧ szOf X.P 143 = some 4 ∧ aggOf X.P 125 = some false ∧ szOf X.P 125 = some 1 ∧ X.P.underlying 22 = some (TypeDesc.int IntKind.u64) ∧ X.P.underlying 3 = some (TypeDesc.int IntKind.i64) ∧ isBytesT X.P 22 = false ∧ isStrT X.P 3 = false ∧ fieldOff X.P 143 0 = some 0 ∧ szOf X.P 3 = some 1 ∧ fieldOff X.P 143 1 = some 1 ∧ isStrT X.P 9 = true ∧ calleeOk X.P 127 = true ∧ aggOf X.P 3 = some false ∧ mapInf X.P 174 = some ((TypeDesc.int IntKind.i64), (Value.int IntKind.i64 0)) ∧ isBytesT X.P 3 = false ∧ isStrT X.P 22 = false ∧ fieldOff X.P 143 2 = some 2 ∧ szOf X.P 22 = some 1 ∧ X.P.underlying 9 = some TypeDesc.string ∧ fieldOff X.P 143 3 = some 3 ∧ szOf X.P 9 = some 1 := by rw [hP]; exact ⟨Ty.ze143, Ty.co172, Ty.ag143, Ty.sz143, Ty.ag125, Ty.sz125, Tryd.underlying22, Tryd.underlying3, Ty.ib22, Ty.is3, Ty.fo143_0, Ty.sz3, Ty.fo143_1, Ty.is9, Ty.co127, Ty.ag3, Ty.mi174, Ty.ib3, Ty.is22, Ty.fo143_2, Ty.sz22, Tryd.underlying9, Ty.fo143_3, Ty.sz9⟩
      rw [← hwi] at hw1 hw2
      repeat (refine SX.seqK ?_; intro N hN)
      refine SX.ops ?_
      simp only [GA, ↓GB, List.filterMap_cons, eq_self, BEq.rfl, simprocAttr, hnt, hT]
      refine hN _ ?_
      clear hN N
      repeat (refine SX.seqK ?_; intro N hN)
      refine SX.ops ?_
      simp only [GA, ↓GB, List.filterMap_cons, eq_self, BEq.rfl, simprocAttr, hnt, hT]
      refine CallVC.pt (l := [_, _, _]) hP (readVarint_any s (by omega)) rfl ?_
      simp only [GA, ↓GB, List.filterMap_cons, eq_self, BEq.rfl, simprocAttr, hnt, hT, rvR_some h]
      refine hN _ ?_
      clear hN N
      repeat (refine SX.seqK ?_; intro N hN)
      refine SX.ops ?_
      simp only [GA, ↓GB, List.filterMap_cons, eq_self, BEq.rfl, simprocAttr, hnt, hT]
      refine hN _ ?_
      clear hN N
      repeat (refine SX.seqK ?_; intro N hN)
      refine SX.cond (b := false) rfl (fun hb => ?_) (fun hb => ?_)
      · cases hb
      refine SX.skip (hN _ ?_); clear hN N
      repeat (refine SX.seqK ?_; intro N hN)
      refine SX.ops ?_
      simp only [GA, ↓GB, List.filterMap_cons, eq_self, BEq.rfl, simprocAttr, hnt, hT , g1, g2]
      refine hN _ ?_
      clear hN N
      repeat (refine SX.seqK ?_; intro N hN)
      refine SX.cond (b := false) rfl (fun hb => ?_) (fun hb => ?_)
      · cases hb
      refine SX.skip (hN _ ?_); clear hN N
      repeat (refine SX.seqK ?_; intro N hN)
      refine SX.ops ?_
      simp only [GA, ↓GB, List.filterMap_cons, eq_self, BEq.rfl, simprocAttr, hnt, hT , q1, q2, q3, q4]
      repeat (refine and_mk (by decide) ?_)
      have hdt : List.take (s.length - z) (List.drop z s) = List.drop z s := List.take_of_length_le (by simp)
      generalize hnum : tag / 8 = num at *
      generalize hkind : tag % 8 = kind at *
      refine SX.less (d := ⟨[(0, vv (.string (B s))), (2, .one (.c (.loc 0 0))), (6, vv (.int .i64 z))], [.cells [.v (.int .i64 num), .v (.int .i64 kind), .v (.int .u64 0), .v (.string ⟨#[]⟩)] 143]⟩) hN [0] (LeR.of (by rw [hbl]; decide) (by simp only [GA, ↓GB, List.filterMap_cons, eq_self, BEq.rfl, simprocAttr, List.getD_cons_zero, List.getD_cons_succ, or_false, false_or, or_self, or_true, true_or, decide_true]; try (rfl)) (by simp only [GA, ↓GB, List.filterMap_cons, eq_self, BEq.rfl, simprocAttr, List.getD_cons_zero, List.getD_cons_succ, or_false, false_or, or_self, or_true, true_or, decide_true]; try (rfl)) (by decide) (by simp only [GA, ↓GB, List.filterMap_cons, eq_self, BEq.rfl, simprocAttr, List.getD_cons_zero, List.getD_cons_succ, or_false, false_or, or_self, or_true, true_or, decide_true]) (by simp only [GA, ↓GB, List.filterMap_cons, eq_self, BEq.rfl, simprocAttr, List.getD_cons_zero, List.getD_cons_succ, or_false, false_or, or_self, or_true, true_or, decide_true]) (by simp only [GA, ↓GB, List.filterMap_cons, eq_self, BEq.rfl, simprocAttr, List.getD_cons_zero, List.getD_cons_succ, or_false, false_or, or_self, or_true, true_or, decide_true])) ?_
      clear hN N
      repeat (refine SX.seqK ?_; intro N hN)
      refine SX.ops ?_
      simp only [GA, ↓GB, List.filterMap_cons, eq_self, BEq.rfl, simprocAttr, hnt, hT , hdt]
      repeat (refine and_mk (by omega) ?_)
      refine hN _ ?_
      clear hN N
      repeat (refine SX.seqK ?_; intro N hN)
      refine SX.ops ?_
      simp only [GA, ↓GB, List.filterMap_cons, eq_self, BEq.rfl, simprocAttr, hnt, hT]
      refine CallVC.inline (by rw [hP]; exact Tryd.func127) rfl Tryd.ntmps127 rfl (by simp) ?_
      have hP0 := hP
      intro X K hU hnt hbl hK
      have hP : X.P = Tryd.prog := (by rw [hU.P, hP0])
      have hT : mapInf X.P 174 = some ((TypeDesc.int IntKind.i64), (Value.int IntKind.i64 0)) := by rw [hP]; exact Ty.mi174
      simp only [GA, ↓GB, List.filterMap_cons, eq_self, BEq.rfl, simprocAttr] at hbl ⊢
      repeat (refine SX.seqK ?_; intro N hN)
      refine SX.ops ?_
      simp only [GA, ↓GB, List.filterMap_cons, eq_self, BEq.rfl, simprocAttr, hnt, hT]
      refine hN _ ?_
      clear hN N
      repeat (refine SX.seqK ?_; intro N hN)
      refine SX.ops ?_
      simp only [GA, ↓GB, List.filterMap_cons, eq_self, BEq.rfl, simprocAttr, hnt, hT]
      refine hN _ ?_
      clear hN N
      refine SX.ret (hK _ _ (FinI.ret3 ?_)); simp only [GA, ↓GB, List.filterMap_cons, eq_self, BEq.rfl, simprocAttr, finP_s, hnt, hT]; clear hT hP hP0 hK hbl hnt hU K X
      refine hN _ ?_
      clear hN N
      generalize hs2 : List.drop z s = s2
      have hs2l : s2.length + z = s.length := by rw [← hs2]; simp; omega
      by_cases hk1 : kind = 1
      · have k0 : ((kind : Int) == 0) = false := by rw [hk1]; rfl
        have k1 : ((kind : Int) == 1) = true := by rw [hk1]; rfl
        have k2 : ((kind : Int) == 2) = false := by rw [hk1]; rfl
        repeat (refine SX.seqK ?_; intro N hN)
        refine SX.ops ?_
        simp only [GA, ↓GB, List.filterMap_cons, eq_self, BEq.rfl, simprocAttr, hnt, hT , k0, k1, k2]
        refine hN _ ?_
        clear hN N
        repeat (refine SX.seqK ?_; intro N hN)
        refine SX.ops ?_
        simp only [GA, ↓GB, List.filterMap_cons, eq_self, BEq.rfl, simprocAttr, hnt, hT , wu64]
        refine hN _ ?_
        clear hN N
        repeat (refine SX.seqK ?_; intro N hN)
        refine SX.ops ?_
        simp only [GA, ↓GB, List.filterMap_cons, eq_self, BEq.rfl, simprocAttr, hnt, hT , k0, k1, k2]
        refine hN _ ?_
        clear hN N
        repeat (refine SX.seqK ?_; intro N hN)
        refine SX.cond (b := false) rfl (fun hb => ?_) (fun hb => ?_)
        · cases hb
        refine SX.skip ?_
        simp only [GA, ↓GB, List.filterMap_cons, eq_self, BEq.rfl, simprocAttr, hnt]
        refine hN _ ?_
        clear hN N
        refine SX.seqK ?_; intro N hN
        refine SX.block ?_
        repeat (refine SX.seqK ?_; intro N hN)
        refine SX.ops ?_
        simp only [GA, ↓GB, List.filterMap_cons, eq_self, BEq.rfl, simprocAttr, hnt, hT]
        refine hN _ ?_
        clear hN N
        repeat (refine SX.seqK ?_; intro N hN)
        refine SX.cond (b := false) rfl (fun hb => ?_) (fun hb => ?_)
        · cases hb
        have wL : IntKind.u64.wrap 8 = 8 := by decide
        have wl : IntKind.u64.wrap (s2.length : Int) = (s2.length : Int) := wu64 (by omega) (by omega)
        by_cases hl : s2.length < 8
        · have dL : decide ((s2.length : Int) < 8) = true := by simp; omega
          have hT0 : NW.takeF s = none := by
            rw [NW.takeF, h]; simp only []; rw [if_neg (by omega), hkind, hs2, hk1, hnum]; simp [NW.body, hl]; try omega
          repeat (refine SX.seqK ?_; intro N hN)
          refine SX.ops ?_
          simp only [GA, ↓GB, List.filterMap_cons, eq_self, BEq.rfl, simprocAttr, hnt, hT , wL, wl, dL]
          refine hN _ ?_
          clear hN N
          repeat (refine SX.seqK ?_; intro N hN)
          refine SX.cond (b := true) rfl (fun hb => ?_) (fun hb => ?_)
          · repeat (refine SX.seqK ?_; intro N hN)
            refine SX.draw 5 (by rw [hP]; kernel_rfl) (by kernel_rfl) ?_
            simp only [GA, ↓GB, List.filterMap_cons, eq_self, BEq.rfl, simprocAttr, d_nil, d_cons, d_move, d_assign, d_load, d_slice, d_store, d_sto, d_sam, List.take_succ_cons, List.drop_succ_cons, List.drop_zero, List.take_zero, hnt, hT , hw1, hw2, hown, List.not_mem_nil, not_false_eq_true]
            refine hN _ ?_
            clear hN N
            refine SX.ret (hK _ _ (Fin.res rfl hown ?_))
            simp only [GA, ↓GB, List.filterMap_cons, eq_self, BEq.rfl, simprocAttr, f_a, f_b, f_n, f_c, f_B, f_v, f_g, f_0, f_1, f_2, hT, hwi]
            intro w' hb
            exact ⟨_, rfl, ⟨num, kind, 0, [], s2, es, rfl, by rw [← hs2]; simp, by rw [hT0]; exact .inl rfl⟩, hb⟩
          · cases hb
        · have dL : decide ((s2.length : Int) < 8) = false := by simp; omega
          have hT1 : NW.takeF s = some (⟨num, kind, 0, s2.take 8⟩, s2.drop 8) := by
            rw [NW.takeF, h]; simp only []; rw [if_neg (by omega), hkind, hs2, hk1, hnum]; simp [NW.body]; omega
          repeat (refine SX.seqK ?_; intro N hN)
          refine SX.ops ?_
          simp only [GA, ↓GB, List.filterMap_cons, eq_self, BEq.rfl, simprocAttr, hnt, hT , wL, wl, dL]
          refine hN _ ?_
          clear hN N
          repeat (refine SX.seqK ?_; intro N hN)
          refine SX.cond (b := false) rfl (fun hb => ?_) (fun hb => ?_)
          · cases hb
          refine SX.skip ?_
          simp only [GA, ↓GB, List.filterMap_cons, eq_self, BEq.rfl, simprocAttr, hnt]
          refine hN _ ?_
          clear hN N
          repeat (refine SX.seqK ?_; intro N hN)
          refine SX.ops ?_
          simp only [GA, ↓GB, List.filterMap_cons, eq_self, BEq.rfl, simprocAttr, hnt, hT]
          repeat (refine and_mk (by omega) ?_)
          refine hN _ ?_
          clear hN N
          repeat (refine SX.seqK ?_; intro N hN)
          refine SX.draw 5 (by rw [hP]; kernel_rfl) (by kernel_rfl) ?_
          simp only [GA, ↓GB, List.filterMap_cons, eq_self, BEq.rfl, simprocAttr, d_nil, d_cons, d_move, d_assign, d_load, d_slice, d_store, d_sto, d_sam, List.take_succ_cons, List.drop_succ_cons, List.drop_zero, List.take_zero, hnt, hT , hw1, hw2, hown, List.not_mem_nil, not_false_eq_true]
          repeat (refine and_mk (by omega) ?_)
          refine hN _ ?_
          clear hN N
          refine SX.ret (hK _ _ (Fin.res rfl hown ?_))
          simp only [GA, ↓GB, List.filterMap_cons, eq_self, BEq.rfl, simprocAttr, f_a, f_b, f_n, f_c, f_B, f_v, f_g, f_0, f_1, f_2, hT, hwi]
          intro w' hb
          refine ⟨_, rfl, ⟨num, kind, 0, s2.take 8, s2.drop 8, .nilIface, ?_, by rw [List.length_drop]; omega, by rw [hT1]; exact ⟨rfl, by simp [hk1], rfl, rfl, rfl, rfl⟩⟩, hb⟩
          rw [show List.take (s2.length - 8) (List.drop 8 s2) = s2.drop 8 from List.take_of_length_le (by simp)]; rfl
      by_cases hk5 : kind = 5
      · have k0 : ((kind : Int) == 0) = false := by rw [hk5]; rfl
        have k1 : ((kind : Int) == 1) = false := by rw [hk5]; rfl
        have k5 : ((kind : Int) == 5) = true := by rw [hk5]; rfl
        have k2 : ((kind : Int) == 2) = false := by rw [hk5]; rfl
        repeat (refine SX.seqK ?_; intro N hN)
        refine SX.ops ?_
        simp only [GA, ↓GB, List.filterMap_cons, eq_self, BEq.rfl, simprocAttr, hnt, hT , k0, k1, k5, k2]
        refine hN _ ?_
        clear hN N
        repeat (refine SX.seqK ?_; intro N hN)
        refine SX.ops ?_
        simp only [GA, ↓GB, List.filterMap_cons, eq_self, BEq.rfl, simprocAttr, hnt, hT , wu64]
        refine hN _ ?_
        clear hN N
        repeat (refine SX.seqK ?_; intro N hN)
        refine SX.ops ?_
        simp only [GA, ↓GB, List.filterMap_cons, eq_self, BEq.rfl, simprocAttr, hnt, hT , k0, k1, k5, k2]
        refine hN _ ?_
        clear hN N
        repeat (refine SX.seqK ?_; intro N hN)
        refine SX.cond (b := false) rfl (fun hb => ?_) (fun hb => ?_)
        · cases hb
        refine SX.skip ?_
        simp only [GA, ↓GB, List.filterMap_cons, eq_self, BEq.rfl, simprocAttr, hnt]
        refine hN _ ?_
        clear hN N
        refine SX.seqK ?_; intro N hN
        refine SX.block ?_
        repeat (refine SX.seqK ?_; intro N hN)
        refine SX.ops ?_
        simp only [GA, ↓GB, List.filterMap_cons, eq_self, BEq.rfl, simprocAttr, hnt, hT]
        refine hN _ ?_
        clear hN N
        repeat (refine SX.seqK ?_; intro N hN)
        refine SX.cond (b := false) rfl (fun hb => ?_) (fun hb => ?_)
        · cases hb
        have wL : IntKind.u64.wrap 4 = 4 := by decide
        have wl : IntKind.u64.wrap (s2.length : Int) = (s2.length : Int) := wu64 (by omega) (by omega)
        by_cases hl : s2.length < 4
        · have dL : decide ((s2.length : Int) < 4) = true := by simp; omega
          have hT0 : NW.takeF s = none := by
            rw [NW.takeF, h]; simp only []; rw [if_neg (by omega), hkind, hs2, hk5, hnum]; simp [NW.body, hl]; try omega
          repeat (refine SX.seqK ?_; intro N hN)
          refine SX.ops ?_
          simp only [GA, ↓GB, List.filterMap_cons, eq_self, BEq.rfl, simprocAttr, hnt, hT , wL, wl, dL]
          refine hN _ ?_
          clear hN N
          repeat (refine SX.seqK ?_; intro N hN)
          refine SX.cond (b := true) rfl (fun hb => ?_) (fun hb => ?_)
          · repeat (refine SX.seqK ?_; intro N hN)
            refine SX.draw 5 (by rw [hP]; kernel_rfl) (by kernel_rfl) ?_
            simp only [GA, ↓GB, List.filterMap_cons, eq_self, BEq.rfl, simprocAttr, d_nil, d_cons, d_move, d_assign, d_load, d_slice, d_store, d_sto, d_sam, List.take_succ_cons, List.drop_succ_cons, List.drop_zero, List.take_zero, hnt, hT , hw1, hw2, hown, List.not_mem_nil, not_false_eq_true]
            refine hN _ ?_
            clear hN N
            refine SX.ret (hK _ _ (Fin.res rfl hown ?_))
            simp only [GA, ↓GB, List.filterMap_cons, eq_self, BEq.rfl, simprocAttr, f_a, f_b, f_n, f_c, f_B, f_v, f_g, f_0, f_1, f_2, hT, hwi]
            intro w' hb
            exact ⟨_, rfl, ⟨num, kind, 0, [], s2, es, rfl, by rw [← hs2]; simp, by rw [hT0]; exact .inl rfl⟩, hb⟩
          · cases hb
        · have dL : decide ((s2.length : Int) < 4) = false := by simp; omega
          have hT1 : NW.takeF s = some (⟨num, kind, 0, s2.take 4⟩, s2.drop 4) := by
            rw [NW.takeF, h]; simp only []; rw [if_neg (by omega), hkind, hs2, hk5, hnum]; simp [NW.body]; omega
          repeat (refine SX.seqK ?_; intro N hN)
          refine SX.ops ?_
          simp only [GA, ↓GB, List.filterMap_cons, eq_self, BEq.rfl, simprocAttr, hnt, hT , wL, wl, dL]
          refine hN _ ?_
          clear hN N
          repeat (refine SX.seqK ?_; intro N hN)
          refine SX.cond (b := false) rfl (fun hb => ?_) (fun hb => ?_)
          · cases hb
          refine SX.skip ?_
          simp only [GA, ↓GB, List.filterMap_cons, eq_self, BEq.rfl, simprocAttr, hnt]
          refine hN _ ?_
          clear hN N
          repeat (refine SX.seqK ?_; intro N hN)
          refine SX.ops ?_
          simp only [GA, ↓GB, List.filterMap_cons, eq_self, BEq.rfl, simprocAttr, hnt, hT]
          repeat (refine and_mk (by omega) ?_)
          refine hN _ ?_
          clear hN N
          repeat (refine SX.seqK ?_; intro N hN)
          refine SX.draw 5 (by rw [hP]; kernel_rfl) (by kernel_rfl) ?_
          simp only [GA, ↓GB, List.filterMap_cons, eq_self, BEq.rfl, simprocAttr, d_nil, d_cons, d_move, d_assign, d_load, d_slice, d_store, d_sto, d_sam, List.take_succ_cons, List.drop_succ_cons, List.drop_zero, List.take_zero, hnt, hT , hw1, hw2, hown, List.not_mem_nil, not_false_eq_true]
          repeat (refine and_mk (by omega) ?_)
          refine hN _ ?_
          clear hN N
          refine SX.ret (hK _ _ (Fin.res rfl hown ?_))
          simp only [GA, ↓GB, List.filterMap_cons, eq_self, BEq.rfl, simprocAttr, f_a, f_b, f_n, f_c, f_B, f_v, f_g, f_0, f_1, f_2, hT, hwi]
          intro w' hb
          refine ⟨_, rfl, ⟨num, kind, 0, s2.take 4, s2.drop 4, .nilIface, ?_, by rw [List.length_drop]; omega, by rw [hT1]; exact ⟨rfl, by simp [hk5], rfl, rfl, rfl, rfl⟩⟩, hb⟩
          rw [show List.take (s2.length - 4) (List.drop 4 s2) = s2.drop 4 from List.take_of_length_le (by simp)]; rfl
      have k1 : ((kind : Int) == 1) = false := by simp; omega
      have k5 : ((kind : Int) == 5) = false := by simp; omega
      by_cases hk0 : kind = 0
      · have k0 : ((kind : Int) == 0) = true := by rw [hk0]; rfl
        repeat (refine SX.seqK ?_; intro N hN)
        refine SX.ops ?_
        simp only [GA, ↓GB, List.filterMap_cons, eq_self, BEq.rfl, simprocAttr, hnt, hT , k0]
        refine hN _ ?_
        clear hN N
        repeat (refine SX.seqK ?_; intro N hN)
        refine SX.ops ?_
        simp only [GA, ↓GB, List.filterMap_cons, eq_self, BEq.rfl, simprocAttr, hnt, hT]
        refine hN _ ?_
        clear hN N
        repeat (refine SX.seqK ?_; intro N hN)
        refine SX.ops ?_
        simp only [GA, ↓GB, List.filterMap_cons, eq_self, BEq.rfl, simprocAttr, hnt, hT , k0]
        refine hN _ ?_
        clear hN N
        repeat (refine SX.seqK ?_; intro N hN)
        refine SX.cond (b := true) rfl (fun hb => ?_) (fun hb => ?_)
        rotate_left
        · cases hb
        repeat (refine SX.seqK ?_; intro N hN)
        refine SX.ops ?_
        simp only [GA, ↓GB, List.filterMap_cons, eq_self, BEq.rfl, simprocAttr, hnt, hT]
        refine CallVC.pt (l := [_, _, _]) hP (readVarint_any s2 (by omega)) rfl ?_
        cases h3 : NW.readVar s2 with
        | none =>
          have hT0 : NW.takeF s = none := by
            rw [NW.takeF, h]; simp only []; rw [if_neg (by omega), hkind, hs2, hk0]; simp [NW.body, h3]
          simp only [GA, ↓GB, List.filterMap_cons, eq_self, BEq.rfl, simprocAttr, hnt, hT, rvR_none h3]
          refine hN _ ?_
          clear hN N
          repeat (refine SX.seqK ?_; intro N hN)
          refine SX.ops ?_
          simp only [GA, ↓GB, List.filterMap_cons, eq_self, BEq.rfl, simprocAttr, hnt, hT]
          refine hN _ ?_
          clear hN N
          repeat (refine SX.seqK ?_; intro N hN)
          refine SX.cond (b := true) rfl (fun hb => ?_) (fun hb => ?_)
          · repeat (refine SX.seqK ?_; intro N hN)
            refine SX.draw 5 (by rw [hP]; kernel_rfl) (by kernel_rfl) ?_
            simp only [GA, ↓GB, List.filterMap_cons, eq_self, BEq.rfl, simprocAttr, d_nil, d_cons, d_move, d_assign, d_load, d_slice, d_store, d_sto, d_sam, List.take_succ_cons, List.drop_succ_cons, List.drop_zero, List.take_zero, hnt, hT , hw1, hw2, hown, List.not_mem_nil, not_false_eq_true]
            refine hN _ ?_
            clear hN N
            refine SX.ret (hK _ _ (Fin.res rfl hown ?_))
            simp only [GA, ↓GB, List.filterMap_cons, eq_self, BEq.rfl, simprocAttr, f_a, f_b, f_n, f_c, f_B, f_v, f_g, f_0, f_1, f_2, hT, hwi]
            intro w' hb
            exact ⟨_, rfl, ⟨num, kind, 0, [], s2, es, rfl, by omega, by rw [hT0]; exact .inl rfl⟩, hb⟩
          · cases hb
        | some vz =>
          obtain ⟨v, z2⟩ := vz
          have hz2 := NW.readVar_bd h3
          have hv := NW.readVar_lt h3
          simp only at hz2 hv
          have hdt2 : List.take (s2.length - z2) (List.drop z2 s2) = List.drop z2 s2 := List.take_of_length_le (by simp)
          simp only [GA, ↓GB, List.filterMap_cons, eq_self, BEq.rfl, simprocAttr, hnt, hT, rvR_some h3]
          refine hN _ ?_
          clear hN N
          repeat (refine SX.seqK ?_; intro N hN)
          refine SX.ops ?_
          simp only [GA, ↓GB, List.filterMap_cons, eq_self, BEq.rfl, simprocAttr, hnt, hT]
          refine hN _ ?_
          clear hN N
          repeat (refine SX.seqK ?_; intro N hN)
          refine SX.cond (b := false) rfl (fun hb => ?_) (fun hb => ?_)
          · cases hb
          refine SX.skip (hN _ ?_); clear hN N
          repeat (refine SX.seqK ?_; intro N hN)
          refine SX.ops ?_
          simp only [GA, ↓GB, List.filterMap_cons, eq_self, BEq.rfl, simprocAttr, hnt, hT , hdt2]
          repeat (refine and_mk (by omega) ?_)
          refine hN _ ?_
          clear hN N
          generalize hs3 : List.drop z2 s2 = s3
          have hs3l : s3.length + z2 = s2.length := by rw [← hs3]; simp; omega
          have wl : IntKind.u64.wrap (s3.length : Int) = (s3.length : Int) := wu64 (by omega) (by omega)
          repeat (refine SX.seqK ?_; intro N hN)
          refine SX.ops ?_
          simp only [GA, ↓GB, List.filterMap_cons, eq_self, BEq.rfl, simprocAttr, hnt, hT , k0]
          refine hN _ ?_
          clear hN N
          repeat (refine SX.seqK ?_; intro N hN)
          refine SX.cond (b := true) rfl (fun hb => ?_) (fun hb => ?_)
          rotate_left
          · cases hb
          have hT1 : NW.takeF s = some (⟨num, kind, v, []⟩, s3) := by
            rw [NW.takeF, h]; simp only []; rw [if_neg (by omega), hkind, hs2, hk0, hnum]; simp [NW.body, h3, hs3]
          have dL : decide ((s3.length : Int) < 0) = false := by simp
          have w0 : IntKind.u64.wrap 0 = 0 := by decide
          repeat (refine SX.seqK ?_; intro N hN)
          refine SX.ops ?_
          simp only [GA, ↓GB, List.filterMap_cons, eq_self, BEq.rfl, simprocAttr, hnt, hT]
          refine hN _ ?_
          clear hN N
          refine SX.seqK ?_; intro N hN
          refine SX.block ?_
          repeat (refine SX.seqK ?_; intro N hN)
          refine SX.ops ?_
          simp only [GA, ↓GB, List.filterMap_cons, eq_self, BEq.rfl, simprocAttr, hnt, hT]
          refine hN _ ?_
          clear hN N
          repeat (refine SX.seqK ?_; intro N hN)
          refine SX.cond (b := false) rfl (fun hb => ?_) (fun hb => ?_)
          · cases hb
          repeat (refine SX.seqK ?_; intro N hN)
          refine SX.ops ?_
          simp only [GA, ↓GB, List.filterMap_cons, eq_self, BEq.rfl, simprocAttr, hnt, hT , w0, wl, dL]
          refine hN _ ?_
          clear hN N
          repeat (refine SX.seqK ?_; intro N hN)
          refine SX.cond (b := false) rfl (fun hb => ?_) (fun hb => ?_)
          · cases hb
          refine SX.skip ?_
          simp only [GA, ↓GB, List.filterMap_cons, eq_self, BEq.rfl, simprocAttr, hnt]
          refine hN _ ?_
          clear hN N
          repeat (refine SX.seqK ?_; intro N hN)
          refine SX.ops ?_
          simp only [GA, ↓GB, List.filterMap_cons, eq_self, BEq.rfl, simprocAttr, hnt, hT]
          repeat (refine and_mk (by omega) ?_)
          refine hN _ ?_
          clear hN N
          repeat (refine SX.seqK ?_; intro N hN)
          refine SX.draw 5 (by rw [hP]; kernel_rfl) (by kernel_rfl) ?_
          simp only [GA, ↓GB, List.filterMap_cons, eq_self, BEq.rfl, simprocAttr, d_nil, d_cons, d_move, d_assign, d_load, d_slice, d_store, d_sto, d_sam, List.take_succ_cons, List.drop_succ_cons, List.drop_zero, List.take_zero, hnt, hT , hw1, hw2, hown, List.not_mem_nil, not_false_eq_true]
          repeat (refine and_mk (by omega) ?_)
          refine hN _ ?_
          clear hN N
          refine SX.ret (hK _ _ (Fin.res rfl hown ?_))
          simp only [GA, ↓GB, List.filterMap_cons, eq_self, BEq.rfl, simprocAttr, f_a, f_b, f_n, f_c, f_B, f_v, f_g, f_0, f_1, f_2, hT, hwi]
          intro w' hb
          refine ⟨_, rfl, ⟨num, kind, v, [], s3, .nilIface, ?_, by omega, by rw [hT1]; exact ⟨rfl, by simp [hk0], rfl, rfl, rfl, rfl⟩⟩, hb⟩
          rw [show List.take (s3.length - 0) s3 = s3 from by simp]
      have k0 : ((kind : Int) == 0) = false := by simp; omega
      by_cases hk2 : kind = 2
      · have k2 : ((kind : Int) == 2) = true := by rw [hk2]; rfl
        repeat (refine SX.seqK ?_; intro N hN)
        refine SX.ops ?_
        simp only [GA, ↓GB, List.filterMap_cons, eq_self, BEq.rfl, simprocAttr, hnt, hT , k0, k1, k5]
        refine hN _ ?_
        clear hN N
        repeat (refine SX.seqK ?_; intro N hN)
        refine SX.ops ?_
        simp only [GA, ↓GB, List.filterMap_cons, eq_self, BEq.rfl, simprocAttr, hnt, hT]
        refine hN _ ?_
        clear hN N
        repeat (refine SX.seqK ?_; intro N hN)
        refine SX.ops ?_
        simp only [GA, ↓GB, List.filterMap_cons, eq_self, BEq.rfl, simprocAttr, hnt, hT , k0, k2]
        refine hN _ ?_
        clear hN N
        repeat (refine SX.seqK ?_; intro N hN)
        refine SX.cond (b := true) rfl (fun hb => ?_) (fun hb => ?_)
        rotate_left
        · cases hb
        repeat (refine SX.seqK ?_; intro N hN)
        refine SX.ops ?_
        simp only [GA, ↓GB, List.filterMap_cons, eq_self, BEq.rfl, simprocAttr, hnt, hT]
        refine CallVC.pt (l := [_, _, _]) hP (readVarint_any s2 (by omega)) rfl ?_
        cases h3 : NW.readVar s2 with
        | none =>
          have hT0 : NW.takeF s = none := by
            rw [NW.takeF, h]; simp only []; rw [if_neg (by omega), hkind, hs2, hk2]; simp [NW.body, h3]
          simp only [GA, ↓GB, List.filterMap_cons, eq_self, BEq.rfl, simprocAttr, hnt, hT, rvR_none h3]
          refine hN _ ?_
          clear hN N
          repeat (refine SX.seqK ?_; intro N hN)
          refine SX.ops ?_
          simp only [GA, ↓GB, List.filterMap_cons, eq_self, BEq.rfl, simprocAttr, hnt, hT]
          refine hN _ ?_
          clear hN N
          repeat (refine SX.seqK ?_; intro N hN)
          refine SX.cond (b := true) rfl (fun hb => ?_) (fun hb => ?_)
          · repeat (refine SX.seqK ?_; intro N hN)
            refine SX.draw 5 (by rw [hP]; kernel_rfl) (by kernel_rfl) ?_
            simp only [GA, ↓GB, List.filterMap_cons, eq_self, BEq.rfl, simprocAttr, d_nil, d_cons, d_move, d_assign, d_load, d_slice, d_store, d_sto, d_sam, List.take_succ_cons, List.drop_succ_cons, List.drop_zero, List.take_zero, hnt, hT , hw1, hw2, hown, List.not_mem_nil, not_false_eq_true]
            refine hN _ ?_
            clear hN N
            refine SX.ret (hK _ _ (Fin.res rfl hown ?_))
            simp only [GA, ↓GB, List.filterMap_cons, eq_self, BEq.rfl, simprocAttr, f_a, f_b, f_n, f_c, f_B, f_v, f_g, f_0, f_1, f_2, hT, hwi]
            intro w' hb
            exact ⟨_, rfl, ⟨num, kind, 0, [], s2, es, rfl, by omega, by rw [hT0]; exact .inl rfl⟩, hb⟩
          · cases hb
        | some vz =>
          obtain ⟨v, z2⟩ := vz
          have hz2 := NW.readVar_bd h3
          have hv := NW.readVar_lt h3
          simp only at hz2 hv
          have hdt2 : List.take (s2.length - z2) (List.drop z2 s2) = List.drop z2 s2 := List.take_of_length_le (by simp)
          simp only [GA, ↓GB, List.filterMap_cons, eq_self, BEq.rfl, simprocAttr, hnt, hT, rvR_some h3]
          refine hN _ ?_
          clear hN N
          repeat (refine SX.seqK ?_; intro N hN)
          refine SX.ops ?_
          simp only [GA, ↓GB, List.filterMap_cons, eq_self, BEq.rfl, simprocAttr, hnt, hT]
          refine hN _ ?_
          clear hN N
          repeat (refine SX.seqK ?_; intro N hN)
          refine SX.cond (b := false) rfl (fun hb => ?_) (fun hb => ?_)
          · cases hb
          refine SX.skip (hN _ ?_); clear hN N
          repeat (refine SX.seqK ?_; intro N hN)
          refine SX.ops ?_
          simp only [GA, ↓GB, List.filterMap_cons, eq_self, BEq.rfl, simprocAttr, hnt, hT , hdt2]
          repeat (refine and_mk (by omega) ?_)
          refine hN _ ?_
          clear hN N
          generalize hs3 : List.drop z2 s2 = s3
          have hs3l : s3.length + z2 = s2.length := by rw [← hs3]; simp; omega
          have wl : IntKind.u64.wrap (s3.length : Int) = (s3.length : Int) := wu64 (by omega) (by omega)
          repeat (refine SX.seqK ?_; intro N hN)
          refine SX.ops ?_
          simp only [GA, ↓GB, List.filterMap_cons, eq_self, BEq.rfl, simprocAttr, hnt, hT , k0]
          refine hN _ ?_
          clear hN N
          repeat (refine SX.seqK ?_; intro N hN)
          refine SX.cond (b := false) rfl (fun hb => ?_) (fun hb => ?_)
          · cases hb
          repeat (refine SX.seqK ?_; intro N hN)
          refine SX.ops ?_
          simp only [GA, ↓GB, List.filterMap_cons, eq_self, BEq.rfl, simprocAttr, hnt, hT]
          refine hN _ ?_
          clear hN N
          refine SX.seqK ?_; intro N hN
          refine SX.block ?_
          repeat (refine SX.seqK ?_; intro N hN)
          refine SX.ops ?_
          simp only [GA, ↓GB, List.filterMap_cons, eq_self, BEq.rfl, simprocAttr, hnt, hT]
          refine hN _ ?_
          clear hN N
          repeat (refine SX.seqK ?_; intro N hN)
          refine SX.cond (b := false) rfl (fun hb => ?_) (fun hb => ?_)
          · cases hb
          by_cases hl : s3.length < v
          · have dL : decide ((s3.length : Int) < (v : Int)) = true := by simp; omega
            have hT0 : NW.takeF s = none := by
              rw [NW.takeF, h]; simp only []; rw [if_neg (by omega), hkind, hs2, hk2]; simp [NW.body, h3, hs3]; omega
            repeat (refine SX.seqK ?_; intro N hN)
            refine SX.ops ?_
            simp only [GA, ↓GB, List.filterMap_cons, eq_self, BEq.rfl, simprocAttr, hnt, hT , wl, dL]
            refine hN _ ?_
            clear hN N
            repeat (refine SX.seqK ?_; intro N hN)
            refine SX.cond (b := true) rfl (fun hb => ?_) (fun hb => ?_)
            · repeat (refine SX.seqK ?_; intro N hN)
              refine SX.draw 5 (by rw [hP]; kernel_rfl) (by kernel_rfl) ?_
              simp only [GA, ↓GB, List.filterMap_cons, eq_self, BEq.rfl, simprocAttr, d_nil, d_cons, d_move, d_assign, d_load, d_slice, d_store, d_sto, d_sam, List.take_succ_cons, List.drop_succ_cons, List.drop_zero, List.take_zero, hnt, hT , hw1, hw2, hown, List.not_mem_nil, not_false_eq_true]
              refine hN _ ?_
              clear hN N
              refine SX.ret (hK _ _ (Fin.res rfl hown ?_))
              simp only [GA, ↓GB, List.filterMap_cons, eq_self, BEq.rfl, simprocAttr, f_a, f_b, f_n, f_c, f_B, f_v, f_g, f_0, f_1, f_2, hT, hwi]
              intro w' hb
              exact ⟨_, rfl, ⟨num, kind, 0, [], s3, es, rfl, by omega, by rw [hT0]; exact .inl rfl⟩, hb⟩
            · cases hb
          · have dL : decide ((s3.length : Int) < (v : Int)) = false := by simp; omega
            have hT1 : NW.takeF s = some (⟨num, kind, 0, s3.take v⟩, s3.drop v) := by
              rw [NW.takeF, h]; simp only []; rw [if_neg (by omega), hkind, hs2, hk2, hnum]; simp [NW.body, h3, hs3]; omega
            repeat (refine SX.seqK ?_; intro N hN)
            refine SX.ops ?_
            simp only [GA, ↓GB, List.filterMap_cons, eq_self, BEq.rfl, simprocAttr, hnt, hT , wl, dL]
            refine hN _ ?_
            clear hN N
            repeat (refine SX.seqK ?_; intro N hN)
            refine SX.cond (b := false) rfl (fun hb => ?_) (fun hb => ?_)
            · cases hb
            refine SX.skip ?_
            simp only [GA, ↓GB, List.filterMap_cons, eq_self, BEq.rfl, simprocAttr, hnt]
            refine hN _ ?_
            clear hN N
            repeat (refine SX.seqK ?_; intro N hN)
            refine SX.ops ?_
            simp only [GA, ↓GB, List.filterMap_cons, eq_self, BEq.rfl, simprocAttr, hnt, hT]
            repeat (refine and_mk (by omega) ?_)
            refine hN _ ?_
            clear hN N
            repeat (refine SX.seqK ?_; intro N hN)
            refine SX.draw 5 (by rw [hP]; kernel_rfl) (by kernel_rfl) ?_
            simp only [GA, ↓GB, List.filterMap_cons, eq_self, BEq.rfl, simprocAttr, d_nil, d_cons, d_move, d_assign, d_load, d_slice, d_store, d_sto, d_sam, List.take_succ_cons, List.drop_succ_cons, List.drop_zero, List.take_zero, hnt, hT , hw1, hw2, hown, List.not_mem_nil, not_false_eq_true]
            repeat (refine and_mk (by omega) ?_)
            refine hN _ ?_
            clear hN N
            refine SX.ret (hK _ _ (Fin.res rfl hown ?_))
            simp only [GA, ↓GB, List.filterMap_cons, eq_self, BEq.rfl, simprocAttr, f_a, f_b, f_n, f_c, f_B, f_v, f_g, f_0, f_1, f_2, hT, hwi]
            intro w' hb
            refine ⟨_, rfl, ⟨num, kind, 0, s3.take v, s3.drop v, .nilIface, ?_, by rw [List.length_drop]; omega, by rw [hT1]; exact ⟨rfl, by simp [hk2], rfl, rfl, rfl, rfl⟩⟩, hb⟩
            rw [show List.take (s3.length - v) (List.drop v s3) = s3.drop v from List.take_of_length_le (by simp)]; simp
      have k2 : ((kind : Int) == 2) = false := by simp; omega
      have hT0 : NW.takeF s = none := by
        rw [NW.takeF, h]; simp only []; rw [if_neg (by omega), hkind, hs2]; simp [NW.body, hk0, hk1, hk2, hk5]
      repeat (refine SX.seqK ?_; intro N hN)
      refine SX.ops ?_
      simp only [GA, ↓GB, List.filterMap_cons, eq_self, BEq.rfl, simprocAttr, hnt, hT , k0, k1, k5]
      refine hN _ ?_
      clear hN N
      repeat (refine SX.seqK ?_; intro N hN)
      refine SX.ops ?_
      simp only [GA, ↓GB, List.filterMap_cons, eq_self, BEq.rfl, simprocAttr, hnt, hT]
      refine hN _ ?_
      clear hN N
      repeat (refine SX.seqK ?_; intro N hN)
      refine SX.ops ?_
      simp only [GA, ↓GB, List.filterMap_cons, eq_self, BEq.rfl, simprocAttr, hnt, hT , k0, k2]
      refine hN _ ?_
      clear hN N
      repeat (refine SX.seqK ?_; intro N hN)
      refine SX.cond (b := false) rfl (fun hb => ?_) (fun hb => ?_)
      · cases hb
      refine SX.skip ?_
      simp only [GA, ↓GB, List.filterMap_cons, eq_self, BEq.rfl, simprocAttr, hnt]
      refine hN _ ?_
      clear hN N
      refine SX.seqK ?_; intro N hN
      refine SX.block ?_
      repeat (refine SX.seqK ?_; intro N hN)
      refine SX.ops ?_
      simp only [GA, ↓GB, List.filterMap_cons, eq_self, BEq.rfl, simprocAttr, hnt, hT]
      refine hN _ ?_
      clear hN N
      repeat (refine SX.seqK ?_; intro N hN)
      refine SX.cond (b := true) rfl (fun hb => ?_) (fun hb => ?_)
      · repeat (refine SX.seqK ?_; intro N hN)
        refine SX.draw 5 (by rw [hP]; kernel_rfl) (by kernel_rfl) ?_
        simp only [GA, ↓GB, List.filterMap_cons, eq_self, BEq.rfl, simprocAttr, d_nil, d_cons, d_move, d_assign, d_load, d_slice, d_store, d_sto, d_sam, List.take_succ_cons, List.drop_succ_cons, List.drop_zero, List.take_zero, hnt, hT , hw1, hw2, hown, List.not_mem_nil, not_false_eq_true]
        refine hN _ ?_
        clear hN N
        refine SX.ret (hK _ _ (Fin.res rfl hown ?_))
        simp only [GA, ↓GB, List.filterMap_cons, eq_self, BEq.rfl, simprocAttr, f_a, f_b, f_n, f_c, f_B, f_v, f_g, f_0, f_1, f_2, hT, hwi]
        intro w' hb
        exact ⟨_, rfl, ⟨num, kind, 0, [], s2, ew, rfl, by omega, by rw [hT0]; exact .inr rfl⟩, hb⟩
      · cases hb
end Go.Proofs.YtbdacbcpniegiaaDoor
namespace Go.Proofs.YtbdacbcpniegiaaDoor
open Go Go.RowKit Go.Shelf Go.Proofs
open Go.Sx (B)
set_option maxHeartbeats 4000000
set_option maxRecDepth 100000
set_option linter.unusedSimpArgs false
set_option linter.unusedVariables false
attribute [local go_sem] Oper.semAt_some
inductive It where
  | f (x : NW.Fld)
  | bad (num kind : Int) (n : Nat) (fs : List UInt8) (p : Int) (short : Bool)
structure Errs (w : World) (a0 a1 : Addr) : Prop where
  c0 : w.cell? ⟨2, 0, none⟩ = some (.iface 253 (.pointer (some a0)))
  c1 : w.cell? ⟨3, 0, none⟩ = some (.iface 253 (.pointer (some a1)))
  ne : a0 ≠ a1
  h0 : ∃ cs t, w.heap[a0.block]? = some (.cells cs t (0, 0))
  h1 : ∃ cs t, w.heap[a1.block]? = some (.cells cs t (0, 0))
theorem Errs.below {w w' : World} {a0 a1 : Addr} (h : Errs w a0 a1) (hb : Below w.heap.size w w') : Errs w' a0 a1 := by
  obtain ⟨c0, t0, h0⟩ := h.h0
  obtain ⟨c1, t1, h1⟩ := h.h1
  refine ⟨?_, ?_, h.ne, ⟨c0, t0, ?_⟩, ⟨c1, t1, ?_⟩⟩
  · rw [hb.cell (p := ⟨2, 0, none⟩) (World.block_lt_of_cell? w _ h.c0)]; exact h.c0
  · rw [hb.cell (p := ⟨3, 0, none⟩) (World.block_lt_of_cell? w _ h.c1)]; exact h.c1
  · rw [hb.block _ (Array.getElem?_eq_some_iff.1 h0).1]; exact h0
  · rw [hb.block _ (Array.getElem?_eq_some_iff.1 h1).1]; exact h1
theorem Errs.wire {w : World} {a0 a1 : Addr} (h : Errs w a0 a1) : Wire w (.iface 253 (.pointer (some a0))) (.iface 253 (.pointer (some a1))) := ⟨h.c0, h.c1, rfl, rfl⟩
def It.encs (a0 a1 : Addr) : It → Array Value
  | .f x => #[.agg #[.int .i64 x.num, .int .i64 x.kind, .int .u64 x.n, .string (B x.s)], .nilIface]
  | .bad num kind n fs p short => #[.agg #[.int .i64 num, .int .i64 kind, .int .u64 n, .string (B fs)], .iface 229 (.agg #[.int .i64 p, .iface 253 (.pointer (some (if short then a0 else a1)))])]
def It.Ok (m : Nat) : It → Prop
  | .f x => x.s.length ≤ m
  | .bad .. => True
theorem takeF_slen {p : List UInt8} {f : NW.Fld} {r : List UInt8} (h : NW.takeF p = some (f, r)) : f.s.length ≤ p.length := by
  unfold NW.takeF at h
  split at h
  · cases h
  · rename_i tag z hr
    split at h
    · cases h
    · split at h
      · cases h
      · rename_i n size r' hb
        split at h
        · cases h
          have := NW.body_len hb
          simp only [List.length_take, List.length_drop] at this ⊢
          omega
        · cases h
structure Stab (b : Nat) (j : World → Prop) : Prop where
  below : ∀ W W', j W → Below W.heap.size W W' → j W'
  cell : ∀ W v, j W → j (W.setCell ⟨b, 0, none⟩ v)
theorem cell_of_heap {W : World} {b : Nat} {v : Value} {t : TypeId} {r : Nat × Nat} (h : W.heap[b]? = some (.cells #[v] t r)) : W.cell? ⟨b, 0, none⟩ = some v := by
  rw [cell_of_row W b 0 #[v] t r h]; rfl
theorem frozen_of_heap {W : World} {b : Nat} {cs : Array Value} {t : TypeId} (h : W.heap[b]? = some (.cells cs t (0, 0))) : W.frozen? ⟨b, 0, none⟩ = false := by
  simp [World.frozen?, h]
theorem setCell_one {W : World} {b : Nat} {u v : Value} {t : TypeId} (h : W.heap[b]? = some (.cells #[u] t (0, 0))) : (W.setCell ⟨b, 0, none⟩ v).heap[b]? = some (.cells #[v] t (0, 0)) := by
  simp only [World.setCell, Array.getElem?_modify, h]; simp
def leftS (b : Nat) (W : World) : Nat := match W.cell? ⟨b, 0, none⟩ with | some (.string s) => s.size | _ => 0
theorem fields1_any (w0 : World) (a0 a1 : Addr) (hE : Errs w0 a0 a1) (s0 : List UInt8) (hs : s0.length ≤ 1152921504606846976) (l b n : Nat) (hb : w0.heap.size ≤ b) (J Jx : List It → World → Prop)
    (hJ : ∀ pre, Stab b (J pre)) (hJw : ∀ pre W, J pre W → Below w0.heap.size w0 W)
    (hY : ∀ pre x W, J pre W → pre.length < s0.length → It.Ok s0.length x → YieldAt Fence.wide (n - 1) Tryd.prog l (It.encs a0 a1 x) W fun e W' => (e = .returned (.bool true) ∧ J (pre ++ [x]) W' ∧ W'.heap[b]? = W.heap[b]?) ∨ (e = .returned (.bool false) ∧ Jx (pre ++ [x]) W'))
    (W : World) (hc : W.heap[b]? = some (.cells #[.string (B s0)] 9 (0, 0))) (h0 : J [] W) :
    CallsIn Fence.wide n Tryd.prog 163 #[.func (.yield l) #[] #[], .pointer (some ⟨b, 0, none⟩)] W fun e W' => (∃ v, e = .returned v) ∧
      ((∃ fs, NW.parse s0 = some fs ∧ J (fs.map It.f) W') ∨ (NW.parse s0 = none ∧ ∃ pre nm k nn fs p sh, J (pre ++ [It.bad nm k nn fs p sh]) W') ∨ ∃ pre x, Jx (pre ++ [x]) W' ∧ (NW.parse s0 = none ∨ ∃ f, x = .f f)) := by
  refine callsIn_of_wp Tryd.func163 rfl trivial ?_ rfl
  simp only [Tryd.ntmps163, List.size_toArray, List.length_cons, List.length_nil, Nat.reduceAdd, Nat.reduceSub, Array.replicate_succ, Array.replicate_zero, List.push_toArray, List.append_toArray, List.nil_append, List.cons_append]
  have hcc := cell_of_heap hc
  gi_wp2
  gi_loopw [4] (fun q wr => ∃ (pre : List NW.Fld) (rest : List UInt8), NW.parse s0 = (NW.parse rest).map (pre ++ ·) ∧ wr.heap[b]? = some (.cells #[.string (B rest)] 9 (0, 0)) ∧ J (pre.map It.f) wr ∧ pre.length + rest.length ≤ s0.length) (fun q wr => leftS b wr)
  case atStart => exact ⟨[], s0, by simp, hc, h0, by simp⟩
  case round =>
    obtain ⟨pre, rest, hp, hcr, hJr, hlr⟩ := hrel
    have hcc := cell_of_heap hcr
    have hE' := hE.below (hJw _ _ hJr)
    by_cases he : rest = []
    · subst he
      gi_wp2
      · exact absurd (show (!(B []).toList.isEmpty) = true by assumption) (by rw [Go.Sx.B_toList]; decide)
      · go_end0
        exact ⟨⟨_, rfl⟩, .inl ⟨pre, by rw [hp, NW.parse_nil]; simp, hJr⟩⟩
    · have hpos : (pre.map It.f).length < s0.length := by rw [List.length_map]; have := List.length_pos_iff.2 he; omega
      have hT := take_any rest (by omega) wr _ _ hE'.wire
      have hne : (B rest).toList.isEmpty = false := by rw [Go.Sx.B_toList]; cases rest with | nil => exact absurd rfl he | cons _ _ => rfl
      cases ht : NW.takeF rest with
      | none =>
        have hP0 : NW.parse s0 = none := by rw [hp, NW.parse_none he ht]; rfl
        gi_wp2_with (refine ⟨trivial, fun h => (by cases h), ?_⟩; refine (callsIn_wide.2 hT).mono ?_; rintro e W2 ⟨v, rfl, ⟨num, kind, nn, fs, r, ev, rfl, hrl, hm⟩, hb2⟩; rw [ht] at hm; have hcc2 : W2.cell? ⟨b, 0, none⟩ = some (.string (B rest)) := (hb2.cell (p := ⟨b, 0, none⟩) (World.block_lt_of_cell? wr _ hcc)).trans hcc; have hlt2 := World.block_lt_of_cell? W2 _ hcc2; have hJ3 := (hJ (pre.map It.f)).below _ _ ((hJ _).below _ _ hJr hb2) ((Below.refl W2.heap.size W2).alloc (Nat.le_refl _) (Obj.cells #[Value.int IntKind.i64 num, Value.int IntKind.i64 kind, Value.int IntKind.u64 ↑nn, Value.string (B fs)] 143)); rcases hm with rfl | rfl; (focus obtain ⟨fn, tmps, assign, body, hy, hR⟩ := hY _ (It.bad num kind nn fs (wrap64 (((B s0).size : Int) - ((B rest).size : Int))) true) _ hJ3 hpos trivial; dsimp only [It.encs] at hy; simp only [if_true] at hy); rotate_left; (focus obtain ⟨fn, tmps, assign, body, hy, hR⟩ := hY _ (It.bad num kind nn fs (wrap64 (((B s0).size : Int) - ((B rest).size : Int))) false) _ hJ3 hpos trivial; dsimp only [It.encs] at hy; simp only [Bool.false_eq_true, if_false] at hy))
        all_goals (refine ⟨fun h => (by cases h), hR.mono ?_⟩; rintro e W' (⟨rfl, hJ', hk⟩ | ⟨rfl, hJx'⟩))
        all_goals (gi_wp2; refine bodyPost_ret (results_none rfl _ _ _) rfl ?_)
        all_goals first
          | exact ⟨⟨_, rfl⟩, .inr (.inl ⟨hP0, _, _, _, _, _, _, _, hJ'⟩)⟩
          | exact ⟨⟨_, rfl⟩, .inr (.inr ⟨_, _, hJx', .inl hP0⟩)⟩
      | some fr =>
        obtain ⟨f, r'⟩ := fr
        have hP1 := NW.parse_some ht
        have hl := NW.takeF_len ht
        have hfl := takeF_slen ht
        gi_wp2_with (refine ⟨trivial, fun h => (by cases h), ?_⟩; refine (callsIn_wide.2 hT).mono ?_; rintro e W2 ⟨v, rfl, ⟨num, kind, nn, fs, r, ev, rfl, hrl, hm⟩, hb2⟩; rw [ht] at hm; have hcc2 : W2.cell? ⟨b, 0, none⟩ = some (.string (B rest)) := (hb2.cell (p := ⟨b, 0, none⟩) (World.block_lt_of_cell? wr _ hcc)).trans hcc; have hlt2 := World.block_lt_of_cell? W2 _ hcc2; obtain ⟨rfl, rfl, rfl, rfl, rfl, rfl⟩ := hm; have hJ3 := (hJ (pre.map It.f)).below _ _ ((hJ _).below _ _ hJr hb2) ((Below.refl W2.heap.size W2).alloc (Nat.le_refl _) (Obj.cells #[Value.int IntKind.i64 ↑f.num, Value.int IntKind.i64 ↑f.kind, Value.int IntKind.u64 ↑f.n, Value.string (B f.s)] 143)); obtain ⟨fn, tmps, assign, body, hy, hR⟩ := hY _ (It.f f) _ hJ3 hpos (show f.s.length ≤ s0.length by omega); dsimp only [It.encs] at hy)
        refine ⟨fun h => (by cases h), hR.mono ?_⟩
        rintro e W' (⟨rfl, hJ', hk⟩ | ⟨rfl, hJx'⟩)
        · have hc3 : W'.heap[b]? = some (.cells #[.string (B rest)] 9 (0, 0)) := by
            rw [hk, Below.heap_alloc _ _ _ hlt2, hb2.block _ (Array.getElem?_eq_some_iff.1 hcr).1]; exact hcr
          have hcc3 := cell_of_heap hc3
          have hf3 := frozen_of_heap hc3
          have hs3 := setCell_one (v := .string (B r)) hc3
          have hl1 := cell_of_heap hs3
          gi_wp2
          refine ⟨⟨pre ++ [f], r, ?_, hs3, ?_, by simp; omega⟩, ?_⟩
          · rw [hp, hP1]; cases NW.parse r <;> simp
          · rw [List.map_append]; exact (hJ _).cell _ _ hJ'
          · unfold leftS
            rw [hl1, hcc]
            show (B r).size < (B rest).size
            rw [Go.Sx.B_size, Go.Sx.B_size]; omega
        · gi_wp2
          refine bodyPost_ret (results_none rfl _ _ _) rfl ?_
          exact ⟨⟨_, rfl⟩, .inr (.inr ⟨_, _, hJx', .inr ⟨f, rfl⟩⟩)⟩
end Go.Proofs.YtbdacbcpniegiaaDoor
namespace Go.Proofs.YtbdacbcpniegiaaDoor
open Go Go.RowKit Go.Shelf Go.Proofs
open Go.Sx (B)
set_option maxHeartbeats 4000000
set_option maxRecDepth 100000
set_option linter.unusedSimpArgs false
set_option linter.unusedVariables false
structure StabL (B b : Nat) (j : World → Prop) : Prop where
  stab : Stab b j
  put : ∀ W k o o', B ≤ k → W.heap[k]? = some o → o.isCells = false → j W → j (W.putObj k o')
def postR {α : Type} (b : Nat) (I Ix : List α → World → Prop) (xs : List α) (W : World) : Exit → Act → World → Prop
  | .normal, _, W' => KeepsOthers W W' ∧ W'.heap[b]? = W.heap[b]? ∧ I xs W'
  | .ret, _, W' => KeepsOthers W W' ∧ Ix xs W'
  | _, _, _ => False
theorem wp_rangeS {α : Type} {n : Nat} {P : Program} {g : Operand} {ps : Array Tmp} {assign body : Code} {Q : Exit → Act → World → Prop} {a : Act} {w : World} {gf b : Nat} {lb : Array Value}
    (hg : a.eval g = .func (.func gf) #[] lb) (eg : ∀ args w, (callFunc gf args).run P w = .ok (.enter gf args) w) {encs : α → Array Value} (hps : ∀ x, (encs x).size = ps.size) (hb : b < w.heap.size)
    (I Ix : List α → World → Prop) (hI : ∀ pre, StabL w.heap.size b (I pre)) (hIx : ∀ pre, StabL w.heap.size b (Ix pre)) (h0 : I [] w) {S Sp : List α → Prop} {N : Nat} {G : α → Prop}
    (hit : ∀ (l : Nat) (J Jx : List α → World → Prop), (∀ pre, Stab b (J pre)) → (∀ pre W, J pre W → I pre W) →
      (∀ pre x W, J pre W → pre.length < N → G x → YieldAt Fence.wide (n - 1 - 1) P l (encs x) W fun e W' => (e = .returned (.bool true) ∧ J (pre ++ [x]) W' ∧ W'.heap[b]? = W.heap[b]?) ∨ (e = .returned (.bool false) ∧ Jx (pre ++ [x]) W')) →
      ∀ W, W.heap[b]? = w.heap[b]? → J [] W → CallsIn Fence.wide (n - 1) P gf (#[.func (.yield l) #[] #[]] ++ lb) W fun e W' => (∃ v, e = .returned v) ∧ ((∃ xs, S xs ∧ J xs W') ∨ ∃ xs, Sp xs ∧ Jx xs W'))
    (hround : ∀ (l : Nat) (pre : List α) (x : α) (W : World), I pre W → pre.length < N → G x → w.heap.size ≤ l → (∃ o : Obj, W.heap[l]? = some o ∧ o.isCells = false) → assign.wpIn (Fence.wide.inRound l) (n - 1 - 1) P
      (Exit.then (fun a₁ W1 => Below W.heap.size W W1 ∧ ∀ W2, W2.heap.size = W1.heap.size → (∀ k, k ≠ l → W2.heap[k]? = W1.heap[k]?) → I pre W2 → body.wpIn (Fence.wide.inRound l) (n - 1 - 1) P (postR b I Ix (pre ++ [x]) W2) a₁ W2) (fun _ _ _ => False))
      { tmps := (ps.zip (encs x)).foldl (fun t (p, v) => t.setIfInBounds p v) a.tmps, defers := [] } W)
    (hdone : ∀ xs W, S xs → I xs W → W.heap[w.heap.size]? = some (.deferred (some [])) → Q .normal { a with defers := { target := .collected w.heap.size, args := #[] } :: a.defers } W)
    (hstop : ∀ xs W, Sp xs → Ix xs W → W.heap[w.heap.size]? = some (.deferred (some [])) → Q .ret { a with defers := { target := .collected w.heap.size, args := #[] } :: a.defers } W) :
    (Code.rangeFunc g ps assign body).wpIn Fence.wide n P Q a w := by
  refine wpIn_rangeFunc fun fn _ => ?_
  obtain ⟨rec, hrec⟩ : ∃ rec : LoopState → Option Code → Loop, rec = fun st pe => { state := st, pending := pe, fn, tmps := a.tmps, params := ps, assign, body, defers := w.heap.size } := ⟨_, rfl⟩
  obtain ⟨W1, hW1⟩ : ∃ W1, (w.alloc (.deferred (some []))).alloc (.loop (rec .ready none)) = W1 := ⟨_, rfl⟩
  have hbel : Below w.heap.size w W1 := by rw [← hW1]; exact ((Below.refl _ w).alloc (Nat.le_refl _) _).alloc (by simp) _
  have hrec1 : W1.heap[w.heap.size + 1]? = some (.loop (rec .ready none)) := by
    have := World.alloc_heap_new (w.alloc (.deferred (some []))) (.loop (rec .ready none))
    rw [World.size_alloc] at this
    rw [← hW1]; exact this
  have hdef1 : W1.heap[w.heap.size]? = some (.deferred (some [])) := by rw [← hW1, Below.heap_alloc _ _ _ (by simp)]; exact World.alloc_heap_new w _
  have hstab : ∀ (j : World → Prop) (o1 o2 : Obj), Stab b j → Stab b (fun W => j W ∧ W.heap[w.heap.size + 1]? = some o1 ∧ W.heap[w.heap.size]? = some o2) := fun j o1 o2 hj =>
    ⟨fun W W' h hB => ⟨hj.below W W' h.1 hB, (hB.block _ (Array.getElem?_eq_some_iff.1 h.2.1).1).trans h.2.1, (hB.block _ (Array.getElem?_eq_some_iff.1 h.2.2).1).trans h.2.2⟩,
      fun W v h => ⟨hj.cell W v h.1, (Below.heap_setCell W ⟨b, 0, none⟩ v _ (by show _ ≠ b; omega)).trans h.2.1, (Below.heap_setCell W ⟨b, 0, none⟩ v _ (by show _ ≠ b; omega)).trans h.2.2⟩⟩
  refine ⟨w.heap.size + 1, [{ target := .collected w.heap.size, args := #[] }], W1, { target := .fn (.func gf) lb, args := #[.func (.yield (w.heap.size + 1)) #[] #[]] }, W1, gf, #[.func (.yield (w.heap.size + 1)) #[] #[]] ++ lb, W1, ?_, ?_, (fun _ _ => trivial), ?_, (fun h => by cases h), ?_⟩
  · rw [← hW1, hrec]; exact run_enterLoop_outer _ _ _ _ _
  · simp only [resolve, hg]
    simp [go_sem]
  · simp [invoke, go_sem, eg]
  refine (hit (w.heap.size + 1) (fun pre W => I pre W ∧ W.heap[w.heap.size + 1]? = some (.loop (rec .ready none)) ∧ W.heap[w.heap.size]? = some (.deferred (some [])))
    (fun pre W => Ix pre W ∧ W.heap[w.heap.size + 1]? = some (.loop (rec .done (some .ret))) ∧ W.heap[w.heap.size]? = some (.deferred (some [])))
    (fun pre => hstab _ _ _ (hI pre).stab) (fun pre W h => h.1) (fun pre x W h hN hG => ?_) W1 (hbel.block _ hb) ⟨(hI []).stab.below w W1 h0 hbel, hrec1, hdef1⟩).mono ?_
  · obtain ⟨hi, hl, hd⟩ := h
    have hlt : w.heap.size + 1 < W.heap.size := (Array.getElem?_eq_some_iff.1 hl).1
    have hy := run_yield (P := P) (args := encs x) hl (by rw [hrec]; exact hps x)
    rw [hrec] at hy
    refine ⟨fn, _, assign, body, hy, roundIn_of_wpIn trivial (wpIn_mono (hround _ pre x W hi hN hG (by omega) ⟨_, hl, rfl⟩) ?_)⟩
    intro e a1 W2 he
    cases e with
    | normal =>
      obtain ⟨hB, hbody⟩ := he
      have hl2 : W2.heap[w.heap.size + 1]? = some (.loop (rec .ready none)) := (hB.block _ hlt).trans hl
      have hd2 : W2.heap[w.heap.size]? = some (.deferred (some [])) := (hB.block _ (by omega)).trans hd
      have hlt2 := (Array.getElem?_eq_some_iff.1 hl2).1
      refine ⟨_, run_beginRound hl2 (by rw [hrec]), ?_⟩
      obtain ⟨W3, hW3⟩ : ∃ W3, W2.putObj (w.heap.size + 1) (.loop { rec .ready none with state := .busy }) = W3 := ⟨_, rfl⟩
      have hl3 : W3.heap[w.heap.size + 1]? = some (.loop { rec .ready none with state := .busy }) := by rw [← hW3]; exact World.putObj_heap_same hlt2
      have ho3 : ∀ k, k ≠ w.heap.size + 1 → W3.heap[k]? = W2.heap[k]? := fun k hk => by rw [← hW3]; exact World.putObj_heap_other hk
      have hi3 : I pre W3 := by rw [← hW3]; exact (hI pre).put _ _ _ _ (by omega) hl2 rfl ((hI pre).stab.below _ _ hi hB)
      rw [hW3]
      refine wpIn_mono (hbody W3 (by rw [← hW3]; simp) ho3 hi3) ?_
      have fin : ∀ (jump : Option Code) (W4 : World), KeepsOthers W3 W4 →
          (Instr.endRound (w.heap.size + 1) jump).run P W4 = .ok (.bool jump.isNone) (W4.putObj (w.heap.size + 1) (.loop (rec (if jump.isNone then .ready else .done) jump))) ∧
          W4.heap[w.heap.size + 1]? = some (.loop { rec .ready none with state := .busy }) ∧
          (W4.putObj (w.heap.size + 1) (.loop (rec (if jump.isNone then .ready else .done) jump))).heap[w.heap.size + 1]? = some (.loop (rec (if jump.isNone then .ready else .done) jump)) ∧
          (W4.putObj (w.heap.size + 1) (.loop (rec (if jump.isNone then .ready else .done) jump))).heap[w.heap.size]? = some (.deferred (some [])) := fun jump W4 hk => by
        have hl4 := hk.same _ _ hl3 rfl
        have hd4 := hk.same _ _ ((ho3 _ (by omega)).trans hd2) rfl
        have := run_endRound (P := P) jump hl4
        rw [hrec] at this ⊢
        exact ⟨this, by rw [hrec] at hl4; exact hl4, World.putObj_heap_same (Array.getElem?_eq_some_iff.1 hl4).1, (World.putObj_heap_other (by omega)).trans hd4⟩
      rintro e a4 W4 hp
      cases e with
      | normal =>
        obtain ⟨hk, hb4, hi4⟩ := hp
        obtain ⟨hr, hl4, hl5, hd5⟩ := fin none W4 hk
        refine ⟨_, _, hr, .inl ⟨rfl, ⟨(hI _).put _ _ _ _ (by omega) hl4 rfl hi4, hl5, hd5⟩, ?_⟩⟩
        rw [World.putObj_heap_other (by omega), hb4, ho3 _ (by omega)]
        exact hB.block _ (by omega)
      | ret =>
        obtain ⟨hk, hi4⟩ := hp
        obtain ⟨hr, hl4, hl5, hd5⟩ := fin (some .ret) W4 hk
        exact ⟨_, _, hr, .inr ⟨rfl, (hIx _).put _ _ _ _ (by omega) hl4 rfl hi4, hl5, hd5⟩⟩
      | exit id => exact hp.elim
      | goto t => exact hp.elim
      | panic ch => exact hp.elim
      | outgrown => exact hp.elim
    | ret => exact he.elim
    | exit id => exact he.elim
    | goto t => exact he.elim
    | panic ch => exact he.elim
    | outgrown => exact he.elim
  · rintro e W2 ⟨⟨v, rfl⟩, (⟨xs, hS, hi, hl, hd⟩ | ⟨xs, hS, hi, hl, hd⟩)⟩
    · have := run_endLoop (P := P) hl (by rw [hrec]; simp)
      rw [hrec] at this
      exact ⟨none, _, this, hdone xs _ hS ((hI _).put _ _ _ _ (by omega) hl rfl hi) ((World.putObj_heap_other (by omega)).trans hd)⟩
    · have := run_endLoop (P := P) hl (by rw [hrec]; simp)
      rw [hrec] at this
      exact ⟨some .ret, _, this, wpIn_ret (hstop xs _ hS ((hIx _).put _ _ _ _ (by omega) hl rfl hi) ((World.putObj_heap_other (by omega)).trans hd))⟩
end Go.Proofs.YtbdacbcpniegiaaDoor
namespace Go.Proofs.YtbdacbcpniegiaaDoor
open Go Go.RowKit Go.Shelf Go.Proofs
open Go.Sx (B)
set_option maxHeartbeats 4000000
set_option maxRecDepth 100000
set_option linter.unusedSimpArgs false
set_option linter.unusedVariables false
attribute [local go_sem] Oper.semAt_some
def cloneRen : Ren := ⟨fun | 25 => 165 | n => n, fun | 37 => 58 | 47 => 192 | n => n, fun n => n⟩
theorem layClone : LaysPu.n25 Tryd.prog cloneRen := {
  mixed := by kernel_rfl, f25 := Tryd.func165.trans (congrArg some (by kernel_rfl)),
  t0 := Tryd.underlying0, a0 := Tryd.isAgg0, z0 := Tryd.sizeOf0, v0 := Tryd.zeroValue0, i0 := by kernel_rfl,
  t3 := Tryd.underlying3, a3 := Tryd.isAgg3, z3 := Tryd.sizeOf3, v3 := Tryd.zeroValue3, i3 := by kernel_rfl,
  t4 := Tryd.underlying4, a4 := Tryd.isAgg4, z4 := Tryd.sizeOf4, v4 := Tryd.zeroValue4, i4 := by kernel_rfl,
  t5 := Tryd.underlying5, a5 := Tryd.isAgg5, z5 := Tryd.sizeOf5, v5 := Tryd.zeroValue5, i5 := by kernel_rfl,
  t9 := Tryd.underlying9, a9 := Tryd.isAgg9, z9 := Tryd.sizeOf9, v9 := Tryd.zeroValue9, i9 := by kernel_rfl,
  t37 := Tryd.underlying58, a37 := Tryd.isAgg58, z37 := Tryd.sizeOf58, v37 := Tryd.zeroValue58, i37 := by kernel_rfl,
  t47 := Tryd.underlying192, a47 := Tryd.isAgg192, z47 := Tryd.sizeOf192, v47 := Tryd.zeroValue192, i47 := by kernel_rfl }
theorem clone_any (s : ByteArray) (hs : s.size ≤ 281474976710656) (w : World) : Calls Tryd.prog 143 #[.string s] w fun e w' => e = .returned (.string s) ∧ Below w.heap.size w w' := by
  go_enter Tryd.func143, Tryd.ntmps143
  go_wp2_with (go_at_call 165; refine (AnyPu.stringslite_Clone layClone s _ hs).mono ?_; rintro e w' ⟨rfl, hb⟩)
  go_ret
  exact ⟨rfl, hb⟩
theorem fields_any (s : ByteArray) (w : World) : Calls Tryd.prog 142 #[.string s] w fun e w' => e = .returned (.func (.func 163) #[] #[.pointer (some ⟨w.heap.size, 0, none⟩)]) ∧ w' = w.alloc (.cells #[.string s] 9) := by
  go_enter Tryd.func142, Tryd.ntmps142
  go_wp2
  go_ret
  exact ⟨rfl, rfl⟩
end Go.Proofs.YtbdacbcpniegiaaDoor
namespace Go.Proofs.YtbdacbcpniegiaaDoor
open Go Go.RowKit Go.Shelf Go.Proofs
open Go.Sx (B)
set_option maxHeartbeats 1000000
set_option maxRecDepth 100000
set_option linter.unusedSimpArgs false
set_option linter.unusedVariables false
attribute [local go_sem] Oper.semAt_some
def fcells (f : NW.Fld) : List Value := [.int .i64 f.num, .int .i64 f.kind, .int .u64 f.n, .string (B f.s)]
def flds (l : List NW.Fld) : List Value := l.flatMap fcells
theorem flds_length : ∀ l : List NW.Fld, (flds l).length = l.length * 4
  | [] => rfl
  | f :: l => by simp only [flds, List.flatMap_cons, List.length_append, List.length_cons] at *; have := flds_length l; simp only [flds] at this; rw [this]; show 4 + _ = _; omega
theorem flds_append (a b : List NW.Fld) : flds (a ++ b) = flds a ++ flds b := by simp [flds]
theorem ownsRow_heap {W W' : World} {n₀ sz n : Nat} {e : TypeId} {v : Value} {xs : List Value} (h : W.ownsRow n₀ e sz v n xs) (hg : ∀ (g : Nat) (o : Obj), n₀ ≤ g → W.heap[g]? = some o → o.isCells = true → W'.heap[g]? = W.heap[g]?) : W'.ownsRow n₀ e sz v n xs := by
  obtain ⟨h1, h2⟩ := h
  refine ⟨h1, ?_⟩
  rcases h2 with h2 | ⟨g, cap, cur, e1, hle, hh, rest⟩
  · exact .inl h2
  · exact .inr ⟨g, cap, cur, e1, hle, by rw [hg g _ hle hh rfl]; exact hh, rest⟩
theorem ownsRow_not {W : World} {n₀ sz n k : Nat} {e : TypeId} {v : Value} {xs : List Value} (h : W.ownsRow n₀ e sz v n xs) (hk : k < n₀) : v.ownBlock ≠ some k := by
  obtain ⟨h1, h2⟩ := h
  rcases h2 with ⟨rfl, _⟩ | ⟨g, cap, cur, rfl, hle, hh, rest⟩
  · simp [Value.ownBlock]
  · simp [Value.ownBlock]; omega
theorem keeps_below {W W' : World} (h : Below W.heap.size W W') : KeepsOthers W W' := ⟨h.size, fun k o hk _ => (h.block k (Array.getElem?_eq_some_iff.1 hk).1).trans hk⟩
structure PI (w : World) (n : Nat) (W : World) : Prop where
  r2 : W.heap[n]? = some (.cells #[.slice none 0 0] 171 (0, 0))
  r3 : W.heap[n + 1]? = some (.cells #[.bool false] 4 (0, 0))
  low : Below n w W
structure PO (w : World) (n : Nat) (fs : List NW.Fld) (W : World) : Prop extends PI w n W where
  out : ∃ v, W.heap[n + 2]? = some (.cells #[v] 171 (0, 0)) ∧ W.ownsRow (n + 4) 143 4 v fs.length (flds fs)
theorem PI.stab {w : World} {n : Nat} : StabL (n + 4) (n + 3) (PI w n) :=
  ⟨⟨fun W W' h hB => ⟨(hB.block _ (Array.getElem?_eq_some_iff.1 h.r2).1).trans h.r2, (hB.block _ (Array.getElem?_eq_some_iff.1 h.r3).1).trans h.r3, h.low.trans (hB.mono (Nat.le_of_lt (Array.getElem?_eq_some_iff.1 h.r2).1))⟩,
    fun W v h => ⟨(Below.heap_setCell W ⟨n + 3, 0, none⟩ v _ (by show _ ≠ n + 3; omega)).trans h.r2, (Below.heap_setCell W ⟨n + 3, 0, none⟩ v _ (by show _ ≠ n + 3; omega)).trans h.r3, h.low.setCell (p := ⟨n + 3, 0, none⟩) (by show n ≤ n + 3; omega) _⟩⟩,
   fun W k o o' hk ho hc h => ⟨(World.putObj_heap_other (by omega)).trans h.r2, (World.putObj_heap_other (by omega)).trans h.r3, h.low.trans ((Below.refl n W).grown (grownBy_putObj' W k o') (Nat.le_of_lt (Array.getElem?_eq_some_iff.1 h.r2).1) (fun j e => by cases e; omega))⟩⟩
theorem PO.stab {w : World} {n : Nat} {fs : List NW.Fld} : StabL (n + 4) (n + 3) (PO w n fs) :=
  ⟨⟨fun W W' h hB => ⟨PI.stab.stab.below W W' h.toPI hB, by
      obtain ⟨v, h1, h2⟩ := h.out
      exact ⟨v, (hB.block _ (Array.getElem?_eq_some_iff.1 h1).1).trans h1, ownsRow_heap h2 fun g o _ ho _ => hB.block g (Array.getElem?_eq_some_iff.1 ho).1⟩⟩,
    fun W v h => ⟨PI.stab.stab.cell W v h.toPI, by
      obtain ⟨u, h1, h2⟩ := h.out
      exact ⟨u, (Below.heap_setCell W ⟨n + 3, 0, none⟩ v _ (by show _ ≠ n + 3; omega)).trans h1, ownsRow_heap h2 fun g o hg _ _ => Below.heap_setCell W ⟨n + 3, 0, none⟩ v g (by show g ≠ n + 3; omega)⟩⟩⟩,
   fun W k o o' hk ho hc h => ⟨PI.stab.put W k o o' hk ho hc h.toPI, by
      obtain ⟨u, h1, h2⟩ := h.out
      exact ⟨u, (World.putObj_heap_other (by omega)).trans h1, ownsRow_heap h2 fun g ob hg hog hcg => World.putObj_heap_other (fun e => by subst e; rw [ho] at hog; cases hog; rw [hc] at hcg; cases hcg)⟩⟩⟩
theorem frozen_at {W : World} {b o : Nat} {cs : Array Value} {t : TypeId} (h : W.heap[b]? = some (.cells cs t (0, 0))) : W.frozen? ⟨b, o, none⟩ = false := by
  simp [World.frozen?, h]
theorem setCell_row {W : World} {b o : Nat} {v : Value} {cs : Array Value} {t : TypeId} (h : W.heap[b]? = some (.cells cs t (0, 0))) : (W.setCell ⟨b, o, none⟩ v).heap[b]? = some (.cells (cs.setIfInBounds o v) t (0, 0)) := by
  simp only [World.setCell, Array.getElem?_modify, h]; simp
theorem round_end {w W2 W3 w1 : World} {n k : Nat} {u v v' : Value} {o : Obj} {fs : List NW.Fld} {x : NW.Fld} (hPI : PI w n W2) (hv : W2.heap[n + 2]? = some (.cells #[v] 171 (0, 0))) (hk : n + 4 ≤ k) (hk2 : k < W2.heap.size) (hB3 : Below W2.heap.size W2 W3)
    (hrow4 : (W3.setCell ⟨k, 3, none⟩ u).ownsRow (n + 4) 143 4 v fs.length (flds fs)) (hgrow : ((W3.setCell ⟨k, 3, none⟩ u).alloc o).grownBy w1 v.ownBlock) (hown' : w1.ownsRow (n + 4) 143 4 v' (fs.length + 1) (flds fs ++ fcells x)) :
    KeepsOthers W2 (w1.setCell ⟨n + 2, 0, none⟩ v') ∧ (w1.setCell ⟨n + 2, 0, none⟩ v').heap[n + 3]? = W2.heap[n + 3]? ∧ PO w n (fs ++ [x]) (w1.setCell ⟨n + 2, 0, none⟩ v') := by
  have hs3 := hB3.size
  have hh1 : ∀ j, j < n + 4 → w1.heap[j]? = W2.heap[j]? := fun j hj => by
    rw [hgrow.block j (by simp [World.setCell]; omega) (fun e => ownsRow_not hrow4 hj e.symm), Below.heap_alloc _ _ _ (by simp [World.setCell]; omega), Below.heap_setCell _ _ _ _ (by show j ≠ k; omega)]
    exact hB3.block j (by omega)
  have hh : ∀ j, j < n + 4 → j ≠ n + 2 → (w1.setCell ⟨n + 2, 0, none⟩ v').heap[j]? = W2.heap[j]? := fun j hj hj2 => by
    rw [Below.heap_setCell _ _ _ _ (by show j ≠ n + 2; omega)]; exact hh1 j hj
  have hsz1 : W2.heap.size ≤ w1.heap.size := by have := hgrow.size; simp [World.setCell] at this; omega
  refine ⟨?_, hh _ (by omega) (by omega), ⟨(hh n (by omega) (by omega)).trans hPI.r2, (hh (n + 1) (by omega) (by omega)).trans hPI.r3, ?_⟩, v', ?_, ?_⟩
  · refine ((keeps_below hB3).trans ((KeepsOthers.setCell W3 _ _).trans ((KeepsOthers.alloc _ o).trans (KeepsOthers.of_grownBy hgrow ?_)))).trans (KeepsOthers.setCell _ _ _)
    intro j ob ej hj
    obtain ⟨h1, h2⟩ := hrow4
    rcases h2 with ⟨rfl, _⟩ | ⟨g, cap, cur, rfl, hle, hh4, rest⟩
    · simp [Value.ownBlock] at ej
    · simp [Value.ownBlock] at ej
      subst ej
      rw [Below.heap_alloc _ _ _ (Array.getElem?_eq_some_iff.1 hh4).1, hh4] at hj
      cases hj; rfl
  · refine hPI.low.trans ⟨?_, ?_, ?_, ?_, fun j hj => hh j (by omega) (by omega)⟩
    · show w1.os = W2.os
      rw [hgrow.os]; exact hB3.os
    · show w1.tape = W2.tape
      rw [hgrow.tape]; exact hB3.tape
    · show w1.output = W2.output
      rw [hgrow.output]; exact hB3.output
    · simp [World.setCell]; exact hsz1
  · rw [setCell_row (by rw [hh1 _ (by omega)]; exact hv)]; rfl
  · rw [flds_append, List.length_append]
    have e : flds [x] = fcells x := by simp [flds]
    rw [e]
    exact ownsRow_heap hown' fun g ob hg _ _ => Below.heap_setCell _ _ _ _ (by show g ≠ n + 2; omega)
theorem out_kept {W4 w1 : World} {n : Nat} {v : Value} {o X : Obj} {fs : List NW.Fld} (hrow4 : W4.ownsRow (n + 4) 143 4 v fs.length (flds fs)) (hgrow : (W4.alloc o).grownBy w1 v.ownBlock) (hv4 : W4.heap[n + 2]? = some X) : w1.heap[n + 2]? = some X := by
  have hlt := (Array.getElem?_eq_some_iff.1 hv4).1
  rw [hgrow.block _ (by simp; omega) (fun e => ownsRow_not hrow4 (by omega) e.symm), Below.heap_alloc _ _ _ hlt]
  exact hv4
theorem fieldInfo : (Tryd.prog.info? 143).map (fun i => (i.zero, i.size, i.bytes)) = some (some (.agg #[.int .i64 0, .int .i64 0, .int .u64 0, .string ⟨#[]⟩]), 4, 40) := by kernel_rfl
abbrev fobj (x : NW.Fld) : Obj := .cells #[.int .i64 x.num, .int .i64 x.kind, .int .u64 x.n, .string (B x.s)] 143
theorem map_f_inj {a b : List NW.Fld} (h : a.map It.f = b.map It.f) : a = b := by
  induction a generalizing b with
  | nil => cases b with | nil => rfl | cons _ _ => simp at h
  | cons x a ih => cases b with
    | nil => simp at h
    | cons y b => simp at h; rw [h.1, ih h.2]
theorem results_cc {fn : Func} {p q : Tmp} {t u : TypeId} {P : Program} {W : World} {tmps : Array Value} {a b : Addr} {v1 v2 : Value} (h : fn.results = #[.cell p t, .cell q u]) (ha : tmps.getD p undef = .pointer (some a)) (hb : tmps.getD q undef = .pointer (some b))
    (t1 : ∀ w, (isAgg t).run P w = .ok false w) (t2 : ∀ w, (isAgg u).run P w = .ok false w) (h1 : W.cell? a = some v1) (h2 : W.cell? b = some v2) : (results fn tmps).run P W = .ok (.tuple #[v1, v2]) W := by
  have e1 : (do loadVar t (← asAddr (.pointer (some a))) : Sem Value).run P W = .ok v1 W := by simp [asAddr, loadVar, t1, h1]
  have e2 : (do loadVar u (← asAddr (.pointer (some b))) : Sem Value).run P W = .ok v2 W := by simp [asAddr, loadVar, t2, h2]
  rw [Go.Sx.results_eq, h]
  simp [Go.Sx.resF, ha, hb, e1, e2, asAddr, loadVar, t1, t2, h1, h2]
def parseR (n : Nat) (r : Option (List NW.Fld)) (e : Ending) (W' : World) : Prop := match r with
  | none => e = .returned (.tuple #[.slice none 0 0, .bool false])
  | some l => ∃ v, e = .returned (.tuple #[v, .bool true]) ∧ W'.ownsRow (n + 4) 143 4 v l.length (flds l)
theorem ownsRow_slice {W : World} {n₀ sz n : Nat} {e : TypeId} {v : Value} {xs : List Value} (h : W.ownsRow n₀ e sz v n xs) : ∃ q m c, v = .slice q m c := by
  obtain ⟨h1, h2⟩ := h
  rcases h2 with ⟨rfl, _⟩ | ⟨g, cap, cur, rfl, hle, hh, rest⟩
  · exact ⟨_, _, _, rfl⟩
  · exact ⟨_, _, _, rfl⟩
theorem parse_any (s : List UInt8) (hs : s.length ≤ 1099511627776) (w : World) (a0 a1 : Addr) (hE : Errs w a0 a1) : Calls Tryd.prog 109 #[.string (B s)] w fun e W' => Below w.heap.size w W' ∧ parseR w.heap.size (NW.parse s) e W' := by
  refine (callsIn_wide (n := 5)).1 ?_
  refine callsIn_of_wp_marks Tryd.func109 rfl trivial ?_ rfl
  simp only [Tryd.ntmps109, List.size_toArray, List.length_cons, List.length_nil, Nat.reduceAdd, Nat.reduceSub, Array.replicate_succ, Array.replicate_zero, List.push_toArray, List.append_toArray, List.nil_append, List.cons_append]
  gi_wp2_with (refine ⟨trivial, ?_⟩; refine (callsIn_wide.2 (fields_any _ _)).mono ?_; rintro e w' ⟨rfl, rfl⟩)
  obtain ⟨W0, hW0⟩ : ∃ W0, (((w.alloc (.cells #[.slice none 0 0] 171)).alloc (.cells #[.bool false] 4)).alloc (.cells #[.slice none 0 0] 171)).alloc (.cells #[.string (B s)] 9) = W0 := ⟨_, rfl⟩
  have hsz : W0.heap.size = w.heap.size + 4 := by rw [← hW0]; simp
  have hlow : Below w.heap.size w W0 := by rw [← hW0]; exact ((((Below.refl _ w).alloc (Nat.le_refl _) _).alloc (by simp) _).alloc (by simp <;> omega) _).alloc (by simp <;> omega) _
  have hc2 : W0.heap[w.heap.size]? = some (.cells #[.slice none 0 0] 171 (0, 0)) := by rw [← hW0]; rw [Below.heap_alloc _ _ _ (by simp <;> omega), Below.heap_alloc _ _ _ (by simp <;> omega), Below.heap_alloc _ _ _ (by simp)]; exact World.alloc_heap_new w _
  have hc3 : W0.heap[w.heap.size + 1]? = some (.cells #[.bool false] 4 (0, 0)) := by
    rw [← hW0]; rw [Below.heap_alloc _ _ _ (by simp <;> omega), Below.heap_alloc _ _ _ (by simp)]
    have := World.alloc_heap_new (w.alloc (.cells #[.slice none 0 0] 171)) (.cells #[.bool false] 4)
    rw [World.size_alloc] at this; exact this
  have hc4 : W0.heap[w.heap.size + 2]? = some (.cells #[.slice none 0 0] 171 (0, 0)) := by
    rw [← hW0]; rw [Below.heap_alloc _ _ _ (by simp)]
    have := World.alloc_heap_new ((w.alloc (.cells #[.slice none 0 0] 171)).alloc (.cells #[.bool false] 4)) (.cells #[.slice none 0 0] 171)
    rw [World.size_alloc, World.size_alloc] at this; exact this
  have hc5 : W0.heap[w.heap.size + 3]? = some (.cells #[.string (B s)] 9 (0, 0)) := by
    rw [← hW0]
    have := World.alloc_heap_new (((w.alloc (.cells #[.slice none 0 0] 171)).alloc (.cells #[.bool false] 4)).alloc (.cells #[.slice none 0 0] 171)) (.cells #[.string (B s)] 9)
    rw [World.size_alloc, World.size_alloc, World.size_alloc] at this; exact this
  rw [hW0]
  have hst : ∀ pre : List It, StabL W0.heap.size (w.heap.size + 3) (fun W => ∃ fs, pre = fs.map It.f ∧ PO w w.heap.size fs W) := fun pre => by
    rw [hsz]
    exact ⟨⟨fun W W' ⟨fs, e, h⟩ hB => ⟨fs, e, PO.stab.stab.below W W' h hB⟩, fun W v ⟨fs, e, h⟩ => ⟨fs, e, PO.stab.stab.cell W v h⟩⟩, fun W k o o' hk ho hc ⟨fs, e, h⟩ => ⟨fs, e, PO.stab.put W k o o' hk ho hc h⟩⟩
  have hsx : ∀ pre : List It, StabL W0.heap.size (w.heap.size + 3) (fun W => (∃ q x, pre = q ++ [x] ∧ ∀ f, x ≠ It.f f) ∧ PI w w.heap.size W) := fun pre => by
    rw [hsz]
    exact ⟨⟨fun W W' ⟨e, h⟩ hB => ⟨e, PI.stab.stab.below W W' h hB⟩, fun W v ⟨e, h⟩ => ⟨e, PI.stab.stab.cell W v h⟩⟩, fun W k o o' hk ho hc ⟨e, h⟩ => ⟨e, PI.stab.put W k o o' hk ho hc h⟩⟩
  refine wp_rangeS (n := 5) (encs := It.encs a0 a1) (b := w.heap.size + 3) rfl (enters_of Tryd.func163 (by kernel_rfl) rfl) (fun x => by cases x <;> rfl) (by rw [hsz]; omega) (fun pre W => ∃ fs, pre = fs.map It.f ∧ PO w w.heap.size fs W) (fun pre W => (∃ q x, pre = q ++ [x] ∧ ∀ f, x ≠ It.f f) ∧ PI w w.heap.size W)
    hst hsx ⟨[], rfl, ⟨hc2, hc3, hlow⟩, _, hc4, World.ownsRow_nil _ _ _ _⟩
    (S := fun xs => ∃ fs, NW.parse s = some fs ∧ xs = fs.map It.f) (Sp := fun xs => NW.parse s = none ∨ ∃ q f, xs = q ++ [It.f f]) (N := s.length) (G := It.Ok s.length) ?it ?round ?done ?stop
  case it =>
    intro l J Jx hJ hJI hY W hWb h0
    have h0' := hJI _ _ h0
    refine (fields1_any w a0 a1 hE s (by omega) l (w.heap.size + 3) 4 (by omega) J Jx hJ (fun pre W h => ?_) hY W (by rw [hWb]; exact hc5) h0).mono ?_
    · obtain ⟨fs, _, h⟩ := hJI _ _ h
      exact h.low
    · rintro e W' ⟨hv, (⟨fs, h1, h2⟩ | ⟨h1, pre, nm, k, nn, fs, p, sh, h2⟩ | ⟨pre, x, h1, h2⟩)⟩
      · exact ⟨hv, .inl ⟨_, ⟨fs, h1, rfl⟩, h2⟩⟩
      · obtain ⟨fs', h3, _⟩ := hJI _ _ h2
        have : It.bad nm k nn fs p sh ∈ fs'.map It.f := by rw [← h3]; simp
        simp at this
      · refine ⟨hv, .inr ⟨_, ?_, h1⟩⟩
        rcases h2 with h2 | ⟨f, rfl⟩
        · exact .inl h2
        · exact .inr ⟨_, _, rfl⟩
  case round =>
    rintro l pre x W ⟨fs, rfl, hO⟩ hN hG hl ⟨ol, hol, hcl⟩
    rw [hsz] at hl
    have hlW := (Array.getElem?_eq_some_iff.1 hol).1
    cases x with
    | f x =>
      simp only [It.encs]
      gi_wp2
      refine ⟨(Below.refl _ _).alloc (Nat.le_refl _) _, ?_⟩
      rintro W2 hs2 ho2 ⟨fs', he, hO2⟩
      obtain rfl := map_f_inj he
      have hE2 := hE.below hO2.low
      have hg0 := hE2.c0
      have hg1 := hE2.c1
      have hbox2 : W2.heap[W.heap.size]? = some (.cells #[.int .i64 x.num, .int .i64 x.kind, .int .u64 x.n, .string (B x.s)] 143 (0, 0)) := by rw [ho2 _ (by omega)]; exact World.alloc_heap_new W _
      obtain ⟨v, hv0, hrow⟩ := hO.out
      have hv0lt := (Array.getElem?_eq_some_iff.1 hv0).1
      have hW21 : ∀ (j : Nat) (o : Obj), W.heap[j]? = some o → o.isCells = true → W2.heap[j]? = W.heap[j]? := fun j o hj hc => by
        have hjl : j ≠ l := fun e => by subst e; rw [hol] at hj; cases hj; rw [hcl] at hc; cases hc
        rw [ho2 j hjl]; exact Below.heap_alloc _ _ _ (Array.getElem?_eq_some_iff.1 hj).1
      have hv2 := (hW21 _ _ hv0 rfl).trans hv0
      obtain ⟨i0, hi, hz0, hz1, hz2⟩ := info_parts fieldInfo
      have hb0 := cell_of_row W2 W.heap.size 0 _ _ _ hbox2
      have hb1 := cell_of_row W2 W.heap.size 1 _ _ _ hbox2
      have hb2 := cell_of_row W2 W.heap.size 2 _ _ _ hbox2
      have hb3 := cell_of_row W2 W.heap.size 3 _ _ _ hbox2
      have hne2 : ∀ W3 : World, w.heap.size + 2 ≠ (⟨W.heap.size, 3, none⟩ : Addr).block := fun _ => by show w.heap.size + 2 ≠ W.heap.size; omega
      have hgo : ∀ W3, Below W2.heap.size W2 W3 → ∀ (g : Nat) (o : Obj), w.heap.size + 4 ≤ g → W.heap[g]? = some o → o.isCells = true → (W3.setCell ⟨W.heap.size, 3, none⟩ (.string (B x.s))).heap[g]? = W.heap[g]? := fun W3 hB3 g o _ ho hc => by
        have hlt := (Array.getElem?_eq_some_iff.1 ho).1
        rw [Below.heap_setCell _ _ _ _ (by show g ≠ W.heap.size; omega), hB3.block g (by rw [hs2]; simp; omega)]
        exact hW21 g o ho hc
      have hlen : fs.length < s.length := by simpa using hN
      gi_wp2_with (first
        | (refine ⟨trivial, ?_⟩; gi_at_call 126; refine (CallsIn.inRound l (callsIn_wide.2 (is_nil _ _))).mono ?_; rintro e w' ⟨rfl, rfl⟩)
        | (refine ⟨trivial, ?_⟩; gi_at_call 143; refine (CallsIn.inRound l (callsIn_wide.2 (clone_any _ ?_ _))).mono ?_; rotate_left; rintro e W3 ⟨rfl, hB3⟩; have hbox3 := (hB3.block _ (Array.getElem?_eq_some_iff.1 hbox2).1).trans hbox2; have hv3 := (hB3.block _ (Array.getElem?_eq_some_iff.1 hv2).1).trans hv2; have hf3 := frozen_at (o := 3) hbox3; have hb33 := cell_of_row W3 W.heap.size 3 _ _ _ hbox3; have hbox4 := setCell_row (o := 3) (v := .string (B x.s)) hbox3; have hv4 := (Below.heap_setCell W3 ⟨W.heap.size, 3, none⟩ (.string (B x.s)) (w.heap.size + 2) (hne2 W3)).trans hv3; have hb40 := cell_of_row _ W.heap.size 0 _ _ _ hbox4; have hb41 := cell_of_row _ W.heap.size 1 _ _ _ hbox4; have hb42 := cell_of_row _ W.heap.size 2 _ _ _ hbox4; have hb43 := cell_of_row _ W.heap.size 3 _ _ _ hbox4; have hrow4 : (W3.setCell ⟨W.heap.size, 3, none⟩ (.string (B x.s))).ownsRow (w.heap.size + 4) 143 4 v fs.length (flds fs) := ownsRow_heap hrow (hgo W3 hB3); have hvc4 : (W3.setCell ⟨W.heap.size, 3, none⟩ (.string (B x.s))).cell? ⟨w.heap.size + 1 + 1, 0, none⟩ = some v := cell_of_row _ (w.heap.size + 2) 0 _ _ _ hv4)
        | (gi_at_builtin; refine wpListIn_append_own _ rfl _ _ 171 rfl (w.heap.size + 4) 143 i0 (.agg #[.int .i64 0, .int .i64 0, .int .u64 0, .string ⟨#[]⟩]) 4 40 Tryd.underlying171 hi hz0 hz1 hz2 rfl (by decide) v fs.length (flds fs) rfl (hrow4.alloc _) _ 1 1 (fcells x) rfl rfl ?_ ?_ ?_ ?_ ?_ ?_; rotate_left 5; intro v' w1 hown' hgrow _; obtain ⟨g', cap', rfl⟩ := ownsRow_succ hown'; have hv1 := out_kept hrow4 hgrow hv4; have hvc1 : w1.cell? ⟨w.heap.size + 1 + 1, 0, none⟩ = some v := cell_of_row _ (w.heap.size + 2) 0 _ _ _ hv1; have hvf1 : w1.frozen? ⟨w.heap.size + 1 + 1, 0, none⟩ = false := frozen_at (b := w.heap.size + 2) hv1))
      · obtain ⟨k1, k2, k3⟩ := round_end hO2.toPI hv2 (by omega) (by rw [hs2]; simp) hB3 hrow4 hgrow hown'
        exact ⟨k1, k2, fs ++ [x], by simp, k3⟩
      · intro j u hj
        have hj4 : j < 4 := by have := (List.getElem?_eq_some_iff.1 hj).1; simpa [fcells] using this
        have e := World.alloc_heap_new (W3.setCell ⟨W.heap.size, 3, none⟩ (.string (B x.s))) (fobj x)
        have := cell_of_row _ (W3.setCell ⟨W.heap.size, 3, none⟩ (.string (B x.s))).heap.size j _ _ _ e
        rw [show W3.heap.size = (W3.setCell ⟨W.heap.size, 3, none⟩ (.string (B x.s))).heap.size by simp [World.setCell], Go.Sx.add_add, Nat.zero_add, this]
        simpa [fcells] using hj
      · intro u hu
        simp [fcells] at hu
        rcases hu with rfl | rfl | rfl | rfl <;> rfl
      · unfold maxLen; omega
      · omega
      · have := hB3.size; rw [hs2, World.size_alloc] at this; simp [World.setCell]; omega
      · rw [Go.Sx.B_size]; have : x.s.length ≤ s.length := hG; omega
    | bad num kind nn gs p sh =>
      have fin : ∀ (W2 W3 : World), PI w w.heap.size W2 → Below W2.heap.size W2 W3 → KeepsOthers W2 ((W3.setCell ⟨w.heap.size, 0, none⟩ (.slice none 0 0)).setCell ⟨w.heap.size + 1, 0, none⟩ (.bool false)) ∧ PI w w.heap.size ((W3.setCell ⟨w.heap.size, 0, none⟩ (.slice none 0 0)).setCell ⟨w.heap.size + 1, 0, none⟩ (.bool false)) := fun W2 W3 h hB => by
        have k2 := (hB.block _ (Array.getElem?_eq_some_iff.1 h.r2).1).trans h.r2
        have k3 := (hB.block _ (Array.getElem?_eq_some_iff.1 h.r3).1).trans h.r3
        refine ⟨((keeps_below hB).trans (KeepsOthers.setCell _ _ _)).trans (KeepsOthers.setCell _ _ _), ?_, ?_, ?_⟩
        · rw [Below.heap_setCell _ _ _ _ (by show w.heap.size ≠ w.heap.size + 1; omega), setCell_row k2]; rfl
        · rw [setCell_row (by rw [Below.heap_setCell _ _ _ _ (by show w.heap.size + 1 ≠ w.heap.size; omega)]; exact k3)]; rfl
        · exact ((h.low.trans (hB.mono (Nat.le_of_lt (Array.getElem?_eq_some_iff.1 h.r2).1))).setCell (p := ⟨w.heap.size, 0, none⟩) (Nat.le_refl _) _).setCell (p := ⟨w.heap.size + 1, 0, none⟩) (by show w.heap.size ≤ w.heap.size + 1; omega) _
      simp only [It.encs]
      cases sh with
      | true =>
        simp only [if_true]
        gi_wp2
        refine ⟨(Below.refl _ _).alloc (Nat.le_refl _) _, ?_⟩
        rintro W2 hs2 ho2 ⟨fs', he, hO2⟩
        have hE2 := hE.below hO2.low
        have hg0 := hE2.c0
        have hg1 := hE2.c1
        have c2 := cell_of_heap hO2.r2
        have c3 := cell_of_heap hO2.r3
        gi_wp2
        refine ⟨trivial, ?_⟩
        refine (CallsIn.inRound l (callsIn_wide.2 (is_at_same _ _ _))).mono ?_
        rintro e W3 ⟨rfl, hB3⟩
        have k2 := (hB3.block _ (Array.getElem?_eq_some_iff.1 hO2.r2).1).trans hO2.r2
        have k3 := (hB3.block _ (Array.getElem?_eq_some_iff.1 hO2.r3).1).trans hO2.r3
        have kc2 := cell_of_heap k2
        have kc3 := cell_of_heap k3
        have kf2 := frozen_at (o := 0) k2
        have kf3 := frozen_at (o := 0) k3
        gi_wp2
        refine ⟨trivial, ?_⟩
        gi_wp2
        obtain ⟨f1, f2⟩ := fin W2 W3 hO2.toPI hB3
        exact ⟨f1, ⟨_, _, rfl, fun f => by simp⟩, f2⟩
      | false =>
        simp only [Bool.false_eq_true, if_false]
        gi_wp2
        refine ⟨(Below.refl _ _).alloc (Nat.le_refl _) _, ?_⟩
        rintro W2 hs2 ho2 ⟨fs', he, hO2⟩
        have hE2 := hE.below hO2.low
        have hg0 := hE2.c0
        have hg1 := hE2.c1
        obtain ⟨ca, ta, ha⟩ := hE2.h0
        obtain ⟨cb, tb, hbb⟩ := hE2.h1
        gi_wp2
        refine ⟨trivial, ?_⟩
        refine (CallsIn.inRound l (callsIn_wide.2 (is_at_other _ a1 a0 _ _ _ _ _ hE2.ne.symm hbb ha))).mono ?_
        rintro e W3 ⟨rfl, hB3⟩
        have hE3 := hE2.below hB3
        have hg1' := hE3.c1
        gi_wp2
        refine ⟨trivial, ?_⟩
        refine (CallsIn.inRound l (callsIn_wide.2 (is_at_same _ _ _))).mono ?_
        rintro e W4 ⟨rfl, hB4⟩
        have hB34 : Below W2.heap.size W2 W4 := hB3.trans (hB4.mono hB3.size)
        have k2 := (hB34.block _ (Array.getElem?_eq_some_iff.1 hO2.r2).1).trans hO2.r2
        have k3 := (hB34.block _ (Array.getElem?_eq_some_iff.1 hO2.r3).1).trans hO2.r3
        have kc2 := cell_of_heap k2
        have kc3 := cell_of_heap k3
        have kf2 := frozen_at (o := 0) k2
        have kf3 := frozen_at (o := 0) k3
        gi_wp2
        obtain ⟨f1, f2⟩ := fin W2 W4 hO2.toPI hB34
        exact ⟨f1, ⟨_, _, rfl, fun f => by simp⟩, f2⟩
  case done =>
    rintro xs W ⟨fs, hp, rfl⟩ ⟨fs', he, hO⟩ hK
    obtain rfl := map_f_inj he
    obtain ⟨v, hv, hrow⟩ := hO.out
    obtain ⟨qv, mv, cv, rfl⟩ := ownsRow_slice hrow
    have hk2 : W.cell? ⟨w.heap.size, 0, none⟩ = some (.slice none 0 0) := cell_of_row W w.heap.size 0 _ _ _ hO.r2
    have hk3 : W.cell? ⟨w.heap.size + 1, 0, none⟩ = some (.bool false) := cell_of_row W (w.heap.size + 1) 0 _ _ _ hO.r3
    have hkv : W.cell? ⟨w.heap.size + 1 + 1, 0, none⟩ = some (.slice qv mv cv) := cell_of_row W (w.heap.size + 2) 0 _ _ _ hv
    have hf2 := frozen_at (o := 0) hO.r2
    have hf3 := frozen_at (o := 0) hO.r3
    gi_wp2
    refine ⟨by simp, .inl ⟨_, _, rfl, run_takeDeferred (by rw [Below.heap_setCell _ _ _ _ (by show w.heap.size + 4 ≠ w.heap.size + 1; omega), Below.heap_setCell _ _ _ _ (by show w.heap.size + 4 ≠ w.heap.size; omega), ← hsz]; exact hK), ?_⟩⟩
    have hl2 := setCell_row (o := 0) (v := .slice qv mv cv) hO.r2
    have hl3 : ((W.setCell ⟨w.heap.size, 0, none⟩ (.slice qv mv cv)).setCell ⟨w.heap.size + 1, 0, none⟩ (.bool true)).heap[w.heap.size + 1]? = some (.cells #[.bool true] 4 (0, 0)) := by
      rw [setCell_row (by rw [Below.heap_setCell _ _ _ _ (by show w.heap.size + 1 ≠ w.heap.size; omega)]; exact hO.r3)]; rfl
    have hl2' : ((W.setCell ⟨w.heap.size, 0, none⟩ (.slice qv mv cv)).setCell ⟨w.heap.size + 1, 0, none⟩ (.bool true)).heap[w.heap.size]? = some (.cells #[.slice qv mv cv] 171 (0, 0)) := by
      rw [Below.heap_setCell _ _ _ _ (by show w.heap.size ≠ w.heap.size + 1; omega), hl2]; rfl
    refine ⟨_, results_cc rfl rfl rfl Tryd.isAgg171 Tryd.isAgg4 (cell_of_heap (by rw [World.putObj_heap_other (by omega)]; exact hl2')) (cell_of_heap (by rw [World.putObj_heap_other (by omega)]; exact hl3)), ?_, ?_⟩
    · refine ((hO.low.setCell (p := ⟨w.heap.size, 0, none⟩) (Nat.le_refl _) _).setCell (p := ⟨w.heap.size + 1, 0, none⟩) (by show w.heap.size ≤ w.heap.size + 1; omega) _).trans ((Below.refl _ _).grown (grownBy_putObj' _ _ _) (by simp [World.setCell]; have := (Array.getElem?_eq_some_iff.1 hO.r2).1; omega) (fun j e => by cases e; omega))
    · refine ⟨_, rfl, ownsRow_heap hrow fun g o hg ho hc => ?_⟩
      have hgD : g ≠ w.heap.size + 4 := fun e => by subst e; rw [hsz] at hK; rw [hK] at ho; cases ho; cases hc
      rw [World.putObj_heap_other hgD, Below.heap_setCell _ _ _ _ (by show g ≠ w.heap.size + 1; omega), Below.heap_setCell _ _ _ _ (by show g ≠ w.heap.size; omega)]
  case stop =>
    rintro xs W hS ⟨⟨q, x, rfl, hx⟩, hI⟩ hK
    have hP0 : NW.parse s = none := by
      rcases hS with h | ⟨q', f, h⟩
      · exact h
      · have := (List.append_inj' h rfl).2
        simp at this
        exact absurd this (hx f)
    have hk2 : W.cell? ⟨w.heap.size, 0, none⟩ = some (.slice none 0 0) := cell_of_row W w.heap.size 0 _ _ _ hI.r2
    have hk3 : W.cell? ⟨w.heap.size + 1, 0, none⟩ = some (.bool false) := cell_of_row W (w.heap.size + 1) 0 _ _ _ hI.r3
    gi_wp2
    refine ⟨by simp, .inl ⟨_, _, rfl, run_takeDeferred hK, ?_⟩⟩
    refine ⟨_, results_cc rfl rfl rfl Tryd.isAgg171 Tryd.isAgg4 (cell_of_heap (by rw [World.putObj_heap_other (by omega)]; exact hI.r2)) (cell_of_heap (by rw [World.putObj_heap_other (by omega)]; exact hI.r3)), ?_, ?_⟩
    · exact hI.low.trans ((Below.refl _ _).grown (grownBy_putObj' _ _ _) (by have := (Array.getElem?_eq_some_iff.1 hI.r2).1; omega) (fun j e => by cases e; omega))
    · rw [hP0]; rfl
end Go.Proofs.YtbdacbcpniegiaaDoor
namespace Go.Proofs.YtbdacbcpniegiaaDoor
open Go Go.RowKit Go.Proofs Go.Sx
set_option maxHeartbeats 4000000
set_option maxRecDepth 100000
set_option linter.unusedSimpArgs false
set_option linter.unusedVariables false
structure EA where
  k : Addr
  f : Addr
  s : Addr
  w : Addr
def tK : List UInt8 := [111, 102, 32, 97, 110, 111, 116, 104, 101, 114, 32, 107, 105, 110, 100]
def tF : List UInt8 := [110, 111, 32, 115, 117, 99, 104, 32, 109, 101, 115, 115, 97, 103, 101]
def tS : List UInt8 := [116, 111, 111, 32, 102, 101, 119, 32, 98, 121, 116, 101, 115]
def tW : List UInt8 := [110, 111, 32, 115, 117, 99, 104, 32, 102, 105, 101, 108, 100]
abbrev errV (a : Addr) : Value := .iface 253 (.pointer (some a))
def GE (e : EA) : List (Addr × Value) := [(⟨0, 0, none⟩, errV e.k), (⟨1, 0, none⟩, errV e.f), (⟨2, 0, none⟩, errV e.s), (⟨3, 0, none⟩, errV e.w), (e.k, .string (B tK)), (e.f, .string (B tF)), (e.s, .string (B tS)), (e.w, .string (B tW))]
def GW (e : EA) : List (Addr × Value) := [(⟨2, 0, none⟩, errV e.s), (⟨3, 0, none⟩, errV e.w), (e.s, .string (B tS)), (e.w, .string (B tW))]
theorem GW_sub (e : EA) : ∀ p ∈ GW e, p ∈ GE e := by
  intro p hp
  simp only [GW, List.mem_cons, List.not_mem_nil, or_false] at hp
  rcases hp with rfl | rfl | rfl | rfl <;> simp [GE]
theorem Ctr.moreG {P : Program} {G G' : List (Addr × Value)} (hs : ∀ p ∈ G, p ∈ G') {f : FuncId} {os : List LO} {args : List SV} {R : List LO → SV → Prop} (h : Ctr P G f os args R) : Ctr P G' f os args R :=
  fun X hP hG => h X hP (fun p hp => hG p (hs p hp))
structure EA.Ok (e : EA) : Prop where
  kf : e.k ≠ e.f
  sw : e.s ≠ e.w
theorem Known.cells {X : Ctx} {G : List (Addr × Value)} (h : Known X G) {ρ : List (List Nat)} {σ : List Value} {a : Act} {w : World} {c : Cfg} (hr : Rel X c ρ σ a w) {p : Addr × Value} (hp : p ∈ G) : w.cell? p.1 = some p.2 ∧ loneStr w p := by
  obtain ⟨h1, h2, h3⟩ := h p hp
  refine ⟨hr.old h1 h2, ?_⟩
  unfold loneStr at h3 ⊢
  split
  · rename_i s hs
    rw [hs] at h3
    obtain ⟨cs, t, h4⟩ := h3
    exact ⟨cs, t, (hr.low.block _ (Array.getElem?_eq_some_iff.1 h4).1 h2).trans h4⟩
  · trivial
theorem Known.errs {X : Ctx} {e : EA} (he : e.Ok) (h : Known X (GW e)) {ρ : List (List Nat)} {σ : List Value} {a : Act} {w : World} {c : Cfg} (hr : Rel X c ρ σ a w) : Errs w e.s e.w :=
  ⟨(Known.cells h hr (p := (⟨2, 0, none⟩, errV e.s)) (by simp [GW])).1, (Known.cells h hr (p := (⟨3, 0, none⟩, errV e.w)) (by simp [GW])).1, he.sw,
    (Known.cells h hr (p := (e.s, .string (B tS))) (by simp [GW])).2, (Known.cells h hr (p := (e.w, .string (B tW))) (by simp [GW])).2⟩
@[reducible] def frow (l : List NW.Fld) : LO := .row 143 4 l.length (flds l)
theorem ownBlock_of_row {W : World} {n₀ sz n : Nat} {e : TypeId} {v : Value} {xs : List Value} (h : W.ownsRow n₀ e sz v n xs) : v.oneCell' = true ∧ ∃ fp : List Nat, fp.Nodup ∧ (∀ b ∈ fp, n₀ ≤ b ∧ b < W.heap.size) ∧ (∀ k, v.ownBlock = some k → k ∈ fp) ∧ W.ownsRow 0 e sz v n xs := by
  obtain ⟨h1, h2⟩ := h
  rcases h2 with ⟨rfl, h3⟩ | ⟨g, cap, cur, rfl, hle, hh, rest⟩
  · exact ⟨rfl, [], by simp, by simp, by simp [Value.ownBlock], h1, .inl ⟨rfl, h3⟩⟩
  · refine ⟨rfl, [g], by simp, fun b hb => ?_, fun k hk => ?_, h1, .inr ⟨g, cap, cur, rfl, Nat.zero_le _, hh, rest⟩⟩
    · simp at hb; subst hb; exact ⟨hle, (Array.getElem?_eq_some_iff.1 hh).1⟩
    · simp [Value.ownBlock] at hk; subst hk; simp
def parsedO : Option (List NW.Fld) → List LO
  | none => []
  | some l => [frow l]
def parsedV : Option (List NW.Fld) → SV
  | none => .tup [.c (.v (.slice none 0 0)), .c (.v (.bool false))]
  | some l => .tup [.c (.row 0), .c (.v (.bool true))]
theorem parse_ctrW {e : EA} (he : e.Ok) (s : List UInt8) (hs : s.length ≤ 1099511627776) : Ctr Tryd.prog (GW e) 109 [] [vv (.string (B s))] (fun os v => os = parsedO (NW.parse s) ∧ v = parsedV (NW.parse s)) := by
  intro X hP hG N hN ρ σ a w hr vals ha
  match vals, ha with
  | [v0], ha =>
    obtain rfl : v0 = .string (B s) := ha.1
    rw [hP]
    refine (parse_any s hs w e.s e.w (Known.errs he hG hr)).mono ?_
    rintro en W' ⟨hb, hR⟩
    cases hp : NW.parse s with
    | none =>
      rw [hp] at hR hN
      obtain rfl : en = _ := hR
      exact ⟨_, ⟨[], []⟩, ρ, σ, parsedV none, rfl, hr.below hb, ⟨[.slice none 0 0, .bool false], rfl, rfl, rfl, trivial⟩, hN _ _ ⟨rfl, rfl⟩⟩
    | some l =>
      rw [hp] at hR hN
      obtain ⟨v, rfl, hrow⟩ := hR
      obtain ⟨h1, fp, hnd, hfp, hk, h0⟩ := ownBlock_of_row hrow
      have hR := hr.push (o := frow l) (fp := fp) (v := v) hb (fun b hb => ⟨by have := (hfp b hb).1; omega, (hfp b hb).2⟩) hnd ⟨h0, hk⟩ h1
      refine ⟨_, ⟨[], [frow l]⟩, _, _, parsedV (some l), rfl, hR, ⟨[v, .bool true], rfl, ?_, rfl, trivial⟩, hN _ _ ⟨rfl, rfl⟩⟩
      show (σ ++ [v])[0]? = some v
      have : σ.length = 0 := by rw [hr.lenS]; rfl
      rw [List.getElem?_append_right (by omega), this]; rfl
theorem parse_ctr {e : EA} (he : e.Ok) (s : List UInt8) (hs : s.length ≤ 1099511627776) : Ctr Tryd.prog (GE e) 109 [] [vv (.string (B s))] (fun os v => os = parsedO (NW.parse s) ∧ v = parsedV (NW.parse s)) := Ctr.moreG (GW_sub e) (parse_ctrW he s hs)
end Go.Proofs.YtbdacbcpniegiaaDoor
namespace Go.Proofs.YtbdacbcpniegiaaDoor
open Go Go.RowKit Go.Proofs Go.Sx
set_option maxHeartbeats 4000000
set_option maxRecDepth 100000
set_option linter.unusedSimpArgs false
set_option linter.unusedVariables false
theorem ldG {X : Ctx} {p : Addr × Value} {N : Value → Prop} (h : X.wi.cell? p.1 = some p.2 ∧ p.1.block ∉ X.own ∧ loneStr X.wi p) (hN : N p.2) : p.1.block ∉ X.own ∧ ∃ v, X.wi.cell? p.1 = some v ∧ N v := ⟨h.2.1, _, h.1, hN⟩
theorem GE0 (e : EA) : ((⟨0, 0, none⟩ : Addr), errV e.k) ∈ GE e := by simp [GE]
theorem GE1 (e : EA) : ((⟨1, 0, none⟩ : Addr), errV e.f) ∈ GE e := by simp [GE]
theorem Ctr.ofV {P : Program} {G : List (Addr × Value)} {f : FuncId} {args : List Value} {r : Value} (h : ∀ w, (∀ p ∈ G, w.cell? p.1 = some p.2 ∧ loneStr w p) → Calls P f args.toArray w (fun e w' => e = .returned r ∧ Below w.heap.size w w')) :
    Ctr P G f [] (args.map vv) (fun os v => os = [] ∧ v = vv r) := by
  intro X hP hG N hN ρ σ a w hr vals ha
  have hv : vals = args := by
    have : ∀ {l : List Value} {m : List Value}, All2 (DV σ) (l.map vv) m → m = l := by
      intro l
      induction l with
      | nil => intro m h; cases m with | nil => rfl | cons _ _ => exact h.elim
      | cons x l ih => intro m h; cases m with | nil => exact h.elim | cons y m => rw [ih h.2]; congr 1; exact h.1
    exact this ha
  rw [hv, hP]
  refine (h w (fun p hp => ?_)).mono ?_
  · obtain ⟨h1, h2, h3⟩ := hG p hp
    refine ⟨hr.old h1 h2, ?_⟩
    unfold loneStr at h3 ⊢
    split
    · rename_i s hs
      rw [hs] at h3
      obtain ⟨cs, t, h4⟩ := h3
      exact ⟨cs, t, (hr.low.block _ (Array.getElem?_eq_some_iff.1 h4).1 h2).trans h4⟩
    · trivial
  · rintro en w' ⟨rfl, hb⟩
    exact ⟨r, ⟨[], []⟩, ρ, σ, vv r, rfl, hr.below hb, rfl, hN _ _ ⟨rfl, rfl⟩⟩
theorem isNil_ctr (b : Addr) : Ctr Tryd.prog [] 126 [] [vv .nilIface, vv (errV b)] (fun os v => os = [] ∧ v = vv (.bool false)) :=
  Ctr.ofV (args := [.nilIface, errV b]) fun w _ => (is_nil b w).mono fun e w' h => ⟨h.1, h.2 ▸ Below.refl _ _⟩
theorem isSame_ctr (b : Addr) : Ctr Tryd.prog [] 126 [] [vv (errV b), vv (errV b)] (fun os v => os = [] ∧ v = vv (.bool true)) :=
  Ctr.ofV (args := [errV b, errV b]) fun w _ => (is_same b w).mono fun e w' h => ⟨h.1, h.2 ▸ Below.refl _ _⟩
theorem isOther_ctr {e : EA} (he : e.Ok) : Ctr Tryd.prog (GE e) 126 [] [vv (errV e.f), vv (errV e.k)] (fun os v => os = [] ∧ v = vv (.bool false)) :=
  Ctr.ofV (args := [errV e.f, errV e.k]) fun w hw => by
    obtain ⟨_, c1, t1, h1⟩ := hw (e.f, .string (B tF)) (by simp [GE])
    obtain ⟨_, c2, t2, h2⟩ := hw (e.k, .string (B tK)) (by simp [GE])
    exact (is_other e.f e.k c1 c2 t1 t2 w he.kf.symm h1 h2).mono fun e w' h => ⟨h.1, h.2 ▸ Below.refl _ _⟩
def kindL (s : List UInt8) : Int := match s with
  | [] => 0
  | b :: _ => if b.toNat < 1 ∨ 4 < b.toNat then 0 else b.toNat
theorem bad_nil {e : EA} (he : e.Ok) : Ctr Tryd.prog (GE e) 73 [] [vv .nilIface] (fun os v => os = [] ∧ v = vv (.bool false)) := by
  intro X0 hP0 hG0 N0 hN0
  refine CallVC.inline (f := 73) (by rw [hP0]; exact Tryd.func73) rfl Tryd.ntmps73 rfl (by simp) ?_
  intro X K hU hnt hbl hK
  have hP : X.P = Tryd.prog := by rw [hU.P, hP0]
  have hG := hG0.under hU
  have hT : aggOf X.P 125 = some false ∧ szOf X.P 125 = some 1 ∧ calleeOk X.P 126 = true := by rw [hP]; exact ⟨Ty.ag125, Ty.sz125, Ty.co126⟩
  simp only [GA, ↓GB, List.filterMap_cons, eq_self, BEq.rfl, simprocAttr] at hbl ⊢
  repeat' (first
    | (refine SX.seqK ?_; intro N hN)
    | ((first | (refine SX.ops ?_)); simp only [GA, ↓GB, List.filterMap_cons, eq_self, BEq.rfl, simprocAttr, hnt, hT])
    | ((first | refine SX.skip ?_ | refine SX.exit ?_ | refine SX.label ?_); try simp only [GA, ↓GB, List.filterMap_cons, eq_self, BEq.rfl, simprocAttr])
    | (refine SX.cond rfl (fun hb => ?_) (fun hb => ?_) <;> ((first | cases hb | (simp only [decide_eq_true_eq, decide_eq_false_iff_not, beq_iff_eq, beq_eq_false_iff_ne, bne_iff_ne, Bool.and_eq_true, Bool.or_eq_true, Bool.not_eq_true', Bool.not_eq_false', Bool.and_eq_false_iff, Bool.or_eq_false_iff, Int.not_lt, Int.not_le] at hb) | skip) <;> (first | (exfalso; omega) | skip)))
    | (refine SX.ret ?_; try simp only [GA, ↓GB, List.filterMap_cons, eq_self, BEq.rfl, simprocAttr])
    | (refine hN _ ?_; clear hN N)
    | ((first | refine hK _ _ (FinI.ret3 ?_) | refine hK _ _ (FinI.nrm3 ?_)); simp only [GA, ↓GB, List.filterMap_cons, eq_self, BEq.rfl, simprocAttr, finP_s, hnt, hT]; refine Done.out ?_)
    | (clear hN N; first | (refine hN _ ?_; clear hN N) | (clear hN N; first | (refine hN _ ?_; clear hN N) | (clear hN N; first | (refine hN _ ?_; clear hN N) | (clear hN N; first | (refine hN _ ?_; clear hN N) | (clear hN N; first | (refine hN _ ?_; clear hN N) | (refine hN _ ?_; clear hN N))))))
    | (refine bif2.mk (fun hb => ?_) (fun hb => ?_) <;> (try simp only [hb, GA, ↓GB, List.filterMap_cons, eq_self, BEq.rfl, simprocAttr, hnt, hT]) <;> ((first | cases hb | (simp only [decide_eq_true_eq, decide_eq_false_iff_not, beq_iff_eq, beq_eq_false_iff_ne, bne_iff_ne, Bool.and_eq_true, Bool.or_eq_true, Bool.not_eq_true', Bool.not_eq_false', Bool.and_eq_false_iff, Bool.or_eq_false_iff, Int.not_lt, Int.not_le] at hb) | skip) <;> (first | (exfalso; omega) | skip)))
    | ((first | (refine Ctr.use (isNil_ctr e.k) hP ?_ [] ?_ rfl rfl ?_; (focus (intro p hp; cases hp)); (focus (refine LeR.of rfl trivial ?_ ?_ ?_ ?_ ?_ <;> first | decide | (simp only [GA, ↓GB, List.filterMap_cons, eq_self, BEq.rfl, simprocAttr, List.getD_cons_zero, List.getD_cons_succ, or_false, false_or, or_self, or_true, true_or, decide_true]; done))); intro os' s hR; obtain ⟨rfl, rfl⟩ := hR) | (refine Ctr.use (isNil_ctr e.f) hP ?_ [] ?_ rfl rfl ?_; (focus (intro p hp; cases hp)); (focus (refine LeR.of rfl trivial ?_ ?_ ?_ ?_ ?_ <;> first | decide | (simp only [GA, ↓GB, List.filterMap_cons, eq_self, BEq.rfl, simprocAttr, List.getD_cons_zero, List.getD_cons_succ, or_false, false_or, or_self, or_true, true_or, decide_true]; done))); intro os' s hR; obtain ⟨rfl, rfl⟩ := hR)); simp only [GA, ↓GB, List.filterMap_cons, eq_self, BEq.rfl, simprocAttr, hnt, hT])
    | (refine ldG (p := (⟨0, 0, none⟩, errV e.k)) (hG _ (GE0 e)) ?_; simp only [GA, ↓GB, List.filterMap_cons, eq_self, BEq.rfl, simprocAttr, hnt, hT])
    | (refine ldG (p := (⟨1, 0, none⟩, errV e.f)) (hG _ (GE1 e)) ?_; simp only [GA, ↓GB, List.filterMap_cons, eq_self, BEq.rfl, simprocAttr, hnt, hT])
    | (refine SX.block ?_)
    | (refine and_mk ?_ ?_; (focus first | decide | omega | rfl | assumption | (simp only [List.length_append, List.length_cons, List.length_nil, B_size]; omega) | (simp; done)))
    | (refine And.intro ?_ ?_))
  all_goals (try refine Done.mk ?_)
  all_goals exact hN0 _ _ ⟨rfl, rfl⟩
theorem bad_form {e : EA} (he : e.Ok) : Ctr Tryd.prog (GE e) 73 [] [vv (errV e.f)] (fun os v => os = [] ∧ v = vv (.bool true)) := by
  intro X0 hP0 hG0 N0 hN0
  refine CallVC.inline (f := 73) (by rw [hP0]; exact Tryd.func73) rfl Tryd.ntmps73 rfl (by simp) ?_
  intro X K hU hnt hbl hK
  have hP : X.P = Tryd.prog := by rw [hU.P, hP0]
  have hG := hG0.under hU
  have hT : aggOf X.P 125 = some false ∧ szOf X.P 125 = some 1 ∧ calleeOk X.P 126 = true := by rw [hP]; exact ⟨Ty.ag125, Ty.sz125, Ty.co126⟩
  simp only [GA, ↓GB, List.filterMap_cons, eq_self, BEq.rfl, simprocAttr] at hbl ⊢
  repeat' (first
    | (refine SX.seqK ?_; intro N hN)
    | ((first | (refine SX.ops ?_)); simp only [GA, ↓GB, List.filterMap_cons, eq_self, BEq.rfl, simprocAttr, hnt, hT])
    | ((first | refine SX.skip ?_ | refine SX.exit ?_ | refine SX.label ?_); try simp only [GA, ↓GB, List.filterMap_cons, eq_self, BEq.rfl, simprocAttr])
    | (refine SX.cond rfl (fun hb => ?_) (fun hb => ?_) <;> ((first | cases hb | (simp only [decide_eq_true_eq, decide_eq_false_iff_not, beq_iff_eq, beq_eq_false_iff_ne, bne_iff_ne, Bool.and_eq_true, Bool.or_eq_true, Bool.not_eq_true', Bool.not_eq_false', Bool.and_eq_false_iff, Bool.or_eq_false_iff, Int.not_lt, Int.not_le] at hb) | skip) <;> (first | (exfalso; omega) | skip)))
    | (refine SX.ret ?_; try simp only [GA, ↓GB, List.filterMap_cons, eq_self, BEq.rfl, simprocAttr])
    | (refine hN _ ?_; clear hN N)
    | ((first | refine hK _ _ (FinI.ret3 ?_) | refine hK _ _ (FinI.nrm3 ?_)); simp only [GA, ↓GB, List.filterMap_cons, eq_self, BEq.rfl, simprocAttr, finP_s, hnt, hT]; refine Done.out ?_)
    | (clear hN N; first | (refine hN _ ?_; clear hN N) | (clear hN N; first | (refine hN _ ?_; clear hN N) | (clear hN N; first | (refine hN _ ?_; clear hN N) | (clear hN N; first | (refine hN _ ?_; clear hN N) | (clear hN N; first | (refine hN _ ?_; clear hN N) | (refine hN _ ?_; clear hN N))))))
    | (refine bif2.mk (fun hb => ?_) (fun hb => ?_) <;> (try simp only [hb, GA, ↓GB, List.filterMap_cons, eq_self, BEq.rfl, simprocAttr, hnt, hT]) <;> ((first | cases hb | (simp only [decide_eq_true_eq, decide_eq_false_iff_not, beq_iff_eq, beq_eq_false_iff_ne, bne_iff_ne, Bool.and_eq_true, Bool.or_eq_true, Bool.not_eq_true', Bool.not_eq_false', Bool.and_eq_false_iff, Bool.or_eq_false_iff, Int.not_lt, Int.not_le] at hb) | skip) <;> (first | (exfalso; omega) | skip)))
    | ((first | (refine Ctr.use (isOther_ctr he) hP hG [] ?_ rfl rfl ?_; (focus (refine LeR.of rfl trivial ?_ ?_ ?_ ?_ ?_ <;> first | decide | (simp only [GA, ↓GB, List.filterMap_cons, eq_self, BEq.rfl, simprocAttr, List.getD_cons_zero, List.getD_cons_succ, or_false, false_or, or_self, or_true, true_or, decide_true]; done))); intro os' s hR; obtain ⟨rfl, rfl⟩ := hR) | (refine Ctr.use (isSame_ctr e.f) hP ?_ [] ?_ rfl rfl ?_; (focus (intro p hp; cases hp)); (focus (refine LeR.of rfl trivial ?_ ?_ ?_ ?_ ?_ <;> first | decide | (simp only [GA, ↓GB, List.filterMap_cons, eq_self, BEq.rfl, simprocAttr, List.getD_cons_zero, List.getD_cons_succ, or_false, false_or, or_self, or_true, true_or, decide_true]; done))); intro os' s hR; obtain ⟨rfl, rfl⟩ := hR)); simp only [GA, ↓GB, List.filterMap_cons, eq_self, BEq.rfl, simprocAttr, hnt, hT])
    | (refine ldG (p := (⟨0, 0, none⟩, errV e.k)) (hG _ (GE0 e)) ?_; simp only [GA, ↓GB, List.filterMap_cons, eq_self, BEq.rfl, simprocAttr, hnt, hT])
    | (refine ldG (p := (⟨1, 0, none⟩, errV e.f)) (hG _ (GE1 e)) ?_; simp only [GA, ↓GB, List.filterMap_cons, eq_self, BEq.rfl, simprocAttr, hnt, hT])
    | (refine SX.block ?_)
    | (refine and_mk ?_ ?_; (focus first | decide | omega | rfl | assumption | (simp only [List.length_append, List.length_cons, List.length_nil, B_size]; omega) | (simp; done)))
    | (refine And.intro ?_ ?_))
  all_goals (try refine Done.mk ?_)
  all_goals exact hN0 _ _ ⟨rfl, rfl⟩
theorem bad_kind {e : EA} (he : e.Ok) : Ctr Tryd.prog (GE e) 73 [] [vv (errV e.k)] (fun os v => os = [] ∧ v = vv (.bool true)) := by
  intro X0 hP0 hG0 N0 hN0
  refine CallVC.inline (f := 73) (by rw [hP0]; exact Tryd.func73) rfl Tryd.ntmps73 rfl (by simp) ?_
  intro X K hU hnt hbl hK
  have hP : X.P = Tryd.prog := by rw [hU.P, hP0]
  have hG := hG0.under hU
  have hT : aggOf X.P 125 = some false ∧ szOf X.P 125 = some 1 ∧ calleeOk X.P 126 = true := by rw [hP]; exact ⟨Ty.ag125, Ty.sz125, Ty.co126⟩
  simp only [GA, ↓GB, List.filterMap_cons, eq_self, BEq.rfl, simprocAttr] at hbl ⊢
  repeat' (first
    | (refine SX.seqK ?_; intro N hN)
    | ((first | (refine SX.ops ?_)); simp only [GA, ↓GB, List.filterMap_cons, eq_self, BEq.rfl, simprocAttr, hnt, hT])
    | ((first | refine SX.skip ?_ | refine SX.exit ?_ | refine SX.label ?_); try simp only [GA, ↓GB, List.filterMap_cons, eq_self, BEq.rfl, simprocAttr])
    | (refine SX.cond rfl (fun hb => ?_) (fun hb => ?_) <;> ((first | cases hb | (simp only [decide_eq_true_eq, decide_eq_false_iff_not, beq_iff_eq, beq_eq_false_iff_ne, bne_iff_ne, Bool.and_eq_true, Bool.or_eq_true, Bool.not_eq_true', Bool.not_eq_false', Bool.and_eq_false_iff, Bool.or_eq_false_iff, Int.not_lt, Int.not_le] at hb) | skip) <;> (first | (exfalso; omega) | skip)))
    | (refine SX.ret ?_; try simp only [GA, ↓GB, List.filterMap_cons, eq_self, BEq.rfl, simprocAttr])
    | (refine hN _ ?_; clear hN N)
    | ((first | refine hK _ _ (FinI.ret3 ?_) | refine hK _ _ (FinI.nrm3 ?_)); simp only [GA, ↓GB, List.filterMap_cons, eq_self, BEq.rfl, simprocAttr, finP_s, hnt, hT]; refine Done.out ?_)
    | (clear hN N; first | (refine hN _ ?_; clear hN N) | (clear hN N; first | (refine hN _ ?_; clear hN N) | (clear hN N; first | (refine hN _ ?_; clear hN N) | (clear hN N; first | (refine hN _ ?_; clear hN N) | (clear hN N; first | (refine hN _ ?_; clear hN N) | (refine hN _ ?_; clear hN N))))))
    | (refine bif2.mk (fun hb => ?_) (fun hb => ?_) <;> (try simp only [hb, GA, ↓GB, List.filterMap_cons, eq_self, BEq.rfl, simprocAttr, hnt, hT]) <;> ((first | cases hb | (simp only [decide_eq_true_eq, decide_eq_false_iff_not, beq_iff_eq, beq_eq_false_iff_ne, bne_iff_ne, Bool.and_eq_true, Bool.or_eq_true, Bool.not_eq_true', Bool.not_eq_false', Bool.and_eq_false_iff, Bool.or_eq_false_iff, Int.not_lt, Int.not_le] at hb) | skip) <;> (first | (exfalso; omega) | skip)))
    | ((first | (refine Ctr.use (isSame_ctr e.k) hP ?_ [] ?_ rfl rfl ?_; (focus (intro p hp; cases hp)); (focus (refine LeR.of rfl trivial ?_ ?_ ?_ ?_ ?_ <;> first | decide | (simp only [GA, ↓GB, List.filterMap_cons, eq_self, BEq.rfl, simprocAttr, List.getD_cons_zero, List.getD_cons_succ, or_false, false_or, or_self, or_true, true_or, decide_true]; done))); intro os' s hR; obtain ⟨rfl, rfl⟩ := hR)); simp only [GA, ↓GB, List.filterMap_cons, eq_self, BEq.rfl, simprocAttr, hnt, hT])
    | (refine ldG (p := (⟨0, 0, none⟩, errV e.k)) (hG _ (GE0 e)) ?_; simp only [GA, ↓GB, List.filterMap_cons, eq_self, BEq.rfl, simprocAttr, hnt, hT])
    | (refine ldG (p := (⟨1, 0, none⟩, errV e.f)) (hG _ (GE1 e)) ?_; simp only [GA, ↓GB, List.filterMap_cons, eq_self, BEq.rfl, simprocAttr, hnt, hT])
    | (refine SX.block ?_)
    | (refine and_mk ?_ ?_; (focus first | decide | omega | rfl | assumption | (simp only [List.length_append, List.length_cons, List.length_nil, B_size]; omega) | (simp; done)))
    | (refine And.intro ?_ ?_))
  all_goals (try refine Done.mk ?_)
  all_goals exact hN0 _ _ ⟨rfl, rfl⟩
theorem kind_any (s : List UInt8) (w : World) : Calls Tryd.prog 25 #[.string (B s)] w fun e w' => e = .returned (.int .i64 (kindL s)) ∧ Below w.heap.size w w' := by
  cases s with
  | nil =>
    refine calls_pureK (args := [.string (B [])]) w Tryd.func25 rfl Tryd.ntmps25 (by simp) ?_
    intro X K hX hK
    have hnt : X.nt = 18 := by rw [hX]
    have hwi : X.wi = w := by rw [hX]
    have hP : X.P = Tryd.prog := by rw [hX]
    have hown : X.own = [] := by rw [hX]
    have hbl : X.base.length = 0 := by rw [hX]; rfl
    clear hX
    have hT : isStrT X.P 9 = true ∧ X.P.underlying 5 = some (TypeDesc.int IntKind.u8) ∧ X.P.underlying 3 = some (TypeDesc.int IntKind.i64) ∧ isBytesT X.P 5 = false ∧ isStrT X.P 3 = false := by rw [hP]; exact ⟨Ty.is9, Tryd.underlying5, Tryd.underlying3, Ty.ib5, Ty.is3⟩
    repeat' (first
      | (refine SX.seqK ?_; intro N hN)
      | ((first | (refine SX.ops ?_)); simp only [GA, ↓GB, List.filterMap_cons, eq_self, BEq.rfl, simprocAttr, hnt, hT])
      | ((first | refine SX.skip ?_ | refine SX.exit ?_ | refine SX.label ?_); try simp only [GA, ↓GB, List.filterMap_cons, eq_self, BEq.rfl, simprocAttr])
      | (refine SX.cond rfl (fun hb => ?_) (fun hb => ?_) <;> ((first | cases hb | (simp only [decide_eq_true_eq, decide_eq_false_iff_not, beq_iff_eq, beq_eq_false_iff_ne, bne_iff_ne, Bool.and_eq_true, Bool.or_eq_true, Bool.not_eq_true', Bool.not_eq_false', Bool.and_eq_false_iff, Bool.or_eq_false_iff, Int.not_lt, Int.not_le] at hb) | skip) <;> (first | (exfalso; omega) | skip)))
      | (refine SX.ret ?_; try simp only [GA, ↓GB, List.filterMap_cons, eq_self, BEq.rfl, simprocAttr])
      | (refine hN _ ?_; clear hN N)
      | (refine hK _ _ (Fin.res rfl hown ?_); simp only [GA, ↓GB, List.filterMap_cons, eq_self, BEq.rfl, simprocAttr, f_a, f_b, f_n, f_c, f_B, f_v, f_g, f_0, f_1, f_2, hT, hwi]; intro w' hbel; refine Done.out ?_)
      | (clear hN N; first | (refine hN _ ?_; clear hN N) | (clear hN N; first | (refine hN _ ?_; clear hN N) | (clear hN N; first | (refine hN _ ?_; clear hN N) | (clear hN N; first | (refine hN _ ?_; clear hN N) | (clear hN N; first | (refine hN _ ?_; clear hN N) | (refine hN _ ?_; clear hN N))))))
      | (refine bif2.mk (fun hb => ?_) (fun hb => ?_) <;> (try simp only [hb, GA, ↓GB, List.filterMap_cons, eq_self, BEq.rfl, simprocAttr, hnt, hT]) <;> ((first | cases hb | (simp only [decide_eq_true_eq, decide_eq_false_iff_not, beq_iff_eq, beq_eq_false_iff_ne, bne_iff_ne, Bool.and_eq_true, Bool.or_eq_true, Bool.not_eq_true', Bool.not_eq_false', Bool.and_eq_false_iff, Bool.or_eq_false_iff, Int.not_lt, Int.not_le] at hb) | skip) <;> (first | (exfalso; omega) | skip)))
      | (refine SX.block ?_)
      | (refine and_mk ?_ ?_; (focus first | decide | omega | rfl | assumption | (simp only [List.length_append, List.length_cons, List.length_nil, B_size]; omega) | (simp; done)))
      | (refine And.intro ?_ ?_))
    all_goals (try refine Done.mk ?_)
    all_goals exact ⟨rfl, hbel⟩
  | cons b r =>
    refine calls_pureK (args := [.string (B (b :: r))]) w Tryd.func25 rfl Tryd.ntmps25 (by simp) ?_
    intro X K hX hK
    have hnt : X.nt = 18 := by rw [hX]
    have hwi : X.wi = w := by rw [hX]
    have hP : X.P = Tryd.prog := by rw [hX]
    have hown : X.own = [] := by rw [hX]
    have hbl : X.base.length = 0 := by rw [hX]; rfl
    clear hX
    have hT : isStrT X.P 9 = true ∧ X.P.underlying 5 = some (TypeDesc.int IntKind.u8) ∧ X.P.underlying 3 = some (TypeDesc.int IntKind.i64) ∧ isBytesT X.P 5 = false ∧ isStrT X.P 3 = false := by rw [hP]; exact ⟨Ty.is9, Tryd.underlying5, Tryd.underlying3, Ty.ib5, Ty.is3⟩
    repeat' (first
      | (refine SX.seqK ?_; intro N hN)
      | ((first | (refine SX.ops ?_)); simp only [GA, ↓GB, List.filterMap_cons, eq_self, BEq.rfl, simprocAttr, hnt, hT])
      | ((first | refine SX.skip ?_ | refine SX.exit ?_ | refine SX.label ?_); try simp only [GA, ↓GB, List.filterMap_cons, eq_self, BEq.rfl, simprocAttr])
      | (refine SX.cond rfl (fun hb => ?_) (fun hb => ?_) <;> ((first | cases hb | (simp only [decide_eq_true_eq, decide_eq_false_iff_not, beq_iff_eq, beq_eq_false_iff_ne, bne_iff_ne, Bool.and_eq_true, Bool.or_eq_true, Bool.not_eq_true', Bool.not_eq_false', Bool.and_eq_false_iff, Bool.or_eq_false_iff, Int.not_lt, Int.not_le] at hb) | skip) <;> (first | (exfalso; omega) | skip)))
      | (refine SX.ret ?_; try simp only [GA, ↓GB, List.filterMap_cons, eq_self, BEq.rfl, simprocAttr])
      | (refine hN _ ?_; clear hN N)
      | (refine hK _ _ (Fin.res rfl hown ?_); simp only [GA, ↓GB, List.filterMap_cons, eq_self, BEq.rfl, simprocAttr, f_a, f_b, f_n, f_c, f_B, f_v, f_g, f_0, f_1, f_2, hT, hwi]; intro w' hbel; refine Done.out ?_)
      | (clear hN N; first | (refine hN _ ?_; clear hN N) | (clear hN N; first | (refine hN _ ?_; clear hN N) | (clear hN N; first | (refine hN _ ?_; clear hN N) | (clear hN N; first | (refine hN _ ?_; clear hN N) | (clear hN N; first | (refine hN _ ?_; clear hN N) | (refine hN _ ?_; clear hN N))))))
      | (refine bif2.mk (fun hb => ?_) (fun hb => ?_) <;> (try simp only [hb, GA, ↓GB, List.filterMap_cons, eq_self, BEq.rfl, simprocAttr, hnt, hT]) <;> ((first | cases hb | (simp only [decide_eq_true_eq, decide_eq_false_iff_not, beq_iff_eq, beq_eq_false_iff_ne, bne_iff_ne, Bool.and_eq_true, Bool.or_eq_true, Bool.not_eq_true', Bool.not_eq_false', Bool.and_eq_false_iff, Bool.or_eq_false_iff, Int.not_lt, Int.not_le] at hb) | skip) <;> (first | (exfalso; omega) | skip)))
      | (refine SX.block ?_)
      | (refine and_mk ?_ ?_; (focus first | decide | omega | rfl | assumption | (simp only [List.length_append, List.length_cons, List.length_nil, B_size]; omega) | (simp; done)))
      | (refine And.intro ?_ ?_))
    all_goals (try refine Done.mk ?_)
    · exact ⟨by rw [kindL, if_pos (by omega)], hbel⟩
    · exact ⟨by rw [kindL, if_pos (by omega)], hbel⟩
    · exact ⟨by have := b.toNat_lt; rw [kindL, if_neg (by omega), wI64 (by omega) (by omega)], hbel⟩
end Go.Proofs.YtbdacbcpniegiaaDoor
namespace Go.Proofs.YtbdacbcpniegiaaDoor
open Go Go.RowKit Go.Proofs Go.Sx
set_option maxHeartbeats 4000000
set_option maxRecDepth 100000
set_option linter.unusedSimpArgs false
set_option linter.unusedVariables false
def takeP : List NW.Fld → Nat → Nat × Bool
  | [], n => (n, true)
  | f :: fs, n => if f.num = 1 then (if f.kind = 0 then takeP fs f.n else (n, false)) else takeP fs n
def okV (e : EA) (b : Bool) : Value := if b then .nilIface else errV e.f
theorem numBlk1 {X : Ctx} {code : Code} {c : Cfg} {K : Exit → Cfg → Prop} {id : Nat} (x : Nat) (h1 : (x : Int) = 1 → SX X code c (bx id K)) (h0 : ((x : Int) == 1) = false → SX X code c (bx id K)) : SX X (.block id code) c K := by
  refine SX.block ?_
  by_cases h : (x : Int) = 1
  · exact h1 h
  · exact h0 (by simpa using h)
instance : Inhabited NW.Fld := ⟨⟨0, 0, 0, []⟩⟩
theorem flds_cell (l : List NW.Fld) (i : Nat) (h : i < l.length) : ((flds l).drop (i * 4)).take 4 = fcells (l.getD i default) := by
  induction l generalizing i with
  | nil => simp at h
  | cons f l ih =>
    cases i with
    | zero => simp [flds, fcells]
    | succ i =>
      have : flds (f :: l) = fcells f ++ flds l := rfl
      rw [this, show (i + 1) * 4 = 4 + i * 4 by omega, ← List.drop_drop]
      simp only [List.getD_cons_succ]
      exact ih i (by simpa using h)
def takeR (s : List UInt8) (n : Nat) : Nat × Bool := match NW.parse s with
  | none => (n, false)
  | some l => takeP l n
@[reducible] def pingO (n : Nat) : List LO := [.map [(.int .i64 1, .agg [.v (.int .i64 0), .clo 124 [] [.loc 1 0]])], .cells [.loc 2 0] 136, .cells [.v (.int .u64 n)] 22]
theorem parse_len_aux : ∀ (n : Nat) (s : List UInt8) (l : List NW.Fld), s.length ≤ n → NW.parse s = some l → l.length ≤ s.length
  | n, [], l, _, h => by rw [NW.parse_nil] at h; cases h; simp
  | 0, b :: s, l, hn, h => by simp at hn
  | n + 1, b :: s, l, hn, h => by
    cases ht : NW.takeF (b :: s) with
    | none => rw [NW.parse_none (by simp) ht] at h; cases h
    | some fr =>
      obtain ⟨f, r⟩ := fr
      have hl := NW.takeF_len ht
      rw [NW.parse_some ht] at h
      cases hr : NW.parse r with
      | none => rw [hr] at h; cases h
      | some l' =>
        rw [hr] at h; cases h
        have := parse_len_aux n r l' (by simp only [List.length_cons] at hl hn; omega) hr
        simp only [List.length_cons] at *
        omega
theorem parse_len {s : List UInt8} {l : List NW.Fld} (h : NW.parse s = some l) : l.length ≤ s.length := parse_len_aux _ s l (Nat.le_refl _) h
theorem drop_getD {l : List NW.Fld} {i : Nat} (h : i < l.length) : l.drop i = l.getD i default :: l.drop (i + 1) := by
  rw [List.drop_eq_getElem_cons h]; congr 1
  rw [List.getD_eq_getElem?_getD, List.getElem?_eq_getElem h]; rfl
theorem takePing_ctr {e : EA} (he : e.Ok) (s : List UInt8) (hs : s.length ≤ 1099511627776) (n0 : Nat) : Ctr Tryd.prog (GE e) 76 (pingO n0) [vv (.string (B s)), .one (.c (.row 0))]
    (fun os v => os = pingO (takeR s n0).1 ∧ v = vv (okV e (takeR s n0).2)) := by
  have hk1 := True.intro
  have hpc := parse_ctr he s hs
  refine Ctr.less ?_
  cases hp : NW.parse s with
  | none =>
    rw [show takeR s n0 = (n0, false) by rw [takeR, hp]]
    rw [hp] at hpc; simp only [parsedO, parsedV] at hpc
    intro X0 hP0 hG0 N0 hN0
    refine CallVC.inline (f := 76) (by rw [hP0]; exact Tryd.func76) rfl Tryd.ntmps76 rfl (by simp) ?_
    intro X K hU hnt hbl hK
    have hP : X.P = Tryd.prog := by rw [hU.P, hP0]
    have hG := hG0.under hU
    have hT : calleeOk X.P 109 = true ∧ aggOf X.P 125 = some false ∧ szOf X.P 125 = some 1 ∧ X.P.underlying 171 = some (TypeDesc.slice 143) ∧ elemSz X.P 171 = some (143, 4) ∧ aggOf X.P 143 = some true ∧ szOf X.P 143 = some 4 ∧ zeroCells X.P 143 = some [(Value.int IntKind.i64 0), (Value.int IntKind.i64 0), (Value.int IntKind.u64 0), (Value.string { data := #[] })] ∧ fieldOff X.P 143 0 = some 0 ∧ aggOf X.P 3 = some false ∧ szOf X.P 3 = some 1 ∧ mapInf X.P 139 = some ((TypeDesc.int IntKind.i64), (Value.agg #[(Value.int IntKind.i64 0), Value.nilFunc])) ∧ zeroCells X.P 134 = some [(Value.int IntKind.i64 0), Value.nilFunc] ∧ szOf X.P 134 = some 2 ∧ fieldOff X.P 134 0 = some 0 ∧ fieldOff X.P 143 1 = some 1 ∧ fieldOff X.P 134 1 = some 1 ∧ aggOf X.P 132 = some false ∧ szOf X.P 132 = some 1 := by rw [hP]; exact ⟨Ty.co109, Ty.ag125, Ty.sz125, Tryd.underlying171, Ty.el171, Ty.ag143, Ty.sz143, Ty.ze143, Ty.fo143_0, Ty.ag3, Ty.sz3, Ty.mi139, Ty.ze134, Ty.sz134, Ty.fo134_0, Ty.fo143_1, Ty.fo134_1, Ty.ag132, Ty.sz132⟩
    simp only [GA, ↓GB, List.filterMap_cons, eq_self, BEq.rfl, simprocAttr] at hbl ⊢
    repeat' (first
      | (refine SX.seqK ?_; intro N hN)
      | ((first | (refine SX.ops ?_)); simp only [GA, ↓GB, List.filterMap_cons, eq_self, BEq.rfl, simprocAttr, hnt, hT])
      | ((first | refine SX.skip ?_ | refine SX.exit ?_ | refine SX.label ?_); try simp only [GA, ↓GB, List.filterMap_cons, eq_self, BEq.rfl, simprocAttr])
      | (refine SX.cond rfl (fun hb => ?_) (fun hb => ?_) <;> ((first | cases hb | (simp only [decide_eq_true_eq, decide_eq_false_iff_not, beq_iff_eq, beq_eq_false_iff_ne, bne_iff_ne, Bool.and_eq_true, Bool.or_eq_true, Bool.not_eq_true', Bool.not_eq_false', Bool.and_eq_false_iff, Bool.or_eq_false_iff, Int.not_lt, Int.not_le] at hb) | skip) <;> (first | (exfalso; omega) | skip)))
      | (refine SX.ret ?_; try simp only [GA, ↓GB, List.filterMap_cons, eq_self, BEq.rfl, simprocAttr])
      | (refine hN _ ?_; clear hN N)
      | ((first | refine hK _ _ (FinI.ret3 ?_) | refine hK _ _ (FinI.nrm3 ?_)); simp only [GA, ↓GB, List.filterMap_cons, eq_self, BEq.rfl, simprocAttr, finP_s, hnt, hT]; refine Done.out ?_)
      | (clear hN N; first | (refine hN _ ?_; clear hN N) | (clear hN N; first | (refine hN _ ?_; clear hN N) | (clear hN N; first | (refine hN _ ?_; clear hN N) | (clear hN N; first | (refine hN _ ?_; clear hN N) | (clear hN N; first | (refine hN _ ?_; clear hN N) | (refine hN _ ?_; clear hN N))))))
      | (refine bif2.mk (fun hb => ?_) (fun hb => ?_) <;> (try simp only [hb, GA, ↓GB, List.filterMap_cons, eq_self, BEq.rfl, simprocAttr, hnt, hT]) <;> ((first | cases hb | (simp only [decide_eq_true_eq, decide_eq_false_iff_not, beq_iff_eq, beq_eq_false_iff_ne, bne_iff_ne, Bool.and_eq_true, Bool.or_eq_true, Bool.not_eq_true', Bool.not_eq_false', Bool.and_eq_false_iff, Bool.or_eq_false_iff, Int.not_lt, Int.not_le] at hb) | skip) <;> (first | (exfalso; omega) | skip)))
      | ((first | (refine Ctr.use (hpc) hP hG [] ?_ rfl rfl ?_; (focus (refine LeR.of rfl trivial ?_ ?_ ?_ ?_ ?_ <;> first | decide | (simp only [GA, ↓GB, List.filterMap_cons, eq_self, BEq.rfl, simprocAttr, List.getD_cons_zero, List.getD_cons_succ, or_false, false_or, or_self, or_true, true_or, decide_true]; done))); intro os' s hR; obtain ⟨rfl, rfl⟩ := hR)); simp only [GA, ↓GB, List.filterMap_cons, eq_self, BEq.rfl, simprocAttr, hnt, hT])
      | (refine ldG (p := (⟨1, 0, none⟩, errV e.f)) (hG _ (GE1 e)) ?_; simp only [GA, ↓GB, List.filterMap_cons, eq_self, BEq.rfl, simprocAttr, hnt, hT])
      | (refine SX.block ?_)
      | (refine and_mk ?_ ?_; (focus first | decide | omega | rfl | assumption | (simp only [List.length_append, List.length_cons, List.length_nil, B_size]; omega) | (simp; done)))
      | (refine And.intro ?_ ?_))
    all_goals (try refine Done.mk ?_)
    all_goals ((refine hN0 _ _ ⟨[0, 1, 2], _, _, ?_, ?_, ?_, ⟨rfl, rfl⟩⟩; (focus exact LeR.of rfl trivial (by simp only [GA, ↓GB, List.filterMap_cons, eq_self, BEq.rfl, simprocAttr, List.getD_cons_zero, List.getD_cons_succ, or_false, false_or, or_self, or_true, true_or, decide_true]) (by decide) rfl rfl rfl); rotate_left; (focus rfl)); rfl)
  | some l =>
    rw [show takeR s n0 = takeP l n0 by rw [takeR, hp]]
    have hll := parse_len hp
    rw [hp] at hpc; simp only [parsedO, parsedV] at hpc
    intro X0 hP0 hG0 N0 hN0
    refine CallVC.inline (f := 76) (by rw [hP0]; exact Tryd.func76) rfl Tryd.ntmps76 rfl (by simp) ?_
    intro X K hU hnt hbl hK
    have hP : X.P = Tryd.prog := by rw [hU.P, hP0]
    have hG := hG0.under hU
    have hT : calleeOk X.P 109 = true ∧ aggOf X.P 125 = some false ∧ szOf X.P 125 = some 1 ∧ X.P.underlying 171 = some (TypeDesc.slice 143) ∧ elemSz X.P 171 = some (143, 4) ∧ aggOf X.P 143 = some true ∧ szOf X.P 143 = some 4 ∧ zeroCells X.P 143 = some [(Value.int IntKind.i64 0), (Value.int IntKind.i64 0), (Value.int IntKind.u64 0), (Value.string { data := #[] })] ∧ fieldOff X.P 143 0 = some 0 ∧ aggOf X.P 3 = some false ∧ szOf X.P 3 = some 1 ∧ mapInf X.P 139 = some ((TypeDesc.int IntKind.i64), (Value.agg #[(Value.int IntKind.i64 0), Value.nilFunc])) ∧ zeroCells X.P 134 = some [(Value.int IntKind.i64 0), Value.nilFunc] ∧ szOf X.P 134 = some 2 ∧ fieldOff X.P 134 0 = some 0 ∧ fieldOff X.P 143 1 = some 1 ∧ fieldOff X.P 134 1 = some 1 ∧ aggOf X.P 132 = some false ∧ szOf X.P 132 = some 1 := by rw [hP]; exact ⟨Ty.co109, Ty.ag125, Ty.sz125, Tryd.underlying171, Ty.el171, Ty.ag143, Ty.sz143, Ty.ze143, Ty.fo143_0, Ty.ag3, Ty.sz3, Ty.mi139, Ty.ze134, Ty.sz134, Ty.fo134_0, Ty.fo143_1, Ty.fo134_1, Ty.ag132, Ty.sz132⟩
    simp only [GA, ↓GB, List.filterMap_cons, eq_self, BEq.rfl, simprocAttr] at hbl ⊢
    have hk9 : calleeOk X.P 124 = true := by rw [hP]; kernel_rfl
    have hnt1 := True.intro; have hT1 := True.intro; have hU1P := True.intro
    repeat' (first
      | (refine numBlk1 (id := 1) (l.getD i default).num (fun hk1 => ?_) (fun hk1 => ?_))
      | (refine SX.seqK ?_; intro N hN)
      | ((first | (refine SX.ops ?_)); simp only [GA, ↓GB, List.filterMap_cons, eq_self, BEq.rfl, simprocAttr, hnt, hT, hnt1, hT1, hU1P, hk1, hk9])
      | ((first | refine SX.skip ?_ | refine SX.exit ?_ | refine SX.label ?_); try simp only [GA, ↓GB, List.filterMap_cons, eq_self, BEq.rfl, simprocAttr])
      | (refine SX.cond rfl (fun hb => ?_) (fun hb => ?_) <;> ((first | cases hb | (simp only [decide_eq_true_eq, decide_eq_false_iff_not, beq_iff_eq, beq_eq_false_iff_ne, bne_iff_ne, Bool.and_eq_true, Bool.or_eq_true, Bool.not_eq_true', Bool.not_eq_false', Bool.and_eq_false_iff, Bool.or_eq_false_iff, Int.not_lt, Int.not_le] at hb) | skip) <;> (first | (exfalso; omega) | skip)))
      | (refine SX.ret ?_; try simp only [GA, ↓GB, List.filterMap_cons, eq_self, BEq.rfl, simprocAttr])
      | (refine hN _ ?_; clear hN N)
      | ((first | refine hK1 _ _ (FinI.ret3 ?_) | refine hK1 _ _ (FinI.nrm3 ?_)); (repeat (clear hN N)); clear hK1 K1; simp only [GA, ↓GB, List.filterMap_cons, eq_self, BEq.rfl, simprocAttr, finP_s, hnt, hT, hnt1, hT1, hU1P, hk1, hk9])
      | ((first | refine hK _ _ (FinI.ret3 ?_) | refine hK _ _ (FinI.nrm3 ?_)); simp only [GA, ↓GB, List.filterMap_cons, eq_self, BEq.rfl, simprocAttr, finP_s, hnt, hT, hnt1, hT1, hU1P, hk1, hk9]; refine Done.out ?_)
      | (clear hN N; first | (refine hN _ ?_; clear hN N) | (clear hN N; first | (refine hN _ ?_; clear hN N) | (clear hN N; first | (refine hN _ ?_; clear hN N) | (clear hN N; first | (refine hN _ ?_; clear hN N) | (clear hN N; first | (refine hN _ ?_; clear hN N) | (refine hN _ ?_; clear hN N))))))
      | (refine bif2.mk (fun hb => ?_) (fun hb => ?_) <;> (try simp only [hb, GA, ↓GB, List.filterMap_cons, eq_self, BEq.rfl, simprocAttr, hnt, hT, hnt1, hT1, hU1P, hk1, hk9]) <;> ((first | cases hb | (simp only [decide_eq_true_eq, decide_eq_false_iff_not, beq_iff_eq, beq_eq_false_iff_ne, bne_iff_ne, Bool.and_eq_true, Bool.or_eq_true, Bool.not_eq_true', Bool.not_eq_false', Bool.and_eq_false_iff, Bool.or_eq_false_iff, Int.not_lt, Int.not_le] at hb) | skip) <;> (first | (exfalso; omega) | skip)))
      | ((first | (refine Ctr.use (hpc) hP hG [] ?_ rfl rfl ?_; (focus (refine LeR.of rfl trivial ?_ ?_ ?_ ?_ ?_ <;> first | decide | (simp only [GA, ↓GB, List.filterMap_cons, eq_self, BEq.rfl, simprocAttr, List.getD_cons_zero, List.getD_cons_succ, or_false, false_or, or_self, or_true, true_or, decide_true]; done))); intro os' s hR; obtain ⟨rfl, rfl⟩ := hR)); simp only [GA, ↓GB, List.filterMap_cons, eq_self, BEq.rfl, simprocAttr, hnt, hT, hnt1, hT1, hU1P, hk1, hk9])
      | (refine CallVC.inline (f := 124) ?_ rfl Tryd.ntmps124 rfl ?_ ?_; (focus rw [hP]; exact Tryd.func124); (focus simp); have hT1 : aggOf X.P 136 = some false ∧ szOf X.P 136 = some 1 ∧ fieldOff X.P 143 2 = some 2 ∧ aggOf X.P 22 = some false ∧ szOf X.P 22 = some 1 := (by rw [hP]; exact ⟨Ty.ag136, Ty.sz136, Ty.fo143_2, Ty.ag22, Ty.sz22⟩); intro X1 K1 hU1 hnt1 hbl1 hK1; have hU1P := hU1.P; simp only [GA, ↓GB, List.filterMap_cons, eq_self, BEq.rfl, simprocAttr] at hbl1 ⊢)
      | (refine ldG (p := (⟨1, 0, none⟩, errV e.f)) (hG _ (GE1 e)) ?_; simp only [GA, ↓GB, List.filterMap_cons, eq_self, BEq.rfl, simprocAttr, hnt, hT])
      | (refine ⟨fcells (l.getD i default), rfl, flds_cell _ _ (by omega), ?_⟩ <;> simp only [fcells, GA, ↓GB, List.filterMap_cons, eq_self, BEq.rfl, simprocAttr, hnt, hT, hk1])
      | (refine SX.loop (ι := { p : Nat × Nat // p.1 ≤ l.length ∧ takeP l n0 = takeP (l.drop p.1) p.2 }) (fun p => ⟨[(1, .one (.c (.row 0))), (19, .one (.c (.row 3))), (20, vv (.int .i64 l.length)), (21, vv (.int .i64 p.1.1))], [.map [(.int .i64 1, .agg [.v (.int .i64 0), .clo 124 [] [.loc 1 0]])], .cells [.loc 2 0] 136, .cells [.v (.int .u64 p.1.2)] 22, frow l]⟩) (fun p => l.length - p.1.1) ⟨(0, n0), Nat.zero_le _, rfl⟩ ⟨[0, 1, 2, 3], (LeR.of (by rw [hbl]; decide) (by simp only [GA, ↓GB, List.filterMap_cons, eq_self, BEq.rfl, simprocAttr, List.getD_cons_zero, List.getD_cons_succ, or_false, false_or, or_self, or_true, true_or, decide_true]; try (rfl)) (by simp only [GA, ↓GB, List.filterMap_cons, eq_self, BEq.rfl, simprocAttr, List.getD_cons_zero, List.getD_cons_succ, or_false, false_or, or_self, or_true, true_or, decide_true]; try (rfl)) (by decide) (by simp only [GA, ↓GB, List.filterMap_cons, eq_self, BEq.rfl, simprocAttr, List.getD_cons_zero, List.getD_cons_succ, or_false, false_or, or_self, or_true, true_or, decide_true]) (by simp only [GA, ↓GB, List.filterMap_cons, eq_self, BEq.rfl, simprocAttr, List.getD_cons_zero, List.getD_cons_succ, or_false, false_or, or_self, or_true, true_or, decide_true]) (by simp only [GA, ↓GB, List.filterMap_cons, eq_self, BEq.rfl, simprocAttr, List.getD_cons_zero, List.getD_cons_succ, or_false, false_or, or_self, or_true, true_or, decide_true]))⟩ ?_ <;> rintro ⟨⟨i, m⟩, hi, hm⟩ <;> simp only [] at hi hm ⊢)
      | ((first | (refine Ctr.use (hpc) (hU1P.trans hP) (hG.under hU1) [] ?_ rfl rfl ?_; (focus (refine LeR.of rfl trivial ?_ ?_ ?_ ?_ ?_ <;> first | decide | (simp only [GA, ↓GB, List.filterMap_cons, eq_self, BEq.rfl, simprocAttr, List.getD_cons_zero, List.getD_cons_succ, or_false, false_or, or_self, or_true, true_or, decide_true]; done))); intro os' s hR; obtain ⟨rfl, rfl⟩ := hR)); simp only [GA, ↓GB, List.filterMap_cons, eq_self, BEq.rfl, simprocAttr, hnt, hT, hnt1, hT1, hU1P, hk1, hk9])
      | (refine SX.block ?_)
      | (refine and_mk ?_ ?_; (focus first | decide | omega | rfl | assumption | (simp only [List.length_append, List.length_cons, List.length_nil, B_size]; omega) | (simp; done)))
      | (refine And.intro ?_ ?_))
    all_goals (try refine Done.mk ?_)
    · have hmm : takeP l n0 = (m, false) := by rw [hm, drop_getD (by omega), takeP, if_pos (by omega), if_neg (by omega)]
      rw [hmm] at hN0
      (refine hN0 _ _ ⟨[0, 1, 2], _, _, ?_, ?_, ?_, ⟨rfl, rfl⟩⟩; (focus exact LeR.of rfl trivial (by simp only [GA, ↓GB, List.filterMap_cons, eq_self, BEq.rfl, simprocAttr, List.getD_cons_zero, List.getD_cons_succ, or_false, false_or, or_self, or_true, true_or, decide_true]) (by decide) rfl rfl rfl); rotate_left; (focus rfl))
      rfl
    · have hk0 : (l.getD i default).kind = 0 := by have := bne_eq_false_iff_eq.1 hb; omega
      refine ⟨⟨(i + 1, (l.getD i default).n), by show i + 1 ≤ l.length; omega, by rw [hm, drop_getD (by omega), takeP, if_pos (by omega), if_pos hk0]⟩, [0, 1, 2, 3], (LeR.of (by rw [hbl]; decide) (by simp only [GA, ↓GB, List.filterMap_cons, eq_self, BEq.rfl, simprocAttr, List.getD_cons_zero, List.getD_cons_succ, or_false, false_or, or_self, or_true, true_or, decide_true]; try (first | (rw [wI64 (by omega) (by omega)]; rfl) | rfl)) (by simp only [GA, ↓GB, List.filterMap_cons, eq_self, BEq.rfl, simprocAttr, List.getD_cons_zero, List.getD_cons_succ, or_false, false_or, or_self, or_true, true_or, decide_true]; try (first | (rw [wI64 (by omega) (by omega)]; rfl) | rfl)) (by decide) (by simp only [GA, ↓GB, List.filterMap_cons, eq_self, BEq.rfl, simprocAttr, List.getD_cons_zero, List.getD_cons_succ, or_false, false_or, or_self, or_true, true_or, decide_true]) (by simp only [GA, ↓GB, List.filterMap_cons, eq_self, BEq.rfl, simprocAttr, List.getD_cons_zero, List.getD_cons_succ, or_false, false_or, or_self, or_true, true_or, decide_true]) (by simp only [GA, ↓GB, List.filterMap_cons, eq_self, BEq.rfl, simprocAttr, List.getD_cons_zero, List.getD_cons_succ, or_false, false_or, or_self, or_true, true_or, decide_true])), by show l.length - (i + 1) < l.length - i; omega⟩
    · have hk0 : ¬ (l.getD i default).num = 1 := fun h => by rw [h] at hk1; cases hk1
      refine ⟨⟨(i + 1, m), by show i + 1 ≤ l.length; omega, by rw [hm, drop_getD (by omega), takeP, if_neg hk0]⟩, [0, 1, 2, 3], (LeR.of (by rw [hbl]; decide) (by simp only [GA, ↓GB, List.filterMap_cons, eq_self, BEq.rfl, simprocAttr, List.getD_cons_zero, List.getD_cons_succ, or_false, false_or, or_self, or_true, true_or, decide_true]; try (first | (rw [wI64 (by omega) (by omega)]; rfl) | rfl)) (by simp only [GA, ↓GB, List.filterMap_cons, eq_self, BEq.rfl, simprocAttr, List.getD_cons_zero, List.getD_cons_succ, or_false, false_or, or_self, or_true, true_or, decide_true]; try (first | (rw [wI64 (by omega) (by omega)]; rfl) | rfl)) (by decide) (by simp only [GA, ↓GB, List.filterMap_cons, eq_self, BEq.rfl, simprocAttr, List.getD_cons_zero, List.getD_cons_succ, or_false, false_or, or_self, or_true, true_or, decide_true]) (by simp only [GA, ↓GB, List.filterMap_cons, eq_self, BEq.rfl, simprocAttr, List.getD_cons_zero, List.getD_cons_succ, or_false, false_or, or_self, or_true, true_or, decide_true]) (by simp only [GA, ↓GB, List.filterMap_cons, eq_self, BEq.rfl, simprocAttr, List.getD_cons_zero, List.getD_cons_succ, or_false, false_or, or_self, or_true, true_or, decide_true])), by show l.length - (i + 1) < l.length - i; omega⟩
    · have hmm : takeP l n0 = (m, true) := by rw [hm, List.drop_of_length_le (by omega), takeP]
      rw [hmm] at hN0
      (refine hN0 _ _ ⟨[0, 1, 2], _, _, ?_, ?_, ?_, ⟨rfl, rfl⟩⟩; (focus exact LeR.of rfl trivial (by simp only [GA, ↓GB, List.filterMap_cons, eq_self, BEq.rfl, simprocAttr, List.getD_cons_zero, List.getD_cons_succ, or_false, false_or, or_self, or_true, true_or, decide_true]) (by decide) rfl rfl rfl); rotate_left; (focus rfl))
      rfl
end Go.Proofs.YtbdacbcpniegiaaDoor
namespace Go.Proofs.YtbdacbcpniegiaaDoor
open Go Go.RowKit Go.Proofs Go.Sx
set_option maxHeartbeats 4000000
set_option maxRecDepth 100000
set_option linter.unusedSimpArgs false
set_option linter.unusedVariables false
theorem isNaN_int (a : Int) (w : World) : Calls Tryd.prog 148 #[.int .i64 a] w fun e w' => e = .returned (.bool false) ∧ Below w.heap.size w w' := by
  refine calls_pureK (args := [.int .i64 a]) w Tryd.func148 rfl Tryd.ntmps148 (by simp) ?_
  intro X K hX hK
  have hnt : X.nt = 6 := by rw [hX]
  have hwi : X.wi = w := by rw [hX]
  have hP : X.P = Tryd.prog := by rw [hX]
  have hown : X.own = [] := by rw [hX]
  have hbl : X.base.length = 0 := by rw [hX]; rfl
  clear hX
  have hT : True := trivial
  repeat' (first
    | (refine SX.seqK ?_; intro N hN)
    | ((first | (refine SX.ops ?_)); simp only [GA, ↓GB, List.filterMap_cons, eq_self, BEq.rfl, simprocAttr, hnt, hT])
    | ((first | refine SX.skip ?_ | refine SX.exit ?_ | refine SX.label ?_); try simp only [GA, ↓GB, List.filterMap_cons, eq_self, BEq.rfl, simprocAttr])
    | (refine SX.cond rfl (fun hb => ?_) (fun hb => ?_) <;> ((first | cases hb | (simp only [decide_eq_true_eq, decide_eq_false_iff_not, beq_iff_eq, beq_eq_false_iff_ne, bne_iff_ne, Bool.and_eq_true, Bool.or_eq_true, Bool.not_eq_true', Bool.not_eq_false', Bool.and_eq_false_iff, Bool.or_eq_false_iff, Int.not_lt, Int.not_le] at hb) | skip) <;> (first | (exfalso; omega) | skip)))
    | (refine SX.ret ?_; try simp only [GA, ↓GB, List.filterMap_cons, eq_self, BEq.rfl, simprocAttr])
    | (refine hN _ ?_; clear hN N)
    | (refine hK _ _ (Fin.res rfl hown ?_); simp only [GA, ↓GB, List.filterMap_cons, eq_self, BEq.rfl, simprocAttr, f_a, f_b, f_n, f_c, f_B, f_v, f_g, f_0, f_1, f_2, hT, hwi]; intro w' hbel; refine Done.out ?_)
    | (clear hN N; first | (refine hN _ ?_; clear hN N) | (clear hN N; first | (refine hN _ ?_; clear hN N) | (clear hN N; first | (refine hN _ ?_; clear hN N) | (clear hN N; first | (refine hN _ ?_; clear hN N) | (clear hN N; first | (refine hN _ ?_; clear hN N) | (refine hN _ ?_; clear hN N))))))
    | (refine bif2.mk (fun hb => ?_) (fun hb => ?_) <;> (try simp only [hb, GA, ↓GB, List.filterMap_cons, eq_self, BEq.rfl, simprocAttr, hnt, hT]) <;> ((first | cases hb | (simp only [decide_eq_true_eq, decide_eq_false_iff_not, beq_iff_eq, beq_eq_false_iff_ne, bne_iff_ne, Bool.and_eq_true, Bool.or_eq_true, Bool.not_eq_true', Bool.not_eq_false', Bool.and_eq_false_iff, Bool.or_eq_false_iff, Int.not_lt, Int.not_le] at hb) | skip) <;> (first | (exfalso; omega) | skip)))
    | (refine SX.block ?_)
    | (refine and_mk ?_ ?_; (focus first | decide | omega | rfl | assumption | (simp only [List.length_append, List.length_cons, List.length_nil, B_size]; omega) | (simp; done)))
    | (refine And.intro ?_ ?_))
  all_goals (try refine Done.mk ?_)
  exact hbel
theorem isNaN_u64 (a : Int) (w : World) : Calls Tryd.prog 133 #[.int .u64 a] w fun e w' => e = .returned (.bool false) ∧ Below w.heap.size w w' := by
  refine calls_pureK (args := [.int .u64 a]) w Tryd.func133 rfl Tryd.ntmps133 (by simp) ?_
  intro X K hX hK
  have hnt : X.nt = 6 := by rw [hX]
  have hwi : X.wi = w := by rw [hX]
  have hP : X.P = Tryd.prog := by rw [hX]
  have hown : X.own = [] := by rw [hX]
  have hbl : X.base.length = 0 := by rw [hX]; rfl
  clear hX
  have hT : True := trivial
  repeat' (first
    | (refine SX.seqK ?_; intro N hN)
    | ((first | (refine SX.ops ?_)); simp only [GA, ↓GB, List.filterMap_cons, eq_self, BEq.rfl, simprocAttr, hnt, hT])
    | ((first | refine SX.skip ?_ | refine SX.exit ?_ | refine SX.label ?_); try simp only [GA, ↓GB, List.filterMap_cons, eq_self, BEq.rfl, simprocAttr])
    | (refine SX.cond rfl (fun hb => ?_) (fun hb => ?_) <;> ((first | cases hb | (simp only [decide_eq_true_eq, decide_eq_false_iff_not, beq_iff_eq, beq_eq_false_iff_ne, bne_iff_ne, Bool.and_eq_true, Bool.or_eq_true, Bool.not_eq_true', Bool.not_eq_false', Bool.and_eq_false_iff, Bool.or_eq_false_iff, Int.not_lt, Int.not_le] at hb) | skip) <;> (first | (exfalso; omega) | skip)))
    | (refine SX.ret ?_; try simp only [GA, ↓GB, List.filterMap_cons, eq_self, BEq.rfl, simprocAttr])
    | (refine hN _ ?_; clear hN N)
    | (refine hK _ _ (Fin.res rfl hown ?_); simp only [GA, ↓GB, List.filterMap_cons, eq_self, BEq.rfl, simprocAttr, f_a, f_b, f_n, f_c, f_B, f_v, f_g, f_0, f_1, f_2, hT, hwi]; intro w' hbel; refine Done.out ?_)
    | (clear hN N; first | (refine hN _ ?_; clear hN N) | (clear hN N; first | (refine hN _ ?_; clear hN N) | (clear hN N; first | (refine hN _ ?_; clear hN N) | (clear hN N; first | (refine hN _ ?_; clear hN N) | (clear hN N; first | (refine hN _ ?_; clear hN N) | (refine hN _ ?_; clear hN N))))))
    | (refine bif2.mk (fun hb => ?_) (fun hb => ?_) <;> (try simp only [hb, GA, ↓GB, List.filterMap_cons, eq_self, BEq.rfl, simprocAttr, hnt, hT]) <;> ((first | cases hb | (simp only [decide_eq_true_eq, decide_eq_false_iff_not, beq_iff_eq, beq_eq_false_iff_ne, bne_iff_ne, Bool.and_eq_true, Bool.or_eq_true, Bool.not_eq_true', Bool.not_eq_false', Bool.and_eq_false_iff, Bool.or_eq_false_iff, Int.not_lt, Int.not_le] at hb) | skip) <;> (first | (exfalso; omega) | skip)))
    | (refine SX.block ?_)
    | (refine and_mk ?_ ?_; (focus first | decide | omega | rfl | assumption | (simp only [List.length_append, List.length_cons, List.length_nil, B_size]; omega) | (simp; done)))
    | (refine And.intro ?_ ?_))
  all_goals (try refine Done.mk ?_)
  exact hbel
theorem isNaN_str (s : List UInt8) (w : World) : Calls Tryd.prog 149 #[.string (B s)] w fun e w' => e = .returned (.bool false) ∧ Below w.heap.size w w' := by
  refine calls_pureK (args := [.string (B s)]) w Tryd.func149 rfl Tryd.ntmps149 (by simp) ?_
  intro X K hX hK
  have hnt : X.nt = 6 := by rw [hX]
  have hwi : X.wi = w := by rw [hX]
  have hP : X.P = Tryd.prog := by rw [hX]
  have hown : X.own = [] := by rw [hX]
  have hbl : X.base.length = 0 := by rw [hX]; rfl
  clear hX
  have hT : True := trivial
  repeat' (first
    | (refine SX.seqK ?_; intro N hN)
    | ((first | (refine SX.ops ?_)); simp only [GA, ↓GB, List.filterMap_cons, eq_self, BEq.rfl, simprocAttr, hnt, hT])
    | ((first | refine SX.skip ?_ | refine SX.exit ?_ | refine SX.label ?_); try simp only [GA, ↓GB, List.filterMap_cons, eq_self, BEq.rfl, simprocAttr])
    | (refine SX.cond rfl (fun hb => ?_) (fun hb => ?_) <;> ((first | cases hb | (simp only [decide_eq_true_eq, decide_eq_false_iff_not, beq_iff_eq, beq_eq_false_iff_ne, bne_iff_ne, Bool.and_eq_true, Bool.or_eq_true, Bool.not_eq_true', Bool.not_eq_false', Bool.and_eq_false_iff, Bool.or_eq_false_iff, Int.not_lt, Int.not_le] at hb) | skip) <;> (first | (exfalso; omega) | skip)))
    | (refine SX.ret ?_; try simp only [GA, ↓GB, List.filterMap_cons, eq_self, BEq.rfl, simprocAttr])
    | (refine hN _ ?_; clear hN N)
    | (refine hK _ _ (Fin.res rfl hown ?_); simp only [GA, ↓GB, List.filterMap_cons, eq_self, BEq.rfl, simprocAttr, f_a, f_b, f_n, f_c, f_B, f_v, f_g, f_0, f_1, f_2, hT, hwi]; intro w' hbel; refine Done.out ?_)
    | (clear hN N; first | (refine hN _ ?_; clear hN N) | (clear hN N; first | (refine hN _ ?_; clear hN N) | (clear hN N; first | (refine hN _ ?_; clear hN N) | (clear hN N; first | (refine hN _ ?_; clear hN N) | (clear hN N; first | (refine hN _ ?_; clear hN N) | (refine hN _ ?_; clear hN N))))))
    | (refine bif2.mk (fun hb => ?_) (fun hb => ?_) <;> (try simp only [hb, GA, ↓GB, List.filterMap_cons, eq_self, BEq.rfl, simprocAttr, hnt, hT]) <;> ((first | cases hb | (simp only [decide_eq_true_eq, decide_eq_false_iff_not, beq_iff_eq, beq_eq_false_iff_ne, bne_iff_ne, Bool.and_eq_true, Bool.or_eq_true, Bool.not_eq_true', Bool.not_eq_false', Bool.and_eq_false_iff, Bool.or_eq_false_iff, Int.not_lt, Int.not_le] at hb) | skip) <;> (first | (exfalso; omega) | skip)))
    | (refine SX.block ?_)
    | (refine and_mk ?_ ?_; (focus first | decide | omega | rfl | assumption | (simp only [List.length_append, List.length_cons, List.length_nil, B_size]; omega) | (simp; done)))
    | (refine And.intro ?_ ?_))
  all_goals (try refine Done.mk ?_)
  exact hbel
theorem compare_int (a b : Int) (w : World) : Calls Tryd.prog 120 #[.int .i64 a, .int .i64 b] w fun e w' => e = .returned (.int .i64 (cmpI a b)) ∧ Below w.heap.size w w' := by
  refine calls_pureK (args := [.int .i64 a, .int .i64 b]) w Tryd.func120 rfl Tryd.ntmps120 (by simp) ?_
  intro X K hX hK
  have hnt : X.nt = 20 := by rw [hX]
  have hwi : X.wi = w := by rw [hX]
  have hP : X.P = Tryd.prog := by rw [hX]
  have hown : X.own = [] := by rw [hX]
  have hbl : X.base.length = 0 := by rw [hX]; rfl
  clear hX
  have hT : calleeOk X.P 148 = true := by rw [hP]; exact Ty.co148
  repeat' (first
    | (refine SX.seqK ?_; intro N hN)
    | ((first | (refine SX.ops ?_)); simp only [GA, ↓GB, List.filterMap_cons, eq_self, BEq.rfl, simprocAttr, hnt, hT])
    | ((first | refine SX.skip ?_ | refine SX.exit ?_ | refine SX.label ?_); try simp only [GA, ↓GB, List.filterMap_cons, eq_self, BEq.rfl, simprocAttr])
    | (refine SX.cond rfl (fun hb => ?_) (fun hb => ?_) <;> ((first | cases hb | (simp only [decide_eq_true_eq, decide_eq_false_iff_not, beq_iff_eq, beq_eq_false_iff_ne, bne_iff_ne, Bool.and_eq_true, Bool.or_eq_true, Bool.not_eq_true', Bool.not_eq_false', Bool.and_eq_false_iff, Bool.or_eq_false_iff, Int.not_lt, Int.not_le] at hb) | skip) <;> (first | (exfalso; omega) | skip)))
    | (refine SX.ret ?_; try simp only [GA, ↓GB, List.filterMap_cons, eq_self, BEq.rfl, simprocAttr])
    | (refine hN _ ?_; clear hN N)
    | (refine hK _ _ (Fin.res rfl hown ?_); simp only [GA, ↓GB, List.filterMap_cons, eq_self, BEq.rfl, simprocAttr, f_a, f_b, f_n, f_c, f_B, f_v, f_g, f_0, f_1, f_2, hT, hwi]; intro w' hbel; refine Done.out ?_)
    | (clear hN N; first | (refine hN _ ?_; clear hN N) | (clear hN N; first | (refine hN _ ?_; clear hN N) | (clear hN N; first | (refine hN _ ?_; clear hN N) | (clear hN N; first | (refine hN _ ?_; clear hN N) | (clear hN N; first | (refine hN _ ?_; clear hN N) | (refine hN _ ?_; clear hN N))))))
    | (refine bif2.mk (fun hb => ?_) (fun hb => ?_) <;> (try simp only [hb, GA, ↓GB, List.filterMap_cons, eq_self, BEq.rfl, simprocAttr, hnt, hT]) <;> ((first | cases hb | (simp only [decide_eq_true_eq, decide_eq_false_iff_not, beq_iff_eq, beq_eq_false_iff_ne, bne_iff_ne, Bool.and_eq_true, Bool.or_eq_true, Bool.not_eq_true', Bool.not_eq_false', Bool.and_eq_false_iff, Bool.or_eq_false_iff, Int.not_lt, Int.not_le] at hb) | skip) <;> (first | (exfalso; omega) | skip)))
    | ((first | (refine CallVC.pv hP (isNaN_int _) rfl ?_) | (refine CallQ.pv hP (isNaN_int _) rfl ?_)); simp only [GA, ↓GB, List.filterMap_cons, eq_self, BEq.rfl, simprocAttr, hnt, hT])
    | (refine SX.block ?_)
    | (refine and_mk ?_ ?_; (focus first | decide | omega | rfl | assumption | (simp only [List.length_append, List.length_cons, List.length_nil, B_size]; omega) | (simp; done)))
    | (refine And.intro ?_ ?_))
  all_goals (try refine Done.mk ?_)
  all_goals (refine ⟨?_, hbel⟩; congr 2; simp only [cmpI]; split <;> (try split) <;> omega)
theorem compare_u64 (a b : Int) (w : World) : Calls Tryd.prog 86 #[.int .u64 a, .int .u64 b] w fun e w' => e = .returned (.int .i64 (cmpI a b)) ∧ Below w.heap.size w w' := by
  refine calls_pureK (args := [.int .u64 a, .int .u64 b]) w Tryd.func86 rfl Tryd.ntmps86 (by simp) ?_
  intro X K hX hK
  have hnt : X.nt = 20 := by rw [hX]
  have hwi : X.wi = w := by rw [hX]
  have hP : X.P = Tryd.prog := by rw [hX]
  have hown : X.own = [] := by rw [hX]
  have hbl : X.base.length = 0 := by rw [hX]; rfl
  clear hX
  have hT : calleeOk X.P 133 = true := by rw [hP]; exact Ty.co133
  repeat' (first
    | (refine SX.seqK ?_; intro N hN)
    | ((first | (refine SX.ops ?_)); simp only [GA, ↓GB, List.filterMap_cons, eq_self, BEq.rfl, simprocAttr, hnt, hT])
    | ((first | refine SX.skip ?_ | refine SX.exit ?_ | refine SX.label ?_); try simp only [GA, ↓GB, List.filterMap_cons, eq_self, BEq.rfl, simprocAttr])
    | (refine SX.cond rfl (fun hb => ?_) (fun hb => ?_) <;> ((first | cases hb | (simp only [decide_eq_true_eq, decide_eq_false_iff_not, beq_iff_eq, beq_eq_false_iff_ne, bne_iff_ne, Bool.and_eq_true, Bool.or_eq_true, Bool.not_eq_true', Bool.not_eq_false', Bool.and_eq_false_iff, Bool.or_eq_false_iff, Int.not_lt, Int.not_le] at hb) | skip) <;> (first | (exfalso; omega) | skip)))
    | (refine SX.ret ?_; try simp only [GA, ↓GB, List.filterMap_cons, eq_self, BEq.rfl, simprocAttr])
    | (refine hN _ ?_; clear hN N)
    | (refine hK _ _ (Fin.res rfl hown ?_); simp only [GA, ↓GB, List.filterMap_cons, eq_self, BEq.rfl, simprocAttr, f_a, f_b, f_n, f_c, f_B, f_v, f_g, f_0, f_1, f_2, hT, hwi]; intro w' hbel; refine Done.out ?_)
    | (clear hN N; first | (refine hN _ ?_; clear hN N) | (clear hN N; first | (refine hN _ ?_; clear hN N) | (clear hN N; first | (refine hN _ ?_; clear hN N) | (clear hN N; first | (refine hN _ ?_; clear hN N) | (clear hN N; first | (refine hN _ ?_; clear hN N) | (refine hN _ ?_; clear hN N))))))
    | (refine bif2.mk (fun hb => ?_) (fun hb => ?_) <;> (try simp only [hb, GA, ↓GB, List.filterMap_cons, eq_self, BEq.rfl, simprocAttr, hnt, hT]) <;> ((first | cases hb | (simp only [decide_eq_true_eq, decide_eq_false_iff_not, beq_iff_eq, beq_eq_false_iff_ne, bne_iff_ne, Bool.and_eq_true, Bool.or_eq_true, Bool.not_eq_true', Bool.not_eq_false', Bool.and_eq_false_iff, Bool.or_eq_false_iff, Int.not_lt, Int.not_le] at hb) | skip) <;> (first | (exfalso; omega) | skip)))
    | ((first | (refine CallVC.pv hP (isNaN_u64 _) rfl ?_) | (refine CallQ.pv hP (isNaN_u64 _) rfl ?_)); simp only [GA, ↓GB, List.filterMap_cons, eq_self, BEq.rfl, simprocAttr, hnt, hT])
    | (refine SX.block ?_)
    | (refine and_mk ?_ ?_; (focus first | decide | omega | rfl | assumption | (simp only [List.length_append, List.length_cons, List.length_nil, B_size]; omega) | (simp; done)))
    | (refine And.intro ?_ ?_))
  all_goals (try refine Done.mk ?_)
  all_goals (refine ⟨?_, hbel⟩; congr 2; simp only [cmpI]; split <;> (try split) <;> omega)
theorem compare_str (a b : List UInt8) (w : World) : Calls Tryd.prog 121 #[.string (B a), .string (B b)] w fun e w' => e = .returned (.int .i64 (cmpS a b)) ∧ Below w.heap.size w w' := by
  refine calls_pureK (args := [.string (B a), .string (B b)]) w Tryd.func121 rfl Tryd.ntmps121 (by simp) ?_
  intro X K hX hK
  have hnt : X.nt = 20 := by rw [hX]
  have hwi : X.wi = w := by rw [hX]
  have hP : X.P = Tryd.prog := by rw [hX]
  have hown : X.own = [] := by rw [hX]
  have hbl : X.base.length = 0 := by rw [hX]; rfl
  clear hX
  have hT : calleeOk X.P 149 = true := by rw [hP]; exact Ty.co149
  repeat' (first
    | (refine SX.seqK ?_; intro N hN)
    | ((first | (refine SX.ops ?_)); simp only [GA, ↓GB, List.filterMap_cons, eq_self, BEq.rfl, simprocAttr, hnt, hT, gtr_eq])
    | ((first | refine SX.skip ?_ | refine SX.exit ?_ | refine SX.label ?_); try simp only [GA, ↓GB, List.filterMap_cons, eq_self, BEq.rfl, simprocAttr])
    | (refine SX.cond rfl (fun hb => ?_) (fun hb => ?_) <;> ((first | cases hb | (simp only [decide_eq_true_eq, decide_eq_false_iff_not, beq_iff_eq, beq_eq_false_iff_ne, bne_iff_ne, Bool.and_eq_true, Bool.or_eq_true, Bool.not_eq_true', Bool.not_eq_false', Bool.and_eq_false_iff, Bool.or_eq_false_iff, Int.not_lt, Int.not_le] at hb) | skip) <;> (first | (exfalso; omega) | skip)))
    | (refine SX.ret ?_; try simp only [GA, ↓GB, List.filterMap_cons, eq_self, BEq.rfl, simprocAttr])
    | (refine hN _ ?_; clear hN N)
    | (refine hK _ _ (Fin.res rfl hown ?_); simp only [GA, ↓GB, List.filterMap_cons, eq_self, BEq.rfl, simprocAttr, f_a, f_b, f_n, f_c, f_B, f_v, f_g, f_0, f_1, f_2, hT, hwi, gtr_eq]; intro w' hbel; refine Done.out ?_)
    | (clear hN N; first | (refine hN _ ?_; clear hN N) | (clear hN N; first | (refine hN _ ?_; clear hN N) | (clear hN N; first | (refine hN _ ?_; clear hN N) | (clear hN N; first | (refine hN _ ?_; clear hN N) | (clear hN N; first | (refine hN _ ?_; clear hN N) | (refine hN _ ?_; clear hN N))))))
    | (refine bif2.mk (fun hb => ?_) (fun hb => ?_) <;> (try simp only [hb, GA, ↓GB, List.filterMap_cons, eq_self, BEq.rfl, simprocAttr, hnt, hT, gtr_eq]) <;> ((first | cases hb | (simp only [decide_eq_true_eq, decide_eq_false_iff_not, beq_iff_eq, beq_eq_false_iff_ne, bne_iff_ne, Bool.and_eq_true, Bool.or_eq_true, Bool.not_eq_true', Bool.not_eq_false', Bool.and_eq_false_iff, Bool.or_eq_false_iff, Int.not_lt, Int.not_le] at hb) | skip) <;> (first | (exfalso; omega) | skip)))
    | ((first | (refine CallVC.pv hP (isNaN_str _) rfl ?_) | (refine CallQ.pv hP (isNaN_str _) rfl ?_)); simp only [GA, ↓GB, List.filterMap_cons, eq_self, BEq.rfl, simprocAttr, hnt, hT, gtr_eq])
    | (refine SX.block ?_)
    | (refine and_mk ?_ ?_; (focus first | decide | omega | rfl | assumption | (simp only [List.length_append, List.length_cons, List.length_nil, B_size]; omega) | (simp; done)))
    | (refine And.intro ?_ ?_))
  all_goals (try refine Done.mk ?_)
  all_goals (refine ⟨?_, hbel⟩; congr 2; simp_all [cmpS])
end Go.Proofs.YtbdacbcpniegiaaDoor
namespace Go.Proofs.YtbdacbcpniegiaaDoor
open Go Go.RowKit Go.Proofs Go.Sx
set_option maxHeartbeats 4000000
set_option maxRecDepth 100000
set_option linter.unusedSimpArgs false
set_option linter.unusedVariables false
def cmpKey (a : Int) (s : List UInt8) (b : Int) (t : List UInt8) : Int := if cmpI a b ≠ 0 then cmpI a b else cmpS s t
theorem order_any (a b : Int) (s t : List UInt8) (w : World) : Calls Tryd.prog 63 #[.agg #[.int .i64 a, .string (B s)], .agg #[.int .i64 b, .string (B t)]] w fun e w' => e = .returned (.int .i64 (cmpKey a s b t)) ∧ Below w.heap.size w w' := by
  refine calls_pureK (args := [.agg #[.int .i64 a, .string (B s)], .agg #[.int .i64 b, .string (B t)]]) w Tryd.func63 rfl Tryd.ntmps63 (by simp) ?_
  intro X K hX hK
  have hnt : X.nt = 17 := by rw [hX]
  have hwi : X.wi = w := by rw [hX]
  have hP : X.P = Tryd.prog := by rw [hX]
  have hown : X.own = [] := by rw [hX]
  have hbl : X.base.length = 0 := by rw [hX]; rfl
  clear hX
  have hT : fieldOff X.P 26 0 = some 0 ∧ aggOf X.P 3 = some false ∧ szOf X.P 3 = some 1 ∧ calleeOk X.P 120 = true ∧ fieldOff X.P 26 1 = some 1 ∧ aggOf X.P 9 = some false ∧ szOf X.P 9 = some 1 ∧ calleeOk X.P 121 = true ∧ elemSz X.P 51 = some (3, 1) ∧ zeroCells X.P 3 = some [(Value.int IntKind.i64 0)] ∧ calleeOk X.P 119 = true := by rw [hP]; exact ⟨Ty.fo26_0, Ty.ag3, Ty.sz3, Ty.co120, Ty.fo26_1, Ty.ag9, Ty.sz9, Ty.co121, Ty.el51, Ty.ze3, Ty.co119⟩
  have hnt1 := True.intro; have hT1 := True.intro; have hU1P := True.intro
  repeat' (first
    | (refine SX.seqK ?_; intro N hN)
    | ((first | (refine SX.ops ?_) | (refine SX.planT (id := 1) [.q [(0, [2]), (1, [5]), (2, [3]), (3, [7]), (4, [6, 8]), (5, [2]), (6, [10]), (7, [3]), (8, [12]), (9, [11, 13])] none, .s 10, .s 11, .s 12] ?_ ?_ ?_; (focus first | (rw [hP]; kernel_rfl) | (rw [hU1P, hP]; kernel_rfl)); (focus kernel_rfl))); simp only [GA, ↓GB, List.filterMap_cons, eq_self, BEq.rfl, simprocAttr, hnt, hT, hnt1, hT1, hU1P])
    | ((first | refine SX.skip ?_ | refine SX.exit ?_ | refine SX.label ?_); try simp only [GA, ↓GB, List.filterMap_cons, eq_self, BEq.rfl, simprocAttr])
    | (refine SX.cond rfl (fun hb => ?_) (fun hb => ?_) <;> ((first | cases hb | (simp only [decide_eq_true_eq, decide_eq_false_iff_not, beq_iff_eq, beq_eq_false_iff_ne, bne_iff_ne, Bool.and_eq_true, Bool.or_eq_true, Bool.not_eq_true', Bool.not_eq_false', Bool.and_eq_false_iff, Bool.or_eq_false_iff, Int.not_lt, Int.not_le] at hb) | skip) <;> (first | (exfalso; omega) | skip)))
    | (refine SX.ret ?_; try simp only [GA, ↓GB, List.filterMap_cons, eq_self, BEq.rfl, simprocAttr])
    | (refine hN _ ?_; clear hN N)
    | ((first | refine hK1 _ _ (FinI.ret3 ?_) | refine hK1 _ _ (FinI.nrm3 ?_)); (repeat (clear hN N)); clear hK1 K1; simp only [GA, ↓GB, List.filterMap_cons, eq_self, BEq.rfl, simprocAttr, finP_s, hnt, hT, hnt1, hT1, hU1P])
    | (refine hK _ _ (Fin.res rfl hown ?_); simp only [GA, ↓GB, List.filterMap_cons, eq_self, BEq.rfl, simprocAttr, f_a, f_b, f_n, f_c, f_B, f_v, f_g, f_0, f_1, f_2, hT, hwi, hnt1, hT1, hU1P]; intro w' hbel; refine Done.out ?_)
    | (clear hN N; first | (refine hN _ ?_; clear hN N) | (clear hN N; first | (refine hN _ ?_; clear hN N) | (clear hN N; first | (refine hN _ ?_; clear hN N) | (clear hN N; first | (refine hN _ ?_; clear hN N) | (clear hN N; first | (refine hN _ ?_; clear hN N) | (refine hN _ ?_; clear hN N))))))
    | (refine bif2.mk (fun hb => ?_) (fun hb => ?_) <;> (try simp only [hb, GA, ↓GB, List.filterMap_cons, eq_self, BEq.rfl, simprocAttr, hnt, hT, hnt1, hT1, hU1P]) <;> ((first | cases hb | (simp only [decide_eq_true_eq, decide_eq_false_iff_not, beq_iff_eq, beq_eq_false_iff_ne, bne_iff_ne, Bool.and_eq_true, Bool.or_eq_true, Bool.not_eq_true', Bool.not_eq_false', Bool.and_eq_false_iff, Bool.or_eq_false_iff, Int.not_lt, Int.not_le] at hb) | skip) <;> (first | (exfalso; omega) | skip)))
    | ((first | (refine CallVC.pv hP (compare_int _ _) rfl ?_) | (refine CallQ.pv hP (compare_int _ _) rfl ?_) | (refine CallVC.pv hP (compare_str _ _) rfl ?_) | (refine CallQ.pv hP (compare_str _ _) rfl ?_)); simp only [GA, ↓GB, List.filterMap_cons, eq_self, BEq.rfl, simprocAttr, hnt, hT, hnt1, hT1, hU1P])
    | (refine CallVC.inline (f := 119) ?_ rfl Tryd.ntmps119 rfl ?_ ?_; (focus rw [hP]; exact Tryd.func119); (focus simp); have hT1 : X.P.underlying 51 = some (TypeDesc.slice 3) ∧ elemSz X.P 51 = some (3, 1) ∧ aggOf X.P 3 = some false ∧ szOf X.P 3 = some 1 := (by rw [hP]; exact ⟨Tryd.underlying51, Ty.el51, Ty.ag3, Ty.sz3⟩); intro X1 K1 hU1 hnt1 hbl1 hK1; have hU1P := hU1.P; simp only [GA, ↓GB, List.filterMap_cons, eq_self, BEq.rfl, simprocAttr] at hbl1 ⊢)
    | (refine SX.loopN 3 ?_)
    | (refine SXr.stepK ?_; intro N hN)
    | ((first | (refine CallVC.pv (hU1P.trans hP) (compare_int _ _) rfl ?_) | (refine CallQ.pv (hU1P.trans hP) (compare_int _ _) rfl ?_) | (refine CallVC.pv (hU1P.trans hP) (compare_str _ _) rfl ?_) | (refine CallQ.pv (hU1P.trans hP) (compare_str _ _) rfl ?_)); simp only [GA, ↓GB, List.filterMap_cons, eq_self, BEq.rfl, simprocAttr, hnt, hT, hnt1, hT1, hU1P])
    | (refine SX.block ?_)
    | (refine and_mk ?_ ?_; (focus first | decide | omega | rfl | assumption | (simp only [List.length_append, List.length_cons, List.length_nil, B_size]; omega) | (simp; done)))
    | (refine And.intro ?_ ?_))
  all_goals (try refine Done.mk ?_)
  all_goals (refine ⟨?_, hbel⟩; simp_all [cmpKey])
end Go.Proofs.YtbdacbcpniegiaaDoor
namespace Go.Proofs
open Go.Shelf
def Tryd.lays160_ren : Go.Shelf.Ren := ⟨fun | 160 => 140 | 232 => 156 | 231 => 155 | 227 => 157 | 234 => 159 | 233 => 158 | 236 => 161 | 235 => 160 | 228 => 168 | 271 => 171 | 151 => 170 | 197 => 169 | 120 => 176 | 152 => 175 | 260 => 174 | 137 => 177 | 119 => 178 | 224 => 179 | 225 => 180 | 217 => 181 | 266 => 182 | n => n, fun | 9 => 9 | 4 => 4 | 3 => 3 | 5 => 5 | 117 => 221 | 116 => 220 | 0 => 0 | 124 => 224 | 21 => 21 | 105 => 241 | 46 => 164 | 119 => 246 | 139 => 249 | 138 => 248 | n => n, fun | 3 => 4 | 4 => 5 | n => n⟩
theorem Tryd.lays160 : Lays.n160 Tryd.prog Tryd.lays160_ren := {
  mixed := by kernel_rfl,
  f119 := Tryd.func178.trans (congrArg some (by kernel_rfl)),
  f120 := Tryd.func176.trans (congrArg some (by kernel_rfl)),
  f137 := Tryd.func177.trans (congrArg some (by kernel_rfl)),
  f151 := Tryd.func170.trans (congrArg some (by kernel_rfl)),
  f152 := Tryd.func175.trans (congrArg some (by kernel_rfl)),
  f160 := Tryd.func140.trans (congrArg some (by kernel_rfl)),
  f197 := Tryd.func169.trans (congrArg some (by kernel_rfl)),
  f217 := Tryd.func181.trans (congrArg some (by kernel_rfl)),
  f224 := Tryd.func179.trans (congrArg some (by kernel_rfl)),
  f225 := Tryd.func180.trans (congrArg some (by kernel_rfl)),
  f227 := Tryd.func157.trans (congrArg some (by kernel_rfl)),
  f228 := Tryd.func168.trans (congrArg some (by kernel_rfl)),
  f231 := Tryd.func155.trans (congrArg some (by kernel_rfl)),
  f232 := Tryd.func156.trans (congrArg some (by kernel_rfl)),
  f233 := Tryd.func158.trans (congrArg some (by kernel_rfl)),
  f234 := Tryd.func159.trans (congrArg some (by kernel_rfl)),
  f235 := Tryd.func160.trans (congrArg some (by kernel_rfl)),
  f236 := Tryd.func161.trans (congrArg some (by kernel_rfl)),
  f260 := Tryd.func174.trans (congrArg some (by kernel_rfl)),
  f266 := Tryd.func182.trans (congrArg some (by kernel_rfl)),
  f271 := Tryd.func171.trans (congrArg some (by kernel_rfl)),
  t0 := Tryd.underlying0,
  a0 := Tryd.isAgg0,
  z0 := Tryd.sizeOf0,
  v0 := Tryd.zeroValue0,
  t3 := Tryd.underlying3,
  a3 := Tryd.isAgg3,
  z3 := Tryd.sizeOf3,
  v3 := Tryd.zeroValue3,
  t4 := Tryd.underlying4,
  a4 := Tryd.isAgg4,
  z4 := Tryd.sizeOf4,
  v4 := Tryd.zeroValue4,
  t5 := Tryd.underlying5,
  a5 := Tryd.isAgg5,
  z5 := Tryd.sizeOf5,
  v5 := Tryd.zeroValue5,
  t9 := Tryd.underlying9,
  a9 := Tryd.isAgg9,
  z9 := Tryd.sizeOf9,
  v9 := Tryd.zeroValue9,
  t21 := Tryd.underlying21,
  a21 := Tryd.isAgg21,
  z21 := Tryd.sizeOf21,
  v21 := Tryd.zeroValue21,
  t46 := Tryd.underlying164,
  a46 := Tryd.isAgg164,
  z46 := Tryd.sizeOf164,
  v46 := Tryd.zeroValue164,
  t105 := Tryd.underlying241,
  a105 := Tryd.isAgg241,
  z105 := Tryd.sizeOf241,
  v105 := Tryd.zeroValue241,
  t116 := Tryd.underlying220,
  a116 := Tryd.isAgg220,
  z116 := Tryd.sizeOf220,
  t117 := Tryd.underlying221,
  a117 := Tryd.isAgg221,
  z117 := Tryd.sizeOf221,
  v117 := Tryd.zeroValue221,
  t119 := Tryd.underlying246,
  a119 := Tryd.isAgg246,
  z119 := Tryd.sizeOf246,
  t124 := Tryd.underlying224,
  a124 := Tryd.isAgg224,
  z124 := Tryd.sizeOf224,
  v124 := Tryd.zeroValue224,
  t138 := Tryd.underlying248,
  a138 := Tryd.isAgg248,
  z138 := Tryd.sizeOf248,
  v138 := Tryd.zeroValue248,
  t139 := Tryd.underlying249,
  a139 := Tryd.isAgg249,
  z139 := Tryd.sizeOf249,
  v139 := Tryd.zeroValue249,
  g3 := by kernel_rfl,
  g4 := by kernel_rfl }
end Go.Proofs
namespace Go.Proofs.YtbdacbcpniegiaaDoor
open Go Go.RowKit Go.Proofs Go.Sx
def nameCs : List UInt8 := [97, 98, 99, 100, 101, 102, 103, 104, 105, 106, 107, 108, 109, 110, 111, 112, 113, 114, 115, 116, 117, 118, 119, 120, 121, 122, 48, 49, 50, 51, 52, 53, 54, 55, 56, 57, 45, 46, 47]
theorem trim_any (s : List UInt8) (hs : s.length ≤ 9223372036854775807) (w : World) : Calls Tryd.prog 140 #[.string (B s), .string (B nameCs)] w fun e w' => e = .returned (.string (B (Lib.trimS s nameCs))) ∧ Below w.heap.size w w' := by
  have h := Any.strings_Trim_laid Tryd.lays160 (by kernel_rfl) (B s) (B nameCs) w (by rw [B_size]; exact hs) (by decide) (ascii_of_all (by decide))
  exact h
end Go.Proofs.YtbdacbcpniegiaaDoor
namespace Go.Proofs.YtbdacbcpniegiaaDoor
open Go Go.RowKit Go.Proofs Go.Sx
set_option maxHeartbeats 4000000
set_option maxRecDepth 100000
set_option linter.unusedSimpArgs false
set_option linter.unusedVariables false
def nameB (s : List UInt8) : Bool := !(s == []) && decide ((s.length : Int) ≤ 64) && (Lib.trimS s nameCs == [])
theorem name_any (s : List UInt8) (hs : s.length ≤ 9223372036854775807) (w : World) : Calls Tryd.prog 101 #[.string (B s)] w fun e w' => e = .returned (.bool (nameB s)) ∧ Below w.heap.size w w' := by
  refine calls_pureK (args := [.string (B s)]) w Tryd.func101 rfl Tryd.ntmps101 (by simp) ?_
  intro X K hX hK
  have hnt : X.nt = 15 := by rw [hX]
  have hwi : X.wi = w := by rw [hX]
  have hP : X.P = Tryd.prog := by rw [hX]
  have hown : X.own = [] := by rw [hX]
  have hbl : X.base.length = 0 := by rw [hX]; rfl
  clear hX
  have hT : X.P.underlying 9 = some TypeDesc.string ∧ calleeOk X.P 140 = true := by rw [hP]; exact ⟨Tryd.underlying9, Ty.co140⟩
  repeat' (first
    | (refine SX.seqK ?_; intro N hN)
    | ((first | (refine SX.ops ?_)); simp only [GA, ↓GB, List.filterMap_cons, eq_self, BEq.rfl, simprocAttr, hnt, hT])
    | ((first | refine SX.skip ?_ | refine SX.exit ?_ | refine SX.label ?_); try simp only [GA, ↓GB, List.filterMap_cons, eq_self, BEq.rfl, simprocAttr])
    | (refine SX.cond rfl (fun hb => ?_) (fun hb => ?_) <;> ((first | cases hb | (simp only [decide_eq_true_eq, decide_eq_false_iff_not, beq_iff_eq, beq_eq_false_iff_ne, bne_iff_ne, Bool.and_eq_true, Bool.or_eq_true, Bool.not_eq_true', Bool.not_eq_false', Bool.and_eq_false_iff, Bool.or_eq_false_iff, Int.not_lt, Int.not_le] at hb) | skip) <;> (first | (exfalso; omega) | skip)))
    | (refine SX.ret ?_; try simp only [GA, ↓GB, List.filterMap_cons, eq_self, BEq.rfl, simprocAttr])
    | (refine hN _ ?_; clear hN N)
    | (refine hK _ _ (Fin.res rfl hown ?_); simp only [GA, ↓GB, List.filterMap_cons, eq_self, BEq.rfl, simprocAttr, f_a, f_b, f_n, f_c, f_B, f_v, f_g, f_0, f_1, f_2, hT, hwi]; intro w' hbel; refine Done.out ?_)
    | (clear hN N; first | (refine hN _ ?_; clear hN N) | (clear hN N; first | (refine hN _ ?_; clear hN N) | (clear hN N; first | (refine hN _ ?_; clear hN N) | (clear hN N; first | (refine hN _ ?_; clear hN N) | (clear hN N; first | (refine hN _ ?_; clear hN N) | (refine hN _ ?_; clear hN N))))))
    | (refine bif2.mk (fun hb => ?_) (fun hb => ?_) <;> (try simp only [hb, GA, ↓GB, List.filterMap_cons, eq_self, BEq.rfl, simprocAttr, hnt, hT]) <;> ((first | cases hb | (simp only [decide_eq_true_eq, decide_eq_false_iff_not, beq_iff_eq, beq_eq_false_iff_ne, bne_iff_ne, Bool.and_eq_true, Bool.or_eq_true, Bool.not_eq_true', Bool.not_eq_false', Bool.and_eq_false_iff, Bool.or_eq_false_iff, Int.not_lt, Int.not_le] at hb) | skip) <;> (first | (exfalso; omega) | skip)))
    | ((first | (refine CallVC.pv hP (trim_any _ (by omega)) rfl ?_) | (refine CallQ.pv hP (trim_any _ (by omega)) rfl ?_)); simp only [GA, ↓GB, List.filterMap_cons, eq_self, BEq.rfl, simprocAttr, hnt, hT])
    | (refine SX.block ?_)
    | (refine and_mk ?_ ?_; (focus first | decide | omega | rfl | assumption | (simp only [List.length_append, List.length_cons, List.length_nil, B_size]; omega) | (simp; done)))
    | (refine And.intro ?_ ?_))
  all_goals (try refine Done.mk ?_)
  all_goals (refine ⟨?_, hbel⟩; simp_all [nameB] <;> (intros; omega))
def keyB (t : Int) (s : List UInt8) : Bool := decide (1 ≤ t) && decide (t ≤ 5) && (s == [42] || nameB s)
theorem key_any (t : Int) (s : List UInt8) (hs : s.length ≤ 9223372036854775807) (w : World) : Calls Tryd.prog 78 #[.agg #[.int .i64 t, .string (B s)]] w fun e w' => e = .returned (.bool (keyB t s)) ∧ Below w.heap.size w w' := by
  refine calls_pureK (args := [.agg #[.int .i64 t, .string (B s)]]) w Tryd.func78 rfl Tryd.ntmps78 (by simp) ?_
  intro X K hX hK
  have hnt : X.nt = 21 := by rw [hX]
  have hwi : X.wi = w := by rw [hX]
  have hP : X.P = Tryd.prog := by rw [hX]
  have hown : X.own = [] := by rw [hX]
  have hbl : X.base.length = 0 := by rw [hX]; rfl
  clear hX
  have hT : fieldOff X.P 26 0 = some 0 ∧ aggOf X.P 3 = some false ∧ szOf X.P 3 = some 1 ∧ fieldOff X.P 26 1 = some 1 ∧ aggOf X.P 9 = some false ∧ szOf X.P 9 = some 1 ∧ calleeOk X.P 101 = true := by rw [hP]; exact ⟨Ty.fo26_0, Ty.ag3, Ty.sz3, Ty.fo26_1, Ty.ag9, Ty.sz9, Ty.co101⟩
  repeat' (first
    | (refine SX.seqK ?_; intro N hN)
    | ((first | (refine SX.ops ?_)); simp only [GA, ↓GB, List.filterMap_cons, eq_self, BEq.rfl, simprocAttr, hnt, hT])
    | ((first | refine SX.skip ?_ | refine SX.exit ?_ | refine SX.label ?_); try simp only [GA, ↓GB, List.filterMap_cons, eq_self, BEq.rfl, simprocAttr])
    | (refine SX.cond rfl (fun hb => ?_) (fun hb => ?_) <;> ((first | cases hb | (simp only [decide_eq_true_eq, decide_eq_false_iff_not, beq_iff_eq, beq_eq_false_iff_ne, bne_iff_ne, Bool.and_eq_true, Bool.or_eq_true, Bool.not_eq_true', Bool.not_eq_false', Bool.and_eq_false_iff, Bool.or_eq_false_iff, Int.not_lt, Int.not_le] at hb) | skip) <;> (first | (exfalso; omega) | skip)))
    | (refine SX.ret ?_; try simp only [GA, ↓GB, List.filterMap_cons, eq_self, BEq.rfl, simprocAttr])
    | (refine hN _ ?_; clear hN N)
    | (refine hK _ _ (Fin.res rfl hown ?_); simp only [GA, ↓GB, List.filterMap_cons, eq_self, BEq.rfl, simprocAttr, f_a, f_b, f_n, f_c, f_B, f_v, f_g, f_0, f_1, f_2, hT, hwi]; intro w' hbel; refine Done.out ?_)
    | (clear hN N; first | (refine hN _ ?_; clear hN N) | (clear hN N; first | (refine hN _ ?_; clear hN N) | (clear hN N; first | (refine hN _ ?_; clear hN N) | (clear hN N; first | (refine hN _ ?_; clear hN N) | (clear hN N; first | (refine hN _ ?_; clear hN N) | (refine hN _ ?_; clear hN N))))))
    | (refine bif2.mk (fun hb => ?_) (fun hb => ?_) <;> (try simp only [hb, GA, ↓GB, List.filterMap_cons, eq_self, BEq.rfl, simprocAttr, hnt, hT]) <;> ((first | cases hb | (simp only [decide_eq_true_eq, decide_eq_false_iff_not, beq_iff_eq, beq_eq_false_iff_ne, bne_iff_ne, Bool.and_eq_true, Bool.or_eq_true, Bool.not_eq_true', Bool.not_eq_false', Bool.and_eq_false_iff, Bool.or_eq_false_iff, Int.not_lt, Int.not_le] at hb) | skip) <;> (first | (exfalso; omega) | skip)))
    | ((first | (refine CallVC.pv hP (name_any _ hs) rfl ?_) | (refine CallQ.pv hP (name_any _ hs) rfl ?_)); simp only [GA, ↓GB, List.filterMap_cons, eq_self, BEq.rfl, simprocAttr, hnt, hT])
    | (refine SX.block ?_)
    | (refine and_mk ?_ ?_; (focus first | decide | omega | rfl | assumption | (simp only [List.length_append, List.length_cons, List.length_nil, B_size]; omega) | (simp; done)))
    | (refine And.intro ?_ ?_))
  all_goals (try refine Done.mk ?_)
  all_goals (refine ⟨?_, hbel⟩; simp_all [keyB] <;> (intros; omega))
def statusB (t : Int) (s : List UInt8) (q : Int) (ok : Bool) (d : List UInt8) : Bool := keyB t s && !(s == [42]) && decide (0 < q) && decide ((d.length : Int) ≤ 256) && (!ok || d == [])
theorem statusRight_any (t : Int) (s : List UInt8) (q : Int) (ok : Bool) (d : List UInt8) (hs : s.length ≤ 9223372036854775807) (w : World) :
    Calls Tryd.prog 64 #[.agg #[.int .i64 t, .string (B s), .int .u64 q, .bool ok, .string (B d)]] w fun e w' => e = .returned (.bool (statusB t s q ok d)) ∧ Below w.heap.size w w' := by
  refine calls_pureK (args := [.agg #[.int .i64 t, .string (B s), .int .u64 q, .bool ok, .string (B d)]]) w Tryd.func64 rfl Tryd.ntmps64 (by simp) ?_
  intro X K hX hK
  have hnt : X.nt = 33 := by rw [hX]
  have hwi : X.wi = w := by rw [hX]
  have hP : X.P = Tryd.prog := by rw [hX]
  have hown : X.own = [] := by rw [hX]
  have hbl : X.base.length = 0 := by rw [hX]; rfl
  clear hX
  have hT : fieldOff X.P 30 0 = some 0 ∧ aggOf X.P 26 = some true ∧ szOf X.P 26 = some 2 ∧ calleeOk X.P 78 = true ∧ fieldOff X.P 26 1 = some 1 ∧ aggOf X.P 9 = some false ∧ szOf X.P 9 = some 1 ∧ fieldOff X.P 30 1 = some 2 ∧ aggOf X.P 22 = some false ∧ szOf X.P 22 = some 1 ∧ fieldOff X.P 30 3 = some 4 ∧ X.P.underlying 9 = some TypeDesc.string ∧ fieldOff X.P 30 2 = some 3 ∧ aggOf X.P 4 = some false ∧ szOf X.P 4 = some 1 := by rw [hP]; exact ⟨Ty.fo30_0, Ty.ag26, Ty.sz26, Ty.co78, Ty.fo26_1, Ty.ag9, Ty.sz9, Ty.fo30_1, Ty.ag22, Ty.sz22, Ty.fo30_3, Tryd.underlying9, Ty.fo30_2, Ty.ag4, Ty.sz4⟩
  repeat' (first
    | (refine SX.seqK ?_; intro N hN)
    | ((first | (refine SX.ops ?_)); simp only [GA, ↓GB, List.filterMap_cons, eq_self, BEq.rfl, simprocAttr, hnt, hT])
    | ((first | refine SX.skip ?_ | refine SX.exit ?_ | refine SX.label ?_); try simp only [GA, ↓GB, List.filterMap_cons, eq_self, BEq.rfl, simprocAttr])
    | (refine SX.cond rfl (fun hb => ?_) (fun hb => ?_) <;> ((first | cases hb | (simp only [decide_eq_true_eq, decide_eq_false_iff_not, beq_iff_eq, beq_eq_false_iff_ne, bne_iff_ne, Bool.and_eq_true, Bool.or_eq_true, Bool.not_eq_true', Bool.not_eq_false', Bool.and_eq_false_iff, Bool.or_eq_false_iff, Int.not_lt, Int.not_le] at hb) | skip) <;> (first | (exfalso; omega) | skip)))
    | (refine SX.ret ?_; try simp only [GA, ↓GB, List.filterMap_cons, eq_self, BEq.rfl, simprocAttr])
    | (refine hN _ ?_; clear hN N)
    | (refine hK _ _ (Fin.res rfl hown ?_); simp only [GA, ↓GB, List.filterMap_cons, eq_self, BEq.rfl, simprocAttr, f_a, f_b, f_n, f_c, f_B, f_v, f_g, f_0, f_1, f_2, hT, hwi]; intro w' hbel; refine Done.out ?_)
    | (clear hN N; first | (refine hN _ ?_; clear hN N) | (clear hN N; first | (refine hN _ ?_; clear hN N) | (clear hN N; first | (refine hN _ ?_; clear hN N) | (clear hN N; first | (refine hN _ ?_; clear hN N) | (clear hN N; first | (refine hN _ ?_; clear hN N) | (refine hN _ ?_; clear hN N))))))
    | (refine bif2.mk (fun hb => ?_) (fun hb => ?_) <;> (try simp only [hb, GA, ↓GB, List.filterMap_cons, eq_self, BEq.rfl, simprocAttr, hnt, hT]) <;> ((first | cases hb | (simp only [decide_eq_true_eq, decide_eq_false_iff_not, beq_iff_eq, beq_eq_false_iff_ne, bne_iff_ne, Bool.and_eq_true, Bool.or_eq_true, Bool.not_eq_true', Bool.not_eq_false', Bool.and_eq_false_iff, Bool.or_eq_false_iff, Int.not_lt, Int.not_le] at hb) | skip) <;> (first | (exfalso; omega) | skip)))
    | ((first | (refine CallVC.pv hP (key_any _ _ hs) rfl ?_) | (refine CallQ.pv hP (key_any _ _ hs) rfl ?_)); simp only [GA, ↓GB, List.filterMap_cons, eq_self, BEq.rfl, simprocAttr, hnt, hT])
    | (refine SX.block ?_)
    | (refine and_mk ?_ ?_; (focus first | decide | omega | rfl | assumption | (simp only [List.length_append, List.length_cons, List.length_nil, B_size]; omega) | (simp; done)))
    | (refine And.intro ?_ ?_))
  all_goals (try refine Done.mk ?_)
  all_goals (refine ⟨?_, hbel⟩; simp_all [statusB] <;> (intros; omega))
end Go.Proofs.YtbdacbcpniegiaaDoor
namespace Go.Proofs.YtbdacbcpniegiaaDoor
open Go Go.RowKit Go.Proofs Go.Sx
set_option maxHeartbeats 4000000
set_option maxRecDepth 100000
set_option linter.unusedSimpArgs false
set_option linter.unusedVariables false
theorem noEscape_run {P : Program} (hP : P = Tryd.prog) (v : Value) (w : World) : (callFunc 150 #[v]).run P w = .ok (.value v) w := by
  subst hP
  rw [run_callFunc_extern Tryd.func150 (by kernel_rfl) (by kernel_rfl) (by kernel_rfl) (e := Extern.AbiNoEscape.same) (by kernel_rfl), Lib.run_noEscape]
  rfl
theorem writeByte_fresh (b : Int) : Ctr Tryd.prog [] 65 [.cells [.v (.pointer none), .v (.slice none 0 0)] 123] [.one (.c (.loc 0 0)), vv (.int .u8 b)]
    (fun os s => os = [.cells [.loc 0 0, .row 3] 123, .cells [.v (.int .u8 b)] 5, .gone, .row 5 1 1 [.int .u8 b]] ∧ s = vv .nilIface) := by
  intro X0 hP0 hG0 N0 hN0
  refine CallVC.inline (f := 65) (by rw [hP0]; exact Tryd.func65) rfl Tryd.ntmps65 rfl (by simp) ?_
  intro X K hU hnt hbl hK
  have hP : X.P = Tryd.prog := by rw [hU.P, hP0]
  have hG := hG0.under hU
  have hT : calleeOk X.P 122 = true ∧ fieldOff X.P 121 1 = some 1 ∧ aggOf X.P 58 = some false ∧ szOf X.P 58 = some 1 ∧ elemSz X.P 58 = some (5, 1) ∧ zeroCells X.P 5 = some [(Value.int IntKind.u8 0)] ∧ elemInf X.P 58 = some (5, 1, 1, (Value.int IntKind.u8 0)) ∧ isStrT X.P 58 = false := by rw [hP]; exact ⟨Ty.co122, Ty.fo121_1, Ty.ag58, Ty.sz58, Ty.el58, Ty.ze5, Ty.ei58, Ty.is58⟩
  simp only [GA, ↓GB, List.filterMap_cons, eq_self, BEq.rfl, simprocAttr] at hbl ⊢
  have hnt1 := True.intro; have hT1 := True.intro; have hU1P := True.intro
  repeat' (first
    | (refine SX.seqK ?_; intro N hN)
    | ((first | (refine SX.ops ?_)); simp only [GA, ↓GB, List.filterMap_cons, eq_self, BEq.rfl, simprocAttr, hnt, hT, hnt1, hT1, hU1P])
    | ((first | refine SX.skip ?_ | refine SX.exit ?_ | refine SX.label ?_); try simp only [GA, ↓GB, List.filterMap_cons, eq_self, BEq.rfl, simprocAttr])
    | (refine SX.cond rfl (fun hb => ?_) (fun hb => ?_) <;> ((first | cases hb | (simp only [decide_eq_true_eq, decide_eq_false_iff_not, beq_iff_eq, beq_eq_false_iff_ne, bne_iff_ne, Bool.and_eq_true, Bool.or_eq_true, Bool.not_eq_true', Bool.not_eq_false', Bool.and_eq_false_iff, Bool.or_eq_false_iff, Int.not_lt, Int.not_le] at hb) | skip) <;> (first | (exfalso; omega) | skip)))
    | (refine SX.ret ?_; try simp only [GA, ↓GB, List.filterMap_cons, eq_self, BEq.rfl, simprocAttr])
    | (refine hN _ ?_; clear hN N)
    | ((first | refine hK1 _ _ (FinI.ret3 ?_) | refine hK1 _ _ (FinI.nrm3 ?_)); (repeat (clear hN N)); clear hK1 K1; simp only [GA, ↓GB, List.filterMap_cons, eq_self, BEq.rfl, simprocAttr, finP_s, hnt, hT, hnt1, hT1, hU1P])
    | ((first | refine hK _ _ (FinI.ret3 ?_) | refine hK _ _ (FinI.nrm3 ?_)); simp only [GA, ↓GB, List.filterMap_cons, eq_self, BEq.rfl, simprocAttr, finP_s, hnt, hT, hnt1, hT1, hU1P]; refine Done.out ?_)
    | (clear hN N; first | (refine hN _ ?_; clear hN N) | (clear hN N; first | (refine hN _ ?_; clear hN N) | (clear hN N; first | (refine hN _ ?_; clear hN N) | (clear hN N; first | (refine hN _ ?_; clear hN N) | (clear hN N; first | (refine hN _ ?_; clear hN N) | (refine hN _ ?_; clear hN N))))))
    | (refine bif2.mk (fun hb => ?_) (fun hb => ?_) <;> (try simp only [hb, GA, ↓GB, List.filterMap_cons, eq_self, BEq.rfl, simprocAttr, hnt, hT, hnt1, hT1, hU1P]) <;> ((first | cases hb | (simp only [decide_eq_true_eq, decide_eq_false_iff_not, beq_iff_eq, beq_eq_false_iff_ne, bne_iff_ne, Bool.and_eq_true, Bool.or_eq_true, Bool.not_eq_true', Bool.not_eq_false', Bool.and_eq_false_iff, Bool.or_eq_false_iff, Int.not_lt, Int.not_le] at hb) | skip) <;> (first | (exfalso; omega) | skip)))
    | (refine CallVC.inline (f := 122) ?_ rfl Tryd.ntmps122 rfl ?_ ?_; (focus rw [hP]; exact Tryd.func122); (focus simp); have hT1 : fieldOff X.P 121 0 = some 0 ∧ aggOf X.P 119 = some false ∧ szOf X.P 119 = some 1 ∧ X.P.underlying 119 = some (TypeDesc.pointer 121) ∧ X.P.underlying 211 = some TypeDesc.unsafePointer ∧ isBytesT X.P 119 = false ∧ isStrT X.P 211 = false ∧ calleeOk X.P 150 = false ∧ isBytesT X.P 211 = false ∧ isStrT X.P 119 = false := (by rw [hP]; exact ⟨Ty.fo121_0, Ty.ag119, Ty.sz119, Tryd.underlying119, Tryd.underlying211, Ty.ib119, Ty.is211, Ty.cx150, Ty.ib211, Ty.is119⟩); intro X1 K1 hU1 hnt1 hbl1 hK1; have hU1P := hU1.P; simp only [GA, ↓GB, List.filterMap_cons, eq_self, BEq.rfl, simprocAttr] at hbl1 ⊢)
    | (refine VO.toUnsafe (src := 119) (t := 121) rfl (by rw [hU1P, hP]; kernel_rfl) (by rw [hU1P, hP]; kernel_rfl) (n := 1) (by rw [hU1P, hP]; kernel_rfl) rfl (by decide) ?_; simp only [GA, ↓GB, List.filterMap_cons, eq_self, BEq.rfl, simprocAttr, hnt, hnt1, hT, hT1, hU1P])
    | (refine VO.same rfl (noEscape_run (hU1P.trans hP)) ?_; simp only [GA, ↓GB, List.filterMap_cons, eq_self, BEq.rfl, simprocAttr, hnt, hnt1, hT, hT1, hU1P])
    | (refine VO.fromUnsafe (src := 211) (u := 121) rfl (by rw [hU1P, hP]; kernel_rfl) (by rw [hU1P, hP]; kernel_rfl) (n := 2) (by rw [hU1P, hP]; kernel_rfl) rfl (by rw [hU1P, hP]; kernel_rfl) ?_; simp only [GA, ↓GB, List.filterMap_cons, eq_self, BEq.rfl, simprocAttr, hnt, hnt1, hT, hT1, hU1P])
    | (refine VO.ptrNil (e := 121) rfl rfl (by rw [hU1P, hP]; kernel_rfl) ?_; simp only [GA, ↓GB, List.filterMap_cons, eq_self, BEq.rfl, simprocAttr, hnt, hnt1, hT, hT1, hU1P])
    | (refine VO.ptrSame (e := 121) (n := 2) rfl rfl (by rw [hU1P, hP]; kernel_rfl) (by rw [hU1P, hP]; kernel_rfl) ?_; simp only [GA, ↓GB, List.filterMap_cons, eq_self, BEq.rfl, simprocAttr, hnt, hnt1, hT, hT1, hU1P])
    | (refine SX.block ?_)
    | (refine and_mk ?_ ?_; (focus first | decide | omega | rfl | assumption | (simp only [List.length_append, List.length_cons, List.length_nil, B_size]; omega) | (simp; done)))
    | (refine And.intro ?_ ?_))
  all_goals (try refine Done.mk ?_)
  exact hN0 _ _ ⟨rfl, rfl⟩
theorem writeString_used (l s : List UInt8) (n : Nat) (hn : n + s.length ≤ 1152921504606) : Ctr Tryd.prog [] 123 [.cells [.loc 0 0, .row 1] 123, .row 5 1 n (bcells l)] [.one (.c (.loc 0 0)), vv (.string (B s))]
    (fun os r => os = [.cells [.loc 0 0, .row 2] 123, .gone, .row 5 1 (n + s.length) (bcells (l ++ s))] ∧ r = .tup [.c (.v (.int .i64 s.length)), .c (.v .nilIface)]) := by
  intro X0 hP0 hG0 N0 hN0
  refine CallVC.inline (f := 123) (by rw [hP0]; exact Tryd.func123) rfl Tryd.ntmps123 rfl (by simp) ?_
  intro X K hU hnt hbl hK
  have hP : X.P = Tryd.prog := by rw [hU.P, hP0]
  have hG := hG0.under hU
  have hT : calleeOk X.P 122 = true ∧ fieldOff X.P 121 1 = some 1 ∧ aggOf X.P 58 = some false ∧ szOf X.P 58 = some 1 ∧ elemInf X.P 58 = some (5, 1, 1, (Value.int IntKind.u8 0)) ∧ isStrT X.P 9 = true ∧ X.P.underlying 9 = some TypeDesc.string := by rw [hP]; exact ⟨Ty.co122, Ty.fo121_1, Ty.ag58, Ty.sz58, Ty.ei58, Ty.is9, Tryd.underlying9⟩
  simp only [GA, ↓GB, List.filterMap_cons, eq_self, BEq.rfl, simprocAttr] at hbl ⊢
  have hnt1 := True.intro; have hT1 := True.intro; have hU1P := True.intro
  repeat' (first
    | (refine SX.seqK ?_; intro N hN)
    | ((first | (refine SX.ops ?_)); simp only [GA, ↓GB, List.filterMap_cons, eq_self, BEq.rfl, simprocAttr, hnt, hT, hnt1, hT1, hU1P, bcells_append])
    | ((first | refine SX.skip ?_ | refine SX.exit ?_ | refine SX.label ?_); try simp only [GA, ↓GB, List.filterMap_cons, eq_self, BEq.rfl, simprocAttr])
    | (refine SX.cond rfl (fun hb => ?_) (fun hb => ?_) <;> ((first | cases hb | (simp only [decide_eq_true_eq, decide_eq_false_iff_not, beq_iff_eq, beq_eq_false_iff_ne, bne_iff_ne, Bool.and_eq_true, Bool.or_eq_true, Bool.not_eq_true', Bool.not_eq_false', Bool.and_eq_false_iff, Bool.or_eq_false_iff, Int.not_lt, Int.not_le] at hb) | skip) <;> (first | (exfalso; omega) | skip)))
    | (refine SX.ret ?_; try simp only [GA, ↓GB, List.filterMap_cons, eq_self, BEq.rfl, simprocAttr])
    | (refine hN _ ?_; clear hN N)
    | ((first | refine hK1 _ _ (FinI.ret3 ?_) | refine hK1 _ _ (FinI.nrm3 ?_)); (repeat (clear hN N)); clear hK1 K1; simp only [GA, ↓GB, List.filterMap_cons, eq_self, BEq.rfl, simprocAttr, finP_s, hnt, hT, hnt1, hT1, hU1P, bcells_append])
    | ((first | refine hK _ _ (FinI.ret3 ?_) | refine hK _ _ (FinI.nrm3 ?_)); simp only [GA, ↓GB, List.filterMap_cons, eq_self, BEq.rfl, simprocAttr, finP_s, hnt, hT, hnt1, hT1, hU1P, bcells_append]; refine Done.out ?_)
    | (clear hN N; first | (refine hN _ ?_; clear hN N) | (clear hN N; first | (refine hN _ ?_; clear hN N) | (clear hN N; first | (refine hN _ ?_; clear hN N) | (clear hN N; first | (refine hN _ ?_; clear hN N) | (clear hN N; first | (refine hN _ ?_; clear hN N) | (refine hN _ ?_; clear hN N))))))
    | (refine bif2.mk (fun hb => ?_) (fun hb => ?_) <;> (try simp only [hb, GA, ↓GB, List.filterMap_cons, eq_self, BEq.rfl, simprocAttr, hnt, hT, hnt1, hT1, hU1P, bcells_append]) <;> ((first | cases hb | (simp only [decide_eq_true_eq, decide_eq_false_iff_not, beq_iff_eq, beq_eq_false_iff_ne, bne_iff_ne, Bool.and_eq_true, Bool.or_eq_true, Bool.not_eq_true', Bool.not_eq_false', Bool.and_eq_false_iff, Bool.or_eq_false_iff, Int.not_lt, Int.not_le] at hb) | skip) <;> (first | (exfalso; omega) | skip)))
    | (refine CallVC.inline (f := 122) ?_ rfl Tryd.ntmps122 rfl ?_ ?_; (focus rw [hP]; exact Tryd.func122); (focus simp); have hT1 : fieldOff X.P 121 0 = some 0 ∧ aggOf X.P 119 = some false ∧ szOf X.P 119 = some 1 ∧ X.P.underlying 119 = some (TypeDesc.pointer 121) ∧ X.P.underlying 211 = some TypeDesc.unsafePointer ∧ isBytesT X.P 119 = false ∧ isStrT X.P 211 = false ∧ calleeOk X.P 150 = false ∧ isBytesT X.P 211 = false ∧ isStrT X.P 119 = false := (by rw [hP]; exact ⟨Ty.fo121_0, Ty.ag119, Ty.sz119, Tryd.underlying119, Tryd.underlying211, Ty.ib119, Ty.is211, Ty.cx150, Ty.ib211, Ty.is119⟩); intro X1 K1 hU1 hnt1 hbl1 hK1; have hU1P := hU1.P; simp only [GA, ↓GB, List.filterMap_cons, eq_self, BEq.rfl, simprocAttr] at hbl1 ⊢)
    | (refine VO.toUnsafe (src := 119) (t := 121) rfl (by rw [hU1P, hP]; kernel_rfl) (by rw [hU1P, hP]; kernel_rfl) (n := 1) (by rw [hU1P, hP]; kernel_rfl) rfl (by decide) ?_; simp only [GA, ↓GB, List.filterMap_cons, eq_self, BEq.rfl, simprocAttr, hnt, hnt1, hT, hT1, hU1P])
    | (refine VO.same rfl (noEscape_run (hU1P.trans hP)) ?_; simp only [GA, ↓GB, List.filterMap_cons, eq_self, BEq.rfl, simprocAttr, hnt, hnt1, hT, hT1, hU1P])
    | (refine VO.fromUnsafe (src := 211) (u := 121) rfl (by rw [hU1P, hP]; kernel_rfl) (by rw [hU1P, hP]; kernel_rfl) (n := 2) (by rw [hU1P, hP]; kernel_rfl) rfl (by rw [hU1P, hP]; kernel_rfl) ?_; simp only [GA, ↓GB, List.filterMap_cons, eq_self, BEq.rfl, simprocAttr, hnt, hnt1, hT, hT1, hU1P])
    | (refine VO.ptrNil (e := 121) rfl rfl (by rw [hU1P, hP]; kernel_rfl) ?_; simp only [GA, ↓GB, List.filterMap_cons, eq_self, BEq.rfl, simprocAttr, hnt, hnt1, hT, hT1, hU1P])
    | (refine VO.ptrSame (e := 121) (n := 2) rfl rfl (by rw [hU1P, hP]; kernel_rfl) (by rw [hU1P, hP]; kernel_rfl) ?_; simp only [GA, ↓GB, List.filterMap_cons, eq_self, BEq.rfl, simprocAttr, hnt, hnt1, hT, hT1, hU1P])
    | (refine SX.block ?_)
    | (refine and_mk ?_ ?_; (focus first | decide | omega | rfl | assumption | (simp only [List.length_append, List.length_cons, List.length_nil, B_size]; omega) | (simp; done)))
    | (refine And.intro ?_ ?_))
  all_goals (try refine Done.mk ?_)
  all_goals (rw [← bcells_append]; exact hN0 _ _ ⟨rfl, rfl⟩)
end Go.Proofs.YtbdacbcpniegiaaDoor
