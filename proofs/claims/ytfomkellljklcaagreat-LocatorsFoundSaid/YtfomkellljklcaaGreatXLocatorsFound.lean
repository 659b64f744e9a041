/- Printed by a program of this session: a Lean function for each function that the law reaches, and that the code comes to it. -/
import Derived.Test.YtfomkellljklcaaGreatXLocatorsFounda
set_option linter.unusedVariables false
set_option linter.unusedSimpArgs false
namespace Go.EV
open Go Go.Proofs Go.RowKit
set_option maxHeartbeats 4000000
set_option maxRecDepth 100000
set_option linter.unusedVariables false
/-! ### pilelaw1_LocatorsFound: function 3 -/
def pilelaw1_LocatorsFound.k0 : List DK := [⟨[128, 133], [], [134], []⟩, ⟨[128], [], [133], []⟩, ⟨[128], [], [132], []⟩, ⟨[128], [], [131], []⟩, ⟨[128], [], [130], []⟩, ⟨[128], [], [129], []⟩, ⟨[127], [], [128], []⟩, ⟨[124, 126], [], [127], []⟩, ⟨[124], [], [126], []⟩, ⟨[124], [], [125], []⟩, ⟨[123], [], [124], []⟩, ⟨[118, 122], [], [123], []⟩, ⟨[118], [], [122], []⟩, ⟨[118], [], [121], []⟩, ⟨[118], [], [120], []⟩, ⟨[118], [], [119], []⟩, ⟨[117], [], [118], []⟩, ⟨[114, 116], [], [117], []⟩, ⟨[114], [], [116], []⟩, ⟨[114], [], [115], []⟩, ⟨[113], [], [114], []⟩, ⟨[108, 112], [], [113], []⟩, ⟨[108], [], [112], []⟩, ⟨[108], [], [111], []⟩, ⟨[108], [], [110], []⟩, ⟨[108], [], [109], []⟩, ⟨[107], [], [108], []⟩, ⟨[106], [], [107], []⟩, ⟨[12], [], [106], []⟩]
def pilelaw1_LocatorsFound.k1 : List Nat := [0, 1, 3, 7, 7, 23, 63, 127, 255, 511, 1023, 2047, 4095, 8191, 8191, 24575, 65535, 131071, 262143, 524287, 1048575, 2097151, 4194303, 8388607, 8388607, 25165823, 67108863, 134217727, 268435455]
def pilelaw1_LocatorsFound.k2 : List DK := [⟨[128, 133], [], [134], []⟩, ⟨[128], [], [133], []⟩, ⟨[128], [], [132], []⟩, ⟨[128], [], [131], []⟩, ⟨[128], [], [130], []⟩, ⟨[128], [], [129], []⟩, ⟨[127], [], [128], []⟩, ⟨[124, 126], [], [127], []⟩, ⟨[124], [], [126], []⟩, ⟨[124], [], [125], []⟩, ⟨[123], [], [124], []⟩, ⟨[118, 122], [], [123], []⟩, ⟨[118], [], [122], []⟩, ⟨[118], [], [121], []⟩, ⟨[118], [], [120], []⟩, ⟨[118], [], [119], []⟩, ⟨[117], [], [118], []⟩, ⟨[114, 116], [], [117], []⟩, ⟨[114], [], [116], []⟩, ⟨[114], [], [115], []⟩, ⟨[113], [], [114], []⟩, ⟨[108, 112], [], [113], []⟩, ⟨[108, 109, 111], [], [112], []⟩, ⟨[108, 110], [], [111], []⟩, ⟨[108, 5], [], [110], []⟩, ⟨[108, 11], [11], [109], []⟩, ⟨[107], [], [108], []⟩, ⟨[106], [], [107], []⟩, ⟨[12], [], [106], []⟩]
def pilelaw1_LocatorsFound.k3 : List DK := [⟨[128, 133], [], [134], []⟩, ⟨[128], [], [133], []⟩, ⟨[128], [], [132], []⟩, ⟨[128], [], [131], []⟩, ⟨[128], [], [130], []⟩, ⟨[128], [], [129], []⟩, ⟨[127], [], [128], []⟩, ⟨[124, 126], [], [127], []⟩, ⟨[124], [], [126], []⟩, ⟨[124], [], [125], []⟩, ⟨[123], [], [124], []⟩, ⟨[118, 122], [], [123], []⟩, ⟨[118], [], [122], []⟩, ⟨[118], [], [121], []⟩, ⟨[118], [], [120], []⟩, ⟨[118], [], [119], []⟩, ⟨[117], [], [118], []⟩, ⟨[114, 116], [], [117], []⟩, ⟨[114, 115], [], [116], []⟩, ⟨[114, 14], [], [115], []⟩, ⟨[113], [], [114], []⟩, ⟨[108, 112], [], [113], []⟩, ⟨[108, 109, 111], [], [112], []⟩, ⟨[108, 110], [], [111], []⟩, ⟨[108, 5], [], [110], []⟩, ⟨[108, 11], [11], [109], []⟩, ⟨[107], [], [108], []⟩, ⟨[106], [], [107], []⟩, ⟨[12], [], [106], []⟩]
def pilelaw1_LocatorsFound.k4 : List DK := [⟨[128, 133], [], [134], []⟩, ⟨[128], [], [133], []⟩, ⟨[128], [], [132], []⟩, ⟨[128], [], [131], []⟩, ⟨[128], [], [130], []⟩, ⟨[128], [], [129], []⟩, ⟨[127], [], [128], []⟩, ⟨[124, 126], [], [127], []⟩, ⟨[124], [], [126], []⟩, ⟨[124], [], [125], []⟩, ⟨[123], [], [124], []⟩, ⟨[118, 122], [], [123], []⟩, ⟨[118, 119, 121], [], [122], []⟩, ⟨[118, 120], [], [121], []⟩, ⟨[118, 5], [], [120], []⟩, ⟨[118, 13], [13], [119], []⟩, ⟨[117], [], [118], []⟩, ⟨[114, 116], [], [117], []⟩, ⟨[114, 115], [], [116], []⟩, ⟨[114, 14], [], [115], []⟩, ⟨[113], [], [114], []⟩, ⟨[108, 112], [], [113], []⟩, ⟨[108, 109, 111], [], [112], []⟩, ⟨[108, 110], [], [111], []⟩, ⟨[108, 5], [], [110], []⟩, ⟨[108, 11], [11], [109], []⟩, ⟨[107], [], [108], []⟩, ⟨[106], [], [107], []⟩, ⟨[12], [], [106], []⟩]
def pilelaw1_LocatorsFound.k5 : List DK := [⟨[128, 133], [], [134], []⟩, ⟨[128], [], [133], []⟩, ⟨[128], [], [132], []⟩, ⟨[128], [], [131], []⟩, ⟨[128], [], [130], []⟩, ⟨[128], [], [129], []⟩, ⟨[127], [], [128], []⟩, ⟨[124, 126], [], [127], []⟩, ⟨[124, 125], [], [126], []⟩, ⟨[124, 16], [], [125], []⟩, ⟨[123], [], [124], []⟩, ⟨[118, 122], [], [123], []⟩, ⟨[118, 119, 121], [], [122], []⟩, ⟨[118, 120], [], [121], []⟩, ⟨[118, 5], [], [120], []⟩, ⟨[118, 13], [13], [119], []⟩, ⟨[117], [], [118], []⟩, ⟨[114, 116], [], [117], []⟩, ⟨[114, 115], [], [116], []⟩, ⟨[114, 14], [], [115], []⟩, ⟨[113], [], [114], []⟩, ⟨[108, 112], [], [113], []⟩, ⟨[108, 109, 111], [], [112], []⟩, ⟨[108, 110], [], [111], []⟩, ⟨[108, 5], [], [110], []⟩, ⟨[108, 11], [11], [109], []⟩, ⟨[107], [], [108], []⟩, ⟨[106], [], [107], []⟩, ⟨[12], [], [106], []⟩]
def pilelaw1_LocatorsFound.k6 : List DK := [⟨[128, 133], [], [134], []⟩, ⟨[128, 132], [], [133], []⟩, ⟨[128, 129, 131], [], [132], []⟩, ⟨[128, 130], [], [131], []⟩, ⟨[128, 5], [], [130], []⟩, ⟨[128, 15], [], [129], []⟩, ⟨[127], [], [128], []⟩, ⟨[124, 126], [], [127], []⟩, ⟨[124, 125], [], [126], []⟩, ⟨[124, 16], [], [125], []⟩, ⟨[123], [], [124], []⟩, ⟨[118, 122], [], [123], []⟩, ⟨[118, 119, 121], [], [122], []⟩, ⟨[118, 120], [], [121], []⟩, ⟨[118, 5], [], [120], []⟩, ⟨[118, 13], [13], [119], []⟩, ⟨[117], [], [118], []⟩, ⟨[114, 116], [], [117], []⟩, ⟨[114, 115], [], [116], []⟩, ⟨[114, 14], [], [115], []⟩, ⟨[113], [], [114], []⟩, ⟨[108, 112], [], [113], []⟩, ⟨[108, 109, 111], [], [112], []⟩, ⟨[108, 110], [], [111], []⟩, ⟨[108, 5], [], [110], []⟩, ⟨[108, 11], [11], [109], []⟩, ⟨[107], [], [108], []⟩, ⟨[106], [], [107], []⟩, ⟨[12], [], [106], []⟩]
mutual
def pilelaw1_LocatorsFound.j16 : Nat → ByteArray → ByteArray → Int → List ByteArray → Int → Int → Int → Int → Option (Bool)
  | 0, _, _, _, _, _, _, _, _ => Option.none
  | k + 1, x5j5, x6j5, x7j5, x8j5, o4_0j5, o4_1j5, x9j16, x10j16 => ((place_Locator.f k o4_0j5 o4_1j5 x7j5).bind fun r15 => ((pilelaw1_when.f (decide (x7j5 = 3)) 1).bind fun r16 => ((cmp_Or_api_Errno.f k [x9j16, r16]).bind fun r17 => (if r15.2 = r17 then (if r17 = 0 then ((pileref1_LocatorFor.f k o4_0j5 o4_1j5 x7j5).bind fun r18 => (if r15.1 = r18 then (if r17 = 0 then ((place_Within.f k x5j5 x6j5).bind fun r50 => ((pileref1_LocatorFault.f k x6j5).bind fun r51 => ((cmp_Or_api_Errno.f k [x10j16, r51]).bind fun r52 => (if r50.2 = r52 then (if r52 = 0 then ((pileref1_WithinOf.f x5j5 x6j5).bind fun r53 => (if (!(r50.1 == r53)) = true then Option.some false else ((place_Squares.f k x8j5).bind fun r54 => ((pileref1_SquaresFault.f k x8j5).bind fun r55 => (if r55 = 0 then (if r54.2 = 0 then ((pileref1_SquaresOf.f k x8j5).bind fun r59 => ((slices_Equal_string_string.f k r54.1 r59).bind fun r60 => (if r60 = true then ((pilelaw1_placed.f k ).bind fun r61 => Option.some r61) else Option.some false))) else Option.some false) else (if r54.2 = r55 then (if (r54.1.length : Int) = 0 then ((pilelaw1_placed.f k ).bind fun r56 => Option.some r56) else Option.some false) else Option.some false)))))) else (if (!(r50.1 == false)) = true then Option.some false else ((place_Squares.f k x8j5).bind fun r66 => ((pileref1_SquaresFault.f k x8j5).bind fun r67 => (if r67 = 0 then (if r66.2 = 0 then ((pileref1_SquaresOf.f k x8j5).bind fun r71 => ((slices_Equal_string_string.f k r66.1 r71).bind fun r72 => (if r72 = true then ((pilelaw1_placed.f k ).bind fun r73 => Option.some r73) else Option.some false))) else Option.some false) else (if r66.2 = r67 then (if (r66.1.length : Int) = 0 then ((pilelaw1_placed.f k ).bind fun r68 => Option.some r68) else Option.some false) else Option.some false)))))) else Option.some false)))) else (if r15.1 = (⟨#[]⟩ : ByteArray) then ((place_Within.f k x5j5 x6j5).bind fun r19 => ((pileref1_LocatorFault.f k x6j5).bind fun r20 => ((cmp_Or_api_Errno.f k [x10j16, r20]).bind fun r21 => (if r19.2 = r21 then (if r21 = 0 then ((pileref1_WithinOf.f x5j5 x6j5).bind fun r22 => (if (!(r19.1 == r22)) = true then Option.some false else ((place_Squares.f k x8j5).bind fun r23 => ((pileref1_SquaresFault.f k x8j5).bind fun r24 => (if r24 = 0 then (if r23.2 = 0 then ((pileref1_SquaresOf.f k x8j5).bind fun r28 => ((slices_Equal_string_string.f k r23.1 r28).bind fun r29 => (if r29 = true then ((pilelaw1_placed.f k ).bind fun r30 => Option.some r30) else Option.some false))) else Option.some false) else (if r23.2 = r24 then (if (r23.1.length : Int) = 0 then ((pilelaw1_placed.f k ).bind fun r25 => Option.some r25) else Option.some false) else Option.some false)))))) else (if (!(r19.1 == false)) = true then Option.some false else ((place_Squares.f k x8j5).bind fun r35 => ((pileref1_SquaresFault.f k x8j5).bind fun r36 => (if r36 = 0 then (if r35.2 = 0 then ((pileref1_SquaresOf.f k x8j5).bind fun r40 => ((slices_Equal_string_string.f k r35.1 r40).bind fun r41 => (if r41 = true then ((pilelaw1_placed.f k ).bind fun r42 => Option.some r42) else Option.some false))) else Option.some false) else (if r35.2 = r36 then (if (r35.1.length : Int) = 0 then ((pilelaw1_placed.f k ).bind fun r37 => Option.some r37) else Option.some false) else Option.some false)))))) else Option.some false)))) else Option.some false)) else Option.some false)) else (if r17 = 0 then ((place_Within.f k x5j5 x6j5).bind fun r113 => ((pileref1_LocatorFault.f k x6j5).bind fun r114 => ((cmp_Or_api_Errno.f k [x10j16, r114]).bind fun r115 => (if r113.2 = r115 then (if r115 = 0 then ((pileref1_WithinOf.f x5j5 x6j5).bind fun r116 => (if (!(r113.1 == r116)) = true then Option.some false else ((place_Squares.f k x8j5).bind fun r117 => ((pileref1_SquaresFault.f k x8j5).bind fun r118 => (if r118 = 0 then (if r117.2 = 0 then ((pileref1_SquaresOf.f k x8j5).bind fun r122 => ((slices_Equal_string_string.f k r117.1 r122).bind fun r123 => (if r123 = true then ((pilelaw1_placed.f k ).bind fun r124 => Option.some r124) else Option.some false))) else Option.some false) else (if r117.2 = r118 then (if (r117.1.length : Int) = 0 then ((pilelaw1_placed.f k ).bind fun r119 => Option.some r119) else Option.some false) else Option.some false)))))) else (if (!(r113.1 == false)) = true then Option.some false else ((place_Squares.f k x8j5).bind fun r129 => ((pileref1_SquaresFault.f k x8j5).bind fun r130 => (if r130 = 0 then (if r129.2 = 0 then ((pileref1_SquaresOf.f k x8j5).bind fun r134 => ((slices_Equal_string_string.f k r129.1 r134).bind fun r135 => (if r135 = true then ((pilelaw1_placed.f k ).bind fun r136 => Option.some r136) else Option.some false))) else Option.some false) else (if r129.2 = r130 then (if (r129.1.length : Int) = 0 then ((pilelaw1_placed.f k ).bind fun r131 => Option.some r131) else Option.some false) else Option.some false)))))) else Option.some false)))) else (if r15.1 = (⟨#[]⟩ : ByteArray) then ((place_Within.f k x5j5 x6j5).bind fun r82 => ((pileref1_LocatorFault.f k x6j5).bind fun r83 => ((cmp_Or_api_Errno.f k [x10j16, r83]).bind fun r84 => (if r82.2 = r84 then (if r84 = 0 then ((pileref1_WithinOf.f x5j5 x6j5).bind fun r85 => (if (!(r82.1 == r85)) = true then Option.some false else ((place_Squares.f k x8j5).bind fun r86 => ((pileref1_SquaresFault.f k x8j5).bind fun r87 => (if r87 = 0 then (if r86.2 = 0 then ((pileref1_SquaresOf.f k x8j5).bind fun r91 => ((slices_Equal_string_string.f k r86.1 r91).bind fun r92 => (if r92 = true then ((pilelaw1_placed.f k ).bind fun r93 => Option.some r93) else Option.some false))) else Option.some false) else (if r86.2 = r87 then (if (r86.1.length : Int) = 0 then ((pilelaw1_placed.f k ).bind fun r88 => Option.some r88) else Option.some false) else Option.some false)))))) else (if (!(r82.1 == false)) = true then Option.some false else ((place_Squares.f k x8j5).bind fun r98 => ((pileref1_SquaresFault.f k x8j5).bind fun r99 => (if r99 = 0 then (if r98.2 = 0 then ((pileref1_SquaresOf.f k x8j5).bind fun r103 => ((slices_Equal_string_string.f k r98.1 r103).bind fun r104 => (if r104 = true then ((pilelaw1_placed.f k ).bind fun r105 => Option.some r105) else Option.some false))) else Option.some false) else (if r98.2 = r99 then (if (r98.1.length : Int) = 0 then ((pilelaw1_placed.f k ).bind fun r100 => Option.some r100) else Option.some false) else Option.some false)))))) else Option.some false)))) else Option.some false))) else Option.some false))))
def pilelaw1_LocatorsFound.j5 : Nat → ByteArray → ByteArray → Int → List ByteArray → Int → Int → Option (Bool)
  | 0, _, _, _, _, _, _ => Option.none
  | k + 1, x5j5, x6j5, x7j5, x8j5, o4_0j5, o4_1j5 => ((pileref1_SiteFault.f o4_0j5 o4_1j5).bind fun r8 => ((pileref1_LocatorFault.f k x5j5).bind fun r9 => ((place_CheckSite.f o4_0j5 o4_1j5).bind fun r10 => (if r10 = r8 then ((place_IsLocator.f k x5j5).bind fun r11 => (if (!(r11 == (decide (r9 = 0)))) = true then Option.some false else ((place_AreaOf.f k x5j5).bind fun r12 => ((place_Middle.f k x5j5).bind fun r13 => ((place_Beside.f k x5j5).bind fun r14 => (if r9 = 0 then (if r12.2.2.2.2 = 0 then ((pileref1_AreaFor.f k x5j5).bind fun r152 => (if ((decide (r12.1 = r152.1) && (decide (r12.2.1 = r152.2.1) && true)) && ((decide (r12.2.2.1 = r152.2.2.1) && (decide (r12.2.2.2.1 = r152.2.2.2) && true)) && true)) = true then (if r13.2.2 = 0 then ((pileref1_MiddleOf.f k x5j5).bind fun r153 => (if (decide (r13.1 = r153.1) && (decide (r13.2.1 = r153.2) && true)) = true then (if r14.2 = 0 then ((pileref1_BesideOf.f k x5j5).bind fun r154 => ((slices_Equal_string_string.f k r14.1 r154).bind fun r155 => (if r155 = true then pilelaw1_LocatorsFound.j16 k x5j5 x6j5 x7j5 x8j5 o4_0j5 o4_1j5 r8 r9 else Option.some false))) else Option.some false) else Option.some false)) else Option.some false) else Option.some false)) else Option.some false) else (if r12.2.2.2.2 = r9 then (if r13.2.2 = r9 then (if r14.2 = r9 then (if ((decide (r12.1 = 0) && (decide (r12.2.1 = 0) && true)) && ((decide (r12.2.2.1 = 0) && (decide (r12.2.2.2.1 = 0) && true)) && true)) = true then (if (decide (r13.1 = 0) && (decide (r13.2.1 = 0) && true)) = true then (if (r14.1.length : Int) > 0 then Option.some false else pilelaw1_LocatorsFound.j16 k x5j5 x6j5 x7j5 x8j5 o4_0j5 o4_1j5 r8 r9) else Option.some false) else Option.some false) else Option.some false) else Option.some false) else Option.some false))))))) else Option.some false))))
end
def pilelaw1_LocatorsFound.f (k : Nat) (l0 : List Int) : Option (Bool) := ((pilemake_Stream_SiteOf.f k l0 0).bind fun r1 => ((pilemake_Stream_LocatorText.f k r1.2.2.1 r1.2.2.2).bind fun r2 => ((pilemake_Stream_LocatorText.f k r2.2.1 r2.2.2).bind fun r3 => ((pilemake_Stream_Pick.f k r3.2.1 r3.2.2 [2, 4, 6, 3]).bind fun r4 => ((pilemake_Stream_LocatorList.f k r4.2.1 r4.2.2 6).bind fun r5 => ((pilemake_Stream_Flip.f k r5.2.1 r5.2.2 3).bind fun r6 => (if r6.1 = true then (if (r2.1.size : Int) > 2 then (if 2 ≤ (r2.1.size : Int) then pilelaw1_LocatorsFound.j5 k r2.1 (r2.1.extract 0 2) r4.1 r5.1 r1.1 r1.2.1 else Option.none) else pilelaw1_LocatorsFound.j5 k r2.1 r3.1 r4.1 r5.1 r1.1 r1.2.1) else pilelaw1_LocatorsFound.j5 k r2.1 r3.1 r4.1 r5.1 r1.1 r1.2.1)))))))
theorem pilelaw1_LocatorsFound.loops : ∀ k, (∀ (x5j5 : ByteArray) (x6j5 : ByteArray) (x7j5 : Int) (x8j5 : List ByteArray) (o4_0j5 : Int) (o4_1j5 : Int) (x9j16 : Int) (x10j16 : Int), RS (fam Tryz.f3 [5, 16] [] [] (fun r : Bool => .bool r) (fun r => [])) (Func.reg Tryz.f3 16) ⟨ofT [(4, .ref 4 0 0 0 2), (5, .str x5j5), (6, .str x6j5), (7, .int .i64 x7j5), (8, sq eS x8j5), (9, .int .i64 x9j16), (10, .int .i64 x10j16)], ofL [(4, .box [.int .i64 o4_0j5, .int .i64 o4_1j5])]⟩ (pilelaw1_LocatorsFound.j16 k x5j5 x6j5 x7j5 x8j5 o4_0j5 o4_1j5 x9j16 x10j16)) ∧ (∀ (x5j5 : ByteArray) (x6j5 : ByteArray) (x7j5 : Int) (x8j5 : List ByteArray) (o4_0j5 : Int) (o4_1j5 : Int), RS (fam Tryz.f3 [5, 16] [] [] (fun r : Bool => .bool r) (fun r => [])) (Func.reg Tryz.f3 5) ⟨ofT [(4, .ref 4 0 0 0 2), (5, .str x5j5), (6, .str x6j5), (7, .int .i64 x7j5), (8, sq eS x8j5)], ofL [(4, .box [.int .i64 o4_0j5, .int .i64 o4_1j5])]⟩ (pilelaw1_LocatorsFound.j5 k x5j5 x6j5 x7j5 x8j5 o4_0j5 o4_1j5))
  | 0 => ⟨by intro _ _ _ _ _ _ _ _; simp only [pilelaw1_LocatorsFound.j16]; exact RS.none, by intro _ _ _ _ _ _; simp only [pilelaw1_LocatorsFound.j5]; exact RS.none⟩
  | k + 1 => by
    have ih := pilelaw1_LocatorsFound.loops k
    refine ⟨?_, ?_⟩
    · intro x5j5 x6j5 x7j5 x8j5 o4_0j5 o4_1j5 x9j16 x10j16
      simp only [pilelaw1_LocatorsFound.j16]
      refine RS.region ?_
      refine RS.go ?_
      refine RT.call0 rfl (fun _ h => place_Locator.ok k o4_0j5 o4_1j5 x7j5 _ h) (LeL.eq rfl) (fun _ => rfl) (fun r15 => ?_)
      refine RS.go ?_
      refine RT.call0 rfl (fun _ h => pilelaw1_when.ok (decide (x7j5 = 3)) 1 _ h) (LeL.eq rfl) (fun _ => rfl) (fun r16 => ?_)
      refine RS.go ?_
      refine RT.goto rfl ?_
      refine RS.slot 145 (sq eI [x9j16, r16]) (Le.lit (E := eI) (l := [x9j16, r16]) (cells_of rfl)) ?_
      refine RS.go ?_
      refine RT.call0 rfl (fun _ h => cmp_Or_api_Errno.ok k [x9j16, r16] _ h) (LeL.eq rfl) (fun _ => rfl) (fun r17 => ?_)
      refine RS.go ?_
      refine RT.brN rfl (fun c145 => ?_) (fun c145 => ?_)
      · refine RT.brF rfl ?_
        refine RT.brF rfl ?_
        refine RT.br rfl (fun c144 => ?_) (fun c144 => ?_)
        · refine RT.brT rfl ?_
          refine RT.brT rfl ?_
          refine RT.brT rfl ?_
          refine RT.call0 rfl (fun _ h => pileref1_LocatorFor.ok k o4_0j5 o4_1j5 x7j5 _ h) (LeL.eq rfl) (fun _ => rfl) (fun r18 => ?_)
          refine RS.go ?_
          refine RT.brT rfl ?_
          refine RT.brF rfl ?_
          refine RT.brT rfl ?_
          refine RT.brF rfl ?_
          refine RT.brN rfl (fun c81 => ?_) (fun c81 => ?_)
          · refine RT.brF rfl ?_
            refine RT.brF rfl ?_
            refine RT.brN rfl (fun c80 => ?_) (fun c80 => ?_)
            · refine RT.brF rfl ?_
              refine RT.brF rfl ?_
              refine RT.brF rfl ?_
              refine RT.brF rfl ?_
              refine RT.brF rfl ?_
              refine RT.call0 rfl (fun _ h => place_Within.ok k x5j5 x6j5 _ h) (LeL.eq rfl) (fun _ => rfl) (fun r50 => ?_)
              refine RS.go ?_
              refine RT.call0 rfl (fun _ h => pileref1_LocatorFault.ok k x6j5 _ h) (LeL.eq rfl) (fun _ => rfl) (fun r51 => ?_)
              refine RS.go ?_
              refine RT.goto rfl ?_
              refine RS.slot 178 (sq eI [x10j16, r51]) (Le.lit (E := eI) (l := [x10j16, r51]) (cells_of rfl)) ?_
              refine RS.go ?_
              refine RT.call0 rfl (fun _ h => cmp_Or_api_Errno.ok k [x10j16, r51] _ h) (LeL.eq rfl) (fun _ => rfl) (fun r52 => ?_)
              refine RS.go ?_
              refine RT.brN rfl (fun c79 => ?_) (fun c79 => ?_)
              · refine RT.brF rfl ?_
                refine RT.brF rfl ?_
                refine RT.brF rfl ?_
                refine RT.br rfl (fun c78 => ?_) (fun c78 => ?_)
                · refine RT.brT rfl ?_
                  refine RT.brT rfl ?_
                  refine RT.call0 rfl (fun _ h => pileref1_WithinOf.ok x5j5 x6j5 _ h) (LeL.eq rfl) (fun _ => rfl) (fun r53 => ?_)
                  refine RS.go ?_
                  refine RT.brF rfl ?_
                  refine RT.brT rfl ?_
                  refine RT.brF rfl ?_
                  refine RT.brF rfl ?_
                  refine RT.brB rfl (fun c65 => ?_) (fun c65 => ?_)
                  · exact RT.done rfl rfl (Le.refl _) trivial rfl (dom0 rfl)
                  · refine RT.call0 rfl (fun _ h => place_Squares.ok k x8j5 _ h) (LeL.eq rfl) (fun _ => rfl) (fun r54 => ?_)
                    refine RS.go ?_
                    refine RT.call0 rfl (fun _ h => pileref1_SquaresFault.ok k x8j5 _ h) (LeL.eq rfl) (fun _ => rfl) (fun r55 => ?_)
                    refine RS.go ?_
                    refine RT.brN rfl (fun c64 => ?_) (fun c64 => ?_)
                    · refine RT.br rfl (fun c63 => ?_) (fun c63 => ?_)
                      · refine RT.brT rfl ?_
                        refine RT.brT rfl ?_
                        refine RT.call0 rfl (fun _ h => pileref1_SquaresOf.ok k x8j5 _ h) (LeL.eq rfl) (fun _ => rfl) (fun r59 => ?_)
                        refine RS.go ?_
                        refine RT.brT rfl ?_
                        refine RT.call0 rfl (fun _ h => slices_Equal_string_string.ok k r54.1 r59 _ h) (LeL.eq rfl) (fun _ => rfl) (fun r60 => ?_)
                        refine RS.go ?_
                        refine RT.brT rfl ?_
                        refine RT.brB rfl (fun c62 => ?_) (fun c62 => ?_)
                        · refine RT.call0 rfl (fun _ h => pilelaw1_placed.ok k  _ h) (LeL.eq rfl) (fun _ => rfl) (fun r61 => ?_)
                          refine RS.go ?_
                          refine RT.brT rfl ?_
                          exact RT.done rfl rfl (Le.refl _) trivial rfl (dom0 rfl)
                        · refine RT.brF rfl ?_
                          exact RT.done rfl rfl (Le.refl _) trivial rfl (dom0 rfl)
                      · refine RT.brF rfl ?_
                        refine RT.brF rfl ?_
                        refine RT.brF rfl ?_
                        refine RT.brF rfl ?_
                        refine RT.brF rfl ?_
                        refine RT.brF rfl ?_
                        exact RT.done rfl rfl (Le.refl _) trivial rfl (dom0 rfl)
                    · refine RT.br rfl (fun c58 => ?_) (fun c58 => ?_)
                      · refine RT.brT rfl ?_
                        refine RT.brT rfl ?_
                        refine RT.brT rfl ?_
                        refine RT.br rfl (fun c57 => ?_) (fun c57 => ?_)
                        · refine RT.call0 rfl (fun _ h => pilelaw1_placed.ok k  _ h) (LeL.eq rfl) (fun _ => rfl) (fun r56 => ?_)
                          refine RS.go ?_
                          refine RT.brT rfl ?_
                          exact RT.done rfl rfl (Le.refl _) trivial rfl (dom0 rfl)
                        · refine RT.brF rfl ?_
                          exact RT.done rfl rfl (Le.refl _) trivial rfl (dom0 rfl)
                      · refine RT.brF rfl ?_
                        refine RT.brF rfl ?_
                        refine RT.brF rfl ?_
                        refine RT.brF rfl ?_
                        refine RT.brF rfl ?_
                        exact RT.done rfl rfl (Le.refl _) trivial rfl (dom0 rfl)
                · refine RT.brF rfl ?_
                  refine RT.brF rfl ?_
                  refine RT.brF rfl ?_
                  refine RT.brF rfl ?_
                  refine RT.brF rfl ?_
                  refine RT.brF rfl ?_
                  refine RT.brB rfl (fun c77 => ?_) (fun c77 => ?_)
                  · exact RT.done rfl rfl (Le.refl _) trivial rfl (dom0 rfl)
                  · refine RT.call0 rfl (fun _ h => place_Squares.ok k x8j5 _ h) (LeL.eq rfl) (fun _ => rfl) (fun r66 => ?_)
                    refine RS.go ?_
                    refine RT.call0 rfl (fun _ h => pileref1_SquaresFault.ok k x8j5 _ h) (LeL.eq rfl) (fun _ => rfl) (fun r67 => ?_)
                    refine RS.go ?_
                    refine RT.brN rfl (fun c76 => ?_) (fun c76 => ?_)
                    · refine RT.br rfl (fun c75 => ?_) (fun c75 => ?_)
                      · refine RT.brT rfl ?_
                        refine RT.brT rfl ?_
                        refine RT.call0 rfl (fun _ h => pileref1_SquaresOf.ok k x8j5 _ h) (LeL.eq rfl) (fun _ => rfl) (fun r71 => ?_)
                        refine RS.go ?_
                        refine RT.brT rfl ?_
                        refine RT.call0 rfl (fun _ h => slices_Equal_string_string.ok k r66.1 r71 _ h) (LeL.eq rfl) (fun _ => rfl) (fun r72 => ?_)
                        refine RS.go ?_
                        refine RT.brT rfl ?_
                        refine RT.brB rfl (fun c74 => ?_) (fun c74 => ?_)
                        · refine RT.call0 rfl (fun _ h => pilelaw1_placed.ok k  _ h) (LeL.eq rfl) (fun _ => rfl) (fun r73 => ?_)
                          refine RS.go ?_
                          refine RT.brT rfl ?_
                          exact RT.done rfl rfl (Le.refl _) trivial rfl (dom0 rfl)
                        · refine RT.brF rfl ?_
                          exact RT.done rfl rfl (Le.refl _) trivial rfl (dom0 rfl)
                      · refine RT.brF rfl ?_
                        refine RT.brF rfl ?_
                        refine RT.brF rfl ?_
                        refine RT.brF rfl ?_
                        refine RT.brF rfl ?_
                        refine RT.brF rfl ?_
                        exact RT.done rfl rfl (Le.refl _) trivial rfl (dom0 rfl)
                    · refine RT.br rfl (fun c70 => ?_) (fun c70 => ?_)
                      · refine RT.brT rfl ?_
                        refine RT.brT rfl ?_
                        refine RT.brT rfl ?_
                        refine RT.br rfl (fun c69 => ?_) (fun c69 => ?_)
                        · refine RT.call0 rfl (fun _ h => pilelaw1_placed.ok k  _ h) (LeL.eq rfl) (fun _ => rfl) (fun r68 => ?_)
                          refine RS.go ?_
                          refine RT.brT rfl ?_
                          exact RT.done rfl rfl (Le.refl _) trivial rfl (dom0 rfl)
                        · refine RT.brF rfl ?_
                          exact RT.done rfl rfl (Le.refl _) trivial rfl (dom0 rfl)
                      · refine RT.brF rfl ?_
                        refine RT.brF rfl ?_
                        refine RT.brF rfl ?_
                        refine RT.brF rfl ?_
                        refine RT.brF rfl ?_
                        exact RT.done rfl rfl (Le.refl _) trivial rfl (dom0 rfl)
              · refine RT.brT rfl ?_
                refine RT.brT rfl ?_
                refine RT.brT rfl ?_
                refine RT.brT rfl ?_
                refine RT.brT rfl ?_
                refine RT.brT rfl ?_
                refine RT.brT rfl ?_
                exact RT.done rfl rfl (Le.refl _) trivial rfl (dom0 rfl)
            · refine RT.brT rfl ?_
              refine RT.brF rfl ?_
              refine RT.brT rfl ?_
              refine RT.brF rfl ?_
              refine RT.brN rfl (fun c49 => ?_) (fun c49 => ?_)
              · refine RT.call0 rfl (fun _ h => place_Within.ok k x5j5 x6j5 _ h) (LeL.eq rfl) (fun _ => rfl) (fun r19 => ?_)
                refine RS.go ?_
                refine RT.call0 rfl (fun _ h => pileref1_LocatorFault.ok k x6j5 _ h) (LeL.eq rfl) (fun _ => rfl) (fun r20 => ?_)
                refine RS.go ?_
                refine RT.goto rfl ?_
                refine RS.slot 178 (sq eI [x10j16, r20]) (Le.lit (E := eI) (l := [x10j16, r20]) (cells_of rfl)) ?_
                refine RS.go ?_
                refine RT.call0 rfl (fun _ h => cmp_Or_api_Errno.ok k [x10j16, r20] _ h) (LeL.eq rfl) (fun _ => rfl) (fun r21 => ?_)
                refine RS.go ?_
                refine RT.brN rfl (fun c48 => ?_) (fun c48 => ?_)
                · refine RT.brF rfl ?_
                  refine RT.brF rfl ?_
                  refine RT.brF rfl ?_
                  refine RT.br rfl (fun c47 => ?_) (fun c47 => ?_)
                  · refine RT.brT rfl ?_
                    refine RT.brT rfl ?_
                    refine RT.call0 rfl (fun _ h => pileref1_WithinOf.ok x5j5 x6j5 _ h) (LeL.eq rfl) (fun _ => rfl) (fun r22 => ?_)
                    refine RS.go ?_
                    refine RT.brF rfl ?_
                    refine RT.brT rfl ?_
                    refine RT.brF rfl ?_
                    refine RT.brF rfl ?_
                    refine RT.brB rfl (fun c34 => ?_) (fun c34 => ?_)
                    · exact RT.done rfl rfl (Le.refl _) trivial rfl (dom0 rfl)
                    · refine RT.call0 rfl (fun _ h => place_Squares.ok k x8j5 _ h) (LeL.eq rfl) (fun _ => rfl) (fun r23 => ?_)
                      refine RS.go ?_
                      refine RT.call0 rfl (fun _ h => pileref1_SquaresFault.ok k x8j5 _ h) (LeL.eq rfl) (fun _ => rfl) (fun r24 => ?_)
                      refine RS.go ?_
                      refine RT.brN rfl (fun c33 => ?_) (fun c33 => ?_)
                      · refine RT.br rfl (fun c32 => ?_) (fun c32 => ?_)
                        · refine RT.brT rfl ?_
                          refine RT.brT rfl ?_
                          refine RT.call0 rfl (fun _ h => pileref1_SquaresOf.ok k x8j5 _ h) (LeL.eq rfl) (fun _ => rfl) (fun r28 => ?_)
                          refine RS.go ?_
                          refine RT.brT rfl ?_
                          refine RT.call0 rfl (fun _ h => slices_Equal_string_string.ok k r23.1 r28 _ h) (LeL.eq rfl) (fun _ => rfl) (fun r29 => ?_)
                          refine RS.go ?_
                          refine RT.brT rfl ?_
                          refine RT.brB rfl (fun c31 => ?_) (fun c31 => ?_)
                          · refine RT.call0 rfl (fun _ h => pilelaw1_placed.ok k  _ h) (LeL.eq rfl) (fun _ => rfl) (fun r30 => ?_)
                            refine RS.go ?_
                            refine RT.brT rfl ?_
                            exact RT.done rfl rfl (Le.refl _) trivial rfl (dom0 rfl)
                          · refine RT.brF rfl ?_
                            exact RT.done rfl rfl (Le.refl _) trivial rfl (dom0 rfl)
                        · refine RT.brF rfl ?_
                          refine RT.brF rfl ?_
                          refine RT.brF rfl ?_
                          refine RT.brF rfl ?_
                          refine RT.brF rfl ?_
                          refine RT.brF rfl ?_
                          exact RT.done rfl rfl (Le.refl _) trivial rfl (dom0 rfl)
                      · refine RT.br rfl (fun c27 => ?_) (fun c27 => ?_)
                        · refine RT.brT rfl ?_
                          refine RT.brT rfl ?_
                          refine RT.brT rfl ?_
                          refine RT.br rfl (fun c26 => ?_) (fun c26 => ?_)
                          · refine RT.call0 rfl (fun _ h => pilelaw1_placed.ok k  _ h) (LeL.eq rfl) (fun _ => rfl) (fun r25 => ?_)
                            refine RS.go ?_
                            refine RT.brT rfl ?_
                            exact RT.done rfl rfl (Le.refl _) trivial rfl (dom0 rfl)
                          · refine RT.brF rfl ?_
                            exact RT.done rfl rfl (Le.refl _) trivial rfl (dom0 rfl)
                        · refine RT.brF rfl ?_
                          refine RT.brF rfl ?_
                          refine RT.brF rfl ?_
                          refine RT.brF rfl ?_
                          refine RT.brF rfl ?_
                          exact RT.done rfl rfl (Le.refl _) trivial rfl (dom0 rfl)
                  · refine RT.brF rfl ?_
                    refine RT.brF rfl ?_
                    refine RT.brF rfl ?_
                    refine RT.brF rfl ?_
                    refine RT.brF rfl ?_
                    refine RT.brF rfl ?_
                    refine RT.brB rfl (fun c46 => ?_) (fun c46 => ?_)
                    · exact RT.done rfl rfl (Le.refl _) trivial rfl (dom0 rfl)
                    · refine RT.call0 rfl (fun _ h => place_Squares.ok k x8j5 _ h) (LeL.eq rfl) (fun _ => rfl) (fun r35 => ?_)
                      refine RS.go ?_
                      refine RT.call0 rfl (fun _ h => pileref1_SquaresFault.ok k x8j5 _ h) (LeL.eq rfl) (fun _ => rfl) (fun r36 => ?_)
                      refine RS.go ?_
                      refine RT.brN rfl (fun c45 => ?_) (fun c45 => ?_)
                      · refine RT.br rfl (fun c44 => ?_) (fun c44 => ?_)
                        · refine RT.brT rfl ?_
                          refine RT.brT rfl ?_
                          refine RT.call0 rfl (fun _ h => pileref1_SquaresOf.ok k x8j5 _ h) (LeL.eq rfl) (fun _ => rfl) (fun r40 => ?_)
                          refine RS.go ?_
                          refine RT.brT rfl ?_
                          refine RT.call0 rfl (fun _ h => slices_Equal_string_string.ok k r35.1 r40 _ h) (LeL.eq rfl) (fun _ => rfl) (fun r41 => ?_)
                          refine RS.go ?_
                          refine RT.brT rfl ?_
                          refine RT.brB rfl (fun c43 => ?_) (fun c43 => ?_)
                          · refine RT.call0 rfl (fun _ h => pilelaw1_placed.ok k  _ h) (LeL.eq rfl) (fun _ => rfl) (fun r42 => ?_)
                            refine RS.go ?_
                            refine RT.brT rfl ?_
                            exact RT.done rfl rfl (Le.refl _) trivial rfl (dom0 rfl)
                          · refine RT.brF rfl ?_
                            exact RT.done rfl rfl (Le.refl _) trivial rfl (dom0 rfl)
                        · refine RT.brF rfl ?_
                          refine RT.brF rfl ?_
                          refine RT.brF rfl ?_
                          refine RT.brF rfl ?_
                          refine RT.brF rfl ?_
                          refine RT.brF rfl ?_
                          exact RT.done rfl rfl (Le.refl _) trivial rfl (dom0 rfl)
                      · refine RT.br rfl (fun c39 => ?_) (fun c39 => ?_)
                        · refine RT.brT rfl ?_
                          refine RT.brT rfl ?_
                          refine RT.brT rfl ?_
                          refine RT.br rfl (fun c38 => ?_) (fun c38 => ?_)
                          · refine RT.call0 rfl (fun _ h => pilelaw1_placed.ok k  _ h) (LeL.eq rfl) (fun _ => rfl) (fun r37 => ?_)
                            refine RS.go ?_
                            refine RT.brT rfl ?_
                            exact RT.done rfl rfl (Le.refl _) trivial rfl (dom0 rfl)
                          · refine RT.brF rfl ?_
                            exact RT.done rfl rfl (Le.refl _) trivial rfl (dom0 rfl)
                        · refine RT.brF rfl ?_
                          refine RT.brF rfl ?_
                          refine RT.brF rfl ?_
                          refine RT.brF rfl ?_
                          refine RT.brF rfl ?_
                          exact RT.done rfl rfl (Le.refl _) trivial rfl (dom0 rfl)
                · refine RT.brT rfl ?_
                  refine RT.brT rfl ?_
                  refine RT.brT rfl ?_
                  refine RT.brT rfl ?_
                  refine RT.brT rfl ?_
                  refine RT.brT rfl ?_
                  refine RT.brT rfl ?_
                  exact RT.done rfl rfl (Le.refl _) trivial rfl (dom0 rfl)
              · exact RT.done rfl rfl (Le.refl _) trivial rfl (dom0 rfl)
          · refine RT.brT rfl ?_
            refine RT.brT rfl ?_
            refine RT.brT rfl ?_
            refine RT.brT rfl ?_
            refine RT.brT rfl ?_
            exact RT.done rfl rfl (Le.refl _) trivial rfl (dom0 rfl)
        · refine RT.brF rfl ?_
          refine RT.brF rfl ?_
          refine RT.brF rfl ?_
          refine RT.brF rfl ?_
          refine RT.brF rfl ?_
          refine RT.brF rfl ?_
          refine RT.brF rfl ?_
          refine RT.brF rfl ?_
          refine RT.brF rfl ?_
          refine RT.brF rfl ?_
          refine RT.brN rfl (fun c143 => ?_) (fun c143 => ?_)
          · refine RT.brF rfl ?_
            refine RT.brF rfl ?_
            refine RT.brF rfl ?_
            refine RT.brF rfl ?_
            refine RT.brF rfl ?_
            refine RT.call0 rfl (fun _ h => place_Within.ok k x5j5 x6j5 _ h) (LeL.eq rfl) (fun _ => rfl) (fun r113 => ?_)
            refine RS.go ?_
            refine RT.call0 rfl (fun _ h => pileref1_LocatorFault.ok k x6j5 _ h) (LeL.eq rfl) (fun _ => rfl) (fun r114 => ?_)
            refine RS.go ?_
            refine RT.goto rfl ?_
            refine RS.slot 178 (sq eI [x10j16, r114]) (Le.lit (E := eI) (l := [x10j16, r114]) (cells_of rfl)) ?_
            refine RS.go ?_
            refine RT.call0 rfl (fun _ h => cmp_Or_api_Errno.ok k [x10j16, r114] _ h) (LeL.eq rfl) (fun _ => rfl) (fun r115 => ?_)
            refine RS.go ?_
            refine RT.brN rfl (fun c142 => ?_) (fun c142 => ?_)
            · refine RT.brF rfl ?_
              refine RT.brF rfl ?_
              refine RT.brF rfl ?_
              refine RT.br rfl (fun c141 => ?_) (fun c141 => ?_)
              · refine RT.brT rfl ?_
                refine RT.brT rfl ?_
                refine RT.call0 rfl (fun _ h => pileref1_WithinOf.ok x5j5 x6j5 _ h) (LeL.eq rfl) (fun _ => rfl) (fun r116 => ?_)
                refine RS.go ?_
                refine RT.brF rfl ?_
                refine RT.brT rfl ?_
                refine RT.brF rfl ?_
                refine RT.brF rfl ?_
                refine RT.brB rfl (fun c128 => ?_) (fun c128 => ?_)
                · exact RT.done rfl rfl (Le.refl _) trivial rfl (dom0 rfl)
                · refine RT.call0 rfl (fun _ h => place_Squares.ok k x8j5 _ h) (LeL.eq rfl) (fun _ => rfl) (fun r117 => ?_)
                  refine RS.go ?_
                  refine RT.call0 rfl (fun _ h => pileref1_SquaresFault.ok k x8j5 _ h) (LeL.eq rfl) (fun _ => rfl) (fun r118 => ?_)
                  refine RS.go ?_
                  refine RT.brN rfl (fun c127 => ?_) (fun c127 => ?_)
                  · refine RT.br rfl (fun c126 => ?_) (fun c126 => ?_)
                    · refine RT.brT rfl ?_
                      refine RT.brT rfl ?_
                      refine RT.call0 rfl (fun _ h => pileref1_SquaresOf.ok k x8j5 _ h) (LeL.eq rfl) (fun _ => rfl) (fun r122 => ?_)
                      refine RS.go ?_
                      refine RT.brT rfl ?_
                      refine RT.call0 rfl (fun _ h => slices_Equal_string_string.ok k r117.1 r122 _ h) (LeL.eq rfl) (fun _ => rfl) (fun r123 => ?_)
                      refine RS.go ?_
                      refine RT.brT rfl ?_
                      refine RT.brB rfl (fun c125 => ?_) (fun c125 => ?_)
                      · refine RT.call0 rfl (fun _ h => pilelaw1_placed.ok k  _ h) (LeL.eq rfl) (fun _ => rfl) (fun r124 => ?_)
                        refine RS.go ?_
                        refine RT.brT rfl ?_
                        exact RT.done rfl rfl (Le.refl _) trivial rfl (dom0 rfl)
                      · refine RT.brF rfl ?_
                        exact RT.done rfl rfl (Le.refl _) trivial rfl (dom0 rfl)
                    · refine RT.brF rfl ?_
                      refine RT.brF rfl ?_
                      refine RT.brF rfl ?_
                      refine RT.brF rfl ?_
                      refine RT.brF rfl ?_
                      refine RT.brF rfl ?_
                      exact RT.done rfl rfl (Le.refl _) trivial rfl (dom0 rfl)
                  · refine RT.br rfl (fun c121 => ?_) (fun c121 => ?_)
                    · refine RT.brT rfl ?_
                      refine RT.brT rfl ?_
                      refine RT.brT rfl ?_
                      refine RT.br rfl (fun c120 => ?_) (fun c120 => ?_)
                      · refine RT.call0 rfl (fun _ h => pilelaw1_placed.ok k  _ h) (LeL.eq rfl) (fun _ => rfl) (fun r119 => ?_)
                        refine RS.go ?_
                        refine RT.brT rfl ?_
                        exact RT.done rfl rfl (Le.refl _) trivial rfl (dom0 rfl)
                      · refine RT.brF rfl ?_
                        exact RT.done rfl rfl (Le.refl _) trivial rfl (dom0 rfl)
                    · refine RT.brF rfl ?_
                      refine RT.brF rfl ?_
                      refine RT.brF rfl ?_
                      refine RT.brF rfl ?_
                      refine RT.brF rfl ?_
                      exact RT.done rfl rfl (Le.refl _) trivial rfl (dom0 rfl)
              · refine RT.brF rfl ?_
                refine RT.brF rfl ?_
                refine RT.brF rfl ?_
                refine RT.brF rfl ?_
                refine RT.brF rfl ?_
                refine RT.brF rfl ?_
                refine RT.brB rfl (fun c140 => ?_) (fun c140 => ?_)
                · exact RT.done rfl rfl (Le.refl _) trivial rfl (dom0 rfl)
                · refine RT.call0 rfl (fun _ h => place_Squares.ok k x8j5 _ h) (LeL.eq rfl) (fun _ => rfl) (fun r129 => ?_)
                  refine RS.go ?_
                  refine RT.call0 rfl (fun _ h => pileref1_SquaresFault.ok k x8j5 _ h) (LeL.eq rfl) (fun _ => rfl) (fun r130 => ?_)
                  refine RS.go ?_
                  refine RT.brN rfl (fun c139 => ?_) (fun c139 => ?_)
                  · refine RT.br rfl (fun c138 => ?_) (fun c138 => ?_)
                    · refine RT.brT rfl ?_
                      refine RT.brT rfl ?_
                      refine RT.call0 rfl (fun _ h => pileref1_SquaresOf.ok k x8j5 _ h) (LeL.eq rfl) (fun _ => rfl) (fun r134 => ?_)
                      refine RS.go ?_
                      refine RT.brT rfl ?_
                      refine RT.call0 rfl (fun _ h => slices_Equal_string_string.ok k r129.1 r134 _ h) (LeL.eq rfl) (fun _ => rfl) (fun r135 => ?_)
                      refine RS.go ?_
                      refine RT.brT rfl ?_
                      refine RT.brB rfl (fun c137 => ?_) (fun c137 => ?_)
                      · refine RT.call0 rfl (fun _ h => pilelaw1_placed.ok k  _ h) (LeL.eq rfl) (fun _ => rfl) (fun r136 => ?_)
                        refine RS.go ?_
                        refine RT.brT rfl ?_
                        exact RT.done rfl rfl (Le.refl _) trivial rfl (dom0 rfl)
                      · refine RT.brF rfl ?_
                        exact RT.done rfl rfl (Le.refl _) trivial rfl (dom0 rfl)
                    · refine RT.brF rfl ?_
                      refine RT.brF rfl ?_
                      refine RT.brF rfl ?_
                      refine RT.brF rfl ?_
                      refine RT.brF rfl ?_
                      refine RT.brF rfl ?_
                      exact RT.done rfl rfl (Le.refl _) trivial rfl (dom0 rfl)
                  · refine RT.br rfl (fun c133 => ?_) (fun c133 => ?_)
                    · refine RT.brT rfl ?_
                      refine RT.brT rfl ?_
                      refine RT.brT rfl ?_
                      refine RT.br rfl (fun c132 => ?_) (fun c132 => ?_)
                      · refine RT.call0 rfl (fun _ h => pilelaw1_placed.ok k  _ h) (LeL.eq rfl) (fun _ => rfl) (fun r131 => ?_)
                        refine RS.go ?_
                        refine RT.brT rfl ?_
                        exact RT.done rfl rfl (Le.refl _) trivial rfl (dom0 rfl)
                      · refine RT.brF rfl ?_
                        exact RT.done rfl rfl (Le.refl _) trivial rfl (dom0 rfl)
                    · refine RT.brF rfl ?_
                      refine RT.brF rfl ?_
                      refine RT.brF rfl ?_
                      refine RT.brF rfl ?_
                      refine RT.brF rfl ?_
                      exact RT.done rfl rfl (Le.refl _) trivial rfl (dom0 rfl)
            · refine RT.brT rfl ?_
              refine RT.brT rfl ?_
              refine RT.brT rfl ?_
              refine RT.brT rfl ?_
              refine RT.brT rfl ?_
              refine RT.brT rfl ?_
              refine RT.brT rfl ?_
              exact RT.done rfl rfl (Le.refl _) trivial rfl (dom0 rfl)
          · refine RT.brT rfl ?_
            refine RT.brF rfl ?_
            refine RT.brT rfl ?_
            refine RT.brF rfl ?_
            refine RT.brN rfl (fun c112 => ?_) (fun c112 => ?_)
            · refine RT.call0 rfl (fun _ h => place_Within.ok k x5j5 x6j5 _ h) (LeL.eq rfl) (fun _ => rfl) (fun r82 => ?_)
              refine RS.go ?_
              refine RT.call0 rfl (fun _ h => pileref1_LocatorFault.ok k x6j5 _ h) (LeL.eq rfl) (fun _ => rfl) (fun r83 => ?_)
              refine RS.go ?_
              refine RT.goto rfl ?_
              refine RS.slot 178 (sq eI [x10j16, r83]) (Le.lit (E := eI) (l := [x10j16, r83]) (cells_of rfl)) ?_
              refine RS.go ?_
              refine RT.call0 rfl (fun _ h => cmp_Or_api_Errno.ok k [x10j16, r83] _ h) (LeL.eq rfl) (fun _ => rfl) (fun r84 => ?_)
              refine RS.go ?_
              refine RT.brN rfl (fun c111 => ?_) (fun c111 => ?_)
              · refine RT.brF rfl ?_
                refine RT.brF rfl ?_
                refine RT.brF rfl ?_
                refine RT.br rfl (fun c110 => ?_) (fun c110 => ?_)
                · refine RT.brT rfl ?_
                  refine RT.brT rfl ?_
                  refine RT.call0 rfl (fun _ h => pileref1_WithinOf.ok x5j5 x6j5 _ h) (LeL.eq rfl) (fun _ => rfl) (fun r85 => ?_)
                  refine RS.go ?_
                  refine RT.brF rfl ?_
                  refine RT.brT rfl ?_
                  refine RT.brF rfl ?_
                  refine RT.brF rfl ?_
                  refine RT.brB rfl (fun c97 => ?_) (fun c97 => ?_)
                  · exact RT.done rfl rfl (Le.refl _) trivial rfl (dom0 rfl)
                  · refine RT.call0 rfl (fun _ h => place_Squares.ok k x8j5 _ h) (LeL.eq rfl) (fun _ => rfl) (fun r86 => ?_)
                    refine RS.go ?_
                    refine RT.call0 rfl (fun _ h => pileref1_SquaresFault.ok k x8j5 _ h) (LeL.eq rfl) (fun _ => rfl) (fun r87 => ?_)
                    refine RS.go ?_
                    refine RT.brN rfl (fun c96 => ?_) (fun c96 => ?_)
                    · refine RT.br rfl (fun c95 => ?_) (fun c95 => ?_)
                      · refine RT.brT rfl ?_
                        refine RT.brT rfl ?_
                        refine RT.call0 rfl (fun _ h => pileref1_SquaresOf.ok k x8j5 _ h) (LeL.eq rfl) (fun _ => rfl) (fun r91 => ?_)
                        refine RS.go ?_
                        refine RT.brT rfl ?_
                        refine RT.call0 rfl (fun _ h => slices_Equal_string_string.ok k r86.1 r91 _ h) (LeL.eq rfl) (fun _ => rfl) (fun r92 => ?_)
                        refine RS.go ?_
                        refine RT.brT rfl ?_
                        refine RT.brB rfl (fun c94 => ?_) (fun c94 => ?_)
                        · refine RT.call0 rfl (fun _ h => pilelaw1_placed.ok k  _ h) (LeL.eq rfl) (fun _ => rfl) (fun r93 => ?_)
                          refine RS.go ?_
                          refine RT.brT rfl ?_
                          exact RT.done rfl rfl (Le.refl _) trivial rfl (dom0 rfl)
                        · refine RT.brF rfl ?_
                          exact RT.done rfl rfl (Le.refl _) trivial rfl (dom0 rfl)
                      · refine RT.brF rfl ?_
                        refine RT.brF rfl ?_
                        refine RT.brF rfl ?_
                        refine RT.brF rfl ?_
                        refine RT.brF rfl ?_
                        refine RT.brF rfl ?_
                        exact RT.done rfl rfl (Le.refl _) trivial rfl (dom0 rfl)
                    · refine RT.br rfl (fun c90 => ?_) (fun c90 => ?_)
                      · refine RT.brT rfl ?_
                        refine RT.brT rfl ?_
                        refine RT.brT rfl ?_
                        refine RT.br rfl (fun c89 => ?_) (fun c89 => ?_)
                        · refine RT.call0 rfl (fun _ h => pilelaw1_placed.ok k  _ h) (LeL.eq rfl) (fun _ => rfl) (fun r88 => ?_)
                          refine RS.go ?_
                          refine RT.brT rfl ?_
                          exact RT.done rfl rfl (Le.refl _) trivial rfl (dom0 rfl)
                        · refine RT.brF rfl ?_
                          exact RT.done rfl rfl (Le.refl _) trivial rfl (dom0 rfl)
                      · refine RT.brF rfl ?_
                        refine RT.brF rfl ?_
                        refine RT.brF rfl ?_
                        refine RT.brF rfl ?_
                        refine RT.brF rfl ?_
                        exact RT.done rfl rfl (Le.refl _) trivial rfl (dom0 rfl)
                · refine RT.brF rfl ?_
                  refine RT.brF rfl ?_
                  refine RT.brF rfl ?_
                  refine RT.brF rfl ?_
                  refine RT.brF rfl ?_
                  refine RT.brF rfl ?_
                  refine RT.brB rfl (fun c109 => ?_) (fun c109 => ?_)
                  · exact RT.done rfl rfl (Le.refl _) trivial rfl (dom0 rfl)
                  · refine RT.call0 rfl (fun _ h => place_Squares.ok k x8j5 _ h) (LeL.eq rfl) (fun _ => rfl) (fun r98 => ?_)
                    refine RS.go ?_
                    refine RT.call0 rfl (fun _ h => pileref1_SquaresFault.ok k x8j5 _ h) (LeL.eq rfl) (fun _ => rfl) (fun r99 => ?_)
                    refine RS.go ?_
                    refine RT.brN rfl (fun c108 => ?_) (fun c108 => ?_)
                    · refine RT.br rfl (fun c107 => ?_) (fun c107 => ?_)
                      · refine RT.brT rfl ?_
                        refine RT.brT rfl ?_
                        refine RT.call0 rfl (fun _ h => pileref1_SquaresOf.ok k x8j5 _ h) (LeL.eq rfl) (fun _ => rfl) (fun r103 => ?_)
                        refine RS.go ?_
                        refine RT.brT rfl ?_
                        refine RT.call0 rfl (fun _ h => slices_Equal_string_string.ok k r98.1 r103 _ h) (LeL.eq rfl) (fun _ => rfl) (fun r104 => ?_)
                        refine RS.go ?_
                        refine RT.brT rfl ?_
                        refine RT.brB rfl (fun c106 => ?_) (fun c106 => ?_)
                        · refine RT.call0 rfl (fun _ h => pilelaw1_placed.ok k  _ h) (LeL.eq rfl) (fun _ => rfl) (fun r105 => ?_)
                          refine RS.go ?_
                          refine RT.brT rfl ?_
                          exact RT.done rfl rfl (Le.refl _) trivial rfl (dom0 rfl)
                        · refine RT.brF rfl ?_
                          exact RT.done rfl rfl (Le.refl _) trivial rfl (dom0 rfl)
                      · refine RT.brF rfl ?_
                        refine RT.brF rfl ?_
                        refine RT.brF rfl ?_
                        refine RT.brF rfl ?_
                        refine RT.brF rfl ?_
                        refine RT.brF rfl ?_
                        exact RT.done rfl rfl (Le.refl _) trivial rfl (dom0 rfl)
                    · refine RT.br rfl (fun c102 => ?_) (fun c102 => ?_)
                      · refine RT.brT rfl ?_
                        refine RT.brT rfl ?_
                        refine RT.brT rfl ?_
                        refine RT.br rfl (fun c101 => ?_) (fun c101 => ?_)
                        · refine RT.call0 rfl (fun _ h => pilelaw1_placed.ok k  _ h) (LeL.eq rfl) (fun _ => rfl) (fun r100 => ?_)
                          refine RS.go ?_
                          refine RT.brT rfl ?_
                          exact RT.done rfl rfl (Le.refl _) trivial rfl (dom0 rfl)
                        · refine RT.brF rfl ?_
                          exact RT.done rfl rfl (Le.refl _) trivial rfl (dom0 rfl)
                      · refine RT.brF rfl ?_
                        refine RT.brF rfl ?_
                        refine RT.brF rfl ?_
                        refine RT.brF rfl ?_
                        refine RT.brF rfl ?_
                        exact RT.done rfl rfl (Le.refl _) trivial rfl (dom0 rfl)
              · refine RT.brT rfl ?_
                refine RT.brT rfl ?_
                refine RT.brT rfl ?_
                refine RT.brT rfl ?_
                refine RT.brT rfl ?_
                refine RT.brT rfl ?_
                refine RT.brT rfl ?_
                exact RT.done rfl rfl (Le.refl _) trivial rfl (dom0 rfl)
            · exact RT.done rfl rfl (Le.refl _) trivial rfl (dom0 rfl)
      · refine RT.brT rfl ?_
        refine RT.brT rfl ?_
        refine RT.brT rfl ?_
        refine RT.brT rfl ?_
        refine RT.brT rfl ?_
        refine RT.brT rfl ?_
        refine RT.brT rfl ?_
        refine RT.brT rfl ?_
        refine RT.brT rfl ?_
        refine RT.brT rfl ?_
        exact RT.done rfl rfl (Le.refl _) trivial rfl (dom0 rfl)
    · intro x5j5 x6j5 x7j5 x8j5 o4_0j5 o4_1j5
      simp only [pilelaw1_LocatorsFound.j5]
      refine RS.region ?_
      refine RS.go ?_
      refine RT.call0 rfl (fun _ h => pileref1_SiteFault.ok o4_0j5 o4_1j5 _ h) (LeL.eq rfl) (fun _ => rfl) (fun r8 => ?_)
      refine RS.go ?_
      refine RT.call0 rfl (fun _ h => pileref1_LocatorFault.ok k x5j5 _ h) (LeL.eq rfl) (fun _ => rfl) (fun r9 => ?_)
      refine RS.go ?_
      refine RT.call0 rfl (fun _ h => place_CheckSite.ok o4_0j5 o4_1j5 _ h) (LeL.eq rfl) (fun _ => rfl) (fun r10 => ?_)
      refine RS.go ?_
      refine RT.brN rfl (fun c164 => ?_) (fun c164 => ?_)
      · refine RT.brF rfl ?_
        refine RT.call0 rfl (fun _ h => place_IsLocator.ok k x5j5 _ h) (LeL.eq rfl) (fun _ => rfl) (fun r11 => ?_)
        refine RS.go ?_
        refine RT.brF rfl ?_
        refine RT.brF rfl ?_
        refine RT.brF rfl ?_
        refine RT.brF rfl ?_
        refine RT.brB rfl (fun c163 => ?_) (fun c163 => ?_)
        · exact RT.done rfl rfl (Le.refl _) trivial rfl (dom0 rfl)
        · refine RT.call0 rfl (fun _ h => place_AreaOf.ok k x5j5 _ h) (LeL.eq rfl) (fun _ => rfl) (fun r12 => ?_)
          refine RS.go ?_
          refine RT.call0 rfl (fun _ h => place_Middle.ok k x5j5 _ h) (LeL.eq rfl) (fun _ => rfl) (fun r13 => ?_)
          refine RS.go ?_
          refine RT.call0 rfl (fun _ h => place_Beside.ok k x5j5 _ h) (LeL.eq rfl) (fun _ => rfl) (fun r14 => ?_)
          refine RS.go ?_
          refine RT.brN rfl (fun c162 => ?_) (fun c162 => ?_)
          · refine RT.goto rfl ?_
            refine RS.draw rfl ?_
            refine RD.brN rfl (fun c161 => ?_) (fun c161 => ?_)
            · refine RD.brF rfl ?_
              refine RD.brF rfl ?_
              refine RD.call (CR := []) (CW := (fun r => [])) rfl (fun _ h => pileref1_AreaFor.ok k x5j5 _ h) (fun i => i) trivial (fun _ => rfl) ⟨_, _, _, _, rfl, rfl, rfl⟩ (LeL.eq rfl) trivial (fun _ => rfl) (fun r152 => ?_)
              refine RD.brF rfl ?_
              refine RD.brF rfl ?_
              refine RD.brBN rfl (fun c160 => ?_) (fun c160 => ?_)
              · refine RD.brF rfl ?_
                refine RD.brF rfl ?_
                refine RD.brN rfl (fun c159 => ?_) (fun c159 => ?_)
                · refine RD.brF rfl ?_
                  refine RD.brF rfl ?_
                  refine RD.call (CR := []) (CW := (fun r => [])) rfl (fun _ h => pileref1_MiddleOf.ok k x5j5 _ h) (fun i => i) trivial (fun _ => rfl) ⟨_, _, _, _, rfl, rfl, rfl⟩ (LeL.eq rfl) trivial (fun _ => rfl) (fun r153 => ?_)
                  refine RD.brF rfl ?_
                  refine RD.brF rfl ?_
                  refine RD.brBN rfl (fun c158 => ?_) (fun c158 => ?_)
                  · refine RD.brF rfl ?_
                    refine RD.brF rfl ?_
                    refine RD.brN rfl (fun c157 => ?_) (fun c157 => ?_)
                    · refine RD.brF rfl ?_
                      refine RD.brF rfl ?_
                      refine RD.call (CR := []) (CW := (fun r => [])) rfl (fun _ h => pileref1_BesideOf.ok k x5j5 _ h) (fun i => i) trivial (fun _ => rfl) ⟨_, _, _, _, rfl, rfl, rfl⟩ (LeL.eq rfl) trivial (fun _ => rfl) (fun r154 => ?_)
                      refine RD.brF rfl ?_
                      refine RD.call (CR := []) (CW := (fun r => [])) rfl (fun _ h => slices_Equal_string_string.ok k r14.1 r154 _ h) (fun i => i) trivial (fun _ => rfl) ⟨_, _, _, _, rfl, rfl, rfl⟩ (LeL.eq rfl) trivial (fun _ => rfl) (fun r155 => ?_)
                      refine RD.brF rfl ?_
                      refine RD.brF rfl ?_
                      refine RD.fin pilelaw1_LocatorsFound.k6 pilelaw1_LocatorsFound.k1 rfl rfl (by decide +kernel) ?_
                      refine RS.go ?_
                      refine RT.brBN rfl (fun c156 => ?_) (fun c156 => ?_)
                      · refine RT.goto rfl ?_
                        refine RS.weak [(4, .ref 4 0 0 0 2), (5, .str x5j5), (6, .str x6j5), (7, .int .i64 x7j5), (8, sq eS x8j5), (9, .int .i64 r8), (10, .int .i64 r9)] [(4, .box [.int .i64 o4_0j5, .int .i64 o4_1j5])] ⟨Le.eq (by first | rfl | simp), Le.eq (by first | rfl | simp), Le.eq (by first | rfl | simp), Le.eq (by first | rfl | simp), Le.eq (by first | rfl | simp), Le.eq (by first | rfl | simp), Le.eq (by first | rfl | simp), trivial⟩ ⟨⟨_, rfl, LeO.refl _⟩, trivial⟩ rfl (dom0 rfl) ?_
                        exact ih.1 x5j5 x6j5 x7j5 x8j5 o4_0j5 o4_1j5 r8 r9 
                      · exact RT.done rfl rfl (Le.refl _) trivial rfl (dom0 rfl)
                    · refine RD.brT rfl ?_
                      refine RD.brT rfl ?_
                      refine RD.brT rfl ?_
                      refine RD.brT rfl ?_
                      refine RD.brT rfl ?_
                      refine RD.fin pilelaw1_LocatorsFound.k5 pilelaw1_LocatorsFound.k1 rfl rfl (by decide +kernel) ?_
                      refine RS.go ?_
                      refine RT.brT rfl ?_
                      exact RT.done rfl rfl (Le.refl _) trivial rfl (dom0 rfl)
                  · refine RD.brT rfl ?_
                    refine RD.brT rfl ?_
                    refine RD.brT rfl ?_
                    refine RD.brT rfl ?_
                    refine RD.brT rfl ?_
                    refine RD.brT rfl ?_
                    refine RD.brT rfl ?_
                    refine RD.brT rfl ?_
                    refine RD.fin pilelaw1_LocatorsFound.k4 pilelaw1_LocatorsFound.k1 rfl rfl (by decide +kernel) ?_
                    refine RS.go ?_
                    refine RT.brT rfl ?_
                    exact RT.done rfl rfl (Le.refl _) trivial rfl (dom0 rfl)
                · refine RD.brT rfl ?_
                  refine RD.brT rfl ?_
                  refine RD.brT rfl ?_
                  refine RD.brT rfl ?_
                  refine RD.brT rfl ?_
                  refine RD.brT rfl ?_
                  refine RD.brT rfl ?_
                  refine RD.brT rfl ?_
                  refine RD.brT rfl ?_
                  refine RD.brT rfl ?_
                  refine RD.brT rfl ?_
                  refine RD.brT rfl ?_
                  refine RD.brT rfl ?_
                  refine RD.fin pilelaw1_LocatorsFound.k3 pilelaw1_LocatorsFound.k1 rfl rfl (by decide +kernel) ?_
                  refine RS.go ?_
                  refine RT.brT rfl ?_
                  exact RT.done rfl rfl (Le.refl _) trivial rfl (dom0 rfl)
              · refine RD.brT rfl ?_
                refine RD.brT rfl ?_
                refine RD.brT rfl ?_
                refine RD.brT rfl ?_
                refine RD.brT rfl ?_
                refine RD.brT rfl ?_
                refine RD.brT rfl ?_
                refine RD.brT rfl ?_
                refine RD.brT rfl ?_
                refine RD.brT rfl ?_
                refine RD.brT rfl ?_
                refine RD.brT rfl ?_
                refine RD.brT rfl ?_
                refine RD.brT rfl ?_
                refine RD.brT rfl ?_
                refine RD.brT rfl ?_
                refine RD.fin pilelaw1_LocatorsFound.k2 pilelaw1_LocatorsFound.k1 rfl rfl (by decide +kernel) ?_
                refine RS.go ?_
                refine RT.brT rfl ?_
                exact RT.done rfl rfl (Le.refl _) trivial rfl (dom0 rfl)
            · refine RD.brT rfl ?_
              refine RD.brT rfl ?_
              refine RD.brT rfl ?_
              refine RD.brT rfl ?_
              refine RD.brT rfl ?_
              refine RD.brT rfl ?_
              refine RD.brT rfl ?_
              refine RD.brT rfl ?_
              refine RD.brT rfl ?_
              refine RD.brT rfl ?_
              refine RD.brT rfl ?_
              refine RD.brT rfl ?_
              refine RD.brT rfl ?_
              refine RD.brT rfl ?_
              refine RD.brT rfl ?_
              refine RD.brT rfl ?_
              refine RD.brT rfl ?_
              refine RD.brT rfl ?_
              refine RD.brT rfl ?_
              refine RD.brT rfl ?_
              refine RD.brT rfl ?_
              refine RD.fin pilelaw1_LocatorsFound.k0 pilelaw1_LocatorsFound.k1 rfl rfl (by decide +kernel) ?_
              refine RS.go ?_
              refine RT.brT rfl ?_
              exact RT.done rfl rfl (Le.refl _) trivial rfl (dom0 rfl)
          · refine RT.brN rfl (fun c151 => ?_) (fun c151 => ?_)
            · refine RT.brF rfl ?_
              refine RT.brF rfl ?_
              refine RT.brF rfl ?_
              refine RT.brN rfl (fun c150 => ?_) (fun c150 => ?_)
              · refine RT.brF rfl ?_
                refine RT.brF rfl ?_
                refine RT.brF rfl ?_
                refine RT.brN rfl (fun c149 => ?_) (fun c149 => ?_)
                · refine RT.brF rfl ?_
                  refine RT.brF rfl ?_
                  refine RT.brF rfl ?_
                  refine RT.brBN rfl (fun c148 => ?_) (fun c148 => ?_)
                  · refine RT.brF rfl ?_
                    refine RT.brF rfl ?_
                    refine RT.brF rfl ?_
                    refine RT.brBN rfl (fun c147 => ?_) (fun c147 => ?_)
                    · refine RT.brF rfl ?_
                      refine RT.brF rfl ?_
                      refine RT.brF rfl ?_
                      refine RT.br rfl (fun c146 => ?_) (fun c146 => ?_)
                      · exact RT.done rfl rfl (Le.refl _) trivial rfl (dom0 rfl)
                      · refine RT.goto rfl ?_
                        refine RS.weak [(4, .ref 4 0 0 0 2), (5, .str x5j5), (6, .str x6j5), (7, .int .i64 x7j5), (8, sq eS x8j5), (9, .int .i64 r8), (10, .int .i64 r9)] [(4, .box [.int .i64 o4_0j5, .int .i64 o4_1j5])] ⟨Le.eq (by first | rfl | simp), Le.eq (by first | rfl | simp), Le.eq (by first | rfl | simp), Le.eq (by first | rfl | simp), Le.eq (by first | rfl | simp), Le.eq (by first | rfl | simp), Le.eq (by first | rfl | simp), trivial⟩ ⟨⟨_, rfl, LeO.refl _⟩, trivial⟩ rfl (dom0 rfl) ?_
                        exact ih.1 x5j5 x6j5 x7j5 x8j5 o4_0j5 o4_1j5 r8 r9 
                    · refine RT.brT rfl ?_
                      refine RT.brT rfl ?_
                      refine RT.brT rfl ?_
                      refine RT.brT rfl ?_
                      exact RT.done rfl rfl (Le.refl _) trivial rfl (dom0 rfl)
                  · refine RT.brT rfl ?_
                    refine RT.brT rfl ?_
                    refine RT.brT rfl ?_
                    refine RT.brT rfl ?_
                    refine RT.brT rfl ?_
                    refine RT.brT rfl ?_
                    refine RT.brT rfl ?_
                    refine RT.brT rfl ?_
                    exact RT.done rfl rfl (Le.refl _) trivial rfl (dom0 rfl)
                · refine RT.brT rfl ?_
                  refine RT.brT rfl ?_
                  refine RT.brT rfl ?_
                  refine RT.brT rfl ?_
                  refine RT.brT rfl ?_
                  refine RT.brT rfl ?_
                  refine RT.brT rfl ?_
                  refine RT.brT rfl ?_
                  refine RT.brT rfl ?_
                  refine RT.brT rfl ?_
                  refine RT.brT rfl ?_
                  refine RT.brT rfl ?_
                  exact RT.done rfl rfl (Le.refl _) trivial rfl (dom0 rfl)
              · refine RT.brT rfl ?_
                refine RT.brT rfl ?_
                refine RT.brT rfl ?_
                refine RT.brT rfl ?_
                refine RT.brT rfl ?_
                refine RT.brT rfl ?_
                refine RT.brT rfl ?_
                refine RT.brT rfl ?_
                refine RT.brT rfl ?_
                refine RT.brT rfl ?_
                refine RT.brT rfl ?_
                refine RT.brT rfl ?_
                refine RT.brT rfl ?_
                refine RT.brT rfl ?_
                refine RT.brT rfl ?_
                refine RT.brT rfl ?_
                exact RT.done rfl rfl (Le.refl _) trivial rfl (dom0 rfl)
            · refine RT.brT rfl ?_
              refine RT.brT rfl ?_
              refine RT.brT rfl ?_
              refine RT.brT rfl ?_
              refine RT.brT rfl ?_
              refine RT.brT rfl ?_
              refine RT.brT rfl ?_
              refine RT.brT rfl ?_
              refine RT.brT rfl ?_
              refine RT.brT rfl ?_
              refine RT.brT rfl ?_
              refine RT.brT rfl ?_
              refine RT.brT rfl ?_
              refine RT.brT rfl ?_
              refine RT.brT rfl ?_
              refine RT.brT rfl ?_
              refine RT.brT rfl ?_
              refine RT.brT rfl ?_
              refine RT.brT rfl ?_
              refine RT.brT rfl ?_
              exact RT.done rfl rfl (Le.refl _) trivial rfl (dom0 rfl)
      · refine RT.brT rfl ?_
        refine RT.brT rfl ?_
        refine RT.brT rfl ?_
        refine RT.brT rfl ?_
        refine RT.brT rfl ?_
        refine RT.brT rfl ?_
        exact RT.done rfl rfl (Le.refl _) trivial rfl (dom0 rfl)
theorem pilelaw1_LocatorsFound.ok (k : Nat) (l0 : List Int) (r : Bool) (h : pilelaw1_LocatorsFound.f k l0 = some r) : Ct Tryz.prog B 3 [sq eI l0] (ofL []) (.bool r) (ofL []) := by
  refine Ct.of (Y := (fam Tryz.f3 [5, 16] [] [] (fun r : Bool => .bool r) (fun r => []))) Tryz.func3 rfl Tryz.call3 rfl rfl ?_ r h
  unfold pilelaw1_LocatorsFound.f
  refine RS.go ?_
  refine RT.call rfl (fun _ h => pilemake_Stream_SiteOf.ok k l0 0 _ h) (fun i => bif Nat.beq i 100000 then 25 else i) (LeL.eq rfl) ⟨⟨_, rfl, LeO.refl _⟩, trivial⟩ (fun _ => rfl) (fun r1 => ?_)
  refine RS.go ?_
  refine RT.call rfl (fun _ h => pilemake_Stream_LocatorText.ok k r1.2.2.1 r1.2.2.2 _ h) (fun i => bif Nat.beq i 100000 then 25 else i) (LeL.eq rfl) ⟨⟨_, rfl, LeO.refl _⟩, trivial⟩ (fun _ => rfl) (fun r2 => ?_)
  refine RS.go ?_
  refine RT.call rfl (fun _ h => pilemake_Stream_LocatorText.ok k r2.2.1 r2.2.2 _ h) (fun i => bif Nat.beq i 100000 then 25 else i) (LeL.eq rfl) ⟨⟨_, rfl, LeO.refl _⟩, trivial⟩ (fun _ => rfl) (fun r3 => ?_)
  refine RS.go ?_
  refine RT.goto rfl ?_
  refine RS.slot 33 (sq eI [2, 4, 6, 3]) (Le.lit (E := eI) (l := [2, 4, 6, 3]) (cells_of rfl)) ?_
  refine RS.go ?_
  refine RT.call rfl (fun _ h => pilemake_Stream_Pick.ok k r3.2.1 r3.2.2 [2, 4, 6, 3] _ h) (fun i => bif Nat.beq i 100000 then 25 else i) (LeL.eq rfl) ⟨⟨_, rfl, LeO.refl _⟩, trivial⟩ (fun _ => rfl) (fun r4 => ?_)
  refine RS.go ?_
  refine RT.call rfl (fun _ h => pilemake_Stream_LocatorList.ok k r4.2.1 r4.2.2 6 _ h) (fun i => bif Nat.beq i 100000 then 25 else i) (LeL.eq rfl) ⟨⟨_, rfl, LeO.refl _⟩, trivial⟩ (fun _ => rfl) (fun r5 => ?_)
  refine RS.go ?_
  refine RT.call rfl (fun _ h => pilemake_Stream_Flip.ok k r5.2.1 r5.2.2 3 _ h) (fun i => bif Nat.beq i 100000 then 25 else i) (LeL.eq rfl) ⟨⟨_, rfl, LeO.refl _⟩, trivial⟩ (fun _ => rfl) (fun r6 => ?_)
  refine RS.go ?_
  refine RT.brB rfl (fun c166 => ?_) (fun c166 => ?_)
  · refine RT.brT rfl ?_
    refine RT.brT rfl ?_
    refine RT.brT rfl ?_
    refine RT.br rfl (fun c165 => ?_) (fun c165 => ?_)
    · refine RT.brT rfl ?_
      refine RT.br rfl (fun c7 => ?_) (fun c7 => RT.none)
      refine RT.goto rfl ?_
      refine RS.weak [(4, .ref 4 0 0 0 2), (5, .str r2.1), (6, .str (r2.1.extract 0 2)), (7, .int .i64 r4.1), (8, sq eS r5.1)] [(4, .box [.int .i64 r1.1, .int .i64 r1.2.1])] ⟨Le.eq (by first | rfl | simp), Le.eq (by first | rfl | simp), Le.eq (by first | rfl | simp), Le.eq (by first | rfl | simp), Le.eq (by first | rfl | simp), trivial⟩ ⟨⟨_, rfl, LeO.refl _⟩, trivial⟩ rfl (dom0 rfl) ?_
      exact (pilelaw1_LocatorsFound.loops k).2 r2.1 (r2.1.extract 0 2) r4.1 r5.1 r1.1 r1.2.1 
    · refine RT.goto rfl ?_
      refine RS.weak [(4, .ref 4 0 0 0 2), (5, .str r2.1), (6, .str r3.1), (7, .int .i64 r4.1), (8, sq eS r5.1)] [(4, .box [.int .i64 r1.1, .int .i64 r1.2.1])] ⟨Le.eq (by first | rfl | simp), Le.eq (by first | rfl | simp), Le.eq (by first | rfl | simp), Le.eq (by first | rfl | simp), Le.eq (by first | rfl | simp), trivial⟩ ⟨⟨_, rfl, LeO.refl _⟩, trivial⟩ rfl (dom0 rfl) ?_
      exact (pilelaw1_LocatorsFound.loops k).2 r2.1 r3.1 r4.1 r5.1 r1.1 r1.2.1 
  · refine RT.brF rfl ?_
    refine RT.brF rfl ?_
    refine RT.brF rfl ?_
    refine RT.brF rfl ?_
    refine RT.goto rfl ?_
    refine RS.weak [(4, .ref 4 0 0 0 2), (5, .str r2.1), (6, .str r3.1), (7, .int .i64 r4.1), (8, sq eS r5.1)] [(4, .box [.int .i64 r1.1, .int .i64 r1.2.1])] ⟨Le.eq (by first | rfl | simp), Le.eq (by first | rfl | simp), Le.eq (by first | rfl | simp), Le.eq (by first | rfl | simp), Le.eq (by first | rfl | simp), trivial⟩ ⟨⟨_, rfl, LeO.refl _⟩, trivial⟩ rfl (dom0 rfl) ?_
    exact (pilelaw1_LocatorsFound.loops k).2 r2.1 r3.1 r4.1 r5.1 r1.1 r1.2.1 
end Go.EV
