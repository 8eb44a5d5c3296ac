/- Facts on the types and functions of the program, as the evaluator asks them. -/
import Derived.Test.YtphjobnijjkchaaGreatDoorL4
import Derived.Test.YtphjobnijjkchaaGreatDoorProg
namespace Go.Proofs.YtphjobnijjkchaaGreatDoor
open Go Go.Abs
@[go_sem] theorem en8 : Enters Tryz.prog 8 := enters_of Tryz.func8 (by kernel_rfl) rfl
@[go_sem] theorem ti35 : tin Tryz.prog 35 = some (some 14) := by kernel_rfl
@[go_sem] theorem en9 : Enters Tryz.prog 9 := enters_of Tryz.func9 (by kernel_rfl) rfl
@[go_sem] theorem ti39 : tin Tryz.prog 39 = some (some 8) := by kernel_rfl
@[go_sem] theorem ze43 : zelem Tryz.prog 43 = some (.agg [.val (.int .i64 (0)), .val (.string ⟨#[]⟩), .val (.int .i64 (0)), .val (.int .i64 (0)), .val (.int .i64 (0)), .val (.int .i64 (0)), .val (.int .i64 (0)), .val (.int .i64 (0))]) := by kernel_rfl
@[go_sem] theorem en10 : Enters Tryz.prog 10 := enters_of Tryz.func10 (by kernel_rfl) rfl
@[go_sem] theorem en11 : Enters Tryz.prog 11 := enters_of Tryz.func11 (by kernel_rfl) rfl
@[go_sem] theorem en12 : Enters Tryz.prog 12 := enters_of Tryz.func12 (by kernel_rfl) rfl
@[go_sem] theorem zc35 : zeroCells Tryz.prog 35 = some [.val (.int .i64 (0)), .val (.slice none 0 0), .val (.slice none 0 0), .val (.slice none 0 0), .val (.slice none 0 0), .val (.slice none 0 0), .val (.slice none 0 0), .val (.slice none 0 0), .val (.slice none 0 0), .val (.slice none 0 0), .val (.slice none 0 0), .val (.slice none 0 0), .val (.slice none 0 0), .val (.slice none 0 0)] := by kernel_rfl
@[go_sem] theorem t135 : tin1 Tryz.prog 35 = some (some 14) := by kernel_rfl
@[go_sem] theorem fo39_0 : fieldOff Tryz.prog 39 0 = some 0 := by kernel_rfl
@[go_sem] theorem ti3 : tin Tryz.prog 3 = some none := by kernel_rfl
@[go_sem] theorem fo39_4 : fieldOff Tryz.prog 39 4 = some 4 := by kernel_rfl
@[go_sem] theorem ti2 : tin Tryz.prog 2 = some none := by kernel_rfl
@[go_sem] theorem zc39 : zeroCells Tryz.prog 39 = some [.val (.int .i64 (0)), .val (.string ⟨#[]⟩), .val (.int .i64 (0)), .val (.int .i64 (0)), .val (.int .i64 (0)), .val (.int .i64 (0)), .val (.int .i64 (0)), .val (.int .i64 (0))] := by kernel_rfl
@[go_sem] theorem t139 : tin1 Tryz.prog 39 = some (some 8) := by kernel_rfl
@[go_sem] theorem t12 : tin1 Tryz.prog 2 = some none := by kernel_rfl
@[go_sem] theorem en13 : Enters Tryz.prog 13 := enters_of Tryz.func13 (by kernel_rfl) rfl
@[go_sem] theorem t13 : tin1 Tryz.prog 3 = some none := by kernel_rfl
@[go_sem] theorem fo39_1 : fieldOff Tryz.prog 39 1 = some 1 := by kernel_rfl
@[go_sem] theorem ti9 : tin Tryz.prog 9 = some none := by kernel_rfl
@[go_sem] theorem fo39_2 : fieldOff Tryz.prog 39 2 = some 2 := by kernel_rfl
@[go_sem] theorem en14 : Enters Tryz.prog 14 := enters_of Tryz.func14 (by kernel_rfl) rfl
@[go_sem] theorem il50 : isLenT Tryz.prog 50 = some false := by kernel_rfl
@[go_sem] theorem fo35_2 : fieldOff Tryz.prog 35 2 = some 13 := by kernel_rfl
@[go_sem] theorem ti33 : tin Tryz.prog 33 = some none := by kernel_rfl
@[go_sem] theorem il33 : isLenT Tryz.prog 33 = some false := by kernel_rfl
@[go_sem] theorem fo35_0 : fieldOff Tryz.prog 35 0 = some 0 := by kernel_rfl
@[go_sem] theorem fo31_1 : fieldOff Tryz.prog 31 1 = some 1 := by kernel_rfl
@[go_sem] theorem fo24_4 : fieldOff Tryz.prog 24 4 = some 4 := by kernel_rfl
@[go_sem] theorem ti22 : tin Tryz.prog 22 = some none := by kernel_rfl
@[go_sem] theorem se50 : selem Tryz.prog 50 = some 4 := by kernel_rfl
@[go_sem] theorem fo55_0 : fieldOff Tryz.prog 55 0 = some 0 := by kernel_rfl
@[go_sem] theorem se22 : selem Tryz.prog 22 = some 1 := by kernel_rfl
@[go_sem] theorem fo55_1 : fieldOff Tryz.prog 55 1 = some 1 := by kernel_rfl
@[go_sem] theorem ti55 : tin Tryz.prog 55 = some (some 4) := by kernel_rfl
@[go_sem] theorem en15 : Enters Tryz.prog 15 := enters_of Tryz.func15 (by kernel_rfl) rfl
@[go_sem] theorem fo55_3 : fieldOff Tryz.prog 55 3 = some 3 := by kernel_rfl
@[go_sem] theorem ti53 : tin Tryz.prog 53 = some none := by kernel_rfl
@[go_sem] theorem il53 : isLenT Tryz.prog 53 = some false := by kernel_rfl
@[go_sem] theorem fo39_3 : fieldOff Tryz.prog 39 3 = some 3 := by kernel_rfl
@[go_sem] theorem se53 : selem Tryz.prog 53 = some 1 := by kernel_rfl
@[go_sem] theorem en16 : Enters Tryz.prog 16 := enters_of Tryz.func16 (by kernel_rfl) rfl
@[go_sem] theorem fo31_3 : fieldOff Tryz.prog 31 3 = some 8 := by kernel_rfl
@[go_sem] theorem ti26 : tin Tryz.prog 26 = some none := by kernel_rfl
@[go_sem] theorem il26 : isLenT Tryz.prog 26 = some false := by kernel_rfl
@[go_sem] theorem fo24_2 : fieldOff Tryz.prog 24 2 = some 2 := by kernel_rfl
@[go_sem] theorem fo39_5 : fieldOff Tryz.prog 39 5 = some 5 := by kernel_rfl
@[go_sem] theorem ti37 : tin Tryz.prog 37 = some (some 3) := by kernel_rfl
@[go_sem] theorem se26 : selem Tryz.prog 26 = some 6 := by kernel_rfl
@[go_sem] theorem fo60_3 : fieldOff Tryz.prog 60 3 = some 3 := by kernel_rfl
@[go_sem] theorem t137 : tin1 Tryz.prog 37 = some (some 3) := by kernel_rfl
@[go_sem] theorem fo31_6 : fieldOff Tryz.prog 31 6 = some 11 := by kernel_rfl
@[go_sem] theorem ti29 : tin Tryz.prog 29 = some none := by kernel_rfl
@[go_sem] theorem il29 : isLenT Tryz.prog 29 = some false := by kernel_rfl
@[go_sem] theorem fo24_5 : fieldOff Tryz.prog 24 5 = some 5 := by kernel_rfl
@[go_sem] theorem se29 : selem Tryz.prog 29 = some 5 := by kernel_rfl
@[go_sem] theorem fo62_2 : fieldOff Tryz.prog 62 2 = some 2 := by kernel_rfl
@[go_sem] theorem il43 : isLenT Tryz.prog 43 = some false := by kernel_rfl
@[go_sem] theorem se43 : selem Tryz.prog 43 = some 8 := by kernel_rfl
@[go_sem] theorem fa35 : fieldsAt Tryz.prog 35 = some [(0, 12), (12, 1), (13, 1)] := by kernel_rfl
@[go_sem] theorem en17 : Enters Tryz.prog 17 := enters_of Tryz.func17 (by kernel_rfl) rfl
@[go_sem] theorem fa39 : fieldsAt Tryz.prog 39 = some [(0, 1), (1, 1), (2, 1), (3, 1), (4, 1), (5, 3)] := by kernel_rfl
@[go_sem] theorem en18 : Enters Tryz.prog 18 := enters_of Tryz.func18 (by kernel_rfl) rfl
@[go_sem] theorem en20 : Enters Tryz.prog 20 := enters_of Tryz.func20 (by kernel_rfl) rfl
@[go_sem] theorem ze68 : zelem Tryz.prog 68 = some (.val (.int .i64 (0))) := by kernel_rfl
@[go_sem] theorem en19 : Enters Tryz.prog 19 := enters_of Tryz.func19 (by kernel_rfl) rfl
@[go_sem] theorem en21 : Enters Tryz.prog 21 := enters_of Tryz.func21 (by kernel_rfl) rfl
@[go_sem] theorem fo35_1 : fieldOff Tryz.prog 35 1 = some 12 := by kernel_rfl
@[go_sem] theorem ti32 : tin Tryz.prog 32 = some none := by kernel_rfl
@[go_sem] theorem il32 : isLenT Tryz.prog 32 = some false := by kernel_rfl
@[go_sem] theorem ti31 : tin Tryz.prog 31 = some (some 12) := by kernel_rfl
@[go_sem] theorem en22 : Enters Tryz.prog 22 := enters_of Tryz.func22 (by kernel_rfl) rfl
@[go_sem] theorem il9 : isLenT Tryz.prog 9 = some true := by kernel_rfl
@[go_sem] theorem en23 : Enters Tryz.prog 23 := enters_of Tryz.func23 (by kernel_rfl) rfl
@[go_sem] theorem se32 : selem Tryz.prog 32 = some 4 := by kernel_rfl
@[go_sem] theorem ti74 : tin Tryz.prog 74 = some (some 4) := by kernel_rfl
@[go_sem] theorem zc74 : zeroCells Tryz.prog 74 = some [.val (.int .i64 (0)), .val (.int .i64 (0)), .val (.int .i64 (0)), .val (.int .i64 (0))] := by kernel_rfl
@[go_sem] theorem t174 : tin1 Tryz.prog 74 = some (some 4) := by kernel_rfl
@[go_sem] theorem fo74_3 : fieldOff Tryz.prog 74 3 = some 3 := by kernel_rfl
@[go_sem] theorem en25 : Enters Tryz.prog 25 := enters_of Tryz.func25 (by kernel_rfl) rfl
@[go_sem] theorem en24 : Enters Tryz.prog 24 := enters_of Tryz.func24 (by kernel_rfl) rfl
@[go_sem] theorem fo74_2 : fieldOff Tryz.prog 74 2 = some 2 := by kernel_rfl
@[go_sem] theorem en26 : Enters Tryz.prog 26 := enters_of Tryz.func26 (by kernel_rfl) rfl
@[go_sem] theorem fo31_4 : fieldOff Tryz.prog 31 4 = some 9 := by kernel_rfl
@[go_sem] theorem ti27 : tin Tryz.prog 27 = some none := by kernel_rfl
@[go_sem] theorem fo31_5 : fieldOff Tryz.prog 31 5 = some 10 := by kernel_rfl
@[go_sem] theorem ti28 : tin Tryz.prog 28 = some none := by kernel_rfl
@[go_sem] theorem fo74_0 : fieldOff Tryz.prog 74 0 = some 0 := by kernel_rfl
@[go_sem] theorem se28 : selem Tryz.prog 28 = some 4 := by kernel_rfl
@[go_sem] theorem fo83_0 : fieldOff Tryz.prog 83 0 = some 0 := by kernel_rfl
@[go_sem] theorem se27 : selem Tryz.prog 27 = some 3 := by kernel_rfl
@[go_sem] theorem fo81_0 : fieldOff Tryz.prog 81 0 = some 0 := by kernel_rfl
@[go_sem] theorem ti68 : tin Tryz.prog 68 = some none := by kernel_rfl
@[go_sem] theorem il68 : isLenT Tryz.prog 68 = some false := by kernel_rfl
@[go_sem] theorem en27 : Enters Tryz.prog 27 := enters_of Tryz.func27 (by kernel_rfl) rfl
@[go_sem] theorem zc55 : zeroCells Tryz.prog 55 = some [.val (.int .i64 (0)), .val (.int .i64 (0)), .val (.slice none 0 0), .val (.slice none 0 0)] := by kernel_rfl
@[go_sem] theorem t155 : tin1 Tryz.prog 55 = some (some 4) := by kernel_rfl
@[go_sem] theorem se33 : selem Tryz.prog 33 = some 2 := by kernel_rfl
@[go_sem] theorem ti77 : tin Tryz.prog 77 = some (some 2) := by kernel_rfl
@[go_sem] theorem en28 : Enters Tryz.prog 28 := enters_of Tryz.func28 (by kernel_rfl) rfl
@[go_sem] theorem en29 : Enters Tryz.prog 29 := enters_of Tryz.func29 (by kernel_rfl) rfl
@[go_sem] theorem en30 : Enters Tryz.prog 30 := enters_of Tryz.func30 (by kernel_rfl) rfl
@[go_sem] theorem en31 : Enters Tryz.prog 31 := enters_of Tryz.func31 (by kernel_rfl) rfl
@[go_sem] theorem en32 : Enters Tryz.prog 32 := enters_of Tryz.func32 (by kernel_rfl) rfl
@[go_sem] theorem zc77 : zeroCells Tryz.prog 77 = some [.val (.int .i64 (0)), .val (.int .i64 (0))] := by kernel_rfl
@[go_sem] theorem fa77 : fieldsAt Tryz.prog 77 = some [(0, 1), (1, 1)] := by kernel_rfl
@[go_sem] theorem t177 : tin1 Tryz.prog 77 = some (some 2) := by kernel_rfl
@[go_sem] theorem en33 : Enters Tryz.prog 33 := enters_of Tryz.func33 (by kernel_rfl) rfl
@[go_sem] theorem ze50 : zelem Tryz.prog 50 = some (.agg [.val (.int .i64 (0)), .val (.int .i64 (0)), .val (.slice none 0 0), .val (.slice none 0 0)]) := by kernel_rfl
@[go_sem] theorem sl50 : slT Tryz.prog 50 = some (4, 64, [.val (.int .i64 (0)), .val (.int .i64 (0)), .val (.slice none 0 0), .val (.slice none 0 0)]) := by kernel_rfl
@[go_sem] theorem is50 : isSl Tryz.prog 50 = true := by kernel_rfl
@[go_sem] theorem fo55_2 : fieldOff Tryz.prog 55 2 = some 2 := by kernel_rfl
@[go_sem] theorem en34 : Enters Tryz.prog 34 := enters_of Tryz.func34 (by kernel_rfl) rfl
@[go_sem] theorem en35 : Enters Tryz.prog 35 := enters_of Tryz.func35 (by kernel_rfl) rfl
@[go_sem] theorem en36 : Enters Tryz.prog 36 := enters_of Tryz.func36 (by kernel_rfl) rfl
@[go_sem] theorem en37 : Enters Tryz.prog 37 := enters_of Tryz.func37 (by kernel_rfl) rfl
@[go_sem] theorem en38 : Enters Tryz.prog 38 := enters_of Tryz.func38 (by kernel_rfl) rfl
@[go_sem] theorem ze22 : zelem Tryz.prog 22 = some (.val (.string ⟨#[]⟩)) := by kernel_rfl
@[go_sem] theorem zc24 : zeroCells Tryz.prog 24 = some [.val (.slice none 0 0), .val (.slice none 0 0), .val (.slice none 0 0), .val (.slice none 0 0), .val (.slice none 0 0), .val (.slice none 0 0)] := by kernel_rfl
@[go_sem] theorem fa24 : fieldsAt Tryz.prog 24 = some [(0, 1), (1, 1), (2, 1), (3, 1), (4, 1), (5, 1)] := by kernel_rfl
@[go_sem] theorem ze53 : zelem Tryz.prog 53 = some (.val (.int .i64 (0))) := by kernel_rfl
@[go_sem] theorem zc81 : zeroCells Tryz.prog 81 = some [.val (.slice none 0 0), .val (.slice none 0 0), .val (.slice none 0 0)] := by kernel_rfl
@[go_sem] theorem fa81 : fieldsAt Tryz.prog 81 = some [(0, 1), (1, 1), (2, 1)] := by kernel_rfl
@[go_sem] theorem ze27 : zelem Tryz.prog 27 = some (.agg [.val (.slice none 0 0), .val (.slice none 0 0), .val (.slice none 0 0)]) := by kernel_rfl
@[go_sem] theorem zc83 : zeroCells Tryz.prog 83 = some [.val (.int .i64 (0)), .val (.int .i64 (0)), .val (.int .i64 (0)), .val (.int .i64 (0))] := by kernel_rfl
@[go_sem] theorem fa83 : fieldsAt Tryz.prog 83 = some [(0, 1), (1, 1), (2, 1), (3, 1)] := by kernel_rfl
@[go_sem] theorem ze28 : zelem Tryz.prog 28 = some (.agg [.val (.int .i64 (0)), .val (.int .i64 (0)), .val (.int .i64 (0)), .val (.int .i64 (0))]) := by kernel_rfl
@[go_sem] theorem zc31 : zeroCells Tryz.prog 31 = some [.val (.int .i64 (0)), .val (.slice none 0 0), .val (.slice none 0 0), .val (.slice none 0 0), .val (.slice none 0 0), .val (.slice none 0 0), .val (.slice none 0 0), .val (.slice none 0 0), .val (.slice none 0 0), .val (.slice none 0 0), .val (.slice none 0 0), .val (.slice none 0 0)] := by kernel_rfl
@[go_sem] theorem fa31 : fieldsAt Tryz.prog 31 = some [(0, 1), (1, 6), (7, 1), (8, 1), (9, 1), (10, 1), (11, 1)] := by kernel_rfl
@[go_sem] theorem en39 : Enters Tryz.prog 39 := enters_of Tryz.func39 (by kernel_rfl) rfl
@[go_sem] theorem se68 : selem Tryz.prog 68 = some 1 := by kernel_rfl
@[go_sem] theorem sl68 : slT Tryz.prog 68 = some (1, 8, [.val (.int .i64 (0))]) := by kernel_rfl
@[go_sem] theorem en40 : Enters Tryz.prog 40 := enters_of Tryz.func40 (by kernel_rfl) rfl
@[go_sem] theorem ti24 : tin Tryz.prog 24 = some (some 6) := by kernel_rfl
@[go_sem] theorem t124 : tin1 Tryz.prog 24 = some (some 6) := by kernel_rfl
@[go_sem] theorem fo24_0 : fieldOff Tryz.prog 24 0 = some 0 := by kernel_rfl
@[go_sem] theorem il22 : isLenT Tryz.prog 22 = some false := by kernel_rfl
@[go_sem] theorem fo24_1 : fieldOff Tryz.prog 24 1 = some 1 := by kernel_rfl
@[go_sem] theorem fo24_3 : fieldOff Tryz.prog 24 3 = some 3 := by kernel_rfl
@[go_sem] theorem fo31_2 : fieldOff Tryz.prog 31 2 = some 7 := by kernel_rfl
@[go_sem] theorem ti25 : tin Tryz.prog 25 = some none := by kernel_rfl
@[go_sem] theorem il25 : isLenT Tryz.prog 25 = some false := by kernel_rfl
@[go_sem] theorem il27 : isLenT Tryz.prog 27 = some false := by kernel_rfl
@[go_sem] theorem il28 : isLenT Tryz.prog 28 = some false := by kernel_rfl
@[go_sem] theorem fo81_1 : fieldOff Tryz.prog 81 1 = some 1 := by kernel_rfl
@[go_sem] theorem fo81_2 : fieldOff Tryz.prog 81 2 = some 2 := by kernel_rfl
@[go_sem] theorem ti83 : tin Tryz.prog 83 = some (some 4) := by kernel_rfl
@[go_sem] theorem t183 : tin1 Tryz.prog 83 = some (some 4) := by kernel_rfl
@[go_sem] theorem fo83_2 : fieldOff Tryz.prog 83 2 = some 2 := by kernel_rfl
@[go_sem] theorem fo83_1 : fieldOff Tryz.prog 83 1 = some 1 := by kernel_rfl
@[go_sem] theorem fo83_3 : fieldOff Tryz.prog 83 3 = some 3 := by kernel_rfl
@[go_sem] theorem en41 : Enters Tryz.prog 41 := enters_of Tryz.func41 (by kernel_rfl) rfl
@[go_sem] theorem en42 : Enters Tryz.prog 42 := enters_of Tryz.func42 (by kernel_rfl) rfl
@[go_sem] theorem en43 : Enters Tryz.prog 43 := enters_of Tryz.func43 (by kernel_rfl) rfl
@[go_sem] theorem fo77_0 : fieldOff Tryz.prog 77 0 = some 0 := by kernel_rfl
@[go_sem] theorem fo77_1 : fieldOff Tryz.prog 77 1 = some 1 := by kernel_rfl
@[go_sem] theorem fo74_1 : fieldOff Tryz.prog 74 1 = some 1 := by kernel_rfl
@[go_sem] theorem en44 : Enters Tryz.prog 44 := enters_of Tryz.func44 (by kernel_rfl) rfl
@[go_sem] theorem en45 : Enters Tryz.prog 45 := enters_of Tryz.func45 (by kernel_rfl) rfl
@[go_sem] theorem en46 : Enters Tryz.prog 46 := enters_of Tryz.func46 (by kernel_rfl) rfl
@[go_sem] theorem fo31_0 : fieldOff Tryz.prog 31 0 = some 0 := by kernel_rfl
@[go_sem] theorem en47 : Enters Tryz.prog 47 := enters_of Tryz.func47 (by kernel_rfl) rfl
@[go_sem] theorem en48 : Enters Tryz.prog 48 := enters_of Tryz.func48 (by kernel_rfl) rfl
@[go_sem] theorem en49 : Enters Tryz.prog 49 := enters_of Tryz.func49 (by kernel_rfl) rfl
@[go_sem] theorem en50 : Enters Tryz.prog 50 := enters_of Tryz.func50 (by kernel_rfl) rfl
@[go_sem] theorem en51 : Enters Tryz.prog 51 := enters_of Tryz.func51 (by kernel_rfl) rfl
@[go_sem] theorem en52 : Enters Tryz.prog 52 := enters_of Tryz.func52 (by kernel_rfl) rfl
@[go_sem] theorem zc110 : zeroCells Tryz.prog 110 = some [.val (.int .i64 (0)), .val (.slice none 0 0), .val (.slice none 0 0), .val (.slice none 0 0), .val (.slice none 0 0), .val (.slice none 0 0), .val (.slice none 0 0), .val (.slice none 0 0), .val (.slice none 0 0), .val (.slice none 0 0), .val (.slice none 0 0), .val (.slice none 0 0), .val (.slice none 0 0), .val (.slice none 0 0)] := by kernel_rfl
@[go_sem] theorem fa110 : fieldsAt Tryz.prog 110 = some [(0, 14)] := by kernel_rfl
@[go_sem] theorem en53 : Enters Tryz.prog 53 := enters_of Tryz.func53 (by kernel_rfl) rfl
@[go_sem] theorem fo110_0 : fieldOff Tryz.prog 110 0 = some 0 := by kernel_rfl
@[go_sem] theorem en54 : Enters Tryz.prog 54 := enters_of Tryz.func54 (by kernel_rfl) rfl
@[go_sem] theorem en55 : Enters Tryz.prog 55 := enters_of Tryz.func55 (by kernel_rfl) rfl
@[go_sem] theorem en56 : Enters Tryz.prog 56 := enters_of Tryz.func56 (by kernel_rfl) rfl
@[go_sem] theorem en57 : Enters Tryz.prog 57 := enters_of Tryz.func57 (by kernel_rfl) rfl
@[go_sem] theorem en58 : Enters Tryz.prog 58 := enters_of Tryz.func58 (by kernel_rfl) rfl
@[go_sem] theorem t131 : tin1 Tryz.prog 31 = some (some 12) := by kernel_rfl
@[go_sem] theorem en59 : Enters Tryz.prog 59 := enters_of Tryz.func59 (by kernel_rfl) rfl
@[go_sem] theorem ti81 : tin Tryz.prog 81 = some (some 3) := by kernel_rfl
@[go_sem] theorem t181 : tin1 Tryz.prog 81 = some (some 3) := by kernel_rfl
@[go_sem] theorem en60 : Enters Tryz.prog 60 := enters_of Tryz.func60 (by kernel_rfl) rfl
@[go_sem] theorem en61 : Enters Tryz.prog 61 := enters_of Tryz.func61 (by kernel_rfl) rfl
@[go_sem] theorem sl27 : slT Tryz.prog 27 = some (3, 72, [.val (.slice none 0 0), .val (.slice none 0 0), .val (.slice none 0 0)]) := by kernel_rfl
@[go_sem] theorem is27 : isSl Tryz.prog 27 = true := by kernel_rfl
@[go_sem] theorem t127 : tin1 Tryz.prog 27 = some none := by kernel_rfl
@[go_sem] theorem ze32 : zelem Tryz.prog 32 = some (.agg [.val (.int .i64 (0)), .val (.int .i64 (0)), .val (.int .i64 (0)), .val (.int .i64 (0))]) := by kernel_rfl
@[go_sem] theorem sl32 : slT Tryz.prog 32 = some (4, 32, [.val (.int .i64 (0)), .val (.int .i64 (0)), .val (.int .i64 (0)), .val (.int .i64 (0))]) := by kernel_rfl
@[go_sem] theorem is32 : isSl Tryz.prog 32 = true := by kernel_rfl
@[go_sem] theorem ze33 : zelem Tryz.prog 33 = some (.agg [.val (.int .i64 (0)), .val (.int .i64 (0))]) := by kernel_rfl
@[go_sem] theorem sl33 : slT Tryz.prog 33 = some (2, 16, [.val (.int .i64 (0)), .val (.int .i64 (0))]) := by kernel_rfl
@[go_sem] theorem is33 : isSl Tryz.prog 33 = true := by kernel_rfl
@[go_sem] theorem en62 : Enters Tryz.prog 62 := enters_of Tryz.func62 (by kernel_rfl) rfl
@[go_sem] theorem en63 : Enters Tryz.prog 63 := enters_of Tryz.func63 (by kernel_rfl) rfl
@[go_sem] theorem en64 : Enters Tryz.prog 64 := enters_of Tryz.func64 (by kernel_rfl) rfl
@[go_sem] theorem en65 : Enters Tryz.prog 65 := enters_of Tryz.func65 (by kernel_rfl) rfl
@[go_sem] theorem en66 : Enters Tryz.prog 66 := enters_of Tryz.func66 (by kernel_rfl) rfl
@[go_sem] theorem t125 : tin1 Tryz.prog 25 = some none := by kernel_rfl
@[go_sem] theorem t126 : tin1 Tryz.prog 26 = some none := by kernel_rfl
@[go_sem] theorem t128 : tin1 Tryz.prog 28 = some none := by kernel_rfl
@[go_sem] theorem t129 : tin1 Tryz.prog 29 = some none := by kernel_rfl
@[go_sem] theorem en67 : Enters Tryz.prog 67 := enters_of Tryz.func67 (by kernel_rfl) rfl
@[go_sem] theorem en68 : Enters Tryz.prog 68 := enters_of Tryz.func68 (by kernel_rfl) rfl
@[go_sem] theorem en69 : Enters Tryz.prog 69 := enters_of Tryz.func69 (by kernel_rfl) rfl
@[go_sem] theorem en70 : Enters Tryz.prog 70 := enters_of Tryz.func70 (by kernel_rfl) rfl
@[go_sem] theorem en71 : Enters Tryz.prog 71 := enters_of Tryz.func71 (by kernel_rfl) rfl
@[go_sem] theorem en72 : Enters Tryz.prog 72 := enters_of Tryz.func72 (by kernel_rfl) rfl
@[go_sem] theorem fa55 : fieldsAt Tryz.prog 55 = some [(0, 1), (1, 1), (2, 1), (3, 1)] := by kernel_rfl
@[go_sem] theorem zc98 : zeroCells Tryz.prog 98 = some [.val (.int .i64 (0)), .val (.int .i64 (0)), .val (.int .i64 (0))] := by kernel_rfl
@[go_sem] theorem en73 : Enters Tryz.prog 73 := enters_of Tryz.func73 (by kernel_rfl) rfl
@[go_sem] theorem en74 : Enters Tryz.prog 74 := enters_of Tryz.func74 (by kernel_rfl) rfl
@[go_sem] theorem t198 : tin1 Tryz.prog 98 = some (some 3) := by kernel_rfl
@[go_sem] theorem en76 : Enters Tryz.prog 76 := enters_of Tryz.func76 (by kernel_rfl) rfl
@[go_sem] theorem en75 : Enters Tryz.prog 75 := enters_of Tryz.func75 (by kernel_rfl) rfl
@[go_sem] theorem ti98 : tin Tryz.prog 98 = some (some 3) := by kernel_rfl
@[go_sem] theorem en77 : Enters Tryz.prog 77 := enters_of Tryz.func77 (by kernel_rfl) rfl
@[go_sem] theorem en78 : Enters Tryz.prog 78 := enters_of Tryz.func78 (by kernel_rfl) rfl
@[go_sem] theorem sl53 : slT Tryz.prog 53 = some (1, 8, [.val (.int .i64 (0))]) := by kernel_rfl
@[go_sem] theorem is53 : isSl Tryz.prog 53 = true := by kernel_rfl
@[go_sem] theorem t153 : tin1 Tryz.prog 53 = some none := by kernel_rfl
@[go_sem] theorem en79 : Enters Tryz.prog 79 := enters_of Tryz.func79 (by kernel_rfl) rfl
@[go_sem] theorem en80 : Enters Tryz.prog 80 := enters_of Tryz.func80 (by kernel_rfl) rfl
@[go_sem] theorem zc50 : zeroCells Tryz.prog 50 = some [.val (.slice none 0 0)] := by kernel_rfl
@[go_sem] theorem zc44 : zeroCells Tryz.prog 44 = some [.val (.int .i64 (0))] := by kernel_rfl
@[go_sem] theorem en81 : Enters Tryz.prog 81 := enters_of Tryz.func81 (by kernel_rfl) rfl
@[go_sem] theorem t150 : tin1 Tryz.prog 50 = some none := by kernel_rfl
@[go_sem] theorem t144 : tin1 Tryz.prog 44 = some none := by kernel_rfl
@[go_sem] theorem zc3 : zeroCells Tryz.prog 3 = some [.val (.int .i64 (0))] := by kernel_rfl
@[go_sem] theorem en82 : Enters Tryz.prog 82 := enters_of Tryz.func82 (by kernel_rfl) rfl
@[go_sem] theorem en83 : Enters Tryz.prog 83 := enters_of Tryz.func83 (by kernel_rfl) rfl
@[go_sem] theorem ti50 : tin Tryz.prog 50 = some none := by kernel_rfl
@[go_sem] theorem en84 : Enters Tryz.prog 84 := enters_of Tryz.func84 (by kernel_rfl) rfl
@[go_sem] theorem en85 : Enters Tryz.prog 85 := enters_of Tryz.func85 (by kernel_rfl) rfl
@[go_sem] theorem en86 : Enters Tryz.prog 86 := enters_of Tryz.func86 (by kernel_rfl) rfl
@[go_sem] theorem en87 : Enters Tryz.prog 87 := enters_of Tryz.func87 (by kernel_rfl) rfl
@[go_sem] theorem en89 : Enters Tryz.prog 89 := enters_of Tryz.func89 (by kernel_rfl) rfl
@[go_sem] theorem en88 : Enters Tryz.prog 88 := enters_of Tryz.func88 (by kernel_rfl) rfl
@[go_sem] theorem en90 : Enters Tryz.prog 90 := enters_of Tryz.func90 (by kernel_rfl) rfl
@[go_sem] theorem en91 : Enters Tryz.prog 91 := enters_of Tryz.func91 (by kernel_rfl) rfl
@[go_sem] theorem en97 : Enters Tryz.prog 97 := enters_of Tryz.func97 (by kernel_rfl) rfl
@[go_sem] theorem il150 : isLenT Tryz.prog 150 = some false := by kernel_rfl
@[go_sem] theorem se150 : selem Tryz.prog 150 = some 1 := by kernel_rfl
@[go_sem] theorem en98 : Enters Tryz.prog 98 := enters_of Tryz.func98 (by kernel_rfl) rfl
@[go_sem] theorem en99 : Enters Tryz.prog 99 := enters_of Tryz.func99 (by kernel_rfl) rfl
@[go_sem] theorem en100 : Enters Tryz.prog 100 := enters_of Tryz.func100 (by kernel_rfl) rfl
@[go_sem] theorem en101 : Enters Tryz.prog 101 := enters_of Tryz.func101 (by kernel_rfl) rfl
@[go_sem] theorem en102 : Enters Tryz.prog 102 := enters_of Tryz.func102 (by kernel_rfl) rfl
@[go_sem] theorem en103 : Enters Tryz.prog 103 := enters_of Tryz.func103 (by kernel_rfl) rfl
@[go_sem] theorem en104 : Enters Tryz.prog 104 := enters_of Tryz.func104 (by kernel_rfl) rfl
@[go_sem] theorem ze25 : zelem Tryz.prog 25 = some (.agg [.val (.int .i64 (0)), .val (.int .i64 (0)), .val (.int .i64 (0))]) := by kernel_rfl
@[go_sem] theorem sl25 : slT Tryz.prog 25 = some (3, 24, [.val (.int .i64 (0)), .val (.int .i64 (0)), .val (.int .i64 (0))]) := by kernel_rfl
@[go_sem] theorem is25 : isSl Tryz.prog 25 = true := by kernel_rfl
@[go_sem] theorem ze26 : zelem Tryz.prog 26 = some (.agg [.val (.int .i64 (0)), .val (.int .i64 (0)), .val (.int .i64 (0)), .val (.int .i64 (0)), .val (.int .i64 (0)), .val (.int .i64 (0))]) := by kernel_rfl
@[go_sem] theorem sl26 : slT Tryz.prog 26 = some (6, 48, [.val (.int .i64 (0)), .val (.int .i64 (0)), .val (.int .i64 (0)), .val (.int .i64 (0)), .val (.int .i64 (0)), .val (.int .i64 (0))]) := by kernel_rfl
@[go_sem] theorem is26 : isSl Tryz.prog 26 = true := by kernel_rfl
@[go_sem] theorem sl28 : slT Tryz.prog 28 = some (4, 32, [.val (.int .i64 (0)), .val (.int .i64 (0)), .val (.int .i64 (0)), .val (.int .i64 (0))]) := by kernel_rfl
@[go_sem] theorem is28 : isSl Tryz.prog 28 = true := by kernel_rfl
@[go_sem] theorem ze29 : zelem Tryz.prog 29 = some (.agg [.val (.bool false), .val (.int .i64 (0)), .val (.int .i64 (0)), .val (.int .i64 (0)), .val (.int .i64 (0))]) := by kernel_rfl
@[go_sem] theorem sl29 : slT Tryz.prog 29 = some (5, 40, [.val (.bool false), .val (.int .i64 (0)), .val (.int .i64 (0)), .val (.int .i64 (0)), .val (.int .i64 (0))]) := by kernel_rfl
@[go_sem] theorem is29 : isSl Tryz.prog 29 = true := by kernel_rfl
@[go_sem] theorem sl22 : slT Tryz.prog 22 = some (1, 16, [.val (.string ⟨#[]⟩)]) := by kernel_rfl
@[go_sem] theorem is22 : isSl Tryz.prog 22 = true := by kernel_rfl
@[go_sem] theorem is68 : isSl Tryz.prog 68 = true := by kernel_rfl
@[go_sem] theorem se25 : selem Tryz.prog 25 = some 3 := by kernel_rfl
@[go_sem] theorem fo116_0 : fieldOff Tryz.prog 116 0 = some 0 := by kernel_rfl
@[go_sem] theorem en105 : Enters Tryz.prog 105 := enters_of Tryz.func105 (by kernel_rfl) rfl
@[go_sem] theorem fo116_1 : fieldOff Tryz.prog 116 1 = some 1 := by kernel_rfl
@[go_sem] theorem fo60_0 : fieldOff Tryz.prog 60 0 = some 0 := by kernel_rfl
@[go_sem] theorem fo60_1 : fieldOff Tryz.prog 60 1 = some 1 := by kernel_rfl
@[go_sem] theorem fo62_0 : fieldOff Tryz.prog 62 0 = some 0 := by kernel_rfl
@[go_sem] theorem ti4 : tin Tryz.prog 4 = some none := by kernel_rfl
@[go_sem] theorem fo62_1 : fieldOff Tryz.prog 62 1 = some 1 := by kernel_rfl
@[go_sem] theorem fa98 : fieldsAt Tryz.prog 98 = some [(0, 1), (1, 1), (2, 1)] := by kernel_rfl
@[go_sem] theorem ti133 : tin Tryz.prog 133 = some (some 7) := by kernel_rfl
@[go_sem] theorem en106 : Enters Tryz.prog 106 := enters_of Tryz.func106 (by kernel_rfl) rfl
@[go_sem] theorem en107 : Enters Tryz.prog 107 := enters_of Tryz.func107 (by kernel_rfl) rfl
@[go_sem] theorem en108 : Enters Tryz.prog 108 := enters_of Tryz.func108 (by kernel_rfl) rfl
@[go_sem] theorem fo98_0 : fieldOff Tryz.prog 98 0 = some 0 := by kernel_rfl
@[go_sem] theorem ti44 : tin Tryz.prog 44 = some none := by kernel_rfl
@[go_sem] theorem en109 : Enters Tryz.prog 109 := enters_of Tryz.func109 (by kernel_rfl) rfl
@[go_sem] theorem zc133 : zeroCells Tryz.prog 133 = some [.val (.int .i64 (0)), .val (.slice none 0 0), .val (.slice none 0 0), .val (.slice none 0 0), .val (.slice none 0 0), .val (.slice none 0 0), .val (.slice none 0 0)] := by kernel_rfl
@[go_sem] theorem fa133 : fieldsAt Tryz.prog 133 = some [(0, 1), (1, 1), (2, 1), (3, 1), (4, 1), (5, 1), (6, 1)] := by kernel_rfl
@[go_sem] theorem t1133 : tin1 Tryz.prog 133 = some (some 7) := by kernel_rfl
@[go_sem] theorem fo133_2 : fieldOff Tryz.prog 133 2 = some 2 := by kernel_rfl
@[go_sem] theorem ti127 : tin Tryz.prog 127 = some none := by kernel_rfl
@[go_sem] theorem fo116_2 : fieldOff Tryz.prog 116 2 = some 2 := by kernel_rfl
@[go_sem] theorem zc162 : zeroCells Tryz.prog 162 = some [.val (.string ⟨#[]⟩), .val (.string ⟨#[]⟩), .val (.string ⟨#[]⟩), .val (.int .i64 (0))] := by kernel_rfl
@[go_sem] theorem fa162 : fieldsAt Tryz.prog 162 = some [(0, 1), (1, 1), (2, 1), (3, 1)] := by kernel_rfl
@[go_sem] theorem ze127 : zelem Tryz.prog 127 = some (.agg [.val (.string ⟨#[]⟩), .val (.string ⟨#[]⟩), .val (.string ⟨#[]⟩), .val (.int .i64 (0))]) := by kernel_rfl
@[go_sem] theorem sl127 : slT Tryz.prog 127 = some (4, 56, [.val (.string ⟨#[]⟩), .val (.string ⟨#[]⟩), .val (.string ⟨#[]⟩), .val (.int .i64 (0))]) := by kernel_rfl
@[go_sem] theorem is127 : isSl Tryz.prog 127 = true := by kernel_rfl
@[go_sem] theorem t1127 : tin1 Tryz.prog 127 = some none := by kernel_rfl
@[go_sem] theorem fo133_3 : fieldOff Tryz.prog 133 3 = some 3 := by kernel_rfl
@[go_sem] theorem ti128 : tin Tryz.prog 128 = some none := by kernel_rfl
@[go_sem] theorem fo60_2 : fieldOff Tryz.prog 60 2 = some 2 := by kernel_rfl
@[go_sem] theorem zc164 : zeroCells Tryz.prog 164 = some [.val (.string ⟨#[]⟩), .val (.string ⟨#[]⟩), .val (.string ⟨#[]⟩), .val (.int .i64 (0)), .val (.int .i64 (0)), .val (.int .i64 (0)), .val (.int .i64 (0))] := by kernel_rfl
@[go_sem] theorem fa164 : fieldsAt Tryz.prog 164 = some [(0, 1), (1, 1), (2, 1), (3, 1), (4, 3)] := by kernel_rfl
@[go_sem] theorem ze128 : zelem Tryz.prog 128 = some (.agg [.val (.string ⟨#[]⟩), .val (.string ⟨#[]⟩), .val (.string ⟨#[]⟩), .val (.int .i64 (0)), .val (.int .i64 (0)), .val (.int .i64 (0)), .val (.int .i64 (0))]) := by kernel_rfl
@[go_sem] theorem sl128 : slT Tryz.prog 128 = some (7, 80, [.val (.string ⟨#[]⟩), .val (.string ⟨#[]⟩), .val (.string ⟨#[]⟩), .val (.int .i64 (0)), .val (.int .i64 (0)), .val (.int .i64 (0)), .val (.int .i64 (0))]) := by kernel_rfl
@[go_sem] theorem is128 : isSl Tryz.prog 128 = true := by kernel_rfl
@[go_sem] theorem t1128 : tin1 Tryz.prog 128 = some none := by kernel_rfl
@[go_sem] theorem zc166 : zeroCells Tryz.prog 166 = some [.val (.string ⟨#[]⟩), .val (.slice none 0 0), .val (.slice none 0 0), .val (.slice none 0 0)] := by kernel_rfl
@[go_sem] theorem fa166 : fieldsAt Tryz.prog 166 = some [(0, 1), (1, 1), (2, 1), (3, 1)] := by kernel_rfl
@[go_sem] theorem t1166 : tin1 Tryz.prog 166 = some (some 4) := by kernel_rfl
@[go_sem] theorem fo166_1 : fieldOff Tryz.prog 166 1 = some 1 := by kernel_rfl
@[go_sem] theorem t122 : tin1 Tryz.prog 22 = some none := by kernel_rfl
@[go_sem] theorem fo133_4 : fieldOff Tryz.prog 133 4 = some 4 := by kernel_rfl
@[go_sem] theorem ti129 : tin Tryz.prog 129 = some none := by kernel_rfl
@[go_sem] theorem ti166 : tin Tryz.prog 166 = some (some 4) := by kernel_rfl
@[go_sem] theorem ze129 : zelem Tryz.prog 129 = some (.agg [.val (.string ⟨#[]⟩), .val (.slice none 0 0), .val (.slice none 0 0), .val (.slice none 0 0)]) := by kernel_rfl
@[go_sem] theorem sl129 : slT Tryz.prog 129 = some (4, 88, [.val (.string ⟨#[]⟩), .val (.slice none 0 0), .val (.slice none 0 0), .val (.slice none 0 0)]) := by kernel_rfl
@[go_sem] theorem is129 : isSl Tryz.prog 129 = true := by kernel_rfl
@[go_sem] theorem t1129 : tin1 Tryz.prog 129 = some none := by kernel_rfl
@[go_sem] theorem fo133_5 : fieldOff Tryz.prog 133 5 = some 5 := by kernel_rfl
@[go_sem] theorem ti130 : tin Tryz.prog 130 = some none := by kernel_rfl
@[go_sem] theorem zc168 : zeroCells Tryz.prog 168 = some [.val (.string ⟨#[]⟩), .val (.string ⟨#[]⟩), .val (.int .i64 (0)), .val (.int .i64 (0)), .val (.int .i64 (0))] := by kernel_rfl
@[go_sem] theorem fa168 : fieldsAt Tryz.prog 168 = some [(0, 1), (1, 1), (2, 1), (3, 1), (4, 1)] := by kernel_rfl
@[go_sem] theorem ze130 : zelem Tryz.prog 130 = some (.agg [.val (.string ⟨#[]⟩), .val (.string ⟨#[]⟩), .val (.int .i64 (0)), .val (.int .i64 (0)), .val (.int .i64 (0))]) := by kernel_rfl
@[go_sem] theorem sl130 : slT Tryz.prog 130 = some (5, 56, [.val (.string ⟨#[]⟩), .val (.string ⟨#[]⟩), .val (.int .i64 (0)), .val (.int .i64 (0)), .val (.int .i64 (0))]) := by kernel_rfl
@[go_sem] theorem is130 : isSl Tryz.prog 130 = true := by kernel_rfl
@[go_sem] theorem t1130 : tin1 Tryz.prog 130 = some none := by kernel_rfl
@[go_sem] theorem fo133_6 : fieldOff Tryz.prog 133 6 = some 6 := by kernel_rfl
@[go_sem] theorem ti131 : tin Tryz.prog 131 = some none := by kernel_rfl
@[go_sem] theorem zc170 : zeroCells Tryz.prog 170 = some [.val (.string ⟨#[]⟩), .val (.string ⟨#[]⟩), .val (.int .i64 (0)), .val (.int .i64 (0)), .val (.int .i64 (0))] := by kernel_rfl
@[go_sem] theorem fa170 : fieldsAt Tryz.prog 170 = some [(0, 1), (1, 1), (2, 3)] := by kernel_rfl
@[go_sem] theorem ze131 : zelem Tryz.prog 131 = some (.agg [.val (.string ⟨#[]⟩), .val (.string ⟨#[]⟩), .val (.int .i64 (0)), .val (.int .i64 (0)), .val (.int .i64 (0))]) := by kernel_rfl
@[go_sem] theorem sl131 : slT Tryz.prog 131 = some (5, 56, [.val (.string ⟨#[]⟩), .val (.string ⟨#[]⟩), .val (.int .i64 (0)), .val (.int .i64 (0)), .val (.int .i64 (0))]) := by kernel_rfl
@[go_sem] theorem is131 : isSl Tryz.prog 131 = true := by kernel_rfl
@[go_sem] theorem t1131 : tin1 Tryz.prog 131 = some none := by kernel_rfl
@[go_sem] theorem en110 : Enters Tryz.prog 110 := enters_of Tryz.func110 (by kernel_rfl) rfl
@[go_sem] theorem en111 : Enters Tryz.prog 111 := enters_of Tryz.func111 (by kernel_rfl) rfl
@[go_sem] theorem en114 : Enters Tryz.prog 114 := enters_of Tryz.func114 (by kernel_rfl) rfl
@[go_sem] theorem en115 : Enters Tryz.prog 115 := enters_of Tryz.func115 (by kernel_rfl) rfl
@[go_sem] theorem en116 : Enters Tryz.prog 116 := enters_of Tryz.func116 (by kernel_rfl) rfl
@[go_sem] theorem en117 : Enters Tryz.prog 117 := enters_of Tryz.func117 (by kernel_rfl) rfl
@[go_sem] theorem en118 : Enters Tryz.prog 118 := enters_of Tryz.func118 (by kernel_rfl) rfl
@[go_sem] theorem en113 : Enters Tryz.prog 113 := enters_of Tryz.func113 (by kernel_rfl) rfl
@[go_sem] theorem fo143_0 : fieldOff Tryz.prog 143 0 = some 0 := by kernel_rfl
@[go_sem] theorem fo143_1 : fieldOff Tryz.prog 143 1 = some 1 := by kernel_rfl
@[go_sem] theorem fo143_2 : fieldOff Tryz.prog 143 2 = some 2 := by kernel_rfl
@[go_sem] theorem en119 : Enters Tryz.prog 119 := enters_of Tryz.func119 (by kernel_rfl) rfl
@[go_sem] theorem en120 : Enters Tryz.prog 120 := enters_of Tryz.func120 (by kernel_rfl) rfl
@[go_sem] theorem en121 : Enters Tryz.prog 121 := enters_of Tryz.func121 (by kernel_rfl) rfl
@[go_sem] theorem en122 : Enters Tryz.prog 122 := enters_of Tryz.func122 (by kernel_rfl) rfl
@[go_sem] theorem fo37_0 : fieldOff Tryz.prog 37 0 = some 0 := by kernel_rfl
@[go_sem] theorem fo37_1 : fieldOff Tryz.prog 37 1 = some 1 := by kernel_rfl
@[go_sem] theorem fo37_2 : fieldOff Tryz.prog 37 2 = some 2 := by kernel_rfl
@[go_sem] theorem zc37 : zeroCells Tryz.prog 37 = some [.val (.int .i64 (0)), .val (.int .i64 (0)), .val (.int .i64 (0))] := by kernel_rfl
@[go_sem] theorem fa37 : fieldsAt Tryz.prog 37 = some [(0, 1), (1, 1), (2, 1)] := by kernel_rfl
@[go_sem] theorem un9 : Program.underlying Tryz.prog 9 = some .string := by kernel_rfl
@[go_sem] theorem en123 : Enters Tryz.prog 123 := enters_of Tryz.func123 (by kernel_rfl) rfl
@[go_sem] theorem en124 : Enters Tryz.prog 124 := enters_of Tryz.func124 (by kernel_rfl) rfl
@[go_sem] theorem en125 : Enters Tryz.prog 125 := enters_of Tryz.func125 (by kernel_rfl) rfl
@[go_sem] theorem en127 : Enters Tryz.prog 127 := enters_of Tryz.func127 (by kernel_rfl) rfl
@[go_sem] theorem en128 : Enters Tryz.prog 128 := enters_of Tryz.func128 (by kernel_rfl) rfl
@[go_sem] theorem en129 : Enters Tryz.prog 129 := enters_of Tryz.func129 (by kernel_rfl) rfl
@[go_sem] theorem en130 : Enters Tryz.prog 130 := enters_of Tryz.func130 (by kernel_rfl) rfl
@[go_sem] theorem fa74 : fieldsAt Tryz.prog 74 = some [(0, 1), (1, 1), (2, 1), (3, 1)] := by kernel_rfl
@[go_sem] theorem en131 : Enters Tryz.prog 131 := enters_of Tryz.func131 (by kernel_rfl) rfl
@[go_sem] theorem en133 : Enters Tryz.prog 133 := enters_of Tryz.func133 (by kernel_rfl) rfl
@[go_sem] theorem t132 : tin1 Tryz.prog 32 = some none := by kernel_rfl
@[go_sem] theorem en134 : Enters Tryz.prog 134 := enters_of Tryz.func134 (by kernel_rfl) rfl
@[go_sem] theorem en136 : Enters Tryz.prog 136 := enters_of Tryz.func136 (by kernel_rfl) rfl
@[go_sem] theorem t133 : tin1 Tryz.prog 33 = some none := by kernel_rfl
@[go_sem] theorem en137 : Enters Tryz.prog 137 := enters_of Tryz.func137 (by kernel_rfl) rfl
@[go_sem] theorem en138 : Enters Tryz.prog 138 := enters_of Tryz.func138 (by kernel_rfl) rfl
@[go_sem] theorem ze150 : zelem Tryz.prog 150 = some (.val (.slice none 0 0)) := by kernel_rfl
@[go_sem] theorem ti116 : tin Tryz.prog 116 = some (some 3) := by kernel_rfl
@[go_sem] theorem ti60 : tin Tryz.prog 60 = some (some 6) := by kernel_rfl
@[go_sem] theorem ti62 : tin Tryz.prog 62 = some (some 5) := by kernel_rfl
@[go_sem] theorem fo133_1 : fieldOff Tryz.prog 133 1 = some 1 := by kernel_rfl
@[go_sem] theorem il127 : isLenT Tryz.prog 127 = some false := by kernel_rfl
@[go_sem] theorem il128 : isLenT Tryz.prog 128 = some false := by kernel_rfl
@[go_sem] theorem il129 : isLenT Tryz.prog 129 = some false := by kernel_rfl
@[go_sem] theorem il130 : isLenT Tryz.prog 130 = some false := by kernel_rfl
@[go_sem] theorem il131 : isLenT Tryz.prog 131 = some false := by kernel_rfl
@[go_sem] theorem en139 : Enters Tryz.prog 139 := enters_of Tryz.func139 (by kernel_rfl) rfl
@[go_sem] theorem en140 : Enters Tryz.prog 140 := enters_of Tryz.func140 (by kernel_rfl) rfl
@[go_sem] theorem en141 : Enters Tryz.prog 141 := enters_of Tryz.func141 (by kernel_rfl) rfl
@[go_sem] theorem se129 : selem Tryz.prog 129 = some 4 := by kernel_rfl
@[go_sem] theorem fo166_2 : fieldOff Tryz.prog 166 2 = some 2 := by kernel_rfl
@[go_sem] theorem fo166_3 : fieldOff Tryz.prog 166 3 = some 3 := by kernel_rfl
@[go_sem] theorem fo133_0 : fieldOff Tryz.prog 133 0 = some 0 := by kernel_rfl
@[go_sem] theorem en142 : Enters Tryz.prog 142 := enters_of Tryz.func142 (by kernel_rfl) rfl
@[go_sem] theorem se127 : selem Tryz.prog 127 = some 4 := by kernel_rfl
@[go_sem] theorem fo162_1 : fieldOff Tryz.prog 162 1 = some 1 := by kernel_rfl
@[go_sem] theorem en143 : Enters Tryz.prog 143 := enters_of Tryz.func143 (by kernel_rfl) rfl
@[go_sem] theorem fo162_2 : fieldOff Tryz.prog 162 2 = some 2 := by kernel_rfl
@[go_sem] theorem fo162_3 : fieldOff Tryz.prog 162 3 = some 3 := by kernel_rfl
@[go_sem] theorem zc116 : zeroCells Tryz.prog 116 = some [.val (.int .i64 (0)), .val (.int .i64 (0)), .val (.int .i64 (0))] := by kernel_rfl
@[go_sem] theorem fa116 : fieldsAt Tryz.prog 116 = some [(0, 1), (1, 1), (2, 1)] := by kernel_rfl
@[go_sem] theorem se128 : selem Tryz.prog 128 = some 7 := by kernel_rfl
@[go_sem] theorem fo164_1 : fieldOff Tryz.prog 164 1 = some 1 := by kernel_rfl
@[go_sem] theorem fo164_2 : fieldOff Tryz.prog 164 2 = some 2 := by kernel_rfl
@[go_sem] theorem fo164_3 : fieldOff Tryz.prog 164 3 = some 3 := by kernel_rfl
@[go_sem] theorem fo164_4 : fieldOff Tryz.prog 164 4 = some 4 := by kernel_rfl
@[go_sem] theorem zc60 : zeroCells Tryz.prog 60 = some [.val (.int .i64 (0)), .val (.int .i64 (0)), .val (.int .i64 (0)), .val (.int .i64 (0)), .val (.int .i64 (0)), .val (.int .i64 (0))] := by kernel_rfl
@[go_sem] theorem fa60 : fieldsAt Tryz.prog 60 = some [(0, 1), (1, 1), (2, 1), (3, 3)] := by kernel_rfl
@[go_sem] theorem t168 : tin1 Tryz.prog 68 = some none := by kernel_rfl
@[go_sem] theorem se130 : selem Tryz.prog 130 = some 5 := by kernel_rfl
@[go_sem] theorem fo168_1 : fieldOff Tryz.prog 168 1 = some 1 := by kernel_rfl
@[go_sem] theorem fo168_2 : fieldOff Tryz.prog 168 2 = some 2 := by kernel_rfl
@[go_sem] theorem fo168_3 : fieldOff Tryz.prog 168 3 = some 3 := by kernel_rfl
@[go_sem] theorem fo168_4 : fieldOff Tryz.prog 168 4 = some 4 := by kernel_rfl
@[go_sem] theorem se131 : selem Tryz.prog 131 = some 5 := by kernel_rfl
@[go_sem] theorem fo170_1 : fieldOff Tryz.prog 170 1 = some 1 := by kernel_rfl
@[go_sem] theorem fo170_2 : fieldOff Tryz.prog 170 2 = some 2 := by kernel_rfl
@[go_sem] theorem zc62 : zeroCells Tryz.prog 62 = some [.val (.bool false), .val (.int .i64 (0)), .val (.int .i64 (0)), .val (.int .i64 (0)), .val (.int .i64 (0))] := by kernel_rfl
@[go_sem] theorem fa62 : fieldsAt Tryz.prog 62 = some [(0, 1), (1, 1), (2, 3)] := by kernel_rfl
@[go_sem] theorem t162 : tin1 Tryz.prog 62 = some (some 5) := by kernel_rfl
@[go_sem] theorem t14 : tin1 Tryz.prog 4 = some none := by kernel_rfl
@[go_sem] theorem en144 : Enters Tryz.prog 144 := enters_of Tryz.func144 (by kernel_rfl) rfl
@[go_sem] theorem en145 : Enters Tryz.prog 145 := enters_of Tryz.func145 (by kernel_rfl) rfl
@[go_sem] theorem en146 : Enters Tryz.prog 146 := enters_of Tryz.func146 (by kernel_rfl) rfl
@[go_sem] theorem en147 : Enters Tryz.prog 147 := enters_of Tryz.func147 (by kernel_rfl) rfl
@[go_sem] theorem en149 : Enters Tryz.prog 149 := enters_of Tryz.func149 (by kernel_rfl) rfl
@[go_sem] theorem en148 : Enters Tryz.prog 148 := enters_of Tryz.func148 (by kernel_rfl) rfl
@[go_sem] theorem en150 : Enters Tryz.prog 150 := enters_of Tryz.func150 (by kernel_rfl) rfl
@[go_sem] theorem en152 : Enters Tryz.prog 152 := enters_of Tryz.func152 (by kernel_rfl) rfl
@[go_sem] theorem en153 : Enters Tryz.prog 153 := enters_of Tryz.func153 (by kernel_rfl) rfl
@[go_sem] theorem en154 : Enters Tryz.prog 154 := enters_of Tryz.func154 (by kernel_rfl) rfl
@[go_sem] theorem zc4 : zeroCells Tryz.prog 4 = some [.val (.bool false)] := by kernel_rfl
@[go_sem] theorem en156 : Enters Tryz.prog 156 := enters_of Tryz.func156 (by kernel_rfl) rfl
@[go_sem] theorem en158 : Enters Tryz.prog 158 := enters_of Tryz.func158 (by kernel_rfl) rfl
@[go_sem] theorem en157 : Enters Tryz.prog 157 := enters_of Tryz.func157 (by kernel_rfl) rfl
@[go_sem] theorem en159 : Enters Tryz.prog 159 := enters_of Tryz.func159 (by kernel_rfl) rfl
@[go_sem] theorem en160 : Enters Tryz.prog 160 := enters_of Tryz.func160 (by kernel_rfl) rfl
@[go_sem] theorem en161 : Enters Tryz.prog 161 := enters_of Tryz.func161 (by kernel_rfl) rfl
@[go_sem] theorem en163 : Enters Tryz.prog 163 := enters_of Tryz.func163 (by kernel_rfl) rfl
@[go_sem] theorem en165 : Enters Tryz.prog 165 := enters_of Tryz.func165 (by kernel_rfl) rfl
@[go_sem] theorem en166 : Enters Tryz.prog 166 := enters_of Tryz.func166 (by kernel_rfl) rfl
@[go_sem] theorem fo162_0 : fieldOff Tryz.prog 162 0 = some 0 := by kernel_rfl
@[go_sem] theorem fo164_0 : fieldOff Tryz.prog 164 0 = some 0 := by kernel_rfl
@[go_sem] theorem fo166_0 : fieldOff Tryz.prog 166 0 = some 0 := by kernel_rfl
@[go_sem] theorem fo168_0 : fieldOff Tryz.prog 168 0 = some 0 := by kernel_rfl
@[go_sem] theorem fo170_0 : fieldOff Tryz.prog 170 0 = some 0 := by kernel_rfl
@[go_sem] theorem en167 : Enters Tryz.prog 167 := enters_of Tryz.func167 (by kernel_rfl) rfl
@[go_sem] theorem en168 : Enters Tryz.prog 168 := enters_of Tryz.func168 (by kernel_rfl) rfl
@[go_sem] theorem en169 : Enters Tryz.prog 169 := enters_of Tryz.func169 (by kernel_rfl) rfl
@[go_sem] theorem zc213 : zeroCells Tryz.prog 213 = some [.val (.nilFunc)] := by kernel_rfl
@[go_sem] theorem t1213 : tin1 Tryz.prog 213 = some none := by kernel_rfl
@[go_sem] theorem zc177 : zeroCells Tryz.prog 177 = some [.val (.nilFunc)] := by kernel_rfl
@[go_sem] theorem t1177 : tin1 Tryz.prog 177 = some none := by kernel_rfl
@[go_sem] theorem en172 : Enters Tryz.prog 172 := enters_of Tryz.func172 (by kernel_rfl) rfl
@[go_sem] theorem en174 : Enters Tryz.prog 174 := enters_of Tryz.func174 (by kernel_rfl) rfl
@[go_sem] theorem en176 : Enters Tryz.prog 176 := enters_of Tryz.func176 (by kernel_rfl) rfl
@[go_sem] theorem en179 : Enters Tryz.prog 179 := enters_of Tryz.func179 (by kernel_rfl) rfl
@[go_sem] theorem en181 : Enters Tryz.prog 181 := enters_of Tryz.func181 (by kernel_rfl) rfl
@[go_sem] theorem en183 : Enters Tryz.prog 183 := enters_of Tryz.func183 (by kernel_rfl) rfl
@[go_sem] theorem en184 : Enters Tryz.prog 184 := enters_of Tryz.func184 (by kernel_rfl) rfl
@[go_sem] theorem en185 : Enters Tryz.prog 185 := enters_of Tryz.func185 (by kernel_rfl) rfl
@[go_sem] theorem t1116 : tin1 Tryz.prog 116 = some (some 3) := by kernel_rfl
@[go_sem] theorem t160 : tin1 Tryz.prog 60 = some (some 6) := by kernel_rfl
@[go_sem] theorem en186 : Enters Tryz.prog 186 := enters_of Tryz.func186 (by kernel_rfl) rfl
@[go_sem] theorem en188 : Enters Tryz.prog 188 := enters_of Tryz.func188 (by kernel_rfl) rfl
@[go_sem] theorem en189 : Enters Tryz.prog 189 := enters_of Tryz.func189 (by kernel_rfl) rfl
@[go_sem] theorem en190 : Enters Tryz.prog 190 := enters_of Tryz.func190 (by kernel_rfl) rfl
@[go_sem] theorem se236 : selem Tryz.prog 236 = none := by kernel_rfl
@[go_sem] theorem ti5 : tin Tryz.prog 5 = some none := by kernel_rfl
@[go_sem] theorem en194 : Enters Tryz.prog 194 := enters_of Tryz.func194 (by kernel_rfl) rfl
@[go_sem] theorem se9 : selem Tryz.prog 9 = none := by kernel_rfl
@[go_sem] theorem t19 : tin1 Tryz.prog 9 = some none := by kernel_rfl
@[go_sem] theorem en196 : Enters Tryz.prog 196 := enters_of Tryz.func196 (by kernel_rfl) rfl
@[go_sem] theorem en197 : Enters Tryz.prog 197 := enters_of Tryz.func197 (by kernel_rfl) rfl
@[go_sem] theorem en198 : Enters Tryz.prog 198 := enters_of Tryz.func198 (by kernel_rfl) rfl
@[go_sem] theorem en199 : Enters Tryz.prog 199 := enters_of Tryz.func199 (by kernel_rfl) rfl
@[go_sem] theorem en201 : Enters Tryz.prog 201 := enters_of Tryz.func201 (by kernel_rfl) rfl
@[go_sem] theorem en200 : Enters Tryz.prog 200 := enters_of Tryz.func200 (by kernel_rfl) rfl
@[go_sem] theorem en202 : Enters Tryz.prog 202 := enters_of Tryz.func202 (by kernel_rfl) rfl
@[go_sem] theorem en203 : Enters Tryz.prog 203 := enters_of Tryz.func203 (by kernel_rfl) rfl
@[go_sem] theorem en204 : Enters Tryz.prog 204 := enters_of Tryz.func204 (by kernel_rfl) rfl
@[go_sem] theorem zc247 : zeroCells Tryz.prog 247 = some [.val (.int .i64 (0)), .val (.int .i64 (0))] := by kernel_rfl
@[go_sem] theorem fa247 : fieldsAt Tryz.prog 247 = some [(0, 1), (1, 1)] := by kernel_rfl
@[go_sem] theorem ze210 : zelem Tryz.prog 210 = some (.agg [.val (.int .i64 (0)), .val (.int .i64 (0))]) := by kernel_rfl
@[go_sem] theorem sl210 : slT Tryz.prog 210 = some (2, 16, [.val (.int .i64 (0)), .val (.int .i64 (0))]) := by kernel_rfl
@[go_sem] theorem is210 : isSl Tryz.prog 210 = true := by kernel_rfl
@[go_sem] theorem en205 : Enters Tryz.prog 205 := enters_of Tryz.func205 (by kernel_rfl) rfl
@[go_sem] theorem ti213 : tin Tryz.prog 213 = some none := by kernel_rfl
@[go_sem] theorem en206 : Enters Tryz.prog 206 := enters_of Tryz.func206 (by kernel_rfl) rfl
@[go_sem] theorem ti177 : tin Tryz.prog 177 = some none := by kernel_rfl
@[go_sem] theorem en207 : Enters Tryz.prog 207 := enters_of Tryz.func207 (by kernel_rfl) rfl
@[go_sem] theorem en208 : Enters Tryz.prog 208 := enters_of Tryz.func208 (by kernel_rfl) rfl
@[go_sem] theorem en178 : Enters Tryz.prog 178 := enters_of Tryz.func178 (by kernel_rfl) rfl
@[go_sem] theorem en209 : Enters Tryz.prog 209 := enters_of Tryz.func209 (by kernel_rfl) rfl
@[go_sem] theorem en210 : Enters Tryz.prog 210 := enters_of Tryz.func210 (by kernel_rfl) rfl
@[go_sem] theorem en211 : Enters Tryz.prog 211 := enters_of Tryz.func211 (by kernel_rfl) rfl
@[go_sem] theorem en213 : Enters Tryz.prog 213 := enters_of Tryz.func213 (by kernel_rfl) rfl
@[go_sem] theorem en212 : Enters Tryz.prog 212 := enters_of Tryz.func212 (by kernel_rfl) rfl
@[go_sem] theorem en216 : Enters Tryz.prog 216 := enters_of Tryz.func216 (by kernel_rfl) rfl
@[go_sem] theorem en215 : Enters Tryz.prog 215 := enters_of Tryz.func215 (by kernel_rfl) rfl
@[go_sem] theorem en218 : Enters Tryz.prog 218 := enters_of Tryz.func218 (by kernel_rfl) rfl
@[go_sem] theorem zc259 : zeroCells Tryz.prog 259 = some [.val (.pointer none)] := by kernel_rfl
@[go_sem] theorem t1259 : tin1 Tryz.prog 259 = some none := by kernel_rfl
@[go_sem] theorem ti259 : tin Tryz.prog 259 = some none := by kernel_rfl
@[go_sem] theorem en220 : Enters Tryz.prog 220 := enters_of Tryz.func220 (by kernel_rfl) rfl
@[go_sem] theorem en222 : Enters Tryz.prog 222 := enters_of Tryz.func222 (by kernel_rfl) rfl
@[go_sem] theorem en224 : Enters Tryz.prog 224 := enters_of Tryz.func224 (by kernel_rfl) rfl
@[go_sem] theorem en226 : Enters Tryz.prog 226 := enters_of Tryz.func226 (by kernel_rfl) rfl
@[go_sem] theorem en228 : Enters Tryz.prog 228 := enters_of Tryz.func228 (by kernel_rfl) rfl
@[go_sem] theorem zc270 : zeroCells Tryz.prog 270 = some [.val (.nilFunc)] := by kernel_rfl
@[go_sem] theorem t1270 : tin1 Tryz.prog 270 = some none := by kernel_rfl
@[go_sem] theorem en232 : Enters Tryz.prog 232 := enters_of Tryz.func232 (by kernel_rfl) rfl
@[go_sem] theorem en234 : Enters Tryz.prog 234 := enters_of Tryz.func234 (by kernel_rfl) rfl
@[go_sem] theorem en236 : Enters Tryz.prog 236 := enters_of Tryz.func236 (by kernel_rfl) rfl
@[go_sem] theorem en239 : Enters Tryz.prog 239 := enters_of Tryz.func239 (by kernel_rfl) rfl
@[go_sem] theorem en241 : Enters Tryz.prog 241 := enters_of Tryz.func241 (by kernel_rfl) rfl
@[go_sem] theorem zc287 : zeroCells Tryz.prog 287 = some [.val (.pointer none), .val (.pointer none)] := by kernel_rfl
@[go_sem] theorem fa287 : fieldsAt Tryz.prog 287 = some [(0, 1), (1, 1)] := by kernel_rfl
@[go_sem] theorem en243 : Enters Tryz.prog 243 := enters_of Tryz.func243 (by kernel_rfl) rfl
@[go_sem] theorem fo287_0 : fieldOff Tryz.prog 287 0 = some 0 := by kernel_rfl
@[go_sem] theorem fo285_0 : fieldOff Tryz.prog 285 0 = some 0 := by kernel_rfl
@[go_sem] theorem t1283 : tin1 Tryz.prog 283 = some none := by kernel_rfl
@[go_sem] theorem en244 : Enters Tryz.prog 244 := enters_of Tryz.func244 (by kernel_rfl) rfl
@[go_sem] theorem zc291 : zeroCells Tryz.prog 291 = some [.val (.pointer none), .val (.pointer none), .val (.pointer none), .val (.pointer none), .val (.pointer none), .val (.pointer none), .val (.pointer none)] := by kernel_rfl
@[go_sem] theorem t1291 : tin1 Tryz.prog 291 = some (some 7) := by kernel_rfl
@[go_sem] theorem ti291 : tin Tryz.prog 291 = some (some 7) := by kernel_rfl
@[go_sem] theorem ti283 : tin Tryz.prog 283 = some none := by kernel_rfl
@[go_sem] theorem en245 : Enters Tryz.prog 245 := enters_of Tryz.func245 (by kernel_rfl) rfl
@[go_sem] theorem zc295 : zeroCells Tryz.prog 295 = some [.val (.nilFunc), .val (.nilFunc), .val (.nilFunc), .val (.nilFunc), .val (.nilFunc), .val (.nilFunc), .val (.nilFunc)] := by kernel_rfl
@[go_sem] theorem fa295 : fieldsAt Tryz.prog 295 = some [(0, 1), (1, 1), (2, 1), (3, 1), (4, 1), (5, 1), (6, 1)] := by kernel_rfl
@[go_sem] theorem se291 : selem Tryz.prog 291 = none := by kernel_rfl
@[go_sem] theorem ti290 : tin Tryz.prog 290 = some none := by kernel_rfl
@[go_sem] theorem zc143 : zeroCells Tryz.prog 143 = some [.val (.int .i64 (0)), .val (.int .i64 (0)), .val (.int .i64 (0)), .val (.int .i64 (0))] := by kernel_rfl
@[go_sem] theorem fa143 : fieldsAt Tryz.prog 143 = some [(0, 1), (1, 1), (2, 1), (3, 1)] := by kernel_rfl
@[go_sem] theorem en192 : Enters Tryz.prog 192 := enters_of Tryz.func192 (by kernel_rfl) rfl
@[go_sem] theorem ti143 : tin Tryz.prog 143 = some (some 4) := by kernel_rfl
@[go_sem] theorem ze296 : zelem Tryz.prog 296 = some (.agg [.val (.int .i64 (0)), .val (.int .i64 (0))]) := by kernel_rfl
@[go_sem] theorem sl296 : slT Tryz.prog 296 = some (2, 16, [.val (.int .i64 (0)), .val (.int .i64 (0))]) := by kernel_rfl
@[go_sem] theorem zc298 : zeroCells Tryz.prog 298 = some [.val (.int .i64 (0)), .val (.int .i64 (0))] := by kernel_rfl
@[go_sem] theorem fa298 : fieldsAt Tryz.prog 298 = some [(0, 1), (1, 1)] := by kernel_rfl
@[go_sem] theorem is296 : isSl Tryz.prog 296 = true := by kernel_rfl
@[go_sem] theorem il296 : isLenT Tryz.prog 296 = some false := by kernel_rfl
@[go_sem] theorem se296 : selem Tryz.prog 296 = some 2 := by kernel_rfl
@[go_sem] theorem ti298 : tin Tryz.prog 298 = some (some 2) := by kernel_rfl
@[go_sem] theorem t1298 : tin1 Tryz.prog 298 = some (some 2) := by kernel_rfl
@[go_sem] theorem fo298_0 : fieldOff Tryz.prog 298 0 = some 0 := by kernel_rfl
@[go_sem] theorem fo298_1 : fieldOff Tryz.prog 298 1 = some 1 := by kernel_rfl
@[go_sem] theorem ti301 : tin Tryz.prog 301 = some none := by kernel_rfl
@[go_sem] theorem en252 : Enters Tryz.prog 252 := enters_of Tryz.func252 (by kernel_rfl) rfl
@[go_sem] theorem en253 : Enters Tryz.prog 253 := enters_of Tryz.func253 (by kernel_rfl) rfl
@[go_sem] theorem en254 : Enters Tryz.prog 254 := enters_of Tryz.func254 (by kernel_rfl) rfl
@[go_sem] theorem zc210 : zeroCells Tryz.prog 210 = some [.val (.slice none 0 0)] := by kernel_rfl
@[go_sem] theorem t1247 : tin1 Tryz.prog 247 = some (some 2) := by kernel_rfl
@[go_sem] theorem ti210 : tin Tryz.prog 210 = some none := by kernel_rfl
@[go_sem] theorem il210 : isLenT Tryz.prog 210 = some false := by kernel_rfl
@[go_sem] theorem fo247_0 : fieldOff Tryz.prog 247 0 = some 0 := by kernel_rfl
@[go_sem] theorem se210 : selem Tryz.prog 210 = some 2 := by kernel_rfl
@[go_sem] theorem fo247_1 : fieldOff Tryz.prog 247 1 = some 1 := by kernel_rfl
@[go_sem] theorem ti247 : tin Tryz.prog 247 = some (some 2) := by kernel_rfl
@[go_sem] theorem t1210 : tin1 Tryz.prog 210 = some none := by kernel_rfl
@[go_sem] theorem en256 : Enters Tryz.prog 256 := enters_of Tryz.func256 (by kernel_rfl) rfl
@[go_sem] theorem en257 : Enters Tryz.prog 257 := enters_of Tryz.func257 (by kernel_rfl) rfl
@[go_sem] theorem ti162 : tin Tryz.prog 162 = some (some 4) := by kernel_rfl
@[go_sem] theorem t1162 : tin1 Tryz.prog 162 = some (some 4) := by kernel_rfl
@[go_sem] theorem ti164 : tin Tryz.prog 164 = some (some 7) := by kernel_rfl
@[go_sem] theorem t1164 : tin1 Tryz.prog 164 = some (some 7) := by kernel_rfl
@[go_sem] theorem ti168 : tin Tryz.prog 168 = some (some 5) := by kernel_rfl
@[go_sem] theorem t1168 : tin1 Tryz.prog 168 = some (some 5) := by kernel_rfl
@[go_sem] theorem ti170 : tin Tryz.prog 170 = some (some 5) := by kernel_rfl
@[go_sem] theorem t1170 : tin1 Tryz.prog 170 = some (some 5) := by kernel_rfl
@[go_sem] theorem en258 : Enters Tryz.prog 258 := enters_of Tryz.func258 (by kernel_rfl) rfl
@[go_sem] theorem zc53 : zeroCells Tryz.prog 53 = some [.val (.slice none 0 0)] := by kernel_rfl
@[go_sem] theorem en260 : Enters Tryz.prog 260 := enters_of Tryz.func260 (by kernel_rfl) rfl
@[go_sem] theorem en231 : Enters Tryz.prog 231 := enters_of Tryz.func231 (by kernel_rfl) rfl
@[go_sem] theorem ti270 : tin Tryz.prog 270 = some none := by kernel_rfl
@[go_sem] theorem en238 : Enters Tryz.prog 238 := enters_of Tryz.func238 (by kernel_rfl) rfl
@[go_sem] theorem zc311 : zeroCells Tryz.prog 311 = some [.val (.slice none 0 0), .val (.map none)] := by kernel_rfl
@[go_sem] theorem fa311 : fieldsAt Tryz.prog 311 = some [(0, 1), (1, 1)] := by kernel_rfl
@[go_sem] theorem zc313 : zeroCells Tryz.prog 313 = some [.val (.slice none 0 0), .val (.map none)] := by kernel_rfl
@[go_sem] theorem fa313 : fieldsAt Tryz.prog 313 = some [(0, 2)] := by kernel_rfl
@[go_sem] theorem zc22 : zeroCells Tryz.prog 22 = some [.val (.slice none 0 0)] := by kernel_rfl
@[go_sem] theorem fa291 : fieldsAt Tryz.prog 291 = some [(0, 1), (1, 1), (2, 1), (3, 1), (4, 1), (5, 1), (6, 1)] := by kernel_rfl
@[go_sem] theorem fo313_0 : fieldOff Tryz.prog 313 0 = some 0 := by kernel_rfl
@[go_sem] theorem fo311_1 : fieldOff Tryz.prog 311 1 = some 1 := by kernel_rfl
@[go_sem] theorem ti309 : tin Tryz.prog 309 = some none := by kernel_rfl
@[go_sem] theorem fo311_0 : fieldOff Tryz.prog 311 0 = some 0 := by kernel_rfl
@[go_sem] theorem fo287_1 : fieldOff Tryz.prog 287 1 = some 1 := by kernel_rfl
@[go_sem] theorem ti226 : tin Tryz.prog 226 = some none := by kernel_rfl
@[go_sem] theorem en261 : Enters Tryz.prog 261 := enters_of Tryz.func261 (by kernel_rfl) rfl
@[go_sem] theorem en262 : Enters Tryz.prog 262 := enters_of Tryz.func262 (by kernel_rfl) rfl
@[go_sem] theorem en263 : Enters Tryz.prog 263 := enters_of Tryz.func263 (by kernel_rfl) rfl
@[go_sem] theorem fo318_0 : fieldOff Tryz.prog 318 0 = some 0 := by kernel_rfl
@[go_sem] theorem ti315 : tin Tryz.prog 315 = some none := by kernel_rfl
@[go_sem] theorem fo318_2 : fieldOff Tryz.prog 318 2 = some 2 := by kernel_rfl
@[go_sem] theorem il315 : isLenT Tryz.prog 315 = some false := by kernel_rfl
@[go_sem] theorem se315 : selem Tryz.prog 315 = some 3 := by kernel_rfl
@[go_sem] theorem fo321_1 : fieldOff Tryz.prog 321 1 = some 1 := by kernel_rfl
@[go_sem] theorem ti319 : tin Tryz.prog 319 = some none := by kernel_rfl
@[go_sem] theorem en264 : Enters Tryz.prog 264 := enters_of Tryz.func264 (by kernel_rfl) rfl
@[go_sem] theorem fo318_1 : fieldOff Tryz.prog 318 1 = some 1 := by kernel_rfl
@[go_sem] theorem ti316 : tin Tryz.prog 316 = some none := by kernel_rfl
@[go_sem] theorem il316 : isLenT Tryz.prog 316 = some false := by kernel_rfl
@[go_sem] theorem se316 : selem Tryz.prog 316 = some 3 := by kernel_rfl
@[go_sem] theorem fo324_0 : fieldOff Tryz.prog 324 0 = some 0 := by kernel_rfl
@[go_sem] theorem ti299 : tin Tryz.prog 299 = some none := by kernel_rfl
@[go_sem] theorem en265 : Enters Tryz.prog 265 := enters_of Tryz.func265 (by kernel_rfl) rfl
@[go_sem] theorem en266 : Enters Tryz.prog 266 := enters_of Tryz.func266 (by kernel_rfl) rfl
@[go_sem] theorem fo321_0 : fieldOff Tryz.prog 321 0 = some 0 := by kernel_rfl
@[go_sem] theorem fo321_2 : fieldOff Tryz.prog 321 2 = some 2 := by kernel_rfl
@[go_sem] theorem fo324_1 : fieldOff Tryz.prog 324 1 = some 1 := by kernel_rfl
@[go_sem] theorem fo324_2 : fieldOff Tryz.prog 324 2 = some 2 := by kernel_rfl
@[go_sem] theorem ti324 : tin Tryz.prog 324 = some (some 3) := by kernel_rfl
@[go_sem] theorem zc324 : zeroCells Tryz.prog 324 = some [.val (.int .u32 (0)), .val (.int .u32 (0)), .val (.int .u32 (0))] := by kernel_rfl
@[go_sem] theorem t1324 : tin1 Tryz.prog 324 = some (some 3) := by kernel_rfl
@[go_sem] theorem zc321 : zeroCells Tryz.prog 321 = some [.val (.int .u16 (0)), .val (.int .u16 (0)), .val (.int .u16 (0))] := by kernel_rfl
@[go_sem] theorem fa321 : fieldsAt Tryz.prog 321 = some [(0, 1), (1, 1), (2, 1)] := by kernel_rfl
@[go_sem] theorem ze315 : zelem Tryz.prog 315 = some (.agg [.val (.int .u16 (0)), .val (.int .u16 (0)), .val (.int .u16 (0))]) := by kernel_rfl
@[go_sem] theorem zc318 : zeroCells Tryz.prog 318 = some [.val (.slice none 0 0), .val (.slice none 0 0), .val (.int .i64 (0))] := by kernel_rfl
@[go_sem] theorem fa318 : fieldsAt Tryz.prog 318 = some [(0, 1), (1, 1), (2, 1)] := by kernel_rfl
@[go_sem] theorem t1301 : tin1 Tryz.prog 301 = some none := by kernel_rfl
@[go_sem] theorem zc236 : zeroCells Tryz.prog 236 = some [.val (.int .u8 (0)), .val (.int .u8 (0)), .val (.int .u8 (0)), .val (.int .u8 (0)), .val (.int .u8 (0)), .val (.int .u8 (0)), .val (.int .u8 (0)), .val (.int .u8 (0)), .val (.int .u8 (0)), .val (.int .u8 (0)), .val (.int .u8 (0)), .val (.int .u8 (0)), .val (.int .u8 (0)), .val (.int .u8 (0)), .val (.int .u8 (0)), .val (.int .u8 (0)), .val (.int .u8 (0)), .val (.int .u8 (0)), .val (.int .u8 (0)), .val (.int .u8 (0)), .val (.int .u8 (0)), .val (.int .u8 (0)), .val (.int .u8 (0)), .val (.int .u8 (0)), .val (.int .u8 (0)), .val (.int .u8 (0)), .val (.int .u8 (0)), .val (.int .u8 (0)), .val (.int .u8 (0)), .val (.int .u8 (0)), .val (.int .u8 (0)), .val (.int .u8 (0)), .val (.int .u8 (0)), .val (.int .u8 (0)), .val (.int .u8 (0)), .val (.int .u8 (0)), .val (.int .u8 (0)), .val (.int .u8 (0)), .val (.int .u8 (0)), .val (.int .u8 (0)), .val (.int .u8 (0)), .val (.int .u8 (0)), .val (.int .u8 (0)), .val (.int .u8 (0)), .val (.int .u8 (0)), .val (.int .u8 (0)), .val (.int .u8 (0)), .val (.int .u8 (0)), .val (.int .u8 (0)), .val (.int .u8 (0)), .val (.int .u8 (0)), .val (.int .u8 (0)), .val (.int .u8 (0)), .val (.int .u8 (0)), .val (.int .u8 (0)), .val (.int .u8 (0)), .val (.int .u8 (0)), .val (.int .u8 (0)), .val (.int .u8 (0)), .val (.int .u8 (0)), .val (.int .u8 (0)), .val (.int .u8 (0)), .val (.int .u8 (0)), .val (.int .u8 (0)), .val (.int .u8 (0)), .val (.int .u8 (0)), .val (.int .u8 (0)), .val (.int .u8 (0)), .val (.int .u8 (0)), .val (.int .u8 (0)), .val (.int .u8 (0)), .val (.int .u8 (0)), .val (.int .u8 (0)), .val (.int .u8 (0)), .val (.int .u8 (0)), .val (.int .u8 (0)), .val (.int .u8 (0)), .val (.int .u8 (0)), .val (.int .u8 (0)), .val (.int .u8 (0)), .val (.int .u8 (0)), .val (.int .u8 (0)), .val (.int .u8 (0)), .val (.int .u8 (0)), .val (.int .u8 (0)), .val (.int .u8 (0)), .val (.int .u8 (0)), .val (.int .u8 (0)), .val (.int .u8 (0)), .val (.int .u8 (0)), .val (.int .u8 (0)), .val (.int .u8 (0)), .val (.int .u8 (0)), .val (.int .u8 (0)), .val (.int .u8 (0)), .val (.int .u8 (0)), .val (.int .u8 (0)), .val (.int .u8 (0)), .val (.int .u8 (0)), .val (.int .u8 (0)), .val (.int .u8 (0)), .val (.int .u8 (0)), .val (.int .u8 (0)), .val (.int .u8 (0)), .val (.int .u8 (0)), .val (.int .u8 (0)), .val (.int .u8 (0)), .val (.int .u8 (0)), .val (.int .u8 (0)), .val (.int .u8 (0)), .val (.int .u8 (0)), .val (.int .u8 (0)), .val (.int .u8 (0)), .val (.int .u8 (0)), .val (.int .u8 (0)), .val (.int .u8 (0)), .val (.int .u8 (0)), .val (.int .u8 (0)), .val (.int .u8 (0)), .val (.int .u8 (0)), .val (.int .u8 (0)), .val (.int .u8 (0)), .val (.int .u8 (0)), .val (.int .u8 (0)), .val (.int .u8 (0)), .val (.int .u8 (0)), .val (.int .u8 (0)), .val (.int .u8 (0)), .val (.int .u8 (0)), .val (.int .u8 (0)), .val (.int .u8 (0)), .val (.int .u8 (0)), .val (.int .u8 (0)), .val (.int .u8 (0)), .val (.int .u8 (0)), .val (.int .u8 (0)), .val (.int .u8 (0)), .val (.int .u8 (0)), .val (.int .u8 (0)), .val (.int .u8 (0)), .val (.int .u8 (0)), .val (.int .u8 (0)), .val (.int .u8 (0)), .val (.int .u8 (0)), .val (.int .u8 (0)), .val (.int .u8 (0)), .val (.int .u8 (0)), .val (.int .u8 (0)), .val (.int .u8 (0)), .val (.int .u8 (0)), .val (.int .u8 (0)), .val (.int .u8 (0)), .val (.int .u8 (0)), .val (.int .u8 (0)), .val (.int .u8 (0)), .val (.int .u8 (0)), .val (.int .u8 (0)), .val (.int .u8 (0)), .val (.int .u8 (0)), .val (.int .u8 (0)), .val (.int .u8 (0)), .val (.int .u8 (0)), .val (.int .u8 (0)), .val (.int .u8 (0)), .val (.int .u8 (0)), .val (.int .u8 (0)), .val (.int .u8 (0)), .val (.int .u8 (0)), .val (.int .u8 (0)), .val (.int .u8 (0)), .val (.int .u8 (0)), .val (.int .u8 (0)), .val (.int .u8 (0)), .val (.int .u8 (0)), .val (.int .u8 (0)), .val (.int .u8 (0)), .val (.int .u8 (0)), .val (.int .u8 (0)), .val (.int .u8 (0)), .val (.int .u8 (0)), .val (.int .u8 (0)), .val (.int .u8 (0)), .val (.int .u8 (0)), .val (.int .u8 (0)), .val (.int .u8 (0)), .val (.int .u8 (0)), .val (.int .u8 (0)), .val (.int .u8 (0)), .val (.int .u8 (0)), .val (.int .u8 (0)), .val (.int .u8 (0)), .val (.int .u8 (0)), .val (.int .u8 (0)), .val (.int .u8 (0)), .val (.int .u8 (0)), .val (.int .u8 (0)), .val (.int .u8 (0)), .val (.int .u8 (0)), .val (.int .u8 (0)), .val (.int .u8 (0)), .val (.int .u8 (0)), .val (.int .u8 (0)), .val (.int .u8 (0)), .val (.int .u8 (0)), .val (.int .u8 (0)), .val (.int .u8 (0)), .val (.int .u8 (0)), .val (.int .u8 (0)), .val (.int .u8 (0)), .val (.int .u8 (0)), .val (.int .u8 (0)), .val (.int .u8 (0)), .val (.int .u8 (0)), .val (.int .u8 (0)), .val (.int .u8 (0)), .val (.int .u8 (0)), .val (.int .u8 (0)), .val (.int .u8 (0)), .val (.int .u8 (0)), .val (.int .u8 (0)), .val (.int .u8 (0)), .val (.int .u8 (0)), .val (.int .u8 (0)), .val (.int .u8 (0)), .val (.int .u8 (0)), .val (.int .u8 (0)), .val (.int .u8 (0)), .val (.int .u8 (0)), .val (.int .u8 (0)), .val (.int .u8 (0)), .val (.int .u8 (0)), .val (.int .u8 (0)), .val (.int .u8 (0)), .val (.int .u8 (0)), .val (.int .u8 (0)), .val (.int .u8 (0)), .val (.int .u8 (0)), .val (.int .u8 (0)), .val (.int .u8 (0)), .val (.int .u8 (0)), .val (.int .u8 (0)), .val (.int .u8 (0)), .val (.int .u8 (0)), .val (.int .u8 (0)), .val (.int .u8 (0)), .val (.int .u8 (0)), .val (.int .u8 (0)), .val (.int .u8 (0)), .val (.int .u8 (0)), .val (.int .u8 (0)), .val (.int .u8 (0)), .val (.int .u8 (0)), .val (.int .u8 (0)), .val (.int .u8 (0)), .val (.int .u8 (0)), .val (.int .u8 (0))] := by kernel_rfl
@[go_sem] theorem fa236 : fieldsAt Tryz.prog 236 = some [(0, 1), (1, 1), (2, 1), (3, 1), (4, 1), (5, 1), (6, 1), (7, 1), (8, 1), (9, 1), (10, 1), (11, 1), (12, 1), (13, 1), (14, 1), (15, 1), (16, 1), (17, 1), (18, 1), (19, 1), (20, 1), (21, 1), (22, 1), (23, 1), (24, 1), (25, 1), (26, 1), (27, 1), (28, 1), (29, 1), (30, 1), (31, 1), (32, 1), (33, 1), (34, 1), (35, 1), (36, 1), (37, 1), (38, 1), (39, 1), (40, 1), (41, 1), (42, 1), (43, 1), (44, 1), (45, 1), (46, 1), (47, 1), (48, 1), (49, 1), (50, 1), (51, 1), (52, 1), (53, 1), (54, 1), (55, 1), (56, 1), (57, 1), (58, 1), (59, 1), (60, 1), (61, 1), (62, 1), (63, 1), (64, 1), (65, 1), (66, 1), (67, 1), (68, 1), (69, 1), (70, 1), (71, 1), (72, 1), (73, 1), (74, 1), (75, 1), (76, 1), (77, 1), (78, 1), (79, 1), (80, 1), (81, 1), (82, 1), (83, 1), (84, 1), (85, 1), (86, 1), (87, 1), (88, 1), (89, 1), (90, 1), (91, 1), (92, 1), (93, 1), (94, 1), (95, 1), (96, 1), (97, 1), (98, 1), (99, 1), (100, 1), (101, 1), (102, 1), (103, 1), (104, 1), (105, 1), (106, 1), (107, 1), (108, 1), (109, 1), (110, 1), (111, 1), (112, 1), (113, 1), (114, 1), (115, 1), (116, 1), (117, 1), (118, 1), (119, 1), (120, 1), (121, 1), (122, 1), (123, 1), (124, 1), (125, 1), (126, 1), (127, 1), (128, 1), (129, 1), (130, 1), (131, 1), (132, 1), (133, 1), (134, 1), (135, 1), (136, 1), (137, 1), (138, 1), (139, 1), (140, 1), (141, 1), (142, 1), (143, 1), (144, 1), (145, 1), (146, 1), (147, 1), (148, 1), (149, 1), (150, 1), (151, 1), (152, 1), (153, 1), (154, 1), (155, 1), (156, 1), (157, 1), (158, 1), (159, 1), (160, 1), (161, 1), (162, 1), (163, 1), (164, 1), (165, 1), (166, 1), (167, 1), (168, 1), (169, 1), (170, 1), (171, 1), (172, 1), (173, 1), (174, 1), (175, 1), (176, 1), (177, 1), (178, 1), (179, 1), (180, 1), (181, 1), (182, 1), (183, 1), (184, 1), (185, 1), (186, 1), (187, 1), (188, 1), (189, 1), (190, 1), (191, 1), (192, 1), (193, 1), (194, 1), (195, 1), (196, 1), (197, 1), (198, 1), (199, 1), (200, 1), (201, 1), (202, 1), (203, 1), (204, 1), (205, 1), (206, 1), (207, 1), (208, 1), (209, 1), (210, 1), (211, 1), (212, 1), (213, 1), (214, 1), (215, 1), (216, 1), (217, 1), (218, 1), (219, 1), (220, 1), (221, 1), (222, 1), (223, 1), (224, 1), (225, 1), (226, 1), (227, 1), (228, 1), (229, 1), (230, 1), (231, 1), (232, 1), (233, 1), (234, 1), (235, 1), (236, 1), (237, 1), (238, 1), (239, 1), (240, 1), (241, 1), (242, 1), (243, 1), (244, 1), (245, 1), (246, 1), (247, 1), (248, 1), (249, 1), (250, 1), (251, 1), (252, 1), (253, 1), (254, 1), (255, 1)] := by kernel_rfl
@[go_sem] theorem t1236 : tin1 Tryz.prog 236 = some (some 256) := by kernel_rfl
end Go.Proofs.YtphjobnijjkchaaGreatDoor
