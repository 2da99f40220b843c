/- p is a prime number: all numbers but 0 are powers of 2 modulo it. -/
import Derived.Test.YticdlngpljdhkaaNumP
set_option linter.unusedSimpArgs false
set_option linter.unusedVariables false
namespace Go.Proofs.Num
theorem pri_2 : Pri 2 := pri_small (by decide +kernel)
theorem pri_3 : Pri 3 := pri_small (by decide +kernel)
theorem pri_17 : Pri 17 := pri_small (by decide +kernel)
theorem pri_479 : Pri 479 := pri_small (by decide +kernel)
theorem gen_pri_32573 : Gen 32573 2 := pratt_of (f := 15) (l := [2, 2, 17, 479]) (fun q h => by
  simp only [List.mem_cons, List.not_mem_nil, or_false] at h
  rcases h with rfl | rfl | rfl | rfl
  · exact pri_2
  · exact pri_2
  · exact pri_17
  · exact pri_479) (by decide +kernel)
theorem pri_32573 : Pri 32573 := gen_pri_32573.pri
theorem gen_pri_65147 : Gen 65147 2 := pratt_of (f := 16) (l := [2, 32573]) (fun q h => by
  simp only [List.mem_cons, List.not_mem_nil, or_false] at h
  rcases h with rfl | rfl
  · exact pri_2
  · exact pri_32573) (by decide +kernel)
theorem pri_65147 : Pri 65147 := gen_pri_65147.pri
theorem pri_353 : Pri 353 := pri_small (by decide +kernel)
theorem pri_59 : Pri 59 := pri_small (by decide +kernel)
theorem pri_487 : Pri 487 := pri_small (by decide +kernel)
theorem gen_pri_57467 : Gen 57467 2 := pratt_of (f := 16) (l := [2, 59, 487]) (fun q h => by
  simp only [List.mem_cons, List.not_mem_nil, or_false] at h
  rcases h with rfl | rfl | rfl
  · exact pri_2
  · exact pri_59
  · exact pri_487) (by decide +kernel)
theorem pri_57467 : Pri 57467 := gen_pri_57467.pri
theorem pri_7 : Pri 7 := pri_small (by decide +kernel)
theorem pri_131 : Pri 131 := pri_small (by decide +kernel)
theorem gen_pri_132049 : Gen 132049 26 := pratt_of (f := 18) (l := [2, 2, 2, 2, 3, 3, 7, 131]) (fun q h => by
  simp only [List.mem_cons, List.not_mem_nil, or_false] at h
  rcases h with rfl | rfl | rfl | rfl | rfl | rfl | rfl | rfl
  · exact pri_2
  · exact pri_2
  · exact pri_2
  · exact pri_2
  · exact pri_3
  · exact pri_3
  · exact pri_7
  · exact pri_131) (by decide +kernel)
theorem pri_132049 : Pri 132049 := gen_pri_132049.pri
theorem pri_43 : Pri 43 := pri_small (by decide +kernel)
theorem pri_23 : Pri 23 := pri_small (by decide +kernel)
theorem gen_pri_3727 : Gen 3727 3 := pratt_of (f := 12) (l := [2, 3, 3, 3, 3, 23]) (fun q h => by
  simp only [List.mem_cons, List.not_mem_nil, or_false] at h
  rcases h with rfl | rfl | rfl | rfl | rfl | rfl
  · exact pri_2
  · exact pri_3
  · exact pri_3
  · exact pri_3
  · exact pri_3
  · exact pri_23) (by decide +kernel)
theorem pri_3727 : Pri 3727 := gen_pri_3727.pri
theorem gen_pri_b13 : Gen 1923133 2 := pratt_of (f := 21) (l := [2, 2, 3, 43, 3727]) (fun q h => by
  simp only [List.mem_cons, List.not_mem_nil, or_false] at h
  rcases h with rfl | rfl | rfl | rfl | rfl
  · exact pri_2
  · exact pri_2
  · exact pri_3
  · exact pri_43
  · exact pri_3727) (by decide +kernel)
theorem pri_b13 : Pri 1923133 := gen_pri_b13.pri
theorem pri_31 : Pri 31 := pri_small (by decide +kernel)
theorem pri_107 : Pri 107 := pri_small (by decide +kernel)
theorem pri_223 : Pri 223 := pri_small (by decide +kernel)
theorem pri_173 : Pri 173 := pri_small (by decide +kernel)
theorem gen_pri_4153 : Gen 4153 5 := pratt_of (f := 13) (l := [2, 2, 2, 3, 173]) (fun q h => by
  simp only [List.mem_cons, List.not_mem_nil, or_false] at h
  rcases h with rfl | rfl | rfl | rfl | rfl
  · exact pri_2
  · exact pri_2
  · exact pri_2
  · exact pri_3
  · exact pri_173) (by decide +kernel)
theorem pri_4153 : Pri 4153 := gen_pri_4153.pri
theorem pri_5 : Pri 5 := pri_small (by decide +kernel)
theorem pri_41 : Pri 41 := pri_small (by decide +kernel)
theorem gen_pri_1723 : Gen 1723 3 := pratt_of (f := 11) (l := [2, 3, 7, 41]) (fun q h => by
  simp only [List.mem_cons, List.not_mem_nil, or_false] at h
  rcases h with rfl | rfl | rfl | rfl
  · exact pri_2
  · exact pri_3
  · exact pri_7
  · exact pri_41) (by decide +kernel)
theorem pri_1723 : Pri 1723 := gen_pri_1723.pri
theorem gen_pri_430751 : Gen 430751 17 := pratt_of (f := 19) (l := [2, 5, 5, 5, 1723]) (fun q h => by
  simp only [List.mem_cons, List.not_mem_nil, or_false] at h
  rcases h with rfl | rfl | rfl | rfl | rfl
  · exact pri_2
  · exact pri_5
  · exact pri_5
  · exact pri_5
  · exact pri_1723) (by decide +kernel)
theorem pri_430751 : Pri 430751 := gen_pri_430751.pri
theorem gen_pri_b17 : Gen 31757755568855353 10 := pratt_of (f := 55) (l := [2, 2, 2, 3, 31, 107, 223, 4153, 430751]) (fun q h => by
  simp only [List.mem_cons, List.not_mem_nil, or_false] at h
  rcases h with rfl | rfl | rfl | rfl | rfl | rfl | rfl | rfl | rfl
  · exact pri_2
  · exact pri_2
  · exact pri_2
  · exact pri_3
  · exact pri_31
  · exact pri_107
  · exact pri_223
  · exact pri_4153
  · exact pri_430751) (by decide +kernel)
theorem pri_b17 : Pri 31757755568855353 := gen_pri_b17.pri
theorem pri_19 : Pri 19 := pri_small (by decide +kernel)
theorem pri_83 : Pri 83 := pri_small (by decide +kernel)
theorem gen_pri_9463 : Gen 9463 3 := pratt_of (f := 14) (l := [2, 3, 19, 83]) (fun q h => by
  simp only [List.mem_cons, List.not_mem_nil, or_false] at h
  rcases h with rfl | rfl | rfl | rfl
  · exact pri_2
  · exact pri_3
  · exact pri_19
  · exact pri_83) (by decide +kernel)
theorem pri_9463 : Pri 9463 := gen_pri_9463.pri
theorem gen_pri_37853 : Gen 37853 2 := pratt_of (f := 16) (l := [2, 2, 9463]) (fun q h => by
  simp only [List.mem_cons, List.not_mem_nil, or_false] at h
  rcases h with rfl | rfl | rfl
  · exact pri_2
  · exact pri_2
  · exact pri_9463) (by decide +kernel)
theorem pri_37853 : Pri 37853 := gen_pri_37853.pri
theorem gen_pri_75707 : Gen 75707 2 := pratt_of (f := 17) (l := [2, 37853]) (fun q h => by
  simp only [List.mem_cons, List.not_mem_nil, or_false] at h
  rcases h with rfl | rfl
  · exact pri_2
  · exact pri_37853) (by decide +kernel)
theorem pri_75707 : Pri 75707 := gen_pri_75707.pri
theorem pri_47 : Pri 47 := pri_small (by decide +kernel)
theorem pri_127 : Pri 127 := pri_small (by decide +kernel)
theorem pri_103 : Pri 103 := pri_small (by decide +kernel)
theorem pri_11 : Pri 11 := pri_small (by decide +kernel)
theorem gen_pri_991 : Gen 991 6 := pratt_of (f := 10) (l := [2, 3, 3, 5, 11]) (fun q h => by
  simp only [List.mem_cons, List.not_mem_nil, or_false] at h
  rcases h with rfl | rfl | rfl | rfl | rfl
  · exact pri_2
  · exact pri_3
  · exact pri_3
  · exact pri_5
  · exact pri_11) (by decide +kernel)
theorem pri_991 : Pri 991 := gen_pri_991.pri
theorem gen_pri_b34 : Gen 8574133 2 := pratt_of (f := 24) (l := [2, 2, 3, 7, 103, 991]) (fun q h => by
  simp only [List.mem_cons, List.not_mem_nil, or_false] at h
  rcases h with rfl | rfl | rfl | rfl | rfl | rfl
  · exact pri_2
  · exact pri_2
  · exact pri_3
  · exact pri_7
  · exact pri_103
  · exact pri_991) (by decide +kernel)
theorem pri_b34 : Pri 8574133 := gen_pri_b34.pri
theorem gen_pri_b32 : Gen 1919519569386763 2 := pratt_of (f := 51) (l := [2, 3, 7, 19, 47, 47, 127, 8574133]) (fun q h => by
  simp only [List.mem_cons, List.not_mem_nil, or_false] at h
  rcases h with rfl | rfl | rfl | rfl | rfl | rfl | rfl | rfl
  · exact pri_2
  · exact pri_3
  · exact pri_7
  · exact pri_19
  · exact pri_47
  · exact pri_47
  · exact pri_127
  · exact pri_b34) (by decide +kernel)
theorem pri_b32 : Pri 1919519569386763 := gen_pri_b32.pri
theorem pri_13 : Pri 13 := pri_small (by decide +kernel)
theorem pri_29 : Pri 29 := pri_small (by decide +kernel)
theorem gen_pri_2437 : Gen 2437 2 := pratt_of (f := 12) (l := [2, 2, 3, 7, 29]) (fun q h => by
  simp only [List.mem_cons, List.not_mem_nil, or_false] at h
  rcases h with rfl | rfl | rfl | rfl | rfl
  · exact pri_2
  · exact pri_2
  · exact pri_3
  · exact pri_7
  · exact pri_29) (by decide +kernel)
theorem pri_2437 : Pri 2437 := gen_pri_2437.pri
theorem pri_97 : Pri 97 := pri_small (by decide +kernel)
theorem pri_419 : Pri 419 := pri_small (by decide +kernel)
theorem gen_pri_569003 : Gen 569003 2 := pratt_of (f := 20) (l := [2, 7, 97, 419]) (fun q h => by
  simp only [List.mem_cons, List.not_mem_nil, or_false] at h
  rcases h with rfl | rfl | rfl | rfl
  · exact pri_2
  · exact pri_7
  · exact pri_97
  · exact pri_419) (by decide +kernel)
theorem pri_569003 : Pri 569003 := gen_pri_569003.pri
theorem gen_pri_b40 : Gen 2773320623 5 := pratt_of (f := 32) (l := [2, 2437, 569003]) (fun q h => by
  simp only [List.mem_cons, List.not_mem_nil, or_false] at h
  rcases h with rfl | rfl | rfl
  · exact pri_2
  · exact pri_2437
  · exact pri_569003) (by decide +kernel)
theorem pri_b40 : Pri 2773320623 := gen_pri_b40.pri
theorem gen_pri_b39 : Gen 72106336199 7 := pratt_of (f := 37) (l := [2, 13, 2773320623]) (fun q h => by
  simp only [List.mem_cons, List.not_mem_nil, or_false] at h
  rcases h with rfl | rfl | rfl
  · exact pri_2
  · exact pri_13
  · exact pri_b40) (by decide +kernel)
theorem pri_b39 : Pri 72106336199 := gen_pri_b39.pri
theorem gen_pri_b27 : Gen 75445702479781427272750846543864801 7 := pratt_of (f := 116) (l := [2, 2, 2, 2, 2, 3, 3, 5, 5, 75707, 1919519569386763, 72106336199]) (fun q h => by
  simp only [List.mem_cons, List.not_mem_nil, or_false] at h
  rcases h with rfl | rfl | rfl | rfl | rfl | rfl | rfl | rfl | rfl | rfl | rfl | rfl
  · exact pri_2
  · exact pri_2
  · exact pri_2
  · exact pri_2
  · exact pri_2
  · exact pri_3
  · exact pri_3
  · exact pri_5
  · exact pri_5
  · exact pri_75707
  · exact pri_b32
  · exact pri_b39) (by decide +kernel)
theorem pri_b27 : Pri 75445702479781427272750846543864801 := gen_pri_b27.pri
theorem gen_pri_b6 : Gen 74058212732561358302231226437062788676166966415465897661863160754340907 2 := pratt_of (f := 236) (l := [2, 3, 353, 57467, 132049, 1923133, 31757755568855353, 75445702479781427272750846543864801]) (fun q h => by
  simp only [List.mem_cons, List.not_mem_nil, or_false] at h
  rcases h with rfl | rfl | rfl | rfl | rfl | rfl | rfl | rfl
  · exact pri_2
  · exact pri_3
  · exact pri_353
  · exact pri_57467
  · exact pri_132049
  · exact pri_b13
  · exact pri_b17
  · exact pri_b27) (by decide +kernel)
theorem pri_b6 : Pri 74058212732561358302231226437062788676166966415465897661863160754340907 := gen_pri_b6.pri
theorem gen_pF : Gen pF 2 := pratt_of (f := 255) (l := [2, 2, 3, 65147, 74058212732561358302231226437062788676166966415465897661863160754340907]) (fun q h => by
  simp only [List.mem_cons, List.not_mem_nil, or_false] at h
  rcases h with rfl | rfl | rfl | rfl | rfl
  · exact pri_2
  · exact pri_2
  · exact pri_3
  · exact pri_65147
  · exact pri_b6) (by decide +kernel)
theorem pri_pF : Pri pF := gen_pF.pri
end Go.Proofs.Num
