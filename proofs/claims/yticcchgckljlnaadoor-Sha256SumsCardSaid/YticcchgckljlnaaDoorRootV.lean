/- The roots that the constants are made of, reckoned out. -/
import Derived.Test.YticcchgckljlnaaDoorRootW
import Derived.Test.YticcchgckljlnaaDoorSha
set_option linter.unusedSimpArgs false
set_option linter.unusedVariables false
namespace Go.Proofs.Num
open Go Go.RowKit
theorem rk0 : rootL 2 3 = 1116352408 := by decide +kernel
theorem rk1 : rootL 3 3 = 1899447441 := by decide +kernel
theorem rk2 : rootL 5 3 = 3049323471 := by decide +kernel
theorem rk3 : rootL 7 3 = 3921009573 := by decide +kernel
theorem rk4 : rootL 11 3 = 961987163 := by decide +kernel
theorem rk5 : rootL 13 3 = 1508970993 := by decide +kernel
theorem rk6 : rootL 17 3 = 2453635748 := by decide +kernel
theorem rk7 : rootL 19 3 = 2870763221 := by decide +kernel
theorem rk8 : rootL 23 3 = 3624381080 := by decide +kernel
theorem rk9 : rootL 29 3 = 310598401 := by decide +kernel
theorem rk10 : rootL 31 3 = 607225278 := by decide +kernel
theorem rk11 : rootL 37 3 = 1426881987 := by decide +kernel
theorem rk12 : rootL 41 3 = 1925078388 := by decide +kernel
theorem rk13 : rootL 43 3 = 2162078206 := by decide +kernel
theorem rk14 : rootL 47 3 = 2614888103 := by decide +kernel
theorem rk15 : rootL 53 3 = 3248222580 := by decide +kernel
theorem rk16 : rootL 59 3 = 3835390401 := by decide +kernel
theorem rk17 : rootL 61 3 = 4022224774 := by decide +kernel
theorem rk18 : rootL 67 3 = 264347078 := by decide +kernel
theorem rk19 : rootL 71 3 = 604807628 := by decide +kernel
theorem rk20 : rootL 73 3 = 770255983 := by decide +kernel
theorem rk21 : rootL 79 3 = 1249150122 := by decide +kernel
theorem rk22 : rootL 83 3 = 1555081692 := by decide +kernel
theorem rk23 : rootL 89 3 = 1996064986 := by decide +kernel
theorem rk24 : rootL 97 3 = 2554220882 := by decide +kernel
theorem rk25 : rootL 101 3 = 2821834349 := by decide +kernel
theorem rk26 : rootL 103 3 = 2952996808 := by decide +kernel
theorem rk27 : rootL 107 3 = 3210313671 := by decide +kernel
theorem rk28 : rootL 109 3 = 3336571891 := by decide +kernel
theorem rk29 : rootL 113 3 = 3584528711 := by decide +kernel
theorem rk30 : rootL 127 3 = 113926993 := by decide +kernel
theorem rk31 : rootL 131 3 = 338241895 := by decide +kernel
theorem rk32 : rootL 137 3 = 666307205 := by decide +kernel
theorem rk33 : rootL 139 3 = 773529912 := by decide +kernel
theorem rk34 : rootL 149 3 = 1294757372 := by decide +kernel
theorem rk35 : rootL 151 3 = 1396182291 := by decide +kernel
theorem rk36 : rootL 157 3 = 1695183700 := by decide +kernel
theorem rk37 : rootL 163 3 = 1986661051 := by decide +kernel
theorem rk38 : rootL 167 3 = 2177026350 := by decide +kernel
theorem rk39 : rootL 173 3 = 2456956037 := by decide +kernel
theorem rk40 : rootL 179 3 = 2730485921 := by decide +kernel
theorem rk41 : rootL 181 3 = 2820302411 := by decide +kernel
theorem rk42 : rootL 191 3 = 3259730800 := by decide +kernel
theorem rk43 : rootL 193 3 = 3345764771 := by decide +kernel
theorem rk44 : rootL 197 3 = 3516065817 := by decide +kernel
theorem rk45 : rootL 199 3 = 3600352804 := by decide +kernel
theorem rk46 : rootL 211 3 = 4094571909 := by decide +kernel
theorem rk47 : rootL 223 3 = 275423344 := by decide +kernel
theorem rk48 : rootL 227 3 = 430227734 := by decide +kernel
theorem rk49 : rootL 229 3 = 506948616 := by decide +kernel
theorem rk50 : rootL 233 3 = 659060556 := by decide +kernel
theorem rk51 : rootL 239 3 = 883997877 := by decide +kernel
theorem rk52 : rootL 241 3 = 958139571 := by decide +kernel
theorem rk53 : rootL 251 3 = 1322822218 := by decide +kernel
theorem rk54 : rootL 257 3 = 1537002063 := by decide +kernel
theorem rk55 : rootL 263 3 = 1747873779 := by decide +kernel
theorem rk56 : rootL 269 3 = 1955562222 := by decide +kernel
theorem rk57 : rootL 271 3 = 2024104815 := by decide +kernel
theorem rk58 : rootL 277 3 = 2227730452 := by decide +kernel
theorem rk59 : rootL 281 3 = 2361852424 := by decide +kernel
theorem rk60 : rootL 283 3 = 2428436474 := by decide +kernel
theorem rk61 : rootL 293 3 = 2756734187 := by decide +kernel
theorem rk62 : rootL 307 3 = 3204031479 := by decide +kernel
theorem rk63 : rootL 311 3 = 3329325298 := by decide +kernel
theorem rh0 : rootL 2 2 = 1779033703 := by decide +kernel
theorem rh1 : rootL 3 2 = 3144134277 := by decide +kernel
theorem rh2 : rootL 5 2 = 1013904242 := by decide +kernel
theorem rh3 : rootL 7 2 = 2773480762 := by decide +kernel
theorem rh4 : rootL 11 2 = 1359893119 := by decide +kernel
theorem rh5 : rootL 13 2 = 2600822924 := by decide +kernel
theorem rh6 : rootL 17 2 = 528734635 := by decide +kernel
theorem rh7 : rootL 19 2 = 1541459225 := by decide +kernel
theorem primes64 : pRow 310 = [2, 3, 5, 7, 11, 13, 17, 19, 23, 29, 31, 37, 41, 43, 47, 53, 59, 61, 67, 71, 73, 79, 83, 89, 97, 101, 103, 107, 109, 113, 127, 131, 137, 139, 149, 151, 157, 163, 167, 173, 179, 181, 191, 193, 197, 199, 211, 223, 227, 229, 233, 239, 241, 251, 257, 263, 269, 271, 277, 281, 283, 293, 307, 311] := by decide +kernel
theorem primes8 : pRow 18 = [2, 3, 5, 7, 11, 13, 17, 19] := by decide +kernel
theorem roots_all : (pRow 310).map (fun p => rootL p 3) = keyL := by
  rw [primes64]
  simp only [List.map_cons, List.map_nil, rk0, rk1, rk2, rk3, rk4, rk5, rk6, rk7, rk8, rk9, rk10, rk11, rk12, rk13, rk14, rk15, rk16, rk17, rk18, rk19, rk20, rk21, rk22, rk23, rk24, rk25, rk26, rk27, rk28, rk29, rk30, rk31, rk32, rk33, rk34, rk35, rk36, rk37, rk38, rk39, rk40, rk41, rk42, rk43, rk44, rk45, rk46, rk47, rk48, rk49, rk50, rk51, rk52, rk53, rk54, rk55, rk56, rk57, rk58, rk59, rk60, rk61, rk62, rk63]
  rfl
theorem begins_all : (pRow 18).map (fun p => rootL p 2) = [H0.a, H0.b, H0.c, H0.d, H0.e, H0.f, H0.g, H0.h] := by
  rw [primes8]
  simp only [List.map_cons, List.map_nil, rh0, rh1, rh2, rh3, rh4, rh5, rh6, rh7]
  rfl
end Go.Proofs.Num

