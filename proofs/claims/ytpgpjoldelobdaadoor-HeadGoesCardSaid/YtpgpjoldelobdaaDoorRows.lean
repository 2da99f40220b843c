/-
  NARROWER THAN 'FOR EVERY INPUT', by the rows' own cells (each row's printed sentence says how): EdBack: laid · HeadParts: laid · HeadTexts: laid · EdOther: laid · HeadSigns: laid · RoleSigns: laid · RoleNeeds: laid · RoleOrder: laid · RoleFirst: laid · HeadGoes: laid · HeadTimes: laid.
  DERIVED. THE GIVEN ROWS OF THIS SEAT. 11 by the template 'for every input the law returns true; each argument reads behind the call as it read before'; 0 by the template 'total and deterministic' (their statements: YtpgpjoldelobdaaDoorTotals.lean).
  GIVEN WITH THE SEED: the statements are not yours to turn. If you find one false, say at which input.
  Laid BY PROGRAM, IN A SANDBOX (cutbox-rows.mjs): the forced cells as the released guide's own fill.sh prints them over the translation 97c2b9fb5d3389e8… (all of the seat's roots in one cut). By AI agents, Wed Nov 11 2026. No macro, syntax, notation, axiom, sorry.
-/
import Derived.Test.YtpgpjoldelobdaaDoorChecked
import GoSem.Claim
import GoSem.ClaimJoined
import GoSem.ClaimMapViews
import Derived.JoinedTies
import Derived.KernelRfl
namespace Go.Proofs.YtpgpjoldelobdaaDoor
/- THE CELL 'sum', in the pinned program and in every row, IS THE sha256 OF THE DUMP (.gsa) THAT YtpgpjoldelobdaaDoorProg.lean LOADS. Nothing in Lean hashes anything: it is a label: what it is worth is what the hold of that sum in a sandbox is worth. -/
noncomputable def Tryd.pinned : Pinned := { name := "ytpgpjoldelobdaadoor", sum := "97c2b9fb5d3389e82b71182109b662709e4d695f21ba3a873e5fc0475361dbbe", checked := Tryd.checked }
namespace Rows
def none {H : Type} : Left H := { results := [], args := [] }

/- WHAT THE LISTED PACKAGE-LEVEL VARIABLES READ AS WHEN THE CALL BEGINS. Each datum BY PROGRAM (the guide's laid-datum.mjs) off the statement by which the dump's own 'gosem.cut.vars' lays the variable. In a bare row this is a premise. The card (YtpgpjoldelobdaaDoorCards.lean) ties it to the program's text. -/
def laid_imprimatur_sha512_keys {H : Type} : DataW H := .agg [.lit (.int .u64 4794697086780616226), .lit (.int .u64 8158064640168781261), .lit (.int .u64 13096744586834688815), .lit (.int .u64 16840607885511220156), .lit (.int .u64 4131703408338449720), .lit (.int .u64 6480981068601479193), .lit (.int .u64 10538285296894168987), .lit (.int .u64 12329834152419229976), .lit (.int .u64 15566598209576043074), .lit (.int .u64 1334009975649890238), .lit (.int .u64 2608012711638119052), .lit (.int .u64 6128411473006802146), .lit (.int .u64 8268148722764581231), .lit (.int .u64 9286055187155687089), .lit (.int .u64 11230858885718282805), .lit (.int .u64 13951009754708518548), .lit (.int .u64 16472876342353939154), .lit (.int .u64 17275323862435702243), .lit (.int .u64 1135362057144423861), .lit (.int .u64 2597628984639134821), .lit (.int .u64 3308224258029322869), .lit (.int .u64 5365058923640841347), .lit (.int .u64 6679025012923562964), .lit (.int .u64 8573033837759648693), .lit (.int .u64 10970295158949994411), .lit (.int .u64 12119686244451234320), .lit (.int .u64 12683024718118986047), .lit (.int .u64 13788192230050041572), .lit (.int .u64 14330467153632333762), .lit (.int .u64 15395433587784984357), .lit (.int .u64 489312712824947311), .lit (.int .u64 1452737877330783856), .lit (.int .u64 2861767655752347644), .lit (.int .u64 3322285676063803686), .lit (.int .u64 5560940570517711597), .lit (.int .u64 5996557281743188959), .lit (.int .u64 7280758554555802590), .lit (.int .u64 8532644243296465576), .lit (.int .u64 9350256976987008742), .lit (.int .u64 10552545826968843579), .lit (.int .u64 11727347734174303076), .lit (.int .u64 12113106623233404929), .lit (.int .u64 14000437183269869457), .lit (.int .u64 14369950271660146224), .lit (.int .u64 15101387698204529176), .lit (.int .u64 15463397548674623760), .lit (.int .u64 17586052441742319658), .lit (.int .u64 1182934255886127544), .lit (.int .u64 1847814050463011016), .lit (.int .u64 2177327727835720531), .lit (.int .u64 2830643537854262169), .lit (.int .u64 3796741975233480872), .lit (.int .u64 4115178125766777443), .lit (.int .u64 5681478168544905931), .lit (.int .u64 6601373596472566643), .lit (.int .u64 7507060721942968483), .lit (.int .u64 8399075790359081724), .lit (.int .u64 8693463985226723168), .lit (.int .u64 9568029438360202098), .lit (.int .u64 10144078919501101548), .lit (.int .u64 10430055236837252648), .lit (.int .u64 11840083180663258601), .lit (.int .u64 13761210420658862357), .lit (.int .u64 14299343276471374635), .lit (.int .u64 14566680578165727644), .lit (.int .u64 15097957966210449927), .lit (.int .u64 16922976911328602910), .lit (.int .u64 17689382322260857208), .lit (.int .u64 500013540394364858), .lit (.int .u64 748580250866718886), .lit (.int .u64 1242879168328830382), .lit (.int .u64 1977374033974150939), .lit (.int .u64 2944078676154940804), .lit (.int .u64 3659926193048069267), .lit (.int .u64 4368137639120453308), .lit (.int .u64 4836135668995329356), .lit (.int .u64 5532061633213252278), .lit (.int .u64 6448918945643986474), .lit (.int .u64 6902733635092675308), .lit (.int .u64 7801388544844847127)]
def laid_imprimatur_sha256_keys {H : Type} : DataW H := .agg [.lit (.int .u32 1116352408), .lit (.int .u32 1899447441), .lit (.int .u32 3049323471), .lit (.int .u32 3921009573), .lit (.int .u32 961987163), .lit (.int .u32 1508970993), .lit (.int .u32 2453635748), .lit (.int .u32 2870763221), .lit (.int .u32 3624381080), .lit (.int .u32 310598401), .lit (.int .u32 607225278), .lit (.int .u32 1426881987), .lit (.int .u32 1925078388), .lit (.int .u32 2162078206), .lit (.int .u32 2614888103), .lit (.int .u32 3248222580), .lit (.int .u32 3835390401), .lit (.int .u32 4022224774), .lit (.int .u32 264347078), .lit (.int .u32 604807628), .lit (.int .u32 770255983), .lit (.int .u32 1249150122), .lit (.int .u32 1555081692), .lit (.int .u32 1996064986), .lit (.int .u32 2554220882), .lit (.int .u32 2821834349), .lit (.int .u32 2952996808), .lit (.int .u32 3210313671), .lit (.int .u32 3336571891), .lit (.int .u32 3584528711), .lit (.int .u32 113926993), .lit (.int .u32 338241895), .lit (.int .u32 666307205), .lit (.int .u32 773529912), .lit (.int .u32 1294757372), .lit (.int .u32 1396182291), .lit (.int .u32 1695183700), .lit (.int .u32 1986661051), .lit (.int .u32 2177026350), .lit (.int .u32 2456956037), .lit (.int .u32 2730485921), .lit (.int .u32 2820302411), .lit (.int .u32 3259730800), .lit (.int .u32 3345764771), .lit (.int .u32 3516065817), .lit (.int .u32 3600352804), .lit (.int .u32 4094571909), .lit (.int .u32 275423344), .lit (.int .u32 430227734), .lit (.int .u32 506948616), .lit (.int .u32 659060556), .lit (.int .u32 883997877), .lit (.int .u32 958139571), .lit (.int .u32 1322822218), .lit (.int .u32 1537002063), .lit (.int .u32 1747873779), .lit (.int .u32 1955562222), .lit (.int .u32 2024104815), .lit (.int .u32 2227730452), .lit (.int .u32 2361852424), .lit (.int .u32 2428436474), .lit (.int .u32 2756734187), .lit (.int .u32 3204031479), .lit (.int .u32 3329325298)]

/-- 'imprimaturlaw07.EdBack': WHATEVER THE INPUT: true; the input reads as it did. -/
def edBackSpec : ChangeSpec := { name := "edBack", fn := fun _ => fun
  | [d1, d2, d3, d4] => { results := [.lit (.bool true)], args := [d1, d2, d3, d4] }
  | _ => none }
def edBackRow : OpenClaim := { program := "ytpgpjoldelobdaadoor", sum := "97c2b9fb5d3389e82b71182109b662709e4d695f21ba3a873e5fc0475361dbbe", func := "imprimatur/imprimaturlaw07.EdBack", spec := "edBack", inPlace := ["internal/bytealg.IndexByteString", "internal/abi.NoEscape", "math/bits.Sub64", "math/bits.Add64"], named := ["imprimatur/sha512.keys"], apart := false, laid := [("imprimatur/sha512.keys", laid_imprimatur_sha512_keys)] }
def EdBackSaid : Prop := edBackRow.holds Tryd.pinned (OpenSpec.ofChange edBackSpec)

/-- ITS FALSE NEIGHBOUR: 'it returns false'. Refute it at one input. -/
def edBackWrong : ChangeSpec := { name := "edBack", fn := fun _ => fun
  | [d1, d2, d3, d4] => { results := [.lit (.bool false)], args := [d1, d2, d3, d4] }
  | _ => none }
def EdBackWrongFalsely : Prop := edBackRow.holds Tryd.pinned (OpenSpec.ofChange edBackWrong)

/-- 'imprimaturlaw10.HeadParts': WHATEVER THE INPUT: true; the input reads as it did. -/
def headPartsSpec : ChangeSpec := { name := "headParts", fn := fun _ => fun
  | [d] => { results := [.lit (.bool true)], args := [d] }
  | _ => none }
def headPartsRow : OpenClaim := { program := "ytpgpjoldelobdaadoor", sum := "97c2b9fb5d3389e82b71182109b662709e4d695f21ba3a873e5fc0475361dbbe", func := "imprimatur/imprimaturlaw10.HeadParts", spec := "headParts", inPlace := ["internal/abi.NoEscape", "math/bits.Sub64", "math/bits.Add64"], named := ["imprimatur/sha256.keys", "imprimatur/sha512.keys"], apart := false, laid := [("imprimatur/sha256.keys", laid_imprimatur_sha256_keys), ("imprimatur/sha512.keys", laid_imprimatur_sha512_keys)] }
def HeadPartsSaid : Prop := headPartsRow.holds Tryd.pinned (OpenSpec.ofChange headPartsSpec)

/-- ITS FALSE NEIGHBOUR: 'it returns false'. Refute it at one input. -/
def headPartsWrong : ChangeSpec := { name := "headParts", fn := fun _ => fun
  | [d] => { results := [.lit (.bool false)], args := [d] }
  | _ => none }
def HeadPartsWrongFalsely : Prop := headPartsRow.holds Tryd.pinned (OpenSpec.ofChange headPartsWrong)

/-- 'imprimaturlaw10.HeadTexts': WHATEVER THE INPUT: true; the input reads as it did. -/
def headTextsSpec : ChangeSpec := { name := "headTexts", fn := fun _ => fun
  | [d1, d2] => { results := [.lit (.bool true)], args := [d1, d2] }
  | _ => none }
def headTextsRow : OpenClaim := { program := "ytpgpjoldelobdaadoor", sum := "97c2b9fb5d3389e82b71182109b662709e4d695f21ba3a873e5fc0475361dbbe", func := "imprimatur/imprimaturlaw10.HeadTexts", spec := "headTexts", inPlace := ["internal/abi.NoEscape", "math/bits.Sub64", "math/bits.Add64"], named := ["imprimatur/sha256.keys", "imprimatur/sha512.keys"], apart := false, laid := [("imprimatur/sha256.keys", laid_imprimatur_sha256_keys), ("imprimatur/sha512.keys", laid_imprimatur_sha512_keys)] }
def HeadTextsSaid : Prop := headTextsRow.holds Tryd.pinned (OpenSpec.ofChange headTextsSpec)

/-- ITS FALSE NEIGHBOUR: 'it returns false'. Refute it at one input. -/
def headTextsWrong : ChangeSpec := { name := "headTexts", fn := fun _ => fun
  | [d1, d2] => { results := [.lit (.bool false)], args := [d1, d2] }
  | _ => none }
def HeadTextsWrongFalsely : Prop := headTextsRow.holds Tryd.pinned (OpenSpec.ofChange headTextsWrong)

/-- 'imprimaturlaw07.EdOther': WHATEVER THE INPUT: true; the input reads as it did. -/
def edOtherSpec : ChangeSpec := { name := "edOther", fn := fun _ => fun
  | [d1, d2] => { results := [.lit (.bool true)], args := [d1, d2] }
  | _ => none }
def edOtherRow : OpenClaim := { program := "ytpgpjoldelobdaadoor", sum := "97c2b9fb5d3389e82b71182109b662709e4d695f21ba3a873e5fc0475361dbbe", func := "imprimatur/imprimaturlaw07.EdOther", spec := "edOther", inPlace := ["internal/bytealg.IndexByteString", "internal/abi.NoEscape", "math/bits.Sub64", "math/bits.Add64", "internal/bytealg.MakeNoZero"], named := ["imprimatur/sha512.keys"], apart := false, laid := [("imprimatur/sha512.keys", laid_imprimatur_sha512_keys)] }
def EdOtherSaid : Prop := edOtherRow.holds Tryd.pinned (OpenSpec.ofChange edOtherSpec)

/-- ITS FALSE NEIGHBOUR: 'it returns false'. Refute it at one input. -/
def edOtherWrong : ChangeSpec := { name := "edOther", fn := fun _ => fun
  | [d1, d2] => { results := [.lit (.bool false)], args := [d1, d2] }
  | _ => none }
def EdOtherWrongFalsely : Prop := edOtherRow.holds Tryd.pinned (OpenSpec.ofChange edOtherWrong)

/-- 'imprimaturlaw10.HeadSigns': WHATEVER THE INPUT: true; the input reads as it did. -/
def headSignsSpec : ChangeSpec := { name := "headSigns", fn := fun _ => fun
  | [d1, d2, d3, d4] => { results := [.lit (.bool true)], args := [d1, d2, d3, d4] }
  | _ => none }
def headSignsRow : OpenClaim := { program := "ytpgpjoldelobdaadoor", sum := "97c2b9fb5d3389e82b71182109b662709e4d695f21ba3a873e5fc0475361dbbe", func := "imprimatur/imprimaturlaw10.HeadSigns", spec := "headSigns", inPlace := ["internal/abi.NoEscape", "math/bits.Sub64", "math/bits.Add64"], named := ["imprimatur/sha512.keys", "imprimatur/sha256.keys"], apart := false, laid := [("imprimatur/sha256.keys", laid_imprimatur_sha256_keys), ("imprimatur/sha512.keys", laid_imprimatur_sha512_keys)] }
def HeadSignsSaid : Prop := headSignsRow.holds Tryd.pinned (OpenSpec.ofChange headSignsSpec)

/-- ITS FALSE NEIGHBOUR: 'it returns false'. Refute it at one input. -/
def headSignsWrong : ChangeSpec := { name := "headSigns", fn := fun _ => fun
  | [d1, d2, d3, d4] => { results := [.lit (.bool false)], args := [d1, d2, d3, d4] }
  | _ => none }
def HeadSignsWrongFalsely : Prop := headSignsRow.holds Tryd.pinned (OpenSpec.ofChange headSignsWrong)

/-- 'imprimaturlaw14.RoleSigns': WHATEVER THE INPUT: true; the input reads as it did. -/
def roleSignsSpec : ChangeSpec := { name := "roleSigns", fn := fun _ => fun
  | [d1, d2] => { results := [.lit (.bool true)], args := [d1, d2] }
  | _ => none }
def roleSignsRow : OpenClaim := { program := "ytpgpjoldelobdaadoor", sum := "97c2b9fb5d3389e82b71182109b662709e4d695f21ba3a873e5fc0475361dbbe", func := "imprimatur/imprimaturlaw14.RoleSigns", spec := "roleSigns", inPlace := ["internal/abi.NoEscape", "math/bits.Sub64", "math/bits.Add64", "internal/bytealg.IndexByteString"], unfollowed := true, recurses := true, named := ["imprimatur/sha512.keys", "imprimatur/sha256.keys"], apart := false, laid := [("imprimatur/sha256.keys", laid_imprimatur_sha256_keys), ("imprimatur/sha512.keys", laid_imprimatur_sha512_keys)] }
def RoleSignsSaid : Prop := roleSignsRow.holds Tryd.pinned (OpenSpec.ofChange roleSignsSpec)

/-- ITS FALSE NEIGHBOUR: 'it returns false'. Refute it at one input. -/
def roleSignsWrong : ChangeSpec := { name := "roleSigns", fn := fun _ => fun
  | [d1, d2] => { results := [.lit (.bool false)], args := [d1, d2] }
  | _ => none }
def RoleSignsWrongFalsely : Prop := roleSignsRow.holds Tryd.pinned (OpenSpec.ofChange roleSignsWrong)

/-- 'imprimaturlaw14.RoleNeeds': WHATEVER THE INPUT: true; the input reads as it did. -/
def roleNeedsSpec : ChangeSpec := { name := "roleNeeds", fn := fun _ => fun
  | [d1, d2, d3, d4] => { results := [.lit (.bool true)], args := [d1, d2, d3, d4] }
  | _ => none }
def roleNeedsRow : OpenClaim := { program := "ytpgpjoldelobdaadoor", sum := "97c2b9fb5d3389e82b71182109b662709e4d695f21ba3a873e5fc0475361dbbe", func := "imprimatur/imprimaturlaw14.RoleNeeds", spec := "roleNeeds", inPlace := ["internal/abi.NoEscape", "math/bits.Sub64", "math/bits.Add64", "internal/bytealg.IndexByteString"], unfollowed := true, recurses := true, named := ["imprimatur/sha512.keys", "imprimatur/sha256.keys"], apart := false, laid := [("imprimatur/sha256.keys", laid_imprimatur_sha256_keys), ("imprimatur/sha512.keys", laid_imprimatur_sha512_keys)] }
def RoleNeedsSaid : Prop := roleNeedsRow.holds Tryd.pinned (OpenSpec.ofChange roleNeedsSpec)

/-- ITS FALSE NEIGHBOUR: 'it returns false'. Refute it at one input. -/
def roleNeedsWrong : ChangeSpec := { name := "roleNeeds", fn := fun _ => fun
  | [d1, d2, d3, d4] => { results := [.lit (.bool false)], args := [d1, d2, d3, d4] }
  | _ => none }
def RoleNeedsWrongFalsely : Prop := roleNeedsRow.holds Tryd.pinned (OpenSpec.ofChange roleNeedsWrong)

/-- 'imprimaturlaw14.RoleOrder': WHATEVER THE INPUT: true; the input reads as it did. -/
def roleOrderSpec : ChangeSpec := { name := "roleOrder", fn := fun _ => fun
  | [d1, d2, d3, d4] => { results := [.lit (.bool true)], args := [d1, d2, d3, d4] }
  | _ => none }
def roleOrderRow : OpenClaim := { program := "ytpgpjoldelobdaadoor", sum := "97c2b9fb5d3389e82b71182109b662709e4d695f21ba3a873e5fc0475361dbbe", func := "imprimatur/imprimaturlaw14.RoleOrder", spec := "roleOrder", inPlace := ["internal/abi.NoEscape", "math/bits.Sub64", "math/bits.Add64", "internal/bytealg.IndexByteString"], unfollowed := true, recurses := true, named := ["imprimatur/sha512.keys", "imprimatur/sha256.keys"], apart := false, laid := [("imprimatur/sha256.keys", laid_imprimatur_sha256_keys), ("imprimatur/sha512.keys", laid_imprimatur_sha512_keys)] }
def RoleOrderSaid : Prop := roleOrderRow.holds Tryd.pinned (OpenSpec.ofChange roleOrderSpec)

/-- ITS FALSE NEIGHBOUR: 'it returns false'. Refute it at one input. -/
def roleOrderWrong : ChangeSpec := { name := "roleOrder", fn := fun _ => fun
  | [d1, d2, d3, d4] => { results := [.lit (.bool false)], args := [d1, d2, d3, d4] }
  | _ => none }
def RoleOrderWrongFalsely : Prop := roleOrderRow.holds Tryd.pinned (OpenSpec.ofChange roleOrderWrong)

/-- 'imprimaturlaw14.RoleFirst': WHATEVER THE INPUT: true; the input reads as it did. -/
def roleFirstSpec : ChangeSpec := { name := "roleFirst", fn := fun _ => fun
  | [d1, d2, d3] => { results := [.lit (.bool true)], args := [d1, d2, d3] }
  | _ => none }
def roleFirstRow : OpenClaim := { program := "ytpgpjoldelobdaadoor", sum := "97c2b9fb5d3389e82b71182109b662709e4d695f21ba3a873e5fc0475361dbbe", func := "imprimatur/imprimaturlaw14.RoleFirst", spec := "roleFirst", inPlace := ["internal/abi.NoEscape", "math/bits.Sub64", "math/bits.Add64", "internal/bytealg.IndexByteString"], unfollowed := true, recurses := true, named := ["imprimatur/sha512.keys", "imprimatur/sha256.keys"], apart := false, laid := [("imprimatur/sha256.keys", laid_imprimatur_sha256_keys), ("imprimatur/sha512.keys", laid_imprimatur_sha512_keys)] }
def RoleFirstSaid : Prop := roleFirstRow.holds Tryd.pinned (OpenSpec.ofChange roleFirstSpec)

/-- ITS FALSE NEIGHBOUR: 'it returns false'. Refute it at one input. -/
def roleFirstWrong : ChangeSpec := { name := "roleFirst", fn := fun _ => fun
  | [d1, d2, d3] => { results := [.lit (.bool false)], args := [d1, d2, d3] }
  | _ => none }
def RoleFirstWrongFalsely : Prop := roleFirstRow.holds Tryd.pinned (OpenSpec.ofChange roleFirstWrong)

/-- 'imprimaturlaw10.HeadGoes': WHATEVER THE INPUT: true; the input reads as it did. -/
def headGoesSpec : ChangeSpec := { name := "headGoes", fn := fun _ => fun
  | [d1, d2, d3] => { results := [.lit (.bool true)], args := [d1, d2, d3] }
  | _ => none }
def headGoesRow : OpenClaim := { program := "ytpgpjoldelobdaadoor", sum := "97c2b9fb5d3389e82b71182109b662709e4d695f21ba3a873e5fc0475361dbbe", func := "imprimatur/imprimaturlaw10.HeadGoes", spec := "headGoes", inPlace := ["internal/abi.NoEscape", "math/bits.Sub64", "math/bits.Add64"], unfollowed := true, recurses := true, named := ["imprimatur/sha256.keys", "imprimatur/sha512.keys"], apart := false, laid := [("imprimatur/sha256.keys", laid_imprimatur_sha256_keys), ("imprimatur/sha512.keys", laid_imprimatur_sha512_keys)] }
def HeadGoesSaid : Prop := headGoesRow.holds Tryd.pinned (OpenSpec.ofChange headGoesSpec)

/-- ITS FALSE NEIGHBOUR: 'it returns false'. Refute it at one input. -/
def headGoesWrong : ChangeSpec := { name := "headGoes", fn := fun _ => fun
  | [d1, d2, d3] => { results := [.lit (.bool false)], args := [d1, d2, d3] }
  | _ => none }
def HeadGoesWrongFalsely : Prop := headGoesRow.holds Tryd.pinned (OpenSpec.ofChange headGoesWrong)

/-- 'imprimaturlaw10.HeadTimes': WHATEVER THE INPUT: true; the input reads as it did. -/
def headTimesSpec : ChangeSpec := { name := "headTimes", fn := fun _ => fun
  | [d1, d2] => { results := [.lit (.bool true)], args := [d1, d2] }
  | _ => none }
def headTimesRow : OpenClaim := { program := "ytpgpjoldelobdaadoor", sum := "97c2b9fb5d3389e82b71182109b662709e4d695f21ba3a873e5fc0475361dbbe", func := "imprimatur/imprimaturlaw10.HeadTimes", spec := "headTimes", inPlace := ["internal/abi.NoEscape", "math/bits.Sub64", "math/bits.Add64"], unfollowed := true, recurses := true, named := ["imprimatur/sha256.keys", "imprimatur/sha512.keys"], apart := false, laid := [("imprimatur/sha256.keys", laid_imprimatur_sha256_keys), ("imprimatur/sha512.keys", laid_imprimatur_sha512_keys)] }
def HeadTimesSaid : Prop := headTimesRow.holds Tryd.pinned (OpenSpec.ofChange headTimesSpec)

/-- ITS FALSE NEIGHBOUR: 'it returns false'. Refute it at one input. -/
def headTimesWrong : ChangeSpec := { name := "headTimes", fn := fun _ => fun
  | [d1, d2] => { results := [.lit (.bool false)], args := [d1, d2] }
  | _ => none }
def HeadTimesWrongFalsely : Prop := headTimesRow.holds Tryd.pinned (OpenSpec.ofChange headTimesWrong)

/- THE SECOND FORM. 'bulk': how many values and letters a reading holds, each counted each time it is reached (what is shared counts as often as it is met; a slice's spare places count too). A statement '..UptoSaid' is the law's where the arguments, and the package variables that the reading takes, are together of bulk at most 1048576: NARROWER than '..Said'. Prove '..Said' where nothing that the law and all that it calls make is longer than what came in: it says more and counts as full. Else prove '..UptoSaid'. A law counts once. -/
mutual
def uptoBulk {H : Type} : DataW H → Nat
  | .lit (.string bytes) => bytes.length + 1
  | .lit _ => 1
  | .nil => 1
  | .ptr d => uptoBulk d + 1
  | .slice elems spare => uptoBulkAll elems + uptoBulkAll spare + 1
  | .agg parts => uptoBulkAll parts + 1
  | .iface _ d => uptoBulk d + 1
  | .map entries => uptoBulkEntries entries + 1
  | .held _ => 1
def uptoBulkAll {H : Type} : List (DataW H) → Nat
  | [] => 0
  | d :: r => uptoBulk d + uptoBulkAll r
def uptoBulkEntries {H : Type} : List (Lit × DataW H) → Nat
  | [] => 0
  | x :: r => uptoBulkEntry x + uptoBulkEntries r
def uptoBulkEntry {H : Type} : Lit × DataW H → Nat
  | (.string bytes, d) => bytes.length + uptoBulk d + 1
  | (_, d) => uptoBulk d + 1
 end
def uptoSmall : (H : Type) → List (DataW H) → Bool := fun _ ds => decide (uptoBulkAll ds ≤ 1048576)
def OpenSpec.upto (s : _root_.Go.ChangeSpec) : _root_.Go.OpenSpec := { _root_.Go.OpenSpec.ofChange s with cond := some uptoSmall }

/-- 'imprimaturlaw07.EdBack', WHERE WHAT IT READS IS OF BULK AT MOST 1048576: true; the input reads as it did. -/
def edBackUptoRow : OpenClaim := { program := "ytpgpjoldelobdaadoor", sum := "97c2b9fb5d3389e82b71182109b662709e4d695f21ba3a873e5fc0475361dbbe", func := "imprimatur/imprimaturlaw07.EdBack", spec := "edBack", inPlace := ["internal/bytealg.IndexByteString", "internal/abi.NoEscape", "math/bits.Sub64", "math/bits.Add64"], named := ["imprimatur/sha512.keys"], apart := false, laid := [("imprimatur/sha512.keys", laid_imprimatur_sha512_keys)], narrowed := true }
def EdBackUptoSaid : Prop := edBackUptoRow.holds Tryd.pinned (OpenSpec.upto edBackSpec)

/-- 'imprimaturlaw10.HeadParts', WHERE WHAT IT READS IS OF BULK AT MOST 1048576: true; the input reads as it did. -/
def headPartsUptoRow : OpenClaim := { program := "ytpgpjoldelobdaadoor", sum := "97c2b9fb5d3389e82b71182109b662709e4d695f21ba3a873e5fc0475361dbbe", func := "imprimatur/imprimaturlaw10.HeadParts", spec := "headParts", inPlace := ["internal/abi.NoEscape", "math/bits.Sub64", "math/bits.Add64"], named := ["imprimatur/sha256.keys", "imprimatur/sha512.keys"], apart := false, laid := [("imprimatur/sha256.keys", laid_imprimatur_sha256_keys), ("imprimatur/sha512.keys", laid_imprimatur_sha512_keys)], narrowed := true }
def HeadPartsUptoSaid : Prop := headPartsUptoRow.holds Tryd.pinned (OpenSpec.upto headPartsSpec)

/-- 'imprimaturlaw10.HeadTexts', WHERE WHAT IT READS IS OF BULK AT MOST 1048576: true; the input reads as it did. -/
def headTextsUptoRow : OpenClaim := { program := "ytpgpjoldelobdaadoor", sum := "97c2b9fb5d3389e82b71182109b662709e4d695f21ba3a873e5fc0475361dbbe", func := "imprimatur/imprimaturlaw10.HeadTexts", spec := "headTexts", inPlace := ["internal/abi.NoEscape", "math/bits.Sub64", "math/bits.Add64"], named := ["imprimatur/sha256.keys", "imprimatur/sha512.keys"], apart := false, laid := [("imprimatur/sha256.keys", laid_imprimatur_sha256_keys), ("imprimatur/sha512.keys", laid_imprimatur_sha512_keys)], narrowed := true }
def HeadTextsUptoSaid : Prop := headTextsUptoRow.holds Tryd.pinned (OpenSpec.upto headTextsSpec)

/-- 'imprimaturlaw07.EdOther', WHERE WHAT IT READS IS OF BULK AT MOST 1048576: true; the input reads as it did. -/
def edOtherUptoRow : OpenClaim := { program := "ytpgpjoldelobdaadoor", sum := "97c2b9fb5d3389e82b71182109b662709e4d695f21ba3a873e5fc0475361dbbe", func := "imprimatur/imprimaturlaw07.EdOther", spec := "edOther", inPlace := ["internal/bytealg.IndexByteString", "internal/abi.NoEscape", "math/bits.Sub64", "math/bits.Add64", "internal/bytealg.MakeNoZero"], named := ["imprimatur/sha512.keys"], apart := false, laid := [("imprimatur/sha512.keys", laid_imprimatur_sha512_keys)], narrowed := true }
def EdOtherUptoSaid : Prop := edOtherUptoRow.holds Tryd.pinned (OpenSpec.upto edOtherSpec)

/-- 'imprimaturlaw10.HeadSigns', WHERE WHAT IT READS IS OF BULK AT MOST 1048576: true; the input reads as it did. -/
def headSignsUptoRow : OpenClaim := { program := "ytpgpjoldelobdaadoor", sum := "97c2b9fb5d3389e82b71182109b662709e4d695f21ba3a873e5fc0475361dbbe", func := "imprimatur/imprimaturlaw10.HeadSigns", spec := "headSigns", inPlace := ["internal/abi.NoEscape", "math/bits.Sub64", "math/bits.Add64"], named := ["imprimatur/sha512.keys", "imprimatur/sha256.keys"], apart := false, laid := [("imprimatur/sha256.keys", laid_imprimatur_sha256_keys), ("imprimatur/sha512.keys", laid_imprimatur_sha512_keys)], narrowed := true }
def HeadSignsUptoSaid : Prop := headSignsUptoRow.holds Tryd.pinned (OpenSpec.upto headSignsSpec)

/-- 'imprimaturlaw14.RoleSigns', WHERE WHAT IT READS IS OF BULK AT MOST 1048576: true; the input reads as it did. -/
def roleSignsUptoRow : OpenClaim := { program := "ytpgpjoldelobdaadoor", sum := "97c2b9fb5d3389e82b71182109b662709e4d695f21ba3a873e5fc0475361dbbe", func := "imprimatur/imprimaturlaw14.RoleSigns", spec := "roleSigns", inPlace := ["internal/abi.NoEscape", "math/bits.Sub64", "math/bits.Add64", "internal/bytealg.IndexByteString"], unfollowed := true, recurses := true, named := ["imprimatur/sha512.keys", "imprimatur/sha256.keys"], apart := false, laid := [("imprimatur/sha256.keys", laid_imprimatur_sha256_keys), ("imprimatur/sha512.keys", laid_imprimatur_sha512_keys)], narrowed := true }
def RoleSignsUptoSaid : Prop := roleSignsUptoRow.holds Tryd.pinned (OpenSpec.upto roleSignsSpec)

/-- 'imprimaturlaw14.RoleNeeds', WHERE WHAT IT READS IS OF BULK AT MOST 1048576: true; the input reads as it did. -/
def roleNeedsUptoRow : OpenClaim := { program := "ytpgpjoldelobdaadoor", sum := "97c2b9fb5d3389e82b71182109b662709e4d695f21ba3a873e5fc0475361dbbe", func := "imprimatur/imprimaturlaw14.RoleNeeds", spec := "roleNeeds", inPlace := ["internal/abi.NoEscape", "math/bits.Sub64", "math/bits.Add64", "internal/bytealg.IndexByteString"], unfollowed := true, recurses := true, named := ["imprimatur/sha512.keys", "imprimatur/sha256.keys"], apart := false, laid := [("imprimatur/sha256.keys", laid_imprimatur_sha256_keys), ("imprimatur/sha512.keys", laid_imprimatur_sha512_keys)], narrowed := true }
def RoleNeedsUptoSaid : Prop := roleNeedsUptoRow.holds Tryd.pinned (OpenSpec.upto roleNeedsSpec)

/-- 'imprimaturlaw14.RoleOrder', WHERE WHAT IT READS IS OF BULK AT MOST 1048576: true; the input reads as it did. -/
def roleOrderUptoRow : OpenClaim := { program := "ytpgpjoldelobdaadoor", sum := "97c2b9fb5d3389e82b71182109b662709e4d695f21ba3a873e5fc0475361dbbe", func := "imprimatur/imprimaturlaw14.RoleOrder", spec := "roleOrder", inPlace := ["internal/abi.NoEscape", "math/bits.Sub64", "math/bits.Add64", "internal/bytealg.IndexByteString"], unfollowed := true, recurses := true, named := ["imprimatur/sha512.keys", "imprimatur/sha256.keys"], apart := false, laid := [("imprimatur/sha256.keys", laid_imprimatur_sha256_keys), ("imprimatur/sha512.keys", laid_imprimatur_sha512_keys)], narrowed := true }
def RoleOrderUptoSaid : Prop := roleOrderUptoRow.holds Tryd.pinned (OpenSpec.upto roleOrderSpec)

/-- 'imprimaturlaw14.RoleFirst', WHERE WHAT IT READS IS OF BULK AT MOST 1048576: true; the input reads as it did. -/
def roleFirstUptoRow : OpenClaim := { program := "ytpgpjoldelobdaadoor", sum := "97c2b9fb5d3389e82b71182109b662709e4d695f21ba3a873e5fc0475361dbbe", func := "imprimatur/imprimaturlaw14.RoleFirst", spec := "roleFirst", inPlace := ["internal/abi.NoEscape", "math/bits.Sub64", "math/bits.Add64", "internal/bytealg.IndexByteString"], unfollowed := true, recurses := true, named := ["imprimatur/sha512.keys", "imprimatur/sha256.keys"], apart := false, laid := [("imprimatur/sha256.keys", laid_imprimatur_sha256_keys), ("imprimatur/sha512.keys", laid_imprimatur_sha512_keys)], narrowed := true }
def RoleFirstUptoSaid : Prop := roleFirstUptoRow.holds Tryd.pinned (OpenSpec.upto roleFirstSpec)

/-- 'imprimaturlaw10.HeadGoes', WHERE WHAT IT READS IS OF BULK AT MOST 1048576: true; the input reads as it did. -/
def headGoesUptoRow : OpenClaim := { program := "ytpgpjoldelobdaadoor", sum := "97c2b9fb5d3389e82b71182109b662709e4d695f21ba3a873e5fc0475361dbbe", func := "imprimatur/imprimaturlaw10.HeadGoes", spec := "headGoes", inPlace := ["internal/abi.NoEscape", "math/bits.Sub64", "math/bits.Add64"], unfollowed := true, recurses := true, named := ["imprimatur/sha256.keys", "imprimatur/sha512.keys"], apart := false, laid := [("imprimatur/sha256.keys", laid_imprimatur_sha256_keys), ("imprimatur/sha512.keys", laid_imprimatur_sha512_keys)], narrowed := true }
def HeadGoesUptoSaid : Prop := headGoesUptoRow.holds Tryd.pinned (OpenSpec.upto headGoesSpec)

/-- 'imprimaturlaw10.HeadTimes', WHERE WHAT IT READS IS OF BULK AT MOST 1048576: true; the input reads as it did. -/
def headTimesUptoRow : OpenClaim := { program := "ytpgpjoldelobdaadoor", sum := "97c2b9fb5d3389e82b71182109b662709e4d695f21ba3a873e5fc0475361dbbe", func := "imprimatur/imprimaturlaw10.HeadTimes", spec := "headTimes", inPlace := ["internal/abi.NoEscape", "math/bits.Sub64", "math/bits.Add64"], unfollowed := true, recurses := true, named := ["imprimatur/sha256.keys", "imprimatur/sha512.keys"], apart := false, laid := [("imprimatur/sha256.keys", laid_imprimatur_sha256_keys), ("imprimatur/sha512.keys", laid_imprimatur_sha512_keys)], narrowed := true }
def HeadTimesUptoSaid : Prop := headTimesUptoRow.holds Tryd.pinned (OpenSpec.upto headTimesSpec)

end Rows
end Go.Proofs.YtpgpjoldelobdaaDoor
