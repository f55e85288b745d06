import Derived.Test.YtoanlehkkideiaaE19
import Derived.Test.YtoanlehkkideiaaProg
namespace Go.Proofs.Try
open Go Go.Eng
def tab : List (Nat × TI) := [(2, .int), (3, .int), (4, .bool), (5, .u8), (6, .u8), (7, .st [2, 3, 4, 6]), (8, .st [2, 3, 4, 6]), (9, .str), (10, .str), (11, .str), (22, .sl 3), (27, .sl 75), (28, .st [3, 3, 27]), (29, .st [3, 3, 27]), (35, .sl 67), (38, .sl 57), (42, .sl 82), (43, .st [3, 3, 42]), (44, .st [3, 3, 42]), (49, .sl 22), (56, .st [3, 3]), (57, .st [3, 3]), (62, .sl 9), (67, .st [3, 3]), (74, .st [3, 3, 3]), (75, .st [3, 3, 3]), (77, .sl 5), (82, .st [3, 3, 3]), (96, .u8), (97, .u8)]
def T : Tys := lookT tab
theorem T2 : T 2 = .int := rfl
theorem T3 : T 3 = .int := rfl
theorem T4 : T 4 = .bool := rfl
theorem T5 : T 5 = .u8 := rfl
theorem T6 : T 6 = .u8 := rfl
theorem T7 : T 7 = .st [2, 3, 4, 6] := rfl
theorem T8 : T 8 = .st [2, 3, 4, 6] := rfl
theorem T9 : T 9 = .str := rfl
theorem T10 : T 10 = .str := rfl
theorem T11 : T 11 = .str := rfl
theorem T22 : T 22 = .sl 3 := rfl
theorem T27 : T 27 = .sl 75 := rfl
theorem T28 : T 28 = .st [3, 3, 27] := rfl
theorem T29 : T 29 = .st [3, 3, 27] := rfl
theorem T35 : T 35 = .sl 67 := rfl
theorem T38 : T 38 = .sl 57 := rfl
theorem T42 : T 42 = .sl 82 := rfl
theorem T43 : T 43 = .st [3, 3, 42] := rfl
theorem T44 : T 44 = .st [3, 3, 42] := rfl
theorem T49 : T 49 = .sl 22 := rfl
theorem T56 : T 56 = .st [3, 3] := rfl
theorem T57 : T 57 = .st [3, 3] := rfl
theorem T62 : T 62 = .sl 9 := rfl
theorem T67 : T 67 = .st [3, 3] := rfl
theorem T74 : T 74 = .st [3, 3, 3] := rfl
theorem T75 : T 75 = .st [3, 3, 3] := rfl
theorem T77 : T 77 = .sl 5 := rfl
theorem T82 : T 82 = .st [3, 3, 3] := rfl
theorem T96 : T 96 = .u8 := rfl
theorem T97 : T 97 = .u8 := rfl
theorem tok : TOk Try.prog T := tok_of (fun _ => rfl) ⟨fact_int Try.underlying2 (by kernel_rfl),
  fact_int Try.underlying3 (by kernel_rfl),
  fact_bool Try.underlying4 (by kernel_rfl),
  fact_u8 Try.underlying5 (by kernel_rfl),
  fact_u8 Try.underlying6 (by kernel_rfl),
  fact_st 24 Try.underlying7 (by decide) (by decide) Try.stoodInHeld7 Try.eqGuardType7 (by decide) (by kernel_rfl),
  fact_st 24 Try.underlying8 (by decide) (by decide) Try.stoodInHeld8 Try.eqGuardType8 (by decide) (by kernel_rfl),
  fact_str Try.underlying9 (by kernel_rfl),
  fact_str Try.underlying10 (by kernel_rfl),
  fact_str Try.underlying11 (by kernel_rfl),
  fact_sl Try.underlying22 (by kernel_rfl),
  fact_sl Try.underlying27 (by kernel_rfl),
  fact_st 40 Try.underlying28 (by decide) (by decide) Try.stoodInHeld28 Try.eqGuardType28 (by decide) (by kernel_rfl),
  fact_st 40 Try.underlying29 (by decide) (by decide) Try.stoodInHeld29 Try.eqGuardType29 (by decide) (by kernel_rfl),
  fact_sl Try.underlying35 (by kernel_rfl),
  fact_sl Try.underlying38 (by kernel_rfl),
  fact_sl Try.underlying42 (by kernel_rfl),
  fact_st 40 Try.underlying43 (by decide) (by decide) Try.stoodInHeld43 Try.eqGuardType43 (by decide) (by kernel_rfl),
  fact_st 40 Try.underlying44 (by decide) (by decide) Try.stoodInHeld44 Try.eqGuardType44 (by decide) (by kernel_rfl),
  fact_sl Try.underlying49 (by kernel_rfl),
  fact_st 16 Try.underlying56 (by decide) (by decide) Try.stoodInHeld56 Try.eqGuardType56 (by decide) (by kernel_rfl),
  fact_st 16 Try.underlying57 (by decide) (by decide) Try.stoodInHeld57 Try.eqGuardType57 (by decide) (by kernel_rfl),
  fact_sl Try.underlying62 (by kernel_rfl),
  fact_st 16 Try.underlying67 (by decide) (by decide) Try.stoodInHeld67 Try.eqGuardType67 (by decide) (by kernel_rfl),
  fact_st 24 Try.underlying74 (by decide) (by decide) Try.stoodInHeld74 Try.eqGuardType74 (by decide) (by kernel_rfl),
  fact_st 24 Try.underlying75 (by decide) (by decide) Try.stoodInHeld75 Try.eqGuardType75 (by decide) (by kernel_rfl),
  fact_sl Try.underlying77 (by kernel_rfl),
  fact_st 24 Try.underlying82 (by decide) (by decide) Try.stoodInHeld82 Try.eqGuardType82 (by decide) (by kernel_rfl),
  fact_u8 Try.underlying96 (by kernel_rfl),
  fact_u8 Try.underlying97 (by kernel_rfl), trivial⟩
theorem okr : Reck.Ok Try.prog (reck T) := reck_ok tok
theorem mixed : Try.prog.follows .mixedOrders = true := by kernel_rfl
attribute [go_sem] T2 T3 T4 T5 T6 T7 T8 T9 T10 T11 T22 T27 T28 T29 T35 T38 T42 T43 T44 T49 T56 T57 T62 T67 T74 T75 T77 T82 T96 T97 
end Go.Proofs.Try
