/- Package ops' table: what its switch functions hand back (printed by gen_ops.py). -/
import Derived.Test.YtknalmoackcpbaaGreatAwGo
import Derived.Test.YtknalmoackcpbaaGreatTy
set_option linter.unusedSimpArgs false
set_option linter.unusedVariables false
set_option maxRecDepth 100000
set_option maxHeartbeats 3200000
namespace Go.Proofs.YtknalmoackcpbaaGreat
open Go Go.AW
theorem D0_XOps1 (S : List Nat) : Plans Tryz.prog [] S := mixed
@[simp] theorem emp : (⟨#[]⟩ : ByteArray) = ByteArray.empty := rfl
def infV (i : List UInt8 × Int × Int) : AV := .agg [.sc (.string ⟨i.1.toArray⟩), .sc (.int .i64 i.2.1), .sc (.int .i64 i.2.2)]
def othersT (op : Int) : List UInt8 × Int × Int :=
  if op = 62 then ([98, 111, 120], 8, 0) else
  if op = 63 then ([117, 110, 98, 111, 120], 8, 0) else
  if op = 64 then ([117, 110, 98, 111, 120, 97, 110, 121], 8, 0) else
  if op = 65 then ([99, 97, 115, 116, 99, 108, 97, 115, 115], 8, 0) else
  if op = 66 then ([105, 115, 105, 110, 115, 116], 8, 0) else
  if op = 67 then ([108, 100, 102, 116, 110], 6, 0) else
  if op = 68 then ([110, 101, 119, 100, 101, 108], 8, 0) else
  if op = 69 then ([116, 104, 114, 111, 119], 0, 3) else
  if op = 70 then ([114, 101, 116, 104, 114, 111, 119], 0, 3) else
  if op = 71 then ([108, 101, 97, 118, 101], 5, 4) else
  if op = 72 then ([101, 110, 100, 102, 105, 110, 97, 108, 108, 121], 0, 5) else
  if op = 73 then ([101, 110, 100, 102, 105, 108, 116, 101, 114], 0, 5) else
  if op = 74 then ([105, 110], 0, 0) else
  if op = 75 then ([111, 117, 116], 0, 0) else
  ([], 0, 0)
theorem others_ok (op : Int) (σ : AS) : ACalls Tryz.prog 279 [.sc (.int .i64 op)] σ (Gives (infV (othersT op)) σ) No := by
  refine ACalls.of_body Tryz.func279 rfl rfl (by simp [Tryz.ntmps279]) ?_
  refine gO (D0_XOps1 []) True.intro True.intro (k := ?_)
  intro id hid
  have hc : op = 62 ∨ op = 63 ∨ op = 64 ∨ op = 65 ∨ op = 66 ∨ op = 67 ∨ op = 68 ∨ op = 69 ∨ op = 70 ∨ op = 71 ∨ op = 72 ∨ op = 73 ∨ op = 74 ∨ op = 75 ∨ (¬ op = 62 ∧ ¬ op = 63 ∧ ¬ op = 64 ∧ ¬ op = 65 ∧ ¬ op = 66 ∧ ¬ op = 67 ∧ ¬ op = 68 ∧ ¬ op = 69 ∧ ¬ op = 70 ∧ ¬ op = 71 ∧ ¬ op = 72 ∧ ¬ op = 73 ∧ ¬ op = 74 ∧ ¬ op = 75) := by omega
  rcases hc with rfl | rfl | rfl | rfl | rfl | rfl | rfl | rfl | rfl | rfl | rfl | rfl | rfl | rfl | ⟨h62, h63, h64, h65, h66, h67, h68, h69, h70, h71, h72, h73, h74, h75⟩
  rotate_right
  · repeat (first
      | (with_reducible first | apply AWp.seq | apply AWp.block | refine And.intro (by first | omega | assumption | decide) ?_)
      | ((first | (with_reducible first | apply AWp.fork | apply AWp.region | show condK _ _ _ | show guardK _ _ _ _ _ _ _ _ _)); simp -implicitDefEqProofs [h62, h63, h64, h65, h66, h67, h68, h69, h70, h71, h72, h73, h74, h75, infV])
      | ((with_reducible first | apply AWp.ret | apply AWp.skip | apply AWp.exit); try simp -implicitDefEqProofs [h62, h63, h64, h65, h66, h67, h68, h69, h70, h71, h72, h73, h74, h75, infV]))
    try simp [othersT, infV, h62, h63, h64, h65, h66, h67, h68, h69, h70, h71, h72, h73, h74, h75]
    all_goals (repeat (first | exact AS.le_refl _ | refine le_new (by simp [hid]) ?_))
  all_goals
    refine gO (D0_XOps1 []) True.intro True.intro (k := ?_)
    try simp [othersT, infV]
    all_goals (repeat (first | exact AS.le_refl _ | refine le_new (by simp [hid]) ?_))
def fieldsT (op : Int) : List UInt8 × Int × Int :=
  if op = 48 then ([108, 100, 102, 108, 100], 7, 0) else
  if op = 49 then ([115, 116, 102, 108, 100], 7, 0) else
  if op = 50 then ([108, 100, 102, 108, 100, 97], 7, 0) else
  if op = 51 then ([108, 100, 115, 102, 108, 100], 7, 0) else
  if op = 52 then ([115, 116, 115, 102, 108, 100], 7, 0) else
  if op = 53 then ([108, 100, 115, 102, 108, 100, 97], 7, 0) else
  if op = 54 then ([108, 100, 111, 98, 106], 8, 0) else
  if op = 55 then ([115, 116, 111, 98, 106], 8, 0) else
  if op = 56 then ([105, 110, 105, 116, 111, 98, 106], 8, 0) else
  if op = 57 then ([110, 101, 119, 97, 114, 114], 8, 0) else
  if op = 58 then ([108, 100, 108, 101, 110], 0, 0) else
  if op = 59 then ([108, 100, 101, 108, 101, 109], 8, 0) else
  if op = 60 then ([115, 116, 101, 108, 101, 109], 8, 0) else
  if op = 61 then ([108, 100, 101, 108, 101, 109, 97], 8, 0) else
  othersT op
theorem fields_ok (op : Int) (σ : AS) : ACalls Tryz.prog 278 [.sc (.int .i64 op)] σ (Gives (infV (fieldsT op)) σ) No := by
  refine ACalls.of_body Tryz.func278 rfl rfl (by simp [Tryz.ntmps278]) ?_
  refine gO (D0_XOps1 []) True.intro True.intro (k := ?_)
  intro id hid
  have hc : op = 48 ∨ op = 49 ∨ op = 50 ∨ op = 51 ∨ op = 52 ∨ op = 53 ∨ op = 54 ∨ op = 55 ∨ op = 56 ∨ op = 57 ∨ op = 58 ∨ op = 59 ∨ op = 60 ∨ op = 61 ∨ (¬ op = 48 ∧ ¬ op = 49 ∧ ¬ op = 50 ∧ ¬ op = 51 ∧ ¬ op = 52 ∧ ¬ op = 53 ∧ ¬ op = 54 ∧ ¬ op = 55 ∧ ¬ op = 56 ∧ ¬ op = 57 ∧ ¬ op = 58 ∧ ¬ op = 59 ∧ ¬ op = 60 ∧ ¬ op = 61) := by omega
  rcases hc with rfl | rfl | rfl | rfl | rfl | rfl | rfl | rfl | rfl | rfl | rfl | rfl | rfl | rfl | ⟨h48, h49, h50, h51, h52, h53, h54, h55, h56, h57, h58, h59, h60, h61⟩
  rotate_right
  · repeat (first
      | (with_reducible first | apply AWp.seq | apply AWp.block | refine And.intro (by first | omega | assumption | decide) ?_)
      | ((first | (with_reducible first | apply AWp.fork | apply AWp.region | show condK _ _ _ | show guardK _ _ _ _ _ _ _ _ _) | ((with_reducible apply aCall.id); first | apply aCall.gives (others_ok _ _))); simp -implicitDefEqProofs [h48, h49, h50, h51, h52, h53, h54, h55, h56, h57, h58, h59, h60, h61, infV])
      | ((with_reducible first | apply AWp.ret | apply AWp.skip | apply AWp.exit); try simp -implicitDefEqProofs [h48, h49, h50, h51, h52, h53, h54, h55, h56, h57, h58, h59, h60, h61, infV]))
    try simp [fieldsT, infV, h48, h49, h50, h51, h52, h53, h54, h55, h56, h57, h58, h59, h60, h61]
    all_goals (repeat (first | exact AS.le_refl _ | refine le_new (by simp [hid]) ?_))
  all_goals
    refine gO (D0_XOps1 []) True.intro True.intro (k := ?_)
    try simp [fieldsT, infV]
    all_goals (repeat (first | exact AS.le_refl _ | refine le_new (by simp [hid]) ?_))
def jumpsT (op : Int) : List UInt8 × Int × Int :=
  if op = 34 then ([98, 114], 5, 1) else
  if op = 35 then ([98, 114, 116, 114, 117, 101], 5, 2) else
  if op = 36 then ([98, 114, 102, 97, 108, 115, 101], 5, 2) else
  if op = 37 then ([98, 101, 113], 5, 2) else
  if op = 38 then ([98, 103, 101], 5, 2) else
  if op = 39 then ([98, 103, 116], 5, 2) else
  if op = 40 then ([98, 108, 101], 5, 2) else
  if op = 41 then ([98, 108, 116], 5, 2) else
  if op = 42 then ([98, 110, 101], 5, 2) else
  if op = 43 then ([99, 97, 108, 108], 6, 0) else
  if op = 44 then ([99, 97, 108, 108, 118, 105, 114, 116], 6, 0) else
  if op = 45 then ([110, 101, 119, 111, 98, 106], 6, 0) else
  if op = 46 then ([114, 101, 116], 0, 3) else
  if op = 47 then ([116, 97, 105, 108], 0, 0) else
  fieldsT op
theorem jumps_ok (op : Int) (σ : AS) : ACalls Tryz.prog 275 [.sc (.int .i64 op)] σ (Gives (infV (jumpsT op)) σ) No := by
  refine ACalls.of_body Tryz.func275 rfl rfl (by simp [Tryz.ntmps275]) ?_
  refine gO (D0_XOps1 []) True.intro True.intro (k := ?_)
  intro id hid
  have hc : op = 34 ∨ op = 35 ∨ op = 36 ∨ op = 37 ∨ op = 38 ∨ op = 39 ∨ op = 40 ∨ op = 41 ∨ op = 42 ∨ op = 43 ∨ op = 44 ∨ op = 45 ∨ op = 46 ∨ op = 47 ∨ (¬ op = 34 ∧ ¬ op = 35 ∧ ¬ op = 36 ∧ ¬ op = 37 ∧ ¬ op = 38 ∧ ¬ op = 39 ∧ ¬ op = 40 ∧ ¬ op = 41 ∧ ¬ op = 42 ∧ ¬ op = 43 ∧ ¬ op = 44 ∧ ¬ op = 45 ∧ ¬ op = 46 ∧ ¬ op = 47) := by omega
  rcases hc with rfl | rfl | rfl | rfl | rfl | rfl | rfl | rfl | rfl | rfl | rfl | rfl | rfl | rfl | ⟨h34, h35, h36, h37, h38, h39, h40, h41, h42, h43, h44, h45, h46, h47⟩
  rotate_right
  · repeat (first
      | (with_reducible first | apply AWp.seq | apply AWp.block | refine And.intro (by first | omega | assumption | decide) ?_)
      | ((first | (with_reducible first | apply AWp.fork | apply AWp.region | show condK _ _ _ | show guardK _ _ _ _ _ _ _ _ _) | ((with_reducible apply aCall.id); first | apply aCall.gives (fields_ok _ _))); simp -implicitDefEqProofs [h34, h35, h36, h37, h38, h39, h40, h41, h42, h43, h44, h45, h46, h47, infV])
      | ((with_reducible first | apply AWp.ret | apply AWp.skip | apply AWp.exit); try simp -implicitDefEqProofs [h34, h35, h36, h37, h38, h39, h40, h41, h42, h43, h44, h45, h46, h47, infV]))
    try simp [jumpsT, infV, h34, h35, h36, h37, h38, h39, h40, h41, h42, h43, h44, h45, h46, h47]
    all_goals (repeat (first | exact AS.le_refl _ | refine le_new (by simp [hid]) ?_))
  all_goals
    refine gO (D0_XOps1 []) True.intro True.intro (k := ?_)
    try simp [jumpsT, infV]
    all_goals (repeat (first | exact AS.le_refl _ | refine le_new (by simp [hid]) ?_))
def sumsT (op : Int) : List UInt8 × Int × Int :=
  if op = 13 then ([97, 100, 100], 0, 0) else
  if op = 14 then ([115, 117, 98], 0, 0) else
  if op = 15 then ([109, 117, 108], 0, 0) else
  if op = 16 then ([100, 105, 118], 0, 0) else
  if op = 17 then ([114, 101, 109], 0, 0) else
  if op = 18 then ([97, 110, 100], 0, 0) else
  if op = 19 then ([111, 114], 0, 0) else
  if op = 20 then ([120, 111, 114], 0, 0) else
  if op = 21 then ([115, 104, 108], 0, 0) else
  if op = 22 then ([115, 104, 114], 0, 0) else
  if op = 23 then ([110, 101, 103], 0, 0) else
  if op = 24 then ([110, 111, 116], 0, 0) else
  if op = 25 then ([97, 100, 100, 111, 118, 102], 0, 0) else
  if op = 26 then ([115, 117, 98, 111, 118, 102], 0, 0) else
  if op = 27 then ([109, 117, 108, 111, 118, 102], 0, 0) else
  if op = 28 then ([99, 111, 110, 118, 52], 0, 0) else
  if op = 29 then ([99, 111, 110, 118, 56], 0, 0) else
  if op = 30 then ([99, 111, 110, 118, 111, 118, 102, 52], 0, 0) else
  if op = 31 then ([99, 101, 113], 0, 0) else
  if op = 32 then ([99, 103, 116], 0, 0) else
  if op = 33 then ([99, 108, 116], 0, 0) else
  jumpsT op
theorem sums_ok (op : Int) (σ : AS) : ACalls Tryz.prog 256 [.sc (.int .i64 op)] σ (Gives (infV (sumsT op)) σ) No := by
  refine ACalls.of_body Tryz.func256 rfl rfl (by simp [Tryz.ntmps256]) ?_
  refine gO (D0_XOps1 []) True.intro True.intro (k := ?_)
  intro id hid
  have hc : op = 13 ∨ op = 14 ∨ op = 15 ∨ op = 16 ∨ op = 17 ∨ op = 18 ∨ op = 19 ∨ op = 20 ∨ op = 21 ∨ op = 22 ∨ op = 23 ∨ op = 24 ∨ op = 25 ∨ op = 26 ∨ op = 27 ∨ op = 28 ∨ op = 29 ∨ op = 30 ∨ op = 31 ∨ op = 32 ∨ op = 33 ∨ (¬ op = 13 ∧ ¬ op = 14 ∧ ¬ op = 15 ∧ ¬ op = 16 ∧ ¬ op = 17 ∧ ¬ op = 18 ∧ ¬ op = 19 ∧ ¬ op = 20 ∧ ¬ op = 21 ∧ ¬ op = 22 ∧ ¬ op = 23 ∧ ¬ op = 24 ∧ ¬ op = 25 ∧ ¬ op = 26 ∧ ¬ op = 27 ∧ ¬ op = 28 ∧ ¬ op = 29 ∧ ¬ op = 30 ∧ ¬ op = 31 ∧ ¬ op = 32 ∧ ¬ op = 33) := by omega
  rcases hc with rfl | rfl | rfl | rfl | rfl | rfl | rfl | rfl | rfl | rfl | rfl | rfl | rfl | rfl | rfl | rfl | rfl | rfl | rfl | rfl | rfl | ⟨h13, h14, h15, h16, h17, h18, h19, h20, h21, h22, h23, h24, h25, h26, h27, h28, h29, h30, h31, h32, h33⟩
  rotate_right
  · repeat (first
      | (with_reducible first | apply AWp.seq | apply AWp.block | refine And.intro (by first | omega | assumption | decide) ?_)
      | ((first | (with_reducible first | apply AWp.fork | apply AWp.region | show condK _ _ _ | show guardK _ _ _ _ _ _ _ _ _) | ((with_reducible apply aCall.id); first | apply aCall.gives (jumps_ok _ _))); simp -implicitDefEqProofs [h13, h14, h15, h16, h17, h18, h19, h20, h21, h22, h23, h24, h25, h26, h27, h28, h29, h30, h31, h32, h33, infV])
      | ((with_reducible first | apply AWp.ret | apply AWp.skip | apply AWp.exit); try simp -implicitDefEqProofs [h13, h14, h15, h16, h17, h18, h19, h20, h21, h22, h23, h24, h25, h26, h27, h28, h29, h30, h31, h32, h33, infV]))
    try simp [sumsT, infV, h13, h14, h15, h16, h17, h18, h19, h20, h21, h22, h23, h24, h25, h26, h27, h28, h29, h30, h31, h32, h33]
    all_goals (repeat (first | exact AS.le_refl _ | refine le_new (by simp [hid]) ?_))
  all_goals
    refine gO (D0_XOps1 []) True.intro True.intro (k := ?_)
    try simp [sumsT, infV]
    all_goals (repeat (first | exact AS.le_refl _ | refine le_new (by simp [hid]) ?_))
def ofT (op : Int) : List UInt8 × Int × Int :=
  if op = 1 then ([110, 111, 112], 0, 0) else
  if op = 2 then ([108, 100, 97, 114, 103], 4, 0) else
  if op = 3 then ([115, 116, 97, 114, 103], 4, 0) else
  if op = 4 then ([108, 100, 97, 114, 103, 97], 4, 0) else
  if op = 5 then ([108, 100, 108, 111, 99], 3, 0) else
  if op = 6 then ([115, 116, 108, 111, 99], 3, 0) else
  if op = 7 then ([108, 100, 108, 111, 99, 97], 3, 0) else
  if op = 8 then ([108, 100, 99, 52], 1, 0) else
  if op = 9 then ([108, 100, 99, 56], 2, 0) else
  if op = 10 then ([108, 100, 110, 117, 108, 108], 0, 0) else
  if op = 11 then ([100, 117, 112], 0, 0) else
  if op = 12 then ([112, 111, 112], 0, 0) else
  sumsT op
theorem of_ok (op : Int) (σ : AS) : ACalls Tryz.prog 218 [.sc (.int .i64 op)] σ (Gives (infV (ofT op)) σ) No := by
  refine ACalls.of_body Tryz.func218 rfl rfl (by simp [Tryz.ntmps218]) ?_
  refine gO (D0_XOps1 []) True.intro True.intro (k := ?_)
  intro id hid
  have hc : op = 1 ∨ op = 2 ∨ op = 3 ∨ op = 4 ∨ op = 5 ∨ op = 6 ∨ op = 7 ∨ op = 8 ∨ op = 9 ∨ op = 10 ∨ op = 11 ∨ op = 12 ∨ (¬ op = 1 ∧ ¬ op = 2 ∧ ¬ op = 3 ∧ ¬ op = 4 ∧ ¬ op = 5 ∧ ¬ op = 6 ∧ ¬ op = 7 ∧ ¬ op = 8 ∧ ¬ op = 9 ∧ ¬ op = 10 ∧ ¬ op = 11 ∧ ¬ op = 12) := by omega
  rcases hc with rfl | rfl | rfl | rfl | rfl | rfl | rfl | rfl | rfl | rfl | rfl | rfl | ⟨h1, h2, h3, h4, h5, h6, h7, h8, h9, h10, h11, h12⟩
  rotate_right
  · repeat (first
      | (with_reducible first | apply AWp.seq | apply AWp.block | refine And.intro (by first | omega | assumption | decide) ?_)
      | ((first | (with_reducible first | apply AWp.fork | apply AWp.region | show condK _ _ _ | show guardK _ _ _ _ _ _ _ _ _) | ((with_reducible apply aCall.id); first | apply aCall.gives (sums_ok _ _))); simp -implicitDefEqProofs [h1, h2, h3, h4, h5, h6, h7, h8, h9, h10, h11, h12, infV])
      | ((with_reducible first | apply AWp.ret | apply AWp.skip | apply AWp.exit); try simp -implicitDefEqProofs [h1, h2, h3, h4, h5, h6, h7, h8, h9, h10, h11, h12, infV]))
    try simp [ofT, infV, h1, h2, h3, h4, h5, h6, h7, h8, h9, h10, h11, h12]
    all_goals (repeat (first | exact AS.le_refl _ | refine le_new (by simp [hid]) ?_))
  all_goals
    refine gO (D0_XOps1 []) True.intro True.intro (k := ?_)
    try simp [ofT, infV]
    all_goals (repeat (first | exact AS.le_refl _ | refine le_new (by simp [hid]) ?_))
end Go.Proofs.YtknalmoackcpbaaGreat
