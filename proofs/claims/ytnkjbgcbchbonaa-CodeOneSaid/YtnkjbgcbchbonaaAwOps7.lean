/- A layer of abstract values over the model's machine: own work for this claim, part AwOps7. -/
import Derived.Test.YtnkjbgcbchbonaaAwOps6
import Derived.Laws.IdiomStrings
set_option linter.unusedSimpArgs false
set_option linter.unusedVariables false
namespace Go.AW
open Go Go.RowKit

variable {P : Program} {G : Gh} {σ : AS} {w : World} {K Pn : AV → AS → Prop}

def aUn (op : UnOp) (x : AV) (K : AV → Prop) : Prop :=
  match op, x with
  | .not, .sc (.bool b) => K (.sc (.bool (!b)))
  | .neg, .sc (.int k n) => K (.sc (.int k (k.wrap (0 - n))))
  | .xor, .sc (.int k n) => K (.sc (.int k (k.wrap (BitVec.ofInt k.bits (if k.signed then -1 else k.max) ^^^ BitVec.ofInt k.bits n).toNat)))
  | _, _ => False

theorem aUn_out (hi : Inv P G σ w) {op : UnOp} {x : AV} {v : Value} (hx : Rep P G x v) (h : aUn op x fun v => K v σ) :
    Out P G K Pn (((do pure (Next.value (← Op.unary op v))) : Sem Next).run P w) := by
  unfold aUn at h
  split at h
  · cases hx; exact Out.pure hi rfl (.sc _) h
  · cases hx; exact Out.pure hi rfl (.sc _) h
  · cases hx; exact Out.pure hi rfl (.sc _) h
  · exact h.elim

def aExtract (x : AV) (i : Nat) (K : AV → Prop) : Prop :=
  match x with
  | .tup vs => i < vs.length ∧ K (vs.getD i .any)
  | _ => False

theorem aExtract_out (hi : Inv P G σ w) {x : AV} {v : Value} {i : Nat} (hx : Rep P G x v) (h : aExtract x i fun v => K v σ) :
    Out P G K Pn (((do pure (Next.value (← Instr.extract v i))) : Sem Next).run P w) := by
  unfold aExtract at h
  split at h
  · cases hx with
    | tup vs l hr =>
      have hlt : i < vs.length := by omega
      refine Out.pure hi (v := vs.getD i undef) ?_ (hr i h.1) h.2
      simp [Instr.extract, hlt]
  · exact h.elim

def aNilCheck (x : AV) (K : AV → Prop) : Prop :=
  match x with
  | .ptr _ _ | .cptr _ | .fn (.func _) _ _ | .mp _ => K x
  | .sc (.func (.func _) _ _) => K x
  | .ifc _ _ => K x
  | _ => False

theorem aNilCheck_out (hi : Inv P G σ w) {x : Operand} {ρ : Operand → Value} {xa : AV} {o : Oper} (ho : o.op = .nilCheck x) (hx : Rep P G xa (ρ x)) (h : aNilCheck xa fun v => K v σ) :
    Out P G K Pn ((execOp ρ o).run P w) := by
  have key : (execOp ρ o).run P w = .ok (.value (ρ x)) w := by
    unfold execOp
    simp only [ho]
    unfold aNilCheck at h
    split at h <;> first | exact h.elim | (generalize ρ x = v at hx; cases hx; simp)
  rw [key]
  refine ⟨G, σ, xa, .refl G, hi, hx, ?_⟩
  unfold aNilCheck at h
  split at h <;> first | exact h | exact h.elim

/-! ## conversions -/

def u8 (b : UInt8) : AV := .sc (.int .u8 b.toNat)
def unU8 : AV → Option UInt8
  | .sc (.int .u8 n) => if 0 ≤ n ∧ n < 256 then some (UInt8.ofNat n.toNat) else none
  | _ => none
def allU8 (l : List AV) : Option (List UInt8) := l.mapM unU8

theorem allU8_map (l : List UInt8) : allU8 (l.map u8) = some l := by
  induction l with
  | nil => rfl
  | cons b l ih =>
    have h1 : unU8 (u8 b) = some b := by
      have := b.toNat_lt
      simp only [unU8, u8]
      rw [if_pos ⟨by omega, by omega⟩]
      simp
    simp only [allU8, List.map_cons, List.mapM_cons, h1] at ih ⊢
    rw [ih]; rfl

theorem allU8_spec {l : List AV} {bs : List UInt8} (h : allU8 l = some bs) : l.length = bs.length ∧ ∀ i, i < l.length → l.getD i .any = u8 (bs.getD i 0) := by
  induction l generalizing bs with
  | nil => simp [allU8] at h; subst h; simp
  | cons a l ih =>
    simp only [allU8, List.mapM_cons, Option.bind_eq_bind, Option.pure_def] at h
    cases ha : unU8 a with
    | none => simp [ha] at h
    | some b =>
      cases hl : l.mapM unU8 with
      | none => simp [ha, hl] at h
      | some r =>
        simp [ha, hl] at h
        subst h
        obtain ⟨h1, h2⟩ := ih hl
        refine ⟨by simp [h1], fun i hi => ?_⟩
        cases i with
        | zero =>
          simp
          unfold unU8 at ha
          split at ha
          · rename_i n
            split at ha
            · rename_i hn
              cases ha
              simp only [u8]
              congr 2
              rw [UInt8.toNat_ofNat']
              omega
            · cases ha
          · cases ha
        | succ i => simpa using h2 i (by simpa using hi)

def aConvert (P : Program) (src dst : TypeId) (x : AV) (K : AV → Prop) : Prop :=
  match P.underlying src, P.underlying dst, x with
  | some _, some (.int k), .sc (.int _ n) => K (.sc (.int k (k.wrap n)))
  | some _, some .string, .sc (.string s) => K (.sc (.string s))
  | some (.slice e), some .string, .nilS => P.underlying e = some (.int .u8) ∧ K (.sc (.string .empty))
  | some (.slice e), some .string, .lst e' elems _ _ => P.underlying e = some (.int .u8) ∧ P.cellsOf e' = 1 ∧ (match allU8 elems with | some bs => K (.sc (.string ⟨bs.toArray⟩)) | none => False)
  | some .string, some (.slice e), .sc (.string s) => P.underlying e = some (.int .u8) ∧ P.cellsOf e = 1 ∧ s.size ≤ 140737488355328 ∧ K (.lst e (s.data.toList.map u8) .unk false)
  | _, _, _ => False

theorem aConvert_out (hi : Inv P G σ w) {src dst : TypeId} {x : AV} {v : Value} (hx : Rep P G x v) (h : aConvert P src dst x fun v => K v σ) :
    Out P G K Pn (((do pure (Next.value (← convert src dst v))) : Sem Next).run P w) := by
  unfold aConvert at h
  split at h
  · rename_i d k kk n hs hd
    cases hx
    refine Out.pure hi (v := .int k (k.wrap n)) ?_ (.sc _) h
    unfold convert
    rw [Sem.run_bind, run_underlying hs, Result.andThen_ok, Sem.run_bind, run_underlying hd, Result.andThen_ok]
    cases d <;> rfl
  · rename_i d s hs hd
    cases hx
    refine Out.pure hi (v := .string s) ?_ (.sc _) h
    unfold convert
    rw [Sem.run_bind, run_underlying hs, Result.andThen_ok, Sem.run_bind, run_underlying hd, Result.andThen_ok]
    cases d <;> rfl
  · rename_i e hs hd
    obtain ⟨he, h⟩ := h
    cases hx
    refine Out.pure hi (v := .string .empty) ?_ (.sc _) h
    rw [run_convert_bytes_string w src dst e none 0 0 hs he hd]
    simp [Conv.bytesToString]
  · rename_i e e' elems own nil hs hd
    obtain ⟨he, hc1, h⟩ := h
    split at h
    · rename_i bs hbs
      obtain ⟨b1, b2⟩ := allU8_spec hbs
      cases hx with
      | lstN ho =>
        have : bs = [] := List.length_eq_zero_iff.1 (by simpa using b1.symm)
        subst this
        refine Out.pure hi (v := .string .empty) ?_ (.sc _) h
        rw [run_convert_bytes_string w src dst e none 0 0 hs he hd]
        simp [Conv.bytesToString]
      | lstZ =>
        have : bs = [] := List.length_eq_zero_iff.1 (by simpa using b1.symm)
        subst this
        refine Out.pure hi (v := .string .empty) ?_ (.sc _) h
        rw [run_convert_bytes_string w src dst e _ 0 _ hs he hd]
        simp [Conv.bytesToString, loadCells, loadCellsFrom, Result.andThen]
      | lst vs hl hm hr hc ho =>
        rename_i b off cap
        refine Out.pure hi (v := .string ⟨bs.toArray⟩) ?_ (.sc _) h
        rw [b1]
        refine run_convert_bytes_back w src dst e ⟨b, off, none⟩ cap bs hs he hd (fun j hj => ?_)
        have hj' : j < elems.length := by omega
        have h1 := hr j 0 hj' (by omega)
        rw [b2 j hj'] at h1
        simp only [hc1, Nat.mul_one, Nat.add_zero] at h1
        have h2 := (hi.mem _ _ _ (hm j (by rw [hc1, Nat.mul_one]; exact hj'))).1
        rw [Addr.add_lit, h2]
        have e1 : (u8 (bs.getD j 0)).cells.getD 0 AV.any = .sc (.int .u8 (bs.getD j 0).toNat) := rfl
        rw [e1] at h1
        generalize hvj : vs j = vj at h1
        cases h1
        simp [List.getD_eq_getElem?_getD, List.getElem?_eq_getElem hj]
    · exact h.elim
  · rename_i e s hs hd
    obtain ⟨he, hc1, hmax, h⟩ := h
    cases hx
    have hrun := run_bytes_of_string (P := P) w src dst e s hs hd he
    have hcapge := grownCap_ge w s.size 0 e
    have hrow : ∀ k, k < s.size → (bytesRow s (grownCap w s.size 0 e))[k]? = some (.int .u8 (s.data.toList.getD k 0).toNat) := by
      intro k hk
      have hk' : k < s.data.size := hk
      unfold bytesRow
      rw [Array.getElem?_append_left (by simpa using hk')]
      simp [hk', Array.getElem?_eq_getElem hk']
    have hsz : s.size ≤ (bytesRow s (grownCap w s.size 0 e)).size := by
      unfold bytesRow
      rw [Array.size_append]
      have : (s.data.map fun b => Value.int .u8 b.toNat).size = s.size := by rw [Array.size_map]; rfl
      omega
    obtain ⟨hle, hinv⟩ : G.Le (G.keep w.heap.size 0 s.size fun k => .int .u8 (s.data.toList.getD k 0).toNat) ∧ Inv P (G.keep w.heap.size 0 s.size fun k => .int .u8 (s.data.toList.getD k 0).toNat) σ _ :=
      hi.drew.keepNew' e (bytesRow s (grownCap w s.size 0 e)) ((bytesRow s (grownCap w s.size 0 e)).size, (bytesRow s (grownCap w s.size 0 e)).size + 1) s.size (fun k => .int .u8 (s.data.toList.getD k 0).toNat) hsz (fun k hk => ⟨hrow k hk, rfl⟩)
    refine Out.value hrun hle hinv ?_ h
    refine Rep.lst' (fun k => .int .u8 (s.data.toList.getD k 0).toNat) (by rw [List.length_map, Array.length_toList]; rfl) (fun i hi' => ?_) (fun k hk => ?_) (fun i j hi' hj => ?_) hcapge trivial
    · simp only [List.length_map] at hi'
      simp only [List.getD_eq_getElem?_getD, List.getElem?_map, List.getElem?_eq_getElem hi']
      rw [hc1]; rfl
    · rw [hc1, Nat.mul_one] at hk
      rw [Gh.keep_in (by omega) (by omega)]; simp
    · simp only [List.length_map] at hi'
      have : j = 0 := by omega
      subst this
      rw [hc1, Nat.mul_one, Nat.add_zero]
      simp only [List.getD_eq_getElem?_getD, List.getElem?_map, List.getElem?_eq_getElem hi']
      exact .sc _
  · exact h.elim

end Go.AW
