/- Package sigs: PutLocals. -/
import Derived.Test.YtplphldpkliakaaSigA
set_option linter.unusedSimpArgs false
set_option linter.unusedVariables false
set_option maxRecDepth 100000
set_option maxHeartbeats 3200000
namespace Go.Proofs.Ytplphldpkliakaa
namespace Sg
open Go Go.AW

/-- A heap without one block. -/
def del (τ : AS) (i : Nat) : AS := fun j => if j = i then none else τ j
theorem del_set {τ : AS} {i : Nat} {x : ABlk} (h : τ i = some x) : (del τ i).set i x = τ := by
  funext j
  by_cases e : j = i
  · subst e; simp [AS.set, h]
  · simp [AS.set, del, e]
theorem le_del {σ τ : AS} {i : Nat} (h : AS.le σ τ) (h0 : σ i = none) : AS.le σ (del τ i) := by
  intro j y hy
  by_cases e : j = i
  · subst e; rw [h0] at hy; cases hy
  · simp [del, e]; exact h _ _ hy
theorem del_le {τ : AS} {i : Nat} : AS.le (del τ i) τ := by
  intro j y hy
  unfold del at hy
  split at hy
  · cases hy
  · exact hy
theorem pt_ {l : List UInt8} {tk : Nat} {nl : Bool} {t : Ty} {τ : AS} {K Kp : AV → AS → Prop} (hnl : nl = true → l = []) (hl : l.length ≤ 1000) (ht : plainT t = true) (h : τ tk = some (.tok l.length))
    (hk : ∀ tk', (del τ tk) tk' = none → K (.lst 5 ((l ++ tyB t).map u8) (.tok tk') false) ((del τ tk).set tk' (.tok (l ++ tyB t).length))) :
    aCall Try.prog (.sc (.func (.func 45) #[] #[])) [.lst 5 (l.map u8) (.tok tk) nl, .agg [.sc (.int .i64 t.kind), .sc (.int .i64 t.index), .sc (.int .i64 t.dims), .sc (.bool t.ref)]] τ K Kp := by
  have hp := put_tok l tk nl hnl hl t ht (del τ tk) (by simp [del])
  rw [del_set h] at hp
  exact .of hp (fun r σ' ⟨tk', h1, h2, h3⟩ => by subst h2; subst h3; exact hk tk' h1) (fun _ _ h => h.elim)

def preB (c : UInt8) (l : List Ty) (i : Nat) : List UInt8 := c :: (packL l.length ++ (l.take i).flatMap tyB)
theorem preB_next (c : UInt8) (l : List Ty) {i : Nat} (h : i < l.length) : preB c l (i + 1) = preB c l i ++ tyB l[i] := by
  unfold preB
  rw [List.take_succ_eq_append_getElem h, List.flatMap_append]
  simp only [List.flatMap_cons, List.flatMap_nil, List.append_nil, List.cons_append, List.append_assoc]
theorem packL_len (n : Nat) (h : n ≤ 12) : packL n = [UInt8.ofNat n] := by
  have : ∀ k : Fin 13, packL ((k : Nat) : Int) = [UInt8.ofNat k] := by decide
  exact this ⟨n, by omega⟩
theorem tyB_len {t : Ty} (h : plainT t = true) : (tyB t).length ≤ 10 := by
  obtain ⟨d0, d3, x0, hk⟩ := plain_cases h
  have hb : ∀ x, (packL x).length ≤ 4 := by
    intro x
    simp only [packL, beL_length, sizeI]
    split <;> (try split) <;> (try split) <;> simp
  have h1 := hb (4 * (t.index + 1))
  have h2 := hb t.index
  have h3 : t.dims.toNat ≤ 3 := by omega
  have hkd : (kdB t).length ≤ 5 := by
    unfold kdB
    repeat' split
    all_goals simp <;> omega
  unfold tyB
  split <;> simp <;> omega
theorem preB_len (c : UInt8) (l : List Ty) (h : l.length ≤ 12) (hp : ∀ t ∈ l, plainT t = true) (i : Nat) (hi : i ≤ l.length) : (preB c l i).length ≤ 5 + 10 * i := by
  induction i with
  | zero => unfold preB; rw [packL_len _ h]; simp
  | succ i ih =>
    rw [preB_next c l (by omega), List.length_append]
    have := ih (by omega)
    have := tyB_len (hp l[i] (List.getElem_mem (by omega)))
    omega
theorem preB_lc (l : List Ty) (h : l.length ≤ 12) : preB 7 l l.length = lcB l := by
  unfold preB lcB lsB
  rw [packL_len _ h, List.take_length]; rfl

theorem PutLocals_ok (l : List Ty) (o : Own) (nl : Bool) (hl : l.length ≤ 12) (hp : l.all localT = true) (σ : AS) : ACalls Try.prog 27 [.lst 24 (l.map tyV) o nl] σ
    (Owns (fun tk => .tup [.lst 5 ((lcB l).map u8) (.tok tk) false, .sc (.int .i64 0)]) (lcB l).length σ) No := by
  have ha := fun σ => all_ok l o nl (by omega) σ
  rw [hp] at ha
  have hpl : ∀ t ∈ l, plainT t = true := by
    intro t h
    have := List.all_eq_true.1 hp t h
    unfold localT at this
    simp at this
    exact this.1
  have hk := fun σ => pack_ok [7] .full false (by simp) (by simp) (l.length : Int) (by omega) (by omega) σ
  have hz : [7] ++ packL l.length = preB 7 l 0 := by simp [preB]
  rw [hz] at hk
  simp at hk
  have h12 : ((12 : Int) < l.length) = False := by simp; omega
  have hL := preB_len 7 l hl hpl
  rw [← preB_lc l hl]
  refine ACalls.of_body Try.func27 rfl rfl (by simp [Try.ntmps27]) ?_
  repeat (first
    | (with_reducible first | apply AWp.seq | apply AWp.block | refine And.intro (by first | omega | assumption | decide) ?_)
    | ((first | (with_reducible first | apply AWp.fork | apply AWp.region | show condK _ _ _ | show guardK _ _ _ _ _ _ _ _ _) | ((with_reducible apply aCall.id); first | apply aCall.gives (ha _) | apply aCall.owns (hk _))); simp -implicitDefEqProofs [h12, ci_lt, ci_le])
    | ((with_reducible first | apply AWp.ret | apply AWp.skip | apply AWp.exit); try simp -implicitDefEqProofs [h12, ci_lt, ci_le]))
  intro tk0 h_tk0
  repeat (first
    | (with_reducible first | apply AWp.seq | apply AWp.block | refine And.intro (by first | omega | assumption | decide) ?_)
    | ((first | (with_reducible first | apply AWp.fork | apply AWp.region | show condK _ _ _ | show guardK _ _ _ _ _ _ _ _ _)); simp -implicitDefEqProofs [ci_lt, ci_le])
    | ((with_reducible first | apply AWp.ret | apply AWp.skip | apply AWp.exit); try simp -implicitDefEqProofs [ci_lt, ci_le]))
  refine AWp.loopA (α := (Nat) × (Nat)) ((0, tk0)) (fun ⟨i, tk⟩ => l.length - i) (fun ⟨i, tk⟩ => i ≤ l.length ∧ σ tk = none) [(2, ?_), (3, ?_), (23, ?_), (24, ?_)] (fun ⟨i, tk⟩ => [(25, .sc (.int .i64 i)), (4, .lst 5 ((preB 7 l i).map u8) (.tok tk) false)]) (fun ⟨i, tk⟩ => σ.set tk (.tok (preB 7 l i).length)) ?_ ?_ ?_ ?_
  rotate_left 4
  · (try dsimp only); (simp only [List.cons_append, List.nil_append]; repeat (first | exact FrWk.nil | refine FrWk.cons (by first | (simp -implicitDefEqProofs [ci_lt, ci_le]; done) | exact Wk.of (by (try simp -implicitDefEqProofs [ci_lt, ci_le]) <;> rfl)) ?_))
  · (try dsimp only); (simp; done)
  · exact ⟨by omega, h_tk0⟩
  intro x_ hx_
  obtain ⟨i, tk⟩ := x_
  try dsimp only at hx_ ⊢
  obtain ⟨hi, h_tk⟩ := hx_
  simp only [List.cons_append, List.nil_append]
  by_cases hlt : i < l.length
  · have wi_i : IntKind.i64.wrap ((i : Int) + 1) = ((i + 1 : Nat) : Int) := ci_wi (by omega)
    have hLi := hL i hi
    have hpi := hpl l[i] (List.getElem_mem hlt)
    repeat (first
      | (with_reducible first | apply AWp.seq | apply AWp.block | refine And.intro (by first | omega | assumption | decide) ?_)
      | ((first | (with_reducible first | apply AWp.fork | apply AWp.region | show condK _ _ _ | show guardK _ _ _ _ _ _ _ _ _)); simp -implicitDefEqProofs [hlt, tyV_def, ci_lt, ci_le, wi_i])
      | ((with_reducible first | apply AWp.ret | apply AWp.skip | apply AWp.exit); try simp -implicitDefEqProofs [hlt, tyV_def, ci_lt, ci_le, wi_i]))
    intro id n_id_tk h_id
    have n_tk_id : ¬ tk = id := fun e => n_id_tk e.symm
    repeat (first
      | (with_reducible first | apply AWp.seq | apply AWp.block | refine And.intro (by first | omega | assumption | decide) ?_)
      | ((first | (with_reducible first | apply AWp.fork | apply AWp.region | show condK _ _ _ | show guardK _ _ _ _ _ _ _ _ _) | ((with_reducible apply aCall.id); first | apply (pt_ (l := preB 7 l i) (t := l[i]) (by simp) (by omega) hpi (by simp [n_tk_id])))); simp -implicitDefEqProofs [hlt, tyV_def, ci_lt, ci_le, wi_i, n_id_tk, n_tk_id])
      | ((with_reducible first | apply AWp.ret | apply AWp.skip | apply AWp.exit); try simp -implicitDefEqProofs [hlt, tyV_def, ci_lt, ci_le, wi_i, n_id_tk, n_tk_id]))
    intro tk' h_tk'
    have hf : σ tk' = none := by
      by_cases e1 : tk' = tk
      · rw [e1]; exact h_tk
      · by_cases e2 : tk' = id
        · rw [e2]; exact h_id
        · simpa [del, AS.set, e1, e2] using h_tk'
    have hle : ∀ x y, AS.le σ (del ((σ.set tk x).set id y) tk) := fun x y => le_del (AS.le_set (AS.le_set (AS.le_refl _) h_tk) (by simp [n_id_tk, h_id])) h_tk
    have hE := preB_next 7 l hlt
    have hE1 : (preB 7 l (i + 1)).map u8 = (preB 7 l i).map u8 ++ (tyB l[i]).map u8 := by rw [hE, List.map_append]
    have hE2 : (preB 7 l (i + 1)).length = (preB 7 l i).length + (tyB l[i]).length := by rw [hE, List.length_append]
    repeat (first
      | (with_reducible first | apply AWp.seq | apply AWp.block | refine And.intro (by first | omega | assumption | decide) ?_)
      | ((first | (with_reducible first | apply AWp.fork | apply AWp.region | show condK _ _ _ | show guardK _ _ _ _ _ _ _ _ _)); simp -implicitDefEqProofs [ci_lt, ci_le, wi_i, n_id_tk, n_tk_id])
      | ((with_reducible first | apply AWp.ret | apply AWp.skip | apply AWp.exit); try simp -implicitDefEqProofs [ci_lt, ci_le, wi_i, n_id_tk, n_tk_id]))
    refine stepA.mk ((i + 1, tk')) (by (try dsimp only); omega) (by (try dsimp only); (simp only [List.cons_append, List.nil_append]; repeat (first | exact FrWk.nil | refine FrWk.cons (by first | (simp -implicitDefEqProofs [hE1, hE2, ci_lt, ci_le, wi_i, n_id_tk, n_tk_id]; done) | exact Wk.of (by (try simp -implicitDefEqProofs [hE1, hE2, ci_lt, ci_le, wi_i, n_id_tk, n_tk_id]) <;> rfl)) ?_))) (by (try dsimp only); (first | (simp [hE1, hE2]; done) | (simp [hE2]; exact le_set (hle _ _)))) ?_
    try dsimp only
    exact ⟨hlt, hf⟩
  · have hil : i = l.length := by omega
    subst hil
    repeat (first
      | (with_reducible first | apply AWp.seq | apply AWp.block | refine And.intro (by first | omega | assumption | decide) ?_)
      | ((first | (with_reducible first | apply AWp.fork | apply AWp.region | show condK _ _ _ | show guardK _ _ _ _ _ _ _ _ _)); simp -implicitDefEqProofs [hlt, ci_lt, ci_le])
      | ((with_reducible first | apply AWp.ret | apply AWp.skip | apply AWp.exit); try simp -implicitDefEqProofs [hlt, ci_lt, ci_le]))
    exact owns_end tk h_tk (by simp) (AS.le_refl _)

theorem PutLocals_long (l : List Ty) (o : Own) (nl : Bool) (hl : 12 < l.length) (hl2 : l.length ≤ 140737488355328) (σ : AS) : ACalls Try.prog 27 [.lst 24 (l.map tyV) o nl] σ
    (Gives (.tup [.nilS, .sc (.int .i64 4)]) σ) No := by
  have h12 : ((12 : Int) < l.length) = True := by simp; omega
  refine ACalls.of_body Try.func27 rfl rfl (by simp [Try.ntmps27]) ?_
  repeat (first
    | (with_reducible first | apply AWp.seq | apply AWp.block | refine And.intro (by first | omega | assumption | decide) ?_)
    | ((first | (with_reducible first | apply AWp.fork | apply AWp.region | show condK _ _ _ | show guardK _ _ _ _ _ _ _ _ _)); simp -implicitDefEqProofs [h12])
    | ((with_reducible first | apply AWp.ret | apply AWp.skip | apply AWp.exit); try simp -implicitDefEqProofs [h12]))

theorem PutLocals_bad (l : List Ty) (o : Own) (nl : Bool) (hl : l.length ≤ 12) (hp : l.all localT = false) (σ : AS) : ACalls Try.prog 27 [.lst 24 (l.map tyV) o nl] σ
    (Gives (.tup [.nilS, .sc (.int .i64 17)]) σ) No := by
  have ha := fun σ => all_ok l o nl (by omega) σ
  rw [hp] at ha
  have h12 : ((12 : Int) < l.length) = False := by simp; omega
  refine ACalls.of_body Try.func27 rfl rfl (by simp [Try.ntmps27]) ?_
  repeat (first
    | (with_reducible first | apply AWp.seq | apply AWp.block | refine And.intro (by first | omega | assumption | decide) ?_)
    | ((first | (with_reducible first | apply AWp.fork | apply AWp.region | show condK _ _ _ | show guardK _ _ _ _ _ _ _ _ _) | ((with_reducible apply aCall.id); first | apply aCall.gives (ha _))); simp -implicitDefEqProofs [h12])
    | ((with_reducible first | apply AWp.ret | apply AWp.skip | apply AWp.exit); try simp -implicitDefEqProofs [h12]))

end Sg
end Go.Proofs.Ytplphldpkliakaa
