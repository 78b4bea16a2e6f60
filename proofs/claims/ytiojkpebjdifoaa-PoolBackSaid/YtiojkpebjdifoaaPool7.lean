/- Package pool: Blob; the reference's Blob; PoolBlob as a walk. -/
import Derived.Test.YtiojkpebjdifoaaPool5
import Derived.Test.YtiojkpebjdifoaaRef1b
set_option linter.unusedSimpArgs false
set_option linter.unusedVariables false
set_option maxRecDepth 100000
set_option maxHeartbeats 3200000
namespace Go.Proofs.Ytiojkpebjdifoaa
open Go Go.AW

theorem upk_facts (b : List UInt8) (x k e : Int) (h : upk b = (x, k, e)) : 0 ≤ e ∧ e ≤ 2 ∧ (e = 0 → 1 ≤ k ∧ k ≤ 4 ∧ k ≤ b.length ∧ 0 ≤ x ∧ x ≤ 536870911) := by
  unfold upk at h
  split at h
  · cases h; simp
  · rename_i c r
    simp only at h
    split at h
    · cases h; simp
    · rename_i h0
      split at h
      · cases h; simp
      · rename_i h1
        split at h
        · rename_i h2
          simp only [Prod.mk.injEq] at h
          obtain ⟨rfl, rfl, rfl⟩ := h
          refine ⟨by omega, by omega, fun _ => ?_⟩
          have hk : wantsI c.toNat = 1 ∨ wantsI c.toNat = 2 ∨ wantsI c.toNat = 4 := by
            unfold wantsI at h0 ⊢
            split
            · simp
            · split
              · simp
              · split
                · simp
                · rename_i a b d; simp [a, b, d] at h0
          have hm : 0 < maskI (wantsI c.toNat) + 1 ∧ maskI (wantsI c.toNat) + 1 ≤ 536870912 := by
            rcases hk with h | h | h <;> rw [h] <;> simp [maskI]
          have m1 := Int.emod_nonneg (beN ((c :: r).take (wantsI c.toNat).toNat)) (show maskI (wantsI c.toNat) + 1 ≠ 0 by omega)
          have m2 := Int.emod_lt_of_pos (beN ((c :: r).take (wantsI c.toNat).toNat)) hm.1
          refine ⟨?_, ?_, ?_, m1, by omega⟩
          · rcases hk with h | h | h <;> omega
          · rcases hk with h | h | h <;> omega
          · omega
        · cases h; simp

def blobS (b : List UInt8) (at' : Int) : List UInt8 × Int :=
  if at' < 0 ∨ b.length ≤ at' then ([], 3) else
  if (upk (b.drop at'.toNat)).2.2 ≠ 0 then ([], (upk (b.drop at'.toNat)).2.2) else
  if (b.length : Int) - at' - (upk (b.drop at'.toNat)).2.1 < (upk (b.drop at'.toNat)).1 then ([], 1) else
  (((b.drop at'.toNat).take ((upk (b.drop at'.toNat)).2.1 + (upk (b.drop at'.toNat)).1).toNat).drop (upk (b.drop at'.toNat)).2.1.toNat, 0)

theorem blob_ok (b : List UInt8) (nl : Bool) (o : Own) (at' : Int) (hn : nl = true → b = []) (hl : b.length ≤ 140737488355328) (σ : AS) :
    ACalls Try.prog 43 [.lst 5 (b.map u8) o nl, .sc (.int .i64 at')] σ (Gives (.tup [.lst 5 ((blobS b at').1.map u8) .unk (decide ((blobS b at').2 ≠ 0)), .sc (.int .i64 (blobS b at').2)]) σ) No := by
  refine ACalls.of_body Try.func43 rfl rfl (by simp [Try.ntmps43]) ?_
  by_cases c1 : at' < 0
  · have hS : blobS b at' = ([], 3) := by simp [blobS, c1]
    rw [hS]
    repeat (first
      | (with_reducible apply AWp.seq)
      | (with_reducible apply AWp.block)
      | ((with_reducible apply AWp.fork); simp -implicitDefEqProofs [c1])
      | ((with_reducible apply AWp.region); simp -implicitDefEqProofs [c1])
      | (with_reducible refine And.intro (by first | omega | assumption | decide) ?_)
      | ((with_reducible show condK _ _ _); simp -implicitDefEqProofs [c1])
      | ((with_reducible show guardK _ _ _ _ _ _ _ _ _); simp -implicitDefEqProofs [c1])
      | ((with_reducible apply AWp.ret); try simp -implicitDefEqProofs [c1])
      | ((with_reducible apply AWp.skip); try simp -implicitDefEqProofs [c1])
      | ((with_reducible apply AWp.exit); try simp -implicitDefEqProofs [c1]))
    try exact Wk_tup2 (by simp) (by simp)
  · by_cases c2 : b.length ≤ at'
    · have hS : blobS b at' = ([], 3) := by simp [blobS, c2]
      rw [hS]
      repeat (first
        | (with_reducible apply AWp.seq)
        | (with_reducible apply AWp.block)
        | ((with_reducible apply AWp.fork); simp -implicitDefEqProofs [c1, c2])
        | ((with_reducible apply AWp.region); simp -implicitDefEqProofs [c1, c2])
        | (with_reducible refine And.intro (by first | omega | assumption | decide) ?_)
        | ((with_reducible show condK _ _ _); simp -implicitDefEqProofs [c1, c2])
        | ((with_reducible show guardK _ _ _ _ _ _ _ _ _); simp -implicitDefEqProofs [c1, c2])
        | ((with_reducible apply AWp.ret); try simp -implicitDefEqProofs [c1, c2])
        | ((with_reducible apply AWp.skip); try simp -implicitDefEqProofs [c1, c2])
        | ((with_reducible apply AWp.exit); try simp -implicitDefEqProofs [c1, c2]))
      try exact Wk_tup2 (by simp) (by simp)
    · have hnl : nl = false := by
        cases nl with
        | false => rfl
        | true => have := hn rfl; subst this; simp at c2; omega
      subst hnl
      have h0 : 0 ≤ at' := by omega
      have h1 : at'.toNat ≤ b.length := by omega
      have hT : (b.map u8).take b.length = b.map u8 := List.take_of_length_le (by simp)
      obtain ⟨⟨x, k, e⟩, hu⟩ : ∃ t, upk (b.drop at'.toNat) = t := ⟨_, rfl⟩
      obtain ⟨f1, f2, f3⟩ := upk_facts _ _ _ _ hu
      have hS : blobS b at' = if e ≠ 0 then ([], e) else if (b.length : Int) - at' - k < x then ([], 1) else (((b.drop at'.toNat).take (k + x).toNat).drop k.toNat, 0) := by simp [blobS, c1, c2, hu]
      rw [hS]
      have hLl : ((b.drop at'.toNat).length : Int) = b.length - at' := by simp; omega
      have hnew := fun o σ => new_ok (b.drop at'.toNat) o false (by simp) (by simp; omega) σ
      have hpk := fun id σ h => packed_ok id (b.drop at'.toNat) 0 false σ (by simp) h (by omega) (by omega) (by simp; omega) x k e (by simpa using hu)
      simp only [List.map_drop] at hnew
      repeat (first
        | (with_reducible apply AWp.seq)
        | (with_reducible apply AWp.block)
        | ((with_reducible apply AWp.fork); simp -implicitDefEqProofs [c1, c2, h0, h1, hT])
        | ((with_reducible apply AWp.region); simp -implicitDefEqProofs [c1, c2, h0, h1, hT])
        | (with_reducible refine And.intro (by first | omega | assumption | decide) ?_)
        | ((with_reducible show condK _ _ _); simp -implicitDefEqProofs [c1, c2, h0, h1, hT])
        | ((with_reducible show guardK _ _ _ _ _ _ _ _ _); simp -implicitDefEqProofs [c1, c2, h0, h1, hT])
        | ((with_reducible apply AWp.ret); try simp -implicitDefEqProofs [c1, c2, h0, h1, hT])
        | ((with_reducible apply AWp.skip); try simp -implicitDefEqProofs [c1, c2, h0, h1, hT])
        | ((with_reducible apply AWp.exit); try simp -implicitDefEqProofs [c1, c2, h0, h1, hT]))
      refine aCall.of (hnew _ _) ?_ (fun _ _ h => h.elim)
      rintro r σ1 ⟨id, hid, rfl, rfl⟩
      generalize b.drop at'.toNat = L at hpk hLl hS f3 ⊢
      simp -implicitDefEqProofs
      by_cases he : e = 0
      · subst he
        obtain ⟨k1, k4, kl, x0, x9⟩ := f3 rfl
        simp only [if_true, Int.zero_add] at hpk
        by_cases hx : (b.length : Int) - at' - k < x
        · have htk := fun σ h => take_bad id L k x false σ h (by omega) (by omega) (by omega) (by simp [skipE]; split <;> (try split) <;> omega)
          have hE : skipE L k x = 1 := by unfold skipE; rw [if_neg (by omega), if_pos (by omega)]
          simp only [hE] at htk
          repeat (first
            | (with_reducible apply AWp.seq)
            | (with_reducible apply AWp.block)
            | ((with_reducible apply AWp.fork); simp -implicitDefEqProofs)
            | ((with_reducible apply AWp.region); simp -implicitDefEqProofs)
            | (with_reducible refine And.intro (by first | omega | assumption | decide) ?_)
            | ((with_reducible apply aCall.id); first
                | ((apply aCall.gives (hpk id _ (by simp))); simp -implicitDefEqProofs)
                | ((apply aCall.gives (htk _ (by simp))); simp -implicitDefEqProofs))
            | ((with_reducible apply AWp.ret); try simp -implicitDefEqProofs)
            | ((with_reducible apply AWp.skip); try simp -implicitDefEqProofs)
            | ((with_reducible apply AWp.exit); try simp -implicitDefEqProofs))
          try simp [hx]
          exact le_new hid (AS.le_refl _)
        · have htk := fun σ h => take_ok id L k x false σ (by simp) h (by omega) (by omega) (by omega) (by omega) (by omega)
          repeat (first
            | (with_reducible apply AWp.seq)
            | (with_reducible apply AWp.block)
            | ((with_reducible apply AWp.fork); simp -implicitDefEqProofs)
            | ((with_reducible apply AWp.region); simp -implicitDefEqProofs)
            | (with_reducible refine And.intro (by first | omega | assumption | decide) ?_)
            | ((with_reducible apply aCall.id); first
                | ((apply aCall.gives (hpk id _ (by simp))); simp -implicitDefEqProofs))
            | ((with_reducible apply AWp.ret); try simp -implicitDefEqProofs)
            | ((with_reducible apply AWp.skip); try simp -implicitDefEqProofs)
            | ((with_reducible apply AWp.exit); try simp -implicitDefEqProofs))
          refine aCall.of (htk _ (by simp)) ?_ (fun _ _ h => h.elim)
          rintro r σ2 ⟨tk, htk', rfl, rfl⟩
          simp -implicitDefEqProofs
          repeat (first
            | (with_reducible apply AWp.seq)
            | (with_reducible apply AWp.block)
            | ((with_reducible apply AWp.fork); simp -implicitDefEqProofs)
            | ((with_reducible apply AWp.region); simp -implicitDefEqProofs)
            | (with_reducible refine And.intro (by first | omega | assumption | decide) ?_)
            | ((with_reducible apply AWp.ret); try simp -implicitDefEqProofs)
            | ((with_reducible apply AWp.skip); try simp -implicitDefEqProofs)
            | ((with_reducible apply AWp.exit); try simp -implicitDefEqProofs))
          simp [hx, seg]
          simp at htk'
          exact le_new (by simp [htk']) (le_new hid (AS.le_refl _))
      · repeat (first
          | (with_reducible apply AWp.seq)
          | (with_reducible apply AWp.block)
          | ((with_reducible apply AWp.fork); simp -implicitDefEqProofs [he])
          | ((with_reducible apply AWp.region); simp -implicitDefEqProofs [he])
          | (with_reducible refine And.intro (by first | omega | assumption | decide) ?_)
          | ((with_reducible show condK _ _ _); simp -implicitDefEqProofs [he])
          | ((with_reducible show guardK _ _ _ _ _ _ _ _ _); simp -implicitDefEqProofs [he])
          | ((with_reducible apply aCall.id); first
              | ((apply aCall.gives (hpk id _ (by simp))); simp -implicitDefEqProofs [he]))
          | ((with_reducible apply AWp.ret); try simp -implicitDefEqProofs [he])
          | ((with_reducible apply AWp.skip); try simp -implicitDefEqProofs [he])
          | ((with_reducible apply AWp.exit); try simp -implicitDefEqProofs [he]))
        exact le_new hid (AS.le_refl _)

theorem rblob_ok (b : List UInt8) (nl : Bool) (o : Own) (at' : Int) (hn : nl = true → b = []) (hl : b.length ≤ 140737488355328) (σ : AS) :
    ACalls Try.prog 44 [.lst 5 (b.map u8) o nl, .sc (.int .i64 at')] σ (Gives (.tup [.lst 5 ((blobS b at').1.map u8) .unk (decide ((blobS b at').1 = [])), .sc (.int .i64 (blobS b at').2)]) σ) No := by
  refine ACalls.of_body Try.func44 rfl rfl (by simp [Try.ntmps44]) ?_
  by_cases c1 : at' < 0
  · have hS : blobS b at' = ([], 3) := by simp [blobS, c1]
    rw [hS]
    repeat (first
      | (with_reducible apply AWp.seq)
      | (with_reducible apply AWp.block)
      | ((with_reducible apply AWp.fork); simp -implicitDefEqProofs [c1])
      | ((with_reducible apply AWp.region); simp -implicitDefEqProofs [c1])
      | (with_reducible refine And.intro (by first | omega | assumption | decide) ?_)
      | ((with_reducible show condK _ _ _); simp -implicitDefEqProofs [c1])
      | ((with_reducible show guardK _ _ _ _ _ _ _ _ _); simp -implicitDefEqProofs [c1])
      | (((with_reducible apply AWp.drawS (id := 5) (t := (Sch.step 0 (Sch.step 2 (Sch.read 1 (Sch.step 3 Sch.done)))))); (exact mixed); kernel_rfl; kernel_rfl; (repeat (with_reducible first | apply PanQ.then | apply PanQ.block | apply PanQ.body))); simp -implicitDefEqProofs [c1])
      | ((with_reducible apply AWp.ret); try simp -implicitDefEqProofs [c1])
      | ((with_reducible apply AWp.skip); try simp -implicitDefEqProofs [c1])
      | ((with_reducible apply AWp.exit); try simp -implicitDefEqProofs [c1]))
  · by_cases c2 : b.length ≤ at'
    · have hS : blobS b at' = ([], 3) := by simp [blobS, c2]
      rw [hS]
      repeat (first
        | (with_reducible apply AWp.seq)
        | (with_reducible apply AWp.block)
        | ((with_reducible apply AWp.fork); simp -implicitDefEqProofs [c1, c2])
        | ((with_reducible apply AWp.region); simp -implicitDefEqProofs [c1, c2])
        | (with_reducible refine And.intro (by first | omega | assumption | decide) ?_)
        | ((with_reducible show condK _ _ _); simp -implicitDefEqProofs [c1, c2])
        | ((with_reducible show guardK _ _ _ _ _ _ _ _ _); simp -implicitDefEqProofs [c1, c2])
        | (((with_reducible apply AWp.drawS (id := 5) (t := (Sch.step 0 (Sch.step 2 (Sch.read 1 (Sch.step 3 Sch.done)))))); (exact mixed); kernel_rfl; kernel_rfl; (repeat (with_reducible first | apply PanQ.then | apply PanQ.block | apply PanQ.body))); simp -implicitDefEqProofs [c1, c2])
        | ((with_reducible apply AWp.ret); try simp -implicitDefEqProofs [c1, c2])
        | ((with_reducible apply AWp.skip); try simp -implicitDefEqProofs [c1, c2])
        | ((with_reducible apply AWp.exit); try simp -implicitDefEqProofs [c1, c2]))
    · have h0 : 0 ≤ at' := by omega
      have h1 : at'.toNat ≤ b.length := by omega
      obtain ⟨⟨x, k, e⟩, hu⟩ : ∃ t, upk (b.drop at'.toNat) = t := ⟨_, rfl⟩
      obtain ⟨f1, f2, f3⟩ := upk_facts _ _ _ _ hu
      have hLl : ((b.drop at'.toNat).length : Int) = b.length - at' := by simp; omega
      have hS : blobS b at' = if e ≠ 0 then ([], e) else if (b.length : Int) - at' - k < x then ([], 1) else (((b.drop at'.toNat).take (k + x).toNat).drop k.toNat, 0) := by simp [blobS, c1, c2, hu]
      rw [hS]
      have hup := fun σ => runpack_ok b o nl at' h0 hl (by omega) x k e hu σ
      repeat (first
        | (with_reducible apply AWp.seq)
        | (with_reducible apply AWp.block)
        | ((with_reducible apply AWp.fork); simp -implicitDefEqProofs [c1, c2, h0, h1])
        | ((with_reducible apply AWp.region); simp -implicitDefEqProofs [c1, c2, h0, h1])
        | (with_reducible refine And.intro (by first | omega | assumption | decide) ?_)
        | ((with_reducible show condK _ _ _); simp -implicitDefEqProofs [c1, c2, h0, h1])
        | ((with_reducible show guardK _ _ _ _ _ _ _ _ _); simp -implicitDefEqProofs [c1, c2, h0, h1])
        | (((with_reducible apply AWp.drawS (id := 5) (t := (Sch.step 0 (Sch.step 2 (Sch.read 1 (Sch.step 3 Sch.done)))))); (exact mixed); kernel_rfl; kernel_rfl; (repeat (with_reducible first | apply PanQ.then | apply PanQ.block | apply PanQ.body))); simp -implicitDefEqProofs [c1, c2, h0, h1])
        | ((with_reducible apply aCall.id); first
            | ((apply aCall.gives (hup _)); simp -implicitDefEqProofs [c1, c2, h0, h1]))
        | ((with_reducible apply AWp.ret); try simp -implicitDefEqProofs [c1, c2, h0, h1])
        | ((with_reducible apply AWp.skip); try simp -implicitDefEqProofs [c1, c2, h0, h1])
        | ((with_reducible apply AWp.exit); try simp -implicitDefEqProofs [c1, c2, h0, h1]))
      intro id h_id
      by_cases he : e = 0
      · subst he
        obtain ⟨k1, k4, kl, x0, x9⟩ := f3 rfl
        have w1 : IntKind.i64.wrap ((b.length : Int) - at') = b.length - at' := in_i64 (by omega) (by omega)
        have w2 : IntKind.i64.wrap ((b.length : Int) - at' - k) = b.length - at' - k := in_i64 (by omega) (by omega)
        have w3 : IntKind.i64.wrap (at' + k) = at' + k := in_i64 (by omega) (by omega)
        have w4 : IntKind.i64.wrap (at' + k + x) = at' + k + x := in_i64 (by omega) (by omega)
        by_cases hx : (b.length : Int) - at' - k < x
        · repeat (first
            | (with_reducible apply AWp.seq)
            | (with_reducible apply AWp.block)
            | ((with_reducible apply AWp.fork); simp -implicitDefEqProofs [w1, w2, hx])
            | ((with_reducible apply AWp.region); simp -implicitDefEqProofs [w1, w2, hx])
            | (with_reducible refine And.intro (by first | omega | assumption | decide) ?_)
            | ((with_reducible show condK _ _ _); simp -implicitDefEqProofs [w1, w2, hx])
            | ((with_reducible show guardK _ _ _ _ _ _ _ _ _); simp -implicitDefEqProofs [w1, w2, hx])
            | (((with_reducible apply AWp.drawS (id := 5) (t := (Sch.step 0 (Sch.step 2 (Sch.read 1 (Sch.step 3 Sch.done)))))); (exact mixed); kernel_rfl; kernel_rfl; (repeat (with_reducible first | apply PanQ.then | apply PanQ.block | apply PanQ.body))); simp -implicitDefEqProofs [w1, w2, hx])
            | ((with_reducible apply AWp.ret); try simp -implicitDefEqProofs [w1, w2, hx])
            | ((with_reducible apply AWp.skip); try simp -implicitDefEqProofs [w1, w2, hx])
            | ((with_reducible apply AWp.exit); try simp -implicitDefEqProofs [w1, w2, hx]))
          try simp [hx]
          all_goals (repeat (first | exact AS.le_refl _ | refine le_new (by simp [*]) ?_))
        · have g1 : (at' + k + x).toNat ≤ b.length := by omega
          have g2 : 0 ≤ at' + k + x := by omega
          have g3 : 0 ≤ at' + k := by omega
          have g4 : (at' + k).toNat ≤ (at' + k + x).toNat := by omega
          have hs : (b.take (at' + k + x).toNat).drop (at' + k).toNat = ((b.drop at'.toNat).take (k + x).toNat).drop k.toNat := by
            rw [List.drop_take, List.drop_take, List.drop_drop]
            congr 1
            · omega
            · congr 1; omega
          have hs2 : ((b.map u8).take (at' + k + x).toNat).drop (at' + k).toNat = (((b.drop at'.toNat).take (k + x).toNat).drop k.toNat).map u8 := by
            rw [← hs]; simp [List.map_drop, List.map_take]
          have hlen : (((b.drop at'.toNat).take (k + x).toNat).drop k.toNat).length ≤ 140737488355328 := by simp; omega
          generalize ((b.drop at'.toNat).take (k + x).toNat).drop k.toNat = S at hs2 hlen ⊢
          repeat (first
            | (with_reducible apply AWp.seq)
            | (with_reducible apply AWp.block)
            | ((with_reducible apply AWp.fork); simp -implicitDefEqProofs [w1, w2, w3, w4, hx, g1, g2, g3, g4, hs2])
            | ((with_reducible apply AWp.region); simp -implicitDefEqProofs [w1, w2, w3, w4, hx, g1, g2, g3, g4, hs2])
            | (with_reducible refine And.intro (by first | omega | assumption | decide) ?_)
            | ((with_reducible show condK _ _ _); simp -implicitDefEqProofs [w1, w2, w3, w4, hx, g1, g2, g3, g4, hs2])
            | ((with_reducible show guardK _ _ _ _ _ _ _ _ _); simp -implicitDefEqProofs [w1, w2, w3, w4, hx, g1, g2, g3, g4, hs2])
            | (((with_reducible apply AWp.drawS (id := 5) (t := (Sch.step 0 (Sch.step 2 (Sch.read 1 (Sch.step 3 Sch.done)))))); (exact mixed); kernel_rfl; kernel_rfl; (repeat (with_reducible first | apply PanQ.then | apply PanQ.block | apply PanQ.body))); simp -implicitDefEqProofs [w1, w2, w3, w4, hx, g1, g2, g3, g4, hs2])
            | ((with_reducible apply AWp.ret); try simp -implicitDefEqProofs [w1, w2, w3, w4, hx, g1, g2, g3, g4, hs2])
            | ((with_reducible apply AWp.skip); try simp -implicitDefEqProofs [w1, w2, w3, w4, hx, g1, g2, g3, g4, hs2])
            | ((with_reducible apply AWp.exit); try simp -implicitDefEqProofs [w1, w2, w3, w4, hx, g1, g2, g3, g4, hs2]))
          intro tk n_tk_id h_tk
          have n_id_tk : ¬ id = tk := fun e => n_tk_id e.symm
          repeat (first
            | (with_reducible apply AWp.seq)
            | (with_reducible apply AWp.block)
            | ((with_reducible apply AWp.fork); simp -implicitDefEqProofs [n_tk_id, n_id_tk])
            | ((with_reducible apply AWp.region); simp -implicitDefEqProofs [n_tk_id, n_id_tk])
            | (with_reducible refine And.intro (by first | omega | assumption | decide) ?_)
            | ((with_reducible show condK _ _ _); simp -implicitDefEqProofs [n_tk_id, n_id_tk])
            | ((with_reducible show guardK _ _ _ _ _ _ _ _ _); simp -implicitDefEqProofs [n_tk_id, n_id_tk])
            | (((with_reducible apply AWp.drawS (id := 5) (t := (Sch.step 0 (Sch.step 2 (Sch.read 1 (Sch.step 3 Sch.done)))))); (exact mixed); kernel_rfl; kernel_rfl; (repeat (with_reducible first | apply PanQ.then | apply PanQ.block | apply PanQ.body))); simp -implicitDefEqProofs [n_tk_id, n_id_tk])
            | ((with_reducible apply AWp.ret); try simp -implicitDefEqProofs [n_tk_id, n_id_tk])
            | ((with_reducible apply AWp.skip); try simp -implicitDefEqProofs [n_tk_id, n_id_tk])
            | ((with_reducible apply AWp.exit); try simp -implicitDefEqProofs [n_tk_id, n_id_tk]))
          try simp [hx]
          refine ⟨?_, ?_⟩
          · cases S <;> simp
          · all_goals (repeat (first | exact AS.le_refl _ | refine le_new (by simp [*]) ?_))
      · repeat (first
          | (with_reducible apply AWp.seq)
          | (with_reducible apply AWp.block)
          | ((with_reducible apply AWp.fork); simp -implicitDefEqProofs [he])
          | ((with_reducible apply AWp.region); simp -implicitDefEqProofs [he])
          | (with_reducible refine And.intro (by first | omega | assumption | decide) ?_)
          | ((with_reducible show condK _ _ _); simp -implicitDefEqProofs [he])
          | ((with_reducible show guardK _ _ _ _ _ _ _ _ _); simp -implicitDefEqProofs [he])
          | (((with_reducible apply AWp.drawS (id := 5) (t := (Sch.step 0 (Sch.step 2 (Sch.read 1 (Sch.step 3 Sch.done)))))); (exact mixed); kernel_rfl; kernel_rfl; (repeat (with_reducible first | apply PanQ.then | apply PanQ.block | apply PanQ.body))); simp -implicitDefEqProofs [he])
          | ((with_reducible apply AWp.ret); try simp -implicitDefEqProofs [he])
          | ((with_reducible apply AWp.skip); try simp -implicitDefEqProofs [he])
          | ((with_reducible apply AWp.exit); try simp -implicitDefEqProofs [he]))
        all_goals (repeat (first | exact AS.le_refl _ | refine le_new (by simp [*]) ?_))

theorem poolBlob_ok (b : List UInt8) (nl : Bool) (at' : Int) (hn : nl = true → b = []) (hl : b.length ≤ 140737488355328) :
    ACalls Try.prog 11 [.lst 5 (b.map u8) .unk nl, .sc (.int .i64 at')] noAS IsTrue No := by
  have h1 := fun o σ => blob_ok b false o at' (by simp) hl σ
  have h2 := fun o σ => rblob_ok b nl o at' hn hl σ
  have hr : (blobS b at').1.length ≤ 140737488355328 := by
    unfold blobS
    split
    · simp
    · split
      · simp
      · split
        · simp
        · simp; omega
  generalize blobS b at' = r at h1 h2 hr
  obtain ⟨r1, r2⟩ := r
  simp only at h1 h2 hr
  have h3 := fun n1 n2 σ => same_ok r1 r1 .unk .unk n1 n2 hr σ
  refine ACalls.of_body Try.func11 rfl rfl (by simp [Try.ntmps11]) ?_
  by_cases c1 : b.length ≤ 2000
  · have c1' : (2000 < (b.length : Int)) = False := by simp; omega
    repeat (first
      | (with_reducible apply AWp.seq)
      | (with_reducible apply AWp.block)
      | ((with_reducible apply AWp.fork); simp -implicitDefEqProofs [c1'])
      | ((with_reducible apply AWp.region); simp -implicitDefEqProofs [c1'])
      | (with_reducible refine And.intro (by first | omega | assumption | decide) ?_)
      | ((with_reducible show condK _ _ _); simp -implicitDefEqProofs [c1'])
      | ((with_reducible show guardK _ _ _ _ _ _ _ _ _); simp -implicitDefEqProofs [c1'])
      | ((with_reducible apply aCall.id); first
          | ((apply aCall.gives (pwakes_ok _)); simp -implicitDefEqProofs [c1']))
      | ((with_reducible apply AWp.ret); try simp -implicitDefEqProofs [c1'])
      | ((with_reducible apply AWp.skip); try simp -implicitDefEqProofs [c1'])
      | ((with_reducible apply AWp.exit); try simp -implicitDefEqProofs [c1']))
    intro tk h_tk
    repeat (first
      | (with_reducible apply AWp.seq)
      | (with_reducible apply AWp.block)
      | ((with_reducible apply AWp.fork); simp -implicitDefEqProofs [c1'])
      | ((with_reducible apply AWp.region); simp -implicitDefEqProofs [c1'])
      | (with_reducible refine And.intro (by first | omega | assumption | decide) ?_)
      | ((with_reducible show condK _ _ _); simp -implicitDefEqProofs [c1'])
      | ((with_reducible show guardK _ _ _ _ _ _ _ _ _); simp -implicitDefEqProofs [c1'])
      | ((with_reducible apply aCall.id); first
          | ((apply aCall.gives (h1 _ _)); simp -implicitDefEqProofs [c1'])
          | ((apply aCall.gives (h2 _ _)); simp -implicitDefEqProofs [c1'])
          | ((apply aCall.gives (h3 _ _ _)); simp -implicitDefEqProofs [c1']))
      | ((with_reducible apply AWp.ret); try simp -implicitDefEqProofs [c1'])
      | ((with_reducible apply AWp.skip); try simp -implicitDefEqProofs [c1'])
      | ((with_reducible apply AWp.exit); try simp -implicitDefEqProofs [c1']))
  · have c1' : (2000 < (b.length : Int)) = True := by simp; omega
    repeat (first
      | (with_reducible apply AWp.seq)
      | (with_reducible apply AWp.block)
      | ((with_reducible apply AWp.fork); simp -implicitDefEqProofs [c1'])
      | ((with_reducible apply AWp.region); simp -implicitDefEqProofs [c1'])
      | (with_reducible refine And.intro (by first | omega | assumption | decide) ?_)
      | ((with_reducible show condK _ _ _); simp -implicitDefEqProofs [c1'])
      | ((with_reducible show guardK _ _ _ _ _ _ _ _ _); simp -implicitDefEqProofs [c1'])
      | ((with_reducible apply aCall.id); first
          | ((apply aCall.gives (pwakes_ok _)); simp -implicitDefEqProofs [c1']))
      | ((with_reducible apply AWp.ret); try simp -implicitDefEqProofs [c1'])
      | ((with_reducible apply AWp.skip); try simp -implicitDefEqProofs [c1'])
      | ((with_reducible apply AWp.exit); try simp -implicitDefEqProofs [c1']))

end Go.Proofs.Ytiojkpebjdifoaa
