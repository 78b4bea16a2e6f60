/- Chapter 09: RegionsChain, RegionsWays, RegionsStay as walks. -/
import Derived.Test.YthbmjmdmamapiaaRegH
set_option linter.unusedSimpArgs false
set_option linter.unusedVariables false
set_option maxRecDepth 100000
set_option maxHeartbeats 3200000
namespace Go.Proofs.Ythbmjmdmamapiaa
open Go Go.AW

theorem regionsWays_ok (l : List Cl) (nl : Bool) (n x y : Int) (hl : l.length ≤ 140737488355328) :
    ACalls Try.prog 7 [clsV l .unk nl, .agg [.sc (.int .i64 n), .sc (.int .i64 x), .sc (.int .i64 y)]] noAS IsTrue No := by
  have hw := fun σ => wakes_ok σ
  have hm := fun σ => may_ok l .unk nl n x y hl σ
  cases hb : mayB n x y l with
  | false =>
    rw [hb] at hm
    simp only [clsV] at hm ⊢
    refine ACalls.of_body Try.func7 rfl rfl (by simp [Try.ntmps7]) ?_
    repeat (first
      | (with_reducible apply AWp.seq)
      | (with_reducible apply AWp.block)
      | ((with_reducible apply AWp.fork); simp -implicitDefEqProofs)
      | ((with_reducible apply AWp.region); simp -implicitDefEqProofs)
      | (with_reducible refine And.intro (by first | omega | assumption | decide) ?_)
      | (((with_reducible apply AWp.drawS (id := 5) (t := (Sch.step 0 (Sch.step 2 (Sch.step 4 (Sch.step 7 (Sch.step 9 (Sch.step 11 (Sch.pure 1 (Sch.read 3 (Sch.read 5 (Sch.pure 6 (Sch.pure 8 (Sch.read 10 (Sch.read 12 (Sch.pure 13 (Sch.step 14 (Sch.step 15 Sch.done)))))))))))))))))); (exact mixed); kernel_rfl; kernel_rfl; (repeat (with_reducible first | apply PanQ.then | apply PanQ.block | apply PanQ.body | apply PanQ.no))); simp -implicitDefEqProofs)
      | (((with_reducible apply AWp.drawS (id := 6) (t := (Sch.step 0 (Sch.step 1 (Sch.step 2 (Sch.step 4 (Sch.read 3 (Sch.read 5 (Sch.pure 6 (Sch.step 7 (Sch.step 8 (Sch.step 9 (Sch.step 10 (Sch.step 11 (Sch.step 13 (Sch.read 12 (Sch.read 14 (Sch.pure 15 (Sch.step 16 (Sch.step 17 (Sch.step 18 (Sch.step 19 (Sch.step 20 (Sch.step 21 (Sch.step 22 (Sch.step 23 (Sch.step 24 (Sch.step 25 (Sch.step 26 (Sch.step 28 (Sch.step 30 (Sch.step 33 (Sch.step 34 (Sch.step 36 (Sch.pure 27 (Sch.read 29 (Sch.read 31 (Sch.pure 32 (Sch.read 35 (Sch.read 37 (Sch.pure 38 (Sch.pure 39 (Sch.step 40 (Sch.step 41 Sch.done)))))))))))))))))))))))))))))))))))))))))))); (exact mixed); kernel_rfl; kernel_rfl; (repeat (with_reducible first | apply PanQ.then | apply PanQ.block | apply PanQ.body | apply PanQ.no))); simp -implicitDefEqProofs)
      | ((with_reducible apply AWp.ret); try simp -implicitDefEqProofs)
      | ((with_reducible apply AWp.skip); try simp -implicitDefEqProofs)
      | ((with_reducible apply AWp.exit); try simp -implicitDefEqProofs))
    intro id h_id
    repeat (first
      | (with_reducible apply AWp.seq)
      | (with_reducible apply AWp.block)
      | ((with_reducible apply AWp.fork); simp -implicitDefEqProofs)
      | ((with_reducible apply AWp.region); simp -implicitDefEqProofs)
      | (with_reducible refine And.intro (by first | omega | assumption | decide) ?_)
      | (((with_reducible apply AWp.drawS (id := 5) (t := (Sch.step 0 (Sch.step 2 (Sch.step 4 (Sch.step 7 (Sch.step 9 (Sch.step 11 (Sch.pure 1 (Sch.read 3 (Sch.read 5 (Sch.pure 6 (Sch.pure 8 (Sch.read 10 (Sch.read 12 (Sch.pure 13 (Sch.step 14 (Sch.step 15 Sch.done)))))))))))))))))); (exact mixed); kernel_rfl; kernel_rfl; (repeat (with_reducible first | apply PanQ.then | apply PanQ.block | apply PanQ.body | apply PanQ.no))); simp -implicitDefEqProofs)
      | (((with_reducible apply AWp.drawS (id := 6) (t := (Sch.step 0 (Sch.step 1 (Sch.step 2 (Sch.step 4 (Sch.read 3 (Sch.read 5 (Sch.pure 6 (Sch.step 7 (Sch.step 8 (Sch.step 9 (Sch.step 10 (Sch.step 11 (Sch.step 13 (Sch.read 12 (Sch.read 14 (Sch.pure 15 (Sch.step 16 (Sch.step 17 (Sch.step 18 (Sch.step 19 (Sch.step 20 (Sch.step 21 (Sch.step 22 (Sch.step 23 (Sch.step 24 (Sch.step 25 (Sch.step 26 (Sch.step 28 (Sch.step 30 (Sch.step 33 (Sch.step 34 (Sch.step 36 (Sch.pure 27 (Sch.read 29 (Sch.read 31 (Sch.pure 32 (Sch.read 35 (Sch.read 37 (Sch.pure 38 (Sch.pure 39 (Sch.step 40 (Sch.step 41 Sch.done)))))))))))))))))))))))))))))))))))))))))))); (exact mixed); kernel_rfl; kernel_rfl; (repeat (with_reducible first | apply PanQ.then | apply PanQ.block | apply PanQ.body | apply PanQ.no))); simp -implicitDefEqProofs)
      | ((with_reducible apply aCall.id); first
          | ((apply aCall.gives (hw _)); simp -implicitDefEqProofs)
          | ((apply aCall.gives (hm _)); simp -implicitDefEqProofs))
      | ((with_reducible apply pureCall.id); first
          | ((apply pureCall.gives (fun _ => hw _)); simp -implicitDefEqProofs)
          | ((apply pureCall.gives (fun _ => hm _)); simp -implicitDefEqProofs))
      | ((with_reducible apply AWp.ret); try simp -implicitDefEqProofs)
      | ((with_reducible apply AWp.skip); try simp -implicitDefEqProofs)
      | ((with_reducible apply AWp.exit); try simp -implicitDefEqProofs))
  | true =>
    rw [hb] at hm
    obtain ⟨m1, m2, m3, m4, m5, m6⟩ := may_iff hb
    have h6 := m2.1
    have hco := fun σ => copied_ok l .unk nl (by omega) σ
    have hp := fun σ => passW_ok l .unk false x y h6 σ
    have hq := fun σ => leaveW_ok l .unk false x y h6 σ
    have hp2 := fun σ => rPass_ok l .unk nl n x y m2 m1 σ
    have hq2 := fun σ => rLeave_ok l .unk nl n x y m2 m1 σ
    have hf := fun σ => finalsW_ok l .unk false x y (by omega) σ
    have hf2 := fun σ => rfinals_ok l .unk nl x y (by omega) σ
    have hll := hit_leave (l := l) (B := chainS l y) (A := chainS l x) (y := y)
    have hsl := some_len (f := fun c => finalS c x y) (l := l) (k := 0)
    generalize leaveS l (chainS l y) y (chainS l x) = b2 at *
    generalize hitB (chainS l y) y (chainS l x) = b1 at *
    generalize someS (fun c => finalS c x y) 0 l = L at *
    have hs := fun o1 o2 n1 n2 σ => sints9_ok L L o1 o2 n1 n2 (by omega) (by omega) σ
    simp only [clsV, intsV] at hm hco hp hq hp2 hq2 hf hf2 hs ⊢
    simp only [decide_true] at hs
    refine ACalls.of_body Try.func7 rfl rfl (by simp [Try.ntmps7]) ?_
    have hbb : b1 = false ∨ b2 = true := by
      cases b1
      · exact .inl rfl
      · exact .inr (hll rfl)
    clear hll
    rcases hbb with rfl | rfl
    · repeat (first
        | (with_reducible apply AWp.seq)
        | (with_reducible apply AWp.block)
        | ((with_reducible apply AWp.fork); simp -implicitDefEqProofs)
        | ((with_reducible apply AWp.region); simp -implicitDefEqProofs)
        | (with_reducible refine And.intro (by first | omega | assumption | decide) ?_)
        | (((with_reducible apply AWp.drawS (id := 5) (t := (Sch.step 0 (Sch.step 2 (Sch.step 4 (Sch.step 7 (Sch.step 9 (Sch.step 11 (Sch.pure 1 (Sch.read 3 (Sch.read 5 (Sch.pure 6 (Sch.pure 8 (Sch.read 10 (Sch.read 12 (Sch.pure 13 (Sch.step 14 (Sch.step 15 Sch.done)))))))))))))))))); (exact mixed); kernel_rfl; kernel_rfl; (repeat (with_reducible first | apply PanQ.then | apply PanQ.block | apply PanQ.body | apply PanQ.no))); simp -implicitDefEqProofs)
        | (((with_reducible apply AWp.drawS (id := 6) (t := (Sch.step 0 (Sch.step 1 (Sch.step 2 (Sch.step 4 (Sch.read 3 (Sch.read 5 (Sch.pure 6 (Sch.step 7 (Sch.step 8 (Sch.step 9 (Sch.step 10 (Sch.step 11 (Sch.step 13 (Sch.read 12 (Sch.read 14 (Sch.pure 15 (Sch.step 16 (Sch.step 17 (Sch.step 18 (Sch.step 19 (Sch.step 20 (Sch.step 21 (Sch.step 22 (Sch.step 23 (Sch.step 24 (Sch.step 25 (Sch.step 26 (Sch.step 28 (Sch.step 30 (Sch.step 33 (Sch.step 34 (Sch.step 36 (Sch.pure 27 (Sch.read 29 (Sch.read 31 (Sch.pure 32 (Sch.read 35 (Sch.read 37 (Sch.pure 38 (Sch.pure 39 (Sch.step 40 (Sch.step 41 Sch.done)))))))))))))))))))))))))))))))))))))))))))); (exact mixed); kernel_rfl; kernel_rfl; (repeat (with_reducible first | apply PanQ.then | apply PanQ.block | apply PanQ.body | apply PanQ.no))); simp -implicitDefEqProofs)
        | ((with_reducible apply AWp.ret); try simp -implicitDefEqProofs)
        | ((with_reducible apply AWp.skip); try simp -implicitDefEqProofs)
        | ((with_reducible apply AWp.exit); try simp -implicitDefEqProofs))
      intro id h_id
      repeat (first
        | (with_reducible apply AWp.seq)
        | (with_reducible apply AWp.block)
        | ((with_reducible apply AWp.fork); simp -implicitDefEqProofs)
        | ((with_reducible apply AWp.region); simp -implicitDefEqProofs)
        | (with_reducible refine And.intro (by first | omega | assumption | decide) ?_)
        | (((with_reducible apply AWp.drawS (id := 5) (t := (Sch.step 0 (Sch.step 2 (Sch.step 4 (Sch.step 7 (Sch.step 9 (Sch.step 11 (Sch.pure 1 (Sch.read 3 (Sch.read 5 (Sch.pure 6 (Sch.pure 8 (Sch.read 10 (Sch.read 12 (Sch.pure 13 (Sch.step 14 (Sch.step 15 Sch.done)))))))))))))))))); (exact mixed); kernel_rfl; kernel_rfl; (repeat (with_reducible first | apply PanQ.then | apply PanQ.block | apply PanQ.body | apply PanQ.no))); simp -implicitDefEqProofs)
        | (((with_reducible apply AWp.drawS (id := 6) (t := (Sch.step 0 (Sch.step 1 (Sch.step 2 (Sch.step 4 (Sch.read 3 (Sch.read 5 (Sch.pure 6 (Sch.step 7 (Sch.step 8 (Sch.step 9 (Sch.step 10 (Sch.step 11 (Sch.step 13 (Sch.read 12 (Sch.read 14 (Sch.pure 15 (Sch.step 16 (Sch.step 17 (Sch.step 18 (Sch.step 19 (Sch.step 20 (Sch.step 21 (Sch.step 22 (Sch.step 23 (Sch.step 24 (Sch.step 25 (Sch.step 26 (Sch.step 28 (Sch.step 30 (Sch.step 33 (Sch.step 34 (Sch.step 36 (Sch.pure 27 (Sch.read 29 (Sch.read 31 (Sch.pure 32 (Sch.read 35 (Sch.read 37 (Sch.pure 38 (Sch.pure 39 (Sch.step 40 (Sch.step 41 Sch.done)))))))))))))))))))))))))))))))))))))))))))); (exact mixed); kernel_rfl; kernel_rfl; (repeat (with_reducible first | apply PanQ.then | apply PanQ.block | apply PanQ.body | apply PanQ.no))); simp -implicitDefEqProofs)
        | ((with_reducible apply aCall.id); first
            | ((apply aCall.gives (hw _)); simp -implicitDefEqProofs)
            | ((apply aCall.gives (hm _)); simp -implicitDefEqProofs)
            | ((apply aCall.gives (hco _)); simp -implicitDefEqProofs)
            | ((apply aCall.gives (hp _)); simp -implicitDefEqProofs)
            | ((apply aCall.gives (hq _)); simp -implicitDefEqProofs)
            | ((apply aCall.gives (hp2 _)); simp -implicitDefEqProofs)
            | ((apply aCall.gives (hq2 _)); simp -implicitDefEqProofs)
            | ((apply aCall.gives (hf _)); simp -implicitDefEqProofs)
            | ((apply aCall.gives (hf2 _)); simp -implicitDefEqProofs)
            | ((apply aCall.gives (hs _ _ _ _ _)); simp -implicitDefEqProofs))
        | ((with_reducible apply pureCall.id); first
            | ((apply pureCall.gives (fun _ => hw _)); simp -implicitDefEqProofs)
            | ((apply pureCall.gives (fun _ => hm _)); simp -implicitDefEqProofs)
            | ((apply pureCall.gives (fun _ => hco _)); simp -implicitDefEqProofs)
            | ((apply pureCall.gives (fun _ => hp _)); simp -implicitDefEqProofs)
            | ((apply pureCall.gives (fun _ => hq _)); simp -implicitDefEqProofs)
            | ((apply pureCall.gives (fun _ => hp2 _)); simp -implicitDefEqProofs)
            | ((apply pureCall.gives (fun _ => hq2 _)); simp -implicitDefEqProofs)
            | ((apply pureCall.gives (fun _ => hf _)); simp -implicitDefEqProofs)
            | ((apply pureCall.gives (fun _ => hf2 _)); simp -implicitDefEqProofs)
            | ((apply pureCall.gives (fun _ => hs _ _ _ _ _)); simp -implicitDefEqProofs))
        | ((with_reducible apply AWp.ret); try simp -implicitDefEqProofs)
        | ((with_reducible apply AWp.skip); try simp -implicitDefEqProofs)
        | ((with_reducible apply AWp.exit); try simp -implicitDefEqProofs))
    · repeat (first
        | (with_reducible apply AWp.seq)
        | (with_reducible apply AWp.block)
        | ((with_reducible apply AWp.fork); simp -implicitDefEqProofs)
        | ((with_reducible apply AWp.region); simp -implicitDefEqProofs)
        | (with_reducible refine And.intro (by first | omega | assumption | decide) ?_)
        | (((with_reducible apply AWp.drawS (id := 5) (t := (Sch.step 0 (Sch.step 2 (Sch.step 4 (Sch.step 7 (Sch.step 9 (Sch.step 11 (Sch.pure 1 (Sch.read 3 (Sch.read 5 (Sch.pure 6 (Sch.pure 8 (Sch.read 10 (Sch.read 12 (Sch.pure 13 (Sch.step 14 (Sch.step 15 Sch.done)))))))))))))))))); (exact mixed); kernel_rfl; kernel_rfl; (repeat (with_reducible first | apply PanQ.then | apply PanQ.block | apply PanQ.body | apply PanQ.no))); simp -implicitDefEqProofs)
        | (((with_reducible apply AWp.drawS (id := 6) (t := (Sch.step 0 (Sch.step 1 (Sch.step 2 (Sch.step 4 (Sch.read 3 (Sch.read 5 (Sch.pure 6 (Sch.step 7 (Sch.step 8 (Sch.step 9 (Sch.step 10 (Sch.step 11 (Sch.step 13 (Sch.read 12 (Sch.read 14 (Sch.pure 15 (Sch.step 16 (Sch.step 17 (Sch.step 18 (Sch.step 19 (Sch.step 20 (Sch.step 21 (Sch.step 22 (Sch.step 23 (Sch.step 24 (Sch.step 25 (Sch.step 26 (Sch.step 28 (Sch.step 30 (Sch.step 33 (Sch.step 34 (Sch.step 36 (Sch.pure 27 (Sch.read 29 (Sch.read 31 (Sch.pure 32 (Sch.read 35 (Sch.read 37 (Sch.pure 38 (Sch.pure 39 (Sch.step 40 (Sch.step 41 Sch.done)))))))))))))))))))))))))))))))))))))))))))); (exact mixed); kernel_rfl; kernel_rfl; (repeat (with_reducible first | apply PanQ.then | apply PanQ.block | apply PanQ.body | apply PanQ.no))); simp -implicitDefEqProofs)
        | ((with_reducible apply AWp.ret); try simp -implicitDefEqProofs)
        | ((with_reducible apply AWp.skip); try simp -implicitDefEqProofs)
        | ((with_reducible apply AWp.exit); try simp -implicitDefEqProofs))
      intro id h_id
      cases b1
      · repeat (first
          | (with_reducible apply AWp.seq)
          | (with_reducible apply AWp.block)
          | ((with_reducible apply AWp.fork); simp -implicitDefEqProofs)
          | ((with_reducible apply AWp.region); simp -implicitDefEqProofs)
          | (with_reducible refine And.intro (by first | omega | assumption | decide) ?_)
          | (((with_reducible apply AWp.drawS (id := 5) (t := (Sch.step 0 (Sch.step 2 (Sch.step 4 (Sch.step 7 (Sch.step 9 (Sch.step 11 (Sch.pure 1 (Sch.read 3 (Sch.read 5 (Sch.pure 6 (Sch.pure 8 (Sch.read 10 (Sch.read 12 (Sch.pure 13 (Sch.step 14 (Sch.step 15 Sch.done)))))))))))))))))); (exact mixed); kernel_rfl; kernel_rfl; (repeat (with_reducible first | apply PanQ.then | apply PanQ.block | apply PanQ.body | apply PanQ.no))); simp -implicitDefEqProofs)
          | (((with_reducible apply AWp.drawS (id := 6) (t := (Sch.step 0 (Sch.step 1 (Sch.step 2 (Sch.step 4 (Sch.read 3 (Sch.read 5 (Sch.pure 6 (Sch.step 7 (Sch.step 8 (Sch.step 9 (Sch.step 10 (Sch.step 11 (Sch.step 13 (Sch.read 12 (Sch.read 14 (Sch.pure 15 (Sch.step 16 (Sch.step 17 (Sch.step 18 (Sch.step 19 (Sch.step 20 (Sch.step 21 (Sch.step 22 (Sch.step 23 (Sch.step 24 (Sch.step 25 (Sch.step 26 (Sch.step 28 (Sch.step 30 (Sch.step 33 (Sch.step 34 (Sch.step 36 (Sch.pure 27 (Sch.read 29 (Sch.read 31 (Sch.pure 32 (Sch.read 35 (Sch.read 37 (Sch.pure 38 (Sch.pure 39 (Sch.step 40 (Sch.step 41 Sch.done)))))))))))))))))))))))))))))))))))))))))))); (exact mixed); kernel_rfl; kernel_rfl; (repeat (with_reducible first | apply PanQ.then | apply PanQ.block | apply PanQ.body | apply PanQ.no))); simp -implicitDefEqProofs)
          | ((with_reducible apply aCall.id); first
              | ((apply aCall.gives (hw _)); simp -implicitDefEqProofs)
              | ((apply aCall.gives (hm _)); simp -implicitDefEqProofs)
              | ((apply aCall.gives (hco _)); simp -implicitDefEqProofs)
              | ((apply aCall.gives (hp _)); simp -implicitDefEqProofs)
              | ((apply aCall.gives (hq _)); simp -implicitDefEqProofs)
              | ((apply aCall.gives (hp2 _)); simp -implicitDefEqProofs)
              | ((apply aCall.gives (hq2 _)); simp -implicitDefEqProofs)
              | ((apply aCall.gives (hf _)); simp -implicitDefEqProofs)
              | ((apply aCall.gives (hf2 _)); simp -implicitDefEqProofs)
              | ((apply aCall.gives (hs _ _ _ _ _)); simp -implicitDefEqProofs))
          | ((with_reducible apply pureCall.id); first
              | ((apply pureCall.gives (fun _ => hw _)); simp -implicitDefEqProofs)
              | ((apply pureCall.gives (fun _ => hm _)); simp -implicitDefEqProofs)
              | ((apply pureCall.gives (fun _ => hco _)); simp -implicitDefEqProofs)
              | ((apply pureCall.gives (fun _ => hp _)); simp -implicitDefEqProofs)
              | ((apply pureCall.gives (fun _ => hq _)); simp -implicitDefEqProofs)
              | ((apply pureCall.gives (fun _ => hp2 _)); simp -implicitDefEqProofs)
              | ((apply pureCall.gives (fun _ => hq2 _)); simp -implicitDefEqProofs)
              | ((apply pureCall.gives (fun _ => hf _)); simp -implicitDefEqProofs)
              | ((apply pureCall.gives (fun _ => hf2 _)); simp -implicitDefEqProofs)
              | ((apply pureCall.gives (fun _ => hs _ _ _ _ _)); simp -implicitDefEqProofs))
          | ((with_reducible apply AWp.ret); try simp -implicitDefEqProofs)
          | ((with_reducible apply AWp.skip); try simp -implicitDefEqProofs)
          | ((with_reducible apply AWp.exit); try simp -implicitDefEqProofs))
      · repeat (first
          | (with_reducible apply AWp.seq)
          | (with_reducible apply AWp.block)
          | ((with_reducible apply AWp.fork); simp -implicitDefEqProofs)
          | ((with_reducible apply AWp.region); simp -implicitDefEqProofs)
          | (with_reducible refine And.intro (by first | omega | assumption | decide) ?_)
          | (((with_reducible apply AWp.drawS (id := 5) (t := (Sch.step 0 (Sch.step 2 (Sch.step 4 (Sch.step 7 (Sch.step 9 (Sch.step 11 (Sch.pure 1 (Sch.read 3 (Sch.read 5 (Sch.pure 6 (Sch.pure 8 (Sch.read 10 (Sch.read 12 (Sch.pure 13 (Sch.step 14 (Sch.step 15 Sch.done)))))))))))))))))); (exact mixed); kernel_rfl; kernel_rfl; (repeat (with_reducible first | apply PanQ.then | apply PanQ.block | apply PanQ.body | apply PanQ.no))); simp -implicitDefEqProofs)
          | (((with_reducible apply AWp.drawS (id := 6) (t := (Sch.step 0 (Sch.step 1 (Sch.step 2 (Sch.step 4 (Sch.read 3 (Sch.read 5 (Sch.pure 6 (Sch.step 7 (Sch.step 8 (Sch.step 9 (Sch.step 10 (Sch.step 11 (Sch.step 13 (Sch.read 12 (Sch.read 14 (Sch.pure 15 (Sch.step 16 (Sch.step 17 (Sch.step 18 (Sch.step 19 (Sch.step 20 (Sch.step 21 (Sch.step 22 (Sch.step 23 (Sch.step 24 (Sch.step 25 (Sch.step 26 (Sch.step 28 (Sch.step 30 (Sch.step 33 (Sch.step 34 (Sch.step 36 (Sch.pure 27 (Sch.read 29 (Sch.read 31 (Sch.pure 32 (Sch.read 35 (Sch.read 37 (Sch.pure 38 (Sch.pure 39 (Sch.step 40 (Sch.step 41 Sch.done)))))))))))))))))))))))))))))))))))))))))))); (exact mixed); kernel_rfl; kernel_rfl; (repeat (with_reducible first | apply PanQ.then | apply PanQ.block | apply PanQ.body | apply PanQ.no))); simp -implicitDefEqProofs)
          | ((with_reducible apply aCall.id); first
              | ((apply aCall.gives (hw _)); simp -implicitDefEqProofs)
              | ((apply aCall.gives (hm _)); simp -implicitDefEqProofs)
              | ((apply aCall.gives (hco _)); simp -implicitDefEqProofs)
              | ((apply aCall.gives (hp _)); simp -implicitDefEqProofs)
              | ((apply aCall.gives (hq _)); simp -implicitDefEqProofs)
              | ((apply aCall.gives (hp2 _)); simp -implicitDefEqProofs)
              | ((apply aCall.gives (hq2 _)); simp -implicitDefEqProofs)
              | ((apply aCall.gives (hf _)); simp -implicitDefEqProofs)
              | ((apply aCall.gives (hf2 _)); simp -implicitDefEqProofs)
              | ((apply aCall.gives (hs _ _ _ _ _)); simp -implicitDefEqProofs))
          | ((with_reducible apply pureCall.id); first
              | ((apply pureCall.gives (fun _ => hw _)); simp -implicitDefEqProofs)
              | ((apply pureCall.gives (fun _ => hm _)); simp -implicitDefEqProofs)
              | ((apply pureCall.gives (fun _ => hco _)); simp -implicitDefEqProofs)
              | ((apply pureCall.gives (fun _ => hp _)); simp -implicitDefEqProofs)
              | ((apply pureCall.gives (fun _ => hq _)); simp -implicitDefEqProofs)
              | ((apply pureCall.gives (fun _ => hp2 _)); simp -implicitDefEqProofs)
              | ((apply pureCall.gives (fun _ => hq2 _)); simp -implicitDefEqProofs)
              | ((apply pureCall.gives (fun _ => hf _)); simp -implicitDefEqProofs)
              | ((apply pureCall.gives (fun _ => hf2 _)); simp -implicitDefEqProofs)
              | ((apply pureCall.gives (fun _ => hs _ _ _ _ _)); simp -implicitDefEqProofs))
          | ((with_reducible apply AWp.ret); try simp -implicitDefEqProofs)
          | ((with_reducible apply AWp.skip); try simp -implicitDefEqProofs)
          | ((with_reducible apply AWp.exit); try simp -implicitDefEqProofs))

theorem regionsStay_ok (l : List Cl) (nl : Bool) (n x y : Int) (hl : l.length ≤ 140737488355328) :
    ACalls Try.prog 6 [clsV l .unk nl, .agg [.sc (.int .i64 n), .sc (.int .i64 x), .sc (.int .i64 y)]] noAS IsTrue No := by
  have hw := fun σ => wakes_ok σ
  have hm := fun σ => may_ok l .unk nl n x y hl σ
  cases hb : mayB n x y l with
  | false =>
    rw [hb] at hm
    simp only [clsV] at hm ⊢
    refine ACalls.of_body Try.func6 rfl rfl (by simp [Try.ntmps6]) ?_
    repeat (first
      | (with_reducible apply AWp.seq)
      | (with_reducible apply AWp.block)
      | ((with_reducible apply AWp.fork); simp -implicitDefEqProofs)
      | ((with_reducible apply AWp.region); simp -implicitDefEqProofs)
      | (with_reducible refine And.intro (by first | omega | assumption | decide) ?_)
      | (((with_reducible apply AWp.drawS (id := 7) (t := (Sch.step 0 (Sch.step 1 (Sch.step 4 (Sch.step 5 (Sch.read 2 (Sch.pure 3 (Sch.read 6 (Sch.pure 7 (Sch.pure 8 (Sch.step 9 (Sch.step 10 (Sch.step 11 (Sch.step 13 (Sch.read 12 (Sch.read 14 (Sch.pure 15 (Sch.step 16 (Sch.step 17 Sch.done)))))))))))))))))))); (exact mixed); kernel_rfl; kernel_rfl; (repeat (with_reducible first | apply PanQ.then | apply PanQ.block | apply PanQ.body | apply PanQ.no))); simp -implicitDefEqProofs)
      | ((with_reducible apply AWp.ret); try simp -implicitDefEqProofs)
      | ((with_reducible apply AWp.skip); try simp -implicitDefEqProofs)
      | ((with_reducible apply AWp.exit); try simp -implicitDefEqProofs))
    intro id h_id
    repeat (first
      | (with_reducible apply AWp.seq)
      | (with_reducible apply AWp.block)
      | ((with_reducible apply AWp.fork); simp -implicitDefEqProofs)
      | ((with_reducible apply AWp.region); simp -implicitDefEqProofs)
      | (with_reducible refine And.intro (by first | omega | assumption | decide) ?_)
      | (((with_reducible apply AWp.drawS (id := 7) (t := (Sch.step 0 (Sch.step 1 (Sch.step 4 (Sch.step 5 (Sch.read 2 (Sch.pure 3 (Sch.read 6 (Sch.pure 7 (Sch.pure 8 (Sch.step 9 (Sch.step 10 (Sch.step 11 (Sch.step 13 (Sch.read 12 (Sch.read 14 (Sch.pure 15 (Sch.step 16 (Sch.step 17 Sch.done)))))))))))))))))))); (exact mixed); kernel_rfl; kernel_rfl; (repeat (with_reducible first | apply PanQ.then | apply PanQ.block | apply PanQ.body | apply PanQ.no))); simp -implicitDefEqProofs)
      | ((with_reducible apply aCall.id); first
          | ((apply aCall.gives (hw _)); simp -implicitDefEqProofs)
          | ((apply aCall.gives (hm _)); simp -implicitDefEqProofs))
      | ((with_reducible apply pureCall.id); first
          | ((apply pureCall.gives (fun _ => hw _)); simp -implicitDefEqProofs)
          | ((apply pureCall.gives (fun _ => hm _)); simp -implicitDefEqProofs))
      | ((with_reducible apply AWp.ret); try simp -implicitDefEqProofs)
      | ((with_reducible apply AWp.skip); try simp -implicitDefEqProofs)
      | ((with_reducible apply AWp.exit); try simp -implicitDefEqProofs))
  | true =>
    rw [hb] at hm
    obtain ⟨m1, m2, m3, m4, m5, m6⟩ := may_iff hb
    have h6 := m2.1
    have hp0 := fun σ => passW_ok l .unk nl x x h6 σ
    have hp := fun σ => passW_ok l .unk nl x y h6 σ
    have hf0 := fun σ => finalsW_ok l .unk nl x x (by omega) σ
    have hf := fun σ => finalsW_ok l .unk nl x y (by omega) σ
    have hla := chainS_len l x
    have hlb := chainS_len l y
    have hc1 := fun σ => rchain_ok l .unk nl x (chainS l x) (chain_doc m2 m1) (by omega) (by omega) σ
    have hc2 := fun σ => rchain_ok l .unk nl y (chainS l y) (chain_doc m2 m1) (by omega) (by omega) σ
    have hs := fun o1 o2 n1 n2 σ => rSame_ok (chainS l x) (chainS l y) o1 o2 n1 n2 (by omega) (by omega) σ
    rw [hit_self rfl] at hp0
    rw [some_nil (fun c _ => by simp [finalS])] at hf0
    have hh : hitB (chainS l y) y (chainS l x) = true → someS (fun c => finalS c x y) 0 l = [] := fun h => some_nil (hit_finals h)
    have hh2 : rgs (chainS l x) = rgs (chainS l y) → hitB (chainS l y) y (chainS l x) = true := fun h => hit_self h.symm
    have hsl := some_len (f := fun c => finalS c x y) (l := l) (k := 0)
    generalize hitB (chainS l y) y (chainS l x) = b1 at *
    generalize someS (fun c => finalS c x y) 0 l = L at *
    have hkk : (b1 = true ∧ L = []) ∨ (b1 = false ∧ ¬ rgs (chainS l x) = rgs (chainS l y)) := by
      cases b1
      · exact .inr ⟨rfl, fun h => by have := hh2 h; cases this⟩
      · exact .inl ⟨rfl, hh rfl⟩
    clear hh hh2
    generalize chainS l x = A at *
    generalize chainS l y = B at *
    simp only [clsV, intsV] at hm hp0 hp hf0 hf hc1 hc2 hs ⊢
    refine ACalls.of_body Try.func6 rfl rfl (by simp [Try.ntmps6]) ?_
    repeat (first
      | (with_reducible apply AWp.seq)
      | (with_reducible apply AWp.block)
      | ((with_reducible apply AWp.fork); simp -implicitDefEqProofs)
      | ((with_reducible apply AWp.region); simp -implicitDefEqProofs)
      | (with_reducible refine And.intro (by first | omega | assumption | decide) ?_)
      | (((with_reducible apply AWp.drawS (id := 7) (t := (Sch.step 0 (Sch.step 1 (Sch.step 4 (Sch.step 5 (Sch.read 2 (Sch.pure 3 (Sch.read 6 (Sch.pure 7 (Sch.pure 8 (Sch.step 9 (Sch.step 10 (Sch.step 11 (Sch.step 13 (Sch.read 12 (Sch.read 14 (Sch.pure 15 (Sch.step 16 (Sch.step 17 Sch.done)))))))))))))))))))); (exact mixed); kernel_rfl; kernel_rfl; (repeat (with_reducible first | apply PanQ.then | apply PanQ.block | apply PanQ.body | apply PanQ.no))); simp -implicitDefEqProofs)
      | ((with_reducible apply AWp.ret); try simp -implicitDefEqProofs)
      | ((with_reducible apply AWp.skip); try simp -implicitDefEqProofs)
      | ((with_reducible apply AWp.exit); try simp -implicitDefEqProofs))
    intro id h_id
    rcases hkk with ⟨rfl, rfl⟩ | ⟨rfl, hne⟩
    · cases hd : decide (rgs A = rgs B)
      · simp only [hd] at hs
        repeat (first
          | (with_reducible apply AWp.seq)
          | (with_reducible apply AWp.block)
          | ((with_reducible apply AWp.fork); simp -implicitDefEqProofs)
          | ((with_reducible apply AWp.region); simp -implicitDefEqProofs)
          | (with_reducible refine And.intro (by first | omega | assumption | decide) ?_)
          | (((with_reducible apply AWp.drawS (id := 7) (t := (Sch.step 0 (Sch.step 1 (Sch.step 4 (Sch.step 5 (Sch.read 2 (Sch.pure 3 (Sch.read 6 (Sch.pure 7 (Sch.pure 8 (Sch.step 9 (Sch.step 10 (Sch.step 11 (Sch.step 13 (Sch.read 12 (Sch.read 14 (Sch.pure 15 (Sch.step 16 (Sch.step 17 Sch.done)))))))))))))))))))); (exact mixed); kernel_rfl; kernel_rfl; (repeat (with_reducible first | apply PanQ.then | apply PanQ.block | apply PanQ.body | apply PanQ.no))); simp -implicitDefEqProofs)
          | ((with_reducible apply aCall.id); first
              | ((apply aCall.gives (hw _)); simp -implicitDefEqProofs)
              | ((apply aCall.gives (hm _)); simp -implicitDefEqProofs)
              | ((apply aCall.gives (hp0 _)); simp -implicitDefEqProofs)
              | ((apply aCall.gives (hp _)); simp -implicitDefEqProofs)
              | ((apply aCall.gives (hf0 _)); simp -implicitDefEqProofs)
              | ((apply aCall.gives (hf _)); simp -implicitDefEqProofs)
              | ((apply aCall.gives (hc1 _)); simp -implicitDefEqProofs)
              | ((apply aCall.gives (hc2 _)); simp -implicitDefEqProofs)
              | ((apply aCall.gives (hs _ _ _ _ _)); simp -implicitDefEqProofs))
          | ((with_reducible apply pureCall.id); first
              | ((apply pureCall.gives (fun _ => hw _)); simp -implicitDefEqProofs)
              | ((apply pureCall.gives (fun _ => hm _)); simp -implicitDefEqProofs)
              | ((apply pureCall.gives (fun _ => hp0 _)); simp -implicitDefEqProofs)
              | ((apply pureCall.gives (fun _ => hp _)); simp -implicitDefEqProofs)
              | ((apply pureCall.gives (fun _ => hf0 _)); simp -implicitDefEqProofs)
              | ((apply pureCall.gives (fun _ => hf _)); simp -implicitDefEqProofs)
              | ((apply pureCall.gives (fun _ => hc1 _)); simp -implicitDefEqProofs)
              | ((apply pureCall.gives (fun _ => hc2 _)); simp -implicitDefEqProofs)
              | ((apply pureCall.gives (fun _ => hs _ _ _ _ _)); simp -implicitDefEqProofs))
          | ((with_reducible apply AWp.ret); try simp -implicitDefEqProofs)
          | ((with_reducible apply AWp.skip); try simp -implicitDefEqProofs)
          | ((with_reducible apply AWp.exit); try simp -implicitDefEqProofs))
      · simp only [hd] at hs
        repeat (first
          | (with_reducible apply AWp.seq)
          | (with_reducible apply AWp.block)
          | ((with_reducible apply AWp.fork); simp -implicitDefEqProofs)
          | ((with_reducible apply AWp.region); simp -implicitDefEqProofs)
          | (with_reducible refine And.intro (by first | omega | assumption | decide) ?_)
          | (((with_reducible apply AWp.drawS (id := 7) (t := (Sch.step 0 (Sch.step 1 (Sch.step 4 (Sch.step 5 (Sch.read 2 (Sch.pure 3 (Sch.read 6 (Sch.pure 7 (Sch.pure 8 (Sch.step 9 (Sch.step 10 (Sch.step 11 (Sch.step 13 (Sch.read 12 (Sch.read 14 (Sch.pure 15 (Sch.step 16 (Sch.step 17 Sch.done)))))))))))))))))))); (exact mixed); kernel_rfl; kernel_rfl; (repeat (with_reducible first | apply PanQ.then | apply PanQ.block | apply PanQ.body | apply PanQ.no))); simp -implicitDefEqProofs)
          | ((with_reducible apply aCall.id); first
              | ((apply aCall.gives (hw _)); simp -implicitDefEqProofs)
              | ((apply aCall.gives (hm _)); simp -implicitDefEqProofs)
              | ((apply aCall.gives (hp0 _)); simp -implicitDefEqProofs)
              | ((apply aCall.gives (hp _)); simp -implicitDefEqProofs)
              | ((apply aCall.gives (hf0 _)); simp -implicitDefEqProofs)
              | ((apply aCall.gives (hf _)); simp -implicitDefEqProofs)
              | ((apply aCall.gives (hc1 _)); simp -implicitDefEqProofs)
              | ((apply aCall.gives (hc2 _)); simp -implicitDefEqProofs)
              | ((apply aCall.gives (hs _ _ _ _ _)); simp -implicitDefEqProofs))
          | ((with_reducible apply pureCall.id); first
              | ((apply pureCall.gives (fun _ => hw _)); simp -implicitDefEqProofs)
              | ((apply pureCall.gives (fun _ => hm _)); simp -implicitDefEqProofs)
              | ((apply pureCall.gives (fun _ => hp0 _)); simp -implicitDefEqProofs)
              | ((apply pureCall.gives (fun _ => hp _)); simp -implicitDefEqProofs)
              | ((apply pureCall.gives (fun _ => hf0 _)); simp -implicitDefEqProofs)
              | ((apply pureCall.gives (fun _ => hf _)); simp -implicitDefEqProofs)
              | ((apply pureCall.gives (fun _ => hc1 _)); simp -implicitDefEqProofs)
              | ((apply pureCall.gives (fun _ => hc2 _)); simp -implicitDefEqProofs)
              | ((apply pureCall.gives (fun _ => hs _ _ _ _ _)); simp -implicitDefEqProofs))
          | ((with_reducible apply AWp.ret); try simp -implicitDefEqProofs)
          | ((with_reducible apply AWp.skip); try simp -implicitDefEqProofs)
          | ((with_reducible apply AWp.exit); try simp -implicitDefEqProofs))
    · simp only [hne, decide_false] at hs
      repeat (first
        | (with_reducible apply AWp.seq)
        | (with_reducible apply AWp.block)
        | ((with_reducible apply AWp.fork); simp -implicitDefEqProofs)
        | ((with_reducible apply AWp.region); simp -implicitDefEqProofs)
        | (with_reducible refine And.intro (by first | omega | assumption | decide) ?_)
        | (((with_reducible apply AWp.drawS (id := 7) (t := (Sch.step 0 (Sch.step 1 (Sch.step 4 (Sch.step 5 (Sch.read 2 (Sch.pure 3 (Sch.read 6 (Sch.pure 7 (Sch.pure 8 (Sch.step 9 (Sch.step 10 (Sch.step 11 (Sch.step 13 (Sch.read 12 (Sch.read 14 (Sch.pure 15 (Sch.step 16 (Sch.step 17 Sch.done)))))))))))))))))))); (exact mixed); kernel_rfl; kernel_rfl; (repeat (with_reducible first | apply PanQ.then | apply PanQ.block | apply PanQ.body | apply PanQ.no))); simp -implicitDefEqProofs)
        | ((with_reducible apply aCall.id); first
            | ((apply aCall.gives (hw _)); simp -implicitDefEqProofs)
            | ((apply aCall.gives (hm _)); simp -implicitDefEqProofs)
            | ((apply aCall.gives (hp0 _)); simp -implicitDefEqProofs)
            | ((apply aCall.gives (hp _)); simp -implicitDefEqProofs)
            | ((apply aCall.gives (hf0 _)); simp -implicitDefEqProofs)
            | ((apply aCall.gives (hf _)); simp -implicitDefEqProofs)
            | ((apply aCall.gives (hc1 _)); simp -implicitDefEqProofs)
            | ((apply aCall.gives (hc2 _)); simp -implicitDefEqProofs)
            | ((apply aCall.gives (hs _ _ _ _ _)); simp -implicitDefEqProofs))
        | ((with_reducible apply pureCall.id); first
            | ((apply pureCall.gives (fun _ => hw _)); simp -implicitDefEqProofs)
            | ((apply pureCall.gives (fun _ => hm _)); simp -implicitDefEqProofs)
            | ((apply pureCall.gives (fun _ => hp0 _)); simp -implicitDefEqProofs)
            | ((apply pureCall.gives (fun _ => hp _)); simp -implicitDefEqProofs)
            | ((apply pureCall.gives (fun _ => hf0 _)); simp -implicitDefEqProofs)
            | ((apply pureCall.gives (fun _ => hf _)); simp -implicitDefEqProofs)
            | ((apply pureCall.gives (fun _ => hc1 _)); simp -implicitDefEqProofs)
            | ((apply pureCall.gives (fun _ => hc2 _)); simp -implicitDefEqProofs)
            | ((apply pureCall.gives (fun _ => hs _ _ _ _ _)); simp -implicitDefEqProofs))
        | ((with_reducible apply AWp.ret); try simp -implicitDefEqProofs)
        | ((with_reducible apply AWp.skip); try simp -implicitDefEqProofs)
        | ((with_reducible apply AWp.exit); try simp -implicitDefEqProofs))

theorem regionsChain_ok (l : List Cl) (nl : Bool) (n x y : Int) (hl : l.length ≤ 140737488355328) :
    ACalls Try.prog 5 [clsV l .unk nl, .agg [.sc (.int .i64 n), .sc (.int .i64 x), .sc (.int .i64 y)]] noAS IsTrue No := by
  have hw := fun σ => wakes_ok σ
  have hm := fun σ => may_ok l .unk nl n x y hl σ
  cases hb : mayB n x y l with
  | false =>
    rw [hb] at hm
    simp only [clsV] at hm ⊢
    refine ACalls.of_body Try.func5 rfl rfl (by simp [Try.ntmps5]) ?_
    repeat (first
      | (with_reducible apply AWp.seq)
      | (with_reducible apply AWp.block)
      | ((with_reducible apply AWp.fork); simp -implicitDefEqProofs)
      | ((with_reducible apply AWp.region); simp -implicitDefEqProofs)
      | (with_reducible refine And.intro (by first | omega | assumption | decide) ?_)
      | (((with_reducible apply AWp.drawS (id := 5) (t := (Sch.step 0 (Sch.step 2 (Sch.pure 1 (Sch.read 3 (Sch.pure 4 (Sch.step 5 Sch.done)))))))); (exact mixed); kernel_rfl; kernel_rfl; (repeat (with_reducible first | apply PanQ.then | apply PanQ.block | apply PanQ.body | apply PanQ.no))); simp -implicitDefEqProofs)
      | (((with_reducible apply AWp.drawS (id := 6) (t := (Sch.step 0 (Sch.step 1 (Sch.step 2 (Sch.read 3 (Sch.pure 4 (Sch.pure 5 (Sch.step 6 (Sch.step 7 (Sch.step 8 (Sch.step 10 (Sch.step 13 (Sch.step 14 (Sch.pure 9 (Sch.read 11 (Sch.pure 12 (Sch.read 15 (Sch.pure 16 (Sch.pure 17 (Sch.step 18 (Sch.step 19 Sch.done)))))))))))))))))))))); (exact mixed); kernel_rfl; kernel_rfl; (repeat (with_reducible first | apply PanQ.then | apply PanQ.block | apply PanQ.body | apply PanQ.no))); simp -implicitDefEqProofs)
      | (((with_reducible apply AWp.drawS (id := 11) (t := (Sch.step 0 (Sch.step 1 (Sch.step 2 (Sch.step 3 (Sch.step 4 (Sch.step 5 (Sch.step 9 (Sch.step 10 (Sch.step 11 (Sch.step 12 (Sch.step 13 (Sch.read 6 (Sch.step 7 (Sch.read 8 (Sch.read 14 (Sch.pure 15 (Sch.step 16 (Sch.step 17 (Sch.step 18 (Sch.step 19 (Sch.step 20 Sch.done))))))))))))))))))))))); (exact mixed); kernel_rfl; kernel_rfl; (repeat (with_reducible first | apply PanQ.then | apply PanQ.block | apply PanQ.body | apply PanQ.no))); simp -implicitDefEqProofs)
      | (((with_reducible apply AWp.drawS (id := 12) (t := (Sch.step 0 (Sch.step 1 (Sch.step 2 (Sch.step 3 (Sch.step 4 (Sch.step 8 (Sch.step 9 (Sch.step 10 (Sch.step 11 (Sch.read 5 (Sch.step 6 (Sch.read 7 (Sch.read 12 (Sch.pure 13 (Sch.step 14 (Sch.step 15 (Sch.step 16 (Sch.step 17 (Sch.step 18 Sch.done))))))))))))))))))))); (exact mixed); kernel_rfl; kernel_rfl; (repeat (with_reducible first | apply PanQ.then | apply PanQ.block | apply PanQ.body | apply PanQ.no))); simp -implicitDefEqProofs)
      | ((with_reducible apply AWp.ret); try simp -implicitDefEqProofs)
      | ((with_reducible apply AWp.skip); try simp -implicitDefEqProofs)
      | ((with_reducible apply AWp.exit); try simp -implicitDefEqProofs))
    intro id h_id
    repeat (first
      | (with_reducible apply AWp.seq)
      | (with_reducible apply AWp.block)
      | ((with_reducible apply AWp.fork); simp -implicitDefEqProofs)
      | ((with_reducible apply AWp.region); simp -implicitDefEqProofs)
      | (with_reducible refine And.intro (by first | omega | assumption | decide) ?_)
      | (((with_reducible apply AWp.drawS (id := 5) (t := (Sch.step 0 (Sch.step 2 (Sch.pure 1 (Sch.read 3 (Sch.pure 4 (Sch.step 5 Sch.done)))))))); (exact mixed); kernel_rfl; kernel_rfl; (repeat (with_reducible first | apply PanQ.then | apply PanQ.block | apply PanQ.body | apply PanQ.no))); simp -implicitDefEqProofs)
      | (((with_reducible apply AWp.drawS (id := 6) (t := (Sch.step 0 (Sch.step 1 (Sch.step 2 (Sch.read 3 (Sch.pure 4 (Sch.pure 5 (Sch.step 6 (Sch.step 7 (Sch.step 8 (Sch.step 10 (Sch.step 13 (Sch.step 14 (Sch.pure 9 (Sch.read 11 (Sch.pure 12 (Sch.read 15 (Sch.pure 16 (Sch.pure 17 (Sch.step 18 (Sch.step 19 Sch.done)))))))))))))))))))))); (exact mixed); kernel_rfl; kernel_rfl; (repeat (with_reducible first | apply PanQ.then | apply PanQ.block | apply PanQ.body | apply PanQ.no))); simp -implicitDefEqProofs)
      | (((with_reducible apply AWp.drawS (id := 11) (t := (Sch.step 0 (Sch.step 1 (Sch.step 2 (Sch.step 3 (Sch.step 4 (Sch.step 5 (Sch.step 9 (Sch.step 10 (Sch.step 11 (Sch.step 12 (Sch.step 13 (Sch.read 6 (Sch.step 7 (Sch.read 8 (Sch.read 14 (Sch.pure 15 (Sch.step 16 (Sch.step 17 (Sch.step 18 (Sch.step 19 (Sch.step 20 Sch.done))))))))))))))))))))))); (exact mixed); kernel_rfl; kernel_rfl; (repeat (with_reducible first | apply PanQ.then | apply PanQ.block | apply PanQ.body | apply PanQ.no))); simp -implicitDefEqProofs)
      | (((with_reducible apply AWp.drawS (id := 12) (t := (Sch.step 0 (Sch.step 1 (Sch.step 2 (Sch.step 3 (Sch.step 4 (Sch.step 8 (Sch.step 9 (Sch.step 10 (Sch.step 11 (Sch.read 5 (Sch.step 6 (Sch.read 7 (Sch.read 12 (Sch.pure 13 (Sch.step 14 (Sch.step 15 (Sch.step 16 (Sch.step 17 (Sch.step 18 Sch.done))))))))))))))))))))); (exact mixed); kernel_rfl; kernel_rfl; (repeat (with_reducible first | apply PanQ.then | apply PanQ.block | apply PanQ.body | apply PanQ.no))); simp -implicitDefEqProofs)
      | ((with_reducible apply aCall.id); first
          | ((apply aCall.gives (hw _)); simp -implicitDefEqProofs)
          | ((apply aCall.gives (hm _)); simp -implicitDefEqProofs))
      | ((with_reducible apply pureCall.id); first
          | ((apply pureCall.gives (fun _ => hw _)); simp -implicitDefEqProofs)
          | ((apply pureCall.gives (fun _ => hm _)); simp -implicitDefEqProofs))
      | ((with_reducible apply AWp.ret); try simp -implicitDefEqProofs)
      | ((with_reducible apply AWp.skip); try simp -implicitDefEqProofs)
      | ((with_reducible apply AWp.exit); try simp -implicitDefEqProofs))
  | true =>
    rw [hb] at hm
    obtain ⟨m1, m2, m3, m4, m5, m6⟩ := may_iff hb
    have h6 := m2.1
    have hla := chainS_len l x
    have hco := fun σ => copied_ok l .unk nl (by omega) σ
    have hc0 := fun σ => regs_ok l .unk false x (by omega) σ
    have hc1 := fun σ => rchain_ok l .unk nl x (chainS l x) (chain_doc m2 m1) (by omega) (by omega) σ
    have hs := fun o1 o2 n1 n2 σ => rSame_ok (chainS l x) (chainS l x) o1 o2 n1 n2 (by omega) (by omega) σ
    have ht := fun σ => triesW_ok l .unk false x (by omega) σ
    have ht2 := fun σ => rtries_ok l .unk nl x (by omega) σ
    have hsl := some_len (f := fun c => triedS c x) (l := l) (k := 0)
    have hbo := fun c p σ => bounds_ok c p σ
    have hnest : ∀ (i : Nat) (a b : Pt), (chainS l x)[i]? = some a → (chainS l x)[i + 1]? = some b → withinS a.s b.s = true := fun i a b ha hb => by
      obtain ⟨ha', ha⟩ := List.getElem?_eq_some_iff.1 ha
      obtain ⟨hb', hb⟩ := List.getElem?_eq_some_iff.1 hb
      have := chain_nested (x := x) m2 m1 hb'
      rwa [ha, hb] at this
    have hmem : ∀ p ∈ chainS l x, ∃ (i : Nat) (c : Cl), ∃ hi : i < l.length, l[i] = c ∧ p.k = i ∧ bnd c p.p = p.s := fun p hp => by
      obtain ⟨i, c, a1, a2, _⟩ := mem_chain hp
      obtain ⟨hi, a1⟩ := List.getElem?_eq_some_iff.1 a1
      exact ⟨i, c, hi, a1, (parts_k a2).1, parts_bnd a2⟩
    generalize chainS l x = C at *
    generalize someS (fun c => triedS c x) 0 l = L at *
    have hs2 := fun o1 o2 n1 n2 σ => sints9_ok L L o1 o2 n1 n2 (by omega) (by omega) σ
    simp only [decide_true] at hs hs2
    simp only [clsV, clV_def, intsV] at hm hco hc0 hc1 hs ht ht2 hs2 hbo ⊢
    refine ACalls.of_body Try.func5 rfl rfl (by simp [Try.ntmps5]) ?_
    repeat (first
      | (with_reducible apply AWp.seq)
      | (with_reducible apply AWp.block)
      | ((with_reducible apply AWp.fork); simp -implicitDefEqProofs [ci_lt, ci_le])
      | ((with_reducible apply AWp.region); simp -implicitDefEqProofs [ci_lt, ci_le])
      | (with_reducible refine And.intro (by first | omega | assumption | decide) ?_)
      | ((with_reducible show condK _ _ _); simp -implicitDefEqProofs [ci_lt, ci_le])
      | ((with_reducible show guardK _ _ _ _ _ _ _ _ _); simp -implicitDefEqProofs [ci_lt, ci_le])
      | (((with_reducible apply AWp.drawS (id := 5) (t := (Sch.step 0 (Sch.step 2 (Sch.pure 1 (Sch.read 3 (Sch.pure 4 (Sch.step 5 Sch.done)))))))); (exact mixed); kernel_rfl; kernel_rfl; (repeat (with_reducible first | apply PanQ.then | apply PanQ.block | apply PanQ.body | apply PanQ.no))); simp -implicitDefEqProofs [ci_lt, ci_le])
      | (((with_reducible apply AWp.drawS (id := 6) (t := (Sch.step 0 (Sch.step 1 (Sch.step 2 (Sch.read 3 (Sch.pure 4 (Sch.pure 5 (Sch.step 6 (Sch.step 7 (Sch.step 8 (Sch.step 10 (Sch.step 13 (Sch.step 14 (Sch.pure 9 (Sch.read 11 (Sch.pure 12 (Sch.read 15 (Sch.pure 16 (Sch.pure 17 (Sch.step 18 (Sch.step 19 Sch.done)))))))))))))))))))))); (exact mixed); kernel_rfl; kernel_rfl; (repeat (with_reducible first | apply PanQ.then | apply PanQ.block | apply PanQ.body | apply PanQ.no))); simp -implicitDefEqProofs [ci_lt, ci_le])
      | (((with_reducible apply AWp.drawS (id := 11) (t := (Sch.step 0 (Sch.step 1 (Sch.step 2 (Sch.step 3 (Sch.step 4 (Sch.step 5 (Sch.step 9 (Sch.step 10 (Sch.step 11 (Sch.step 12 (Sch.step 13 (Sch.read 6 (Sch.step 7 (Sch.read 8 (Sch.read 14 (Sch.pure 15 (Sch.step 16 (Sch.step 17 (Sch.step 18 (Sch.step 19 (Sch.step 20 Sch.done))))))))))))))))))))))); (exact mixed); kernel_rfl; kernel_rfl; (repeat (with_reducible first | apply PanQ.then | apply PanQ.block | apply PanQ.body | apply PanQ.no))); simp -implicitDefEqProofs [ci_lt, ci_le])
      | (((with_reducible apply AWp.drawS (id := 12) (t := (Sch.step 0 (Sch.step 1 (Sch.step 2 (Sch.step 3 (Sch.step 4 (Sch.step 8 (Sch.step 9 (Sch.step 10 (Sch.step 11 (Sch.read 5 (Sch.step 6 (Sch.read 7 (Sch.read 12 (Sch.pure 13 (Sch.step 14 (Sch.step 15 (Sch.step 16 (Sch.step 17 (Sch.step 18 Sch.done))))))))))))))))))))); (exact mixed); kernel_rfl; kernel_rfl; (repeat (with_reducible first | apply PanQ.then | apply PanQ.block | apply PanQ.body | apply PanQ.no))); simp -implicitDefEqProofs [ci_lt, ci_le])
      | ((with_reducible apply AWp.ret); try simp -implicitDefEqProofs [ci_lt, ci_le])
      | ((with_reducible apply AWp.skip); try simp -implicitDefEqProofs [ci_lt, ci_le])
      | ((with_reducible apply AWp.exit); try simp -implicitDefEqProofs [ci_lt, ci_le]))
    intro id h_id
    repeat (first
      | (with_reducible apply AWp.seq)
      | (with_reducible apply AWp.block)
      | ((with_reducible apply AWp.fork); simp -implicitDefEqProofs [ci_lt, ci_le])
      | ((with_reducible apply AWp.region); simp -implicitDefEqProofs [ci_lt, ci_le])
      | (with_reducible refine And.intro (by first | omega | assumption | decide) ?_)
      | ((with_reducible show condK _ _ _); simp -implicitDefEqProofs [ci_lt, ci_le])
      | ((with_reducible show guardK _ _ _ _ _ _ _ _ _); simp -implicitDefEqProofs [ci_lt, ci_le])
      | (((with_reducible apply AWp.drawS (id := 5) (t := (Sch.step 0 (Sch.step 2 (Sch.pure 1 (Sch.read 3 (Sch.pure 4 (Sch.step 5 Sch.done)))))))); (exact mixed); kernel_rfl; kernel_rfl; (repeat (with_reducible first | apply PanQ.then | apply PanQ.block | apply PanQ.body | apply PanQ.no))); simp -implicitDefEqProofs [ci_lt, ci_le])
      | (((with_reducible apply AWp.drawS (id := 6) (t := (Sch.step 0 (Sch.step 1 (Sch.step 2 (Sch.read 3 (Sch.pure 4 (Sch.pure 5 (Sch.step 6 (Sch.step 7 (Sch.step 8 (Sch.step 10 (Sch.step 13 (Sch.step 14 (Sch.pure 9 (Sch.read 11 (Sch.pure 12 (Sch.read 15 (Sch.pure 16 (Sch.pure 17 (Sch.step 18 (Sch.step 19 Sch.done)))))))))))))))))))))); (exact mixed); kernel_rfl; kernel_rfl; (repeat (with_reducible first | apply PanQ.then | apply PanQ.block | apply PanQ.body | apply PanQ.no))); simp -implicitDefEqProofs [ci_lt, ci_le])
      | (((with_reducible apply AWp.drawS (id := 11) (t := (Sch.step 0 (Sch.step 1 (Sch.step 2 (Sch.step 3 (Sch.step 4 (Sch.step 5 (Sch.step 9 (Sch.step 10 (Sch.step 11 (Sch.step 12 (Sch.step 13 (Sch.read 6 (Sch.step 7 (Sch.read 8 (Sch.read 14 (Sch.pure 15 (Sch.step 16 (Sch.step 17 (Sch.step 18 (Sch.step 19 (Sch.step 20 Sch.done))))))))))))))))))))))); (exact mixed); kernel_rfl; kernel_rfl; (repeat (with_reducible first | apply PanQ.then | apply PanQ.block | apply PanQ.body | apply PanQ.no))); simp -implicitDefEqProofs [ci_lt, ci_le])
      | (((with_reducible apply AWp.drawS (id := 12) (t := (Sch.step 0 (Sch.step 1 (Sch.step 2 (Sch.step 3 (Sch.step 4 (Sch.step 8 (Sch.step 9 (Sch.step 10 (Sch.step 11 (Sch.read 5 (Sch.step 6 (Sch.read 7 (Sch.read 12 (Sch.pure 13 (Sch.step 14 (Sch.step 15 (Sch.step 16 (Sch.step 17 (Sch.step 18 Sch.done))))))))))))))))))))); (exact mixed); kernel_rfl; kernel_rfl; (repeat (with_reducible first | apply PanQ.then | apply PanQ.block | apply PanQ.body | apply PanQ.no))); simp -implicitDefEqProofs [ci_lt, ci_le])
      | ((with_reducible apply aCall.id); first
          | ((apply aCall.gives (hw _)); simp -implicitDefEqProofs [ci_lt, ci_le])
          | ((apply aCall.gives (hm _)); simp -implicitDefEqProofs [ci_lt, ci_le])
          | ((apply aCall.gives (hco _)); simp -implicitDefEqProofs [ci_lt, ci_le])
          | ((apply aCall.gives (hc0 _)); simp -implicitDefEqProofs [ci_lt, ci_le])
          | ((apply aCall.gives (hc1 _)); simp -implicitDefEqProofs [ci_lt, ci_le])
          | ((apply aCall.gives (hs _ _ _ _ _)); simp -implicitDefEqProofs [ci_lt, ci_le])
          | ((apply aCall.gives (ht _)); simp -implicitDefEqProofs [ci_lt, ci_le])
          | ((apply aCall.gives (ht2 _)); simp -implicitDefEqProofs [ci_lt, ci_le])
          | ((apply aCall.gives (hs2 _ _ _ _ _)); simp -implicitDefEqProofs [ci_lt, ci_le]))
      | ((with_reducible apply pureCall.id); first
          | ((apply pureCall.gives (fun _ => hw _)); simp -implicitDefEqProofs [ci_lt, ci_le])
          | ((apply pureCall.gives (fun _ => hm _)); simp -implicitDefEqProofs [ci_lt, ci_le])
          | ((apply pureCall.gives (fun _ => hco _)); simp -implicitDefEqProofs [ci_lt, ci_le])
          | ((apply pureCall.gives (fun _ => hc0 _)); simp -implicitDefEqProofs [ci_lt, ci_le])
          | ((apply pureCall.gives (fun _ => hc1 _)); simp -implicitDefEqProofs [ci_lt, ci_le])
          | ((apply pureCall.gives (fun _ => hs _ _ _ _ _)); simp -implicitDefEqProofs [ci_lt, ci_le])
          | ((apply pureCall.gives (fun _ => ht _)); simp -implicitDefEqProofs [ci_lt, ci_le])
          | ((apply pureCall.gives (fun _ => ht2 _)); simp -implicitDefEqProofs [ci_lt, ci_le])
          | ((apply pureCall.gives (fun _ => hs2 _ _ _ _ _)); simp -implicitDefEqProofs [ci_lt, ci_le]))
      | ((with_reducible apply AWp.ret); try simp -implicitDefEqProofs [ci_lt, ci_le])
      | ((with_reducible apply AWp.skip); try simp -implicitDefEqProofs [ci_lt, ci_le])
      | ((with_reducible apply AWp.exit); try simp -implicitDefEqProofs [ci_lt, ci_le]))
    refine AWp.loopA (α := (Nat)) (1) (fun i => C.length + 1 - i) (fun i => 1 ≤ i) [(0, ?_), (5, ?_)] (fun i => [(6, .sc (.int .i64 i))]) (fun i => AS.set noAS id (.cells 33 [.sc (.int .i64 n), .sc (.int .i64 x), .sc (.int .i64 y)])) ?_ ?_ ?_ ?_
    rotate_left 2
    · (try dsimp only); (simp only [List.cons_append, List.nil_append]; repeat (first | exact FrWk.nil | refine FrWk.cons (by first | (simp -implicitDefEqProofs [ci_lt, ci_le]; done) | exact Wk.of (by (try simp -implicitDefEqProofs [ci_lt, ci_le]) <;> rfl)) ?_))
    · (try dsimp only); (first | exact AS.le_refl _ | assumption | (repeat (first | exact AS.le_refl _ | assumption | refine le_new (by simp [*]) ?_)))
    · omega
    intro i hx_
    try dsimp only at hx_ ⊢
    obtain hi := hx_
    simp only [List.cons_append, List.nil_append]
    by_cases hlt : i < C.length
    · have wi_i : IntKind.i64.wrap ((i : Int) + 1) = ((i + 1 : Nat) : Int) := ci_wi (by omega)
      obtain ⟨j, hij⟩ : ∃ j, i = j + 1 := ⟨i - 1, by omega⟩
      have hjl : j < C.length := by omega
      have hN := hnest j C[j] C[i] (by simp [hjl]) (by simp [← hij, hlt])
      obtain ⟨a, ca, ha1, ha2, ha3, ha4⟩ := hmem C[j] (List.getElem_mem hjl)
      obtain ⟨b, cb, hb1, hb2, hb3, hb4⟩ := hmem C[i] (List.getElem_mem hlt)
      generalize hp : C[j] = p at *
      generalize hq : C[i] = q at *
      have w1 : IntKind.i64.wrap ((i : Int) - 1) = (j : Int) := by rw [in_i64 (by omega) (by omega)]; omega
      have hbo1 := fun σ => hbo ca p.p σ
      have hbo2 := fun σ => hbo cb q.p σ
      rw [ha4] at hbo1
      rw [hb4] at hbo2
      generalize p.s = u at *
      generalize q.s = v at *
      simp only [withinS, Bool.and_eq_true, Bool.not_eq_true', decide_eq_false_iff_not, decide_eq_true_eq] at hN
      obtain ⟨n1, n2, n3⟩ := hN
      have n4 : ¬ u.f < v.f := by omega
      have n5 : ¬ v.t < u.t := by omega
      have n6 : ¬ (u.f = v.f ∧ u.t = v.t) := by
        intro h; apply n1; cases u; cases v; simp at h ⊢; exact h
      by_cases n7 : u.f = v.f
      · have n8 : ¬ u.t = v.t := fun h => n6 ⟨n7, h⟩
        repeat (first
          | (with_reducible apply AWp.seq)
          | (with_reducible apply AWp.block)
          | ((with_reducible apply AWp.fork); simp -implicitDefEqProofs [hlt, hjl, hp, hq, rgV, clV_def, ha1, ha2, ha3, hb1, hb2, hb3, w1, n4, n5, n7, n8, ci_lt, ci_le, wi_i])
          | ((with_reducible apply AWp.region); simp -implicitDefEqProofs [hlt, hjl, hp, hq, rgV, clV_def, ha1, ha2, ha3, hb1, hb2, hb3, w1, n4, n5, n7, n8, ci_lt, ci_le, wi_i])
          | (with_reducible refine And.intro (by first | omega | assumption | decide) ?_)
          | ((with_reducible show condK _ _ _); simp -implicitDefEqProofs [hlt, hjl, hp, hq, rgV, clV_def, ha1, ha2, ha3, hb1, hb2, hb3, w1, n4, n5, n7, n8, ci_lt, ci_le, wi_i])
          | ((with_reducible show guardK _ _ _ _ _ _ _ _ _); simp -implicitDefEqProofs [hlt, hjl, hp, hq, rgV, clV_def, ha1, ha2, ha3, hb1, hb2, hb3, w1, n4, n5, n7, n8, ci_lt, ci_le, wi_i])
          | (((with_reducible apply AWp.drawS (id := 5) (t := (Sch.step 0 (Sch.step 2 (Sch.pure 1 (Sch.read 3 (Sch.pure 4 (Sch.step 5 Sch.done)))))))); (exact mixed); kernel_rfl; kernel_rfl; (repeat (with_reducible first | apply PanQ.then | apply PanQ.block | apply PanQ.body | apply PanQ.no))); simp -implicitDefEqProofs [hlt, hjl, hp, hq, rgV, clV_def, ha1, ha2, ha3, hb1, hb2, hb3, w1, n4, n5, n7, n8, ci_lt, ci_le, wi_i])
          | (((with_reducible apply AWp.drawS (id := 6) (t := (Sch.step 0 (Sch.step 1 (Sch.step 2 (Sch.read 3 (Sch.pure 4 (Sch.pure 5 (Sch.step 6 (Sch.step 7 (Sch.step 8 (Sch.step 10 (Sch.step 13 (Sch.step 14 (Sch.pure 9 (Sch.read 11 (Sch.pure 12 (Sch.read 15 (Sch.pure 16 (Sch.pure 17 (Sch.step 18 (Sch.step 19 Sch.done)))))))))))))))))))))); (exact mixed); kernel_rfl; kernel_rfl; (repeat (with_reducible first | apply PanQ.then | apply PanQ.block | apply PanQ.body | apply PanQ.no))); simp -implicitDefEqProofs [hlt, hjl, hp, hq, rgV, clV_def, ha1, ha2, ha3, hb1, hb2, hb3, w1, n4, n5, n7, n8, ci_lt, ci_le, wi_i])
          | (((with_reducible apply AWp.drawS (id := 11) (t := (Sch.step 0 (Sch.step 1 (Sch.step 2 (Sch.step 3 (Sch.step 4 (Sch.step 5 (Sch.step 9 (Sch.step 10 (Sch.step 11 (Sch.step 12 (Sch.step 13 (Sch.read 6 (Sch.step 7 (Sch.read 8 (Sch.read 14 (Sch.pure 15 (Sch.step 16 (Sch.step 17 (Sch.step 18 (Sch.step 19 (Sch.step 20 Sch.done))))))))))))))))))))))); (exact mixed); kernel_rfl; kernel_rfl; (repeat (with_reducible first | apply PanQ.then | apply PanQ.block | apply PanQ.body | apply PanQ.no))); simp -implicitDefEqProofs [hlt, hjl, hp, hq, rgV, clV_def, ha1, ha2, ha3, hb1, hb2, hb3, w1, n4, n5, n7, n8, ci_lt, ci_le, wi_i])
          | (((with_reducible apply AWp.drawS (id := 12) (t := (Sch.step 0 (Sch.step 1 (Sch.step 2 (Sch.step 3 (Sch.step 4 (Sch.step 8 (Sch.step 9 (Sch.step 10 (Sch.step 11 (Sch.read 5 (Sch.step 6 (Sch.read 7 (Sch.read 12 (Sch.pure 13 (Sch.step 14 (Sch.step 15 (Sch.step 16 (Sch.step 17 (Sch.step 18 Sch.done))))))))))))))))))))); (exact mixed); kernel_rfl; kernel_rfl; (repeat (with_reducible first | apply PanQ.then | apply PanQ.block | apply PanQ.body | apply PanQ.no))); simp -implicitDefEqProofs [hlt, hjl, hp, hq, rgV, clV_def, ha1, ha2, ha3, hb1, hb2, hb3, w1, n4, n5, n7, n8, ci_lt, ci_le, wi_i])
          | ((with_reducible apply aCall.id); first
              | ((apply aCall.gives (hbo1 _)); simp -implicitDefEqProofs [hlt, hjl, hp, hq, rgV, clV_def, ha1, ha2, ha3, hb1, hb2, hb3, w1, n4, n5, n7, n8, ci_lt, ci_le, wi_i])
              | ((apply aCall.gives (hbo2 _)); simp -implicitDefEqProofs [hlt, hjl, hp, hq, rgV, clV_def, ha1, ha2, ha3, hb1, hb2, hb3, w1, n4, n5, n7, n8, ci_lt, ci_le, wi_i]))
          | ((with_reducible apply pureCall.id); first
              | ((apply pureCall.gives (fun _ => hbo1 _)); simp -implicitDefEqProofs [hlt, hjl, hp, hq, rgV, clV_def, ha1, ha2, ha3, hb1, hb2, hb3, w1, n4, n5, n7, n8, ci_lt, ci_le, wi_i])
              | ((apply pureCall.gives (fun _ => hbo2 _)); simp -implicitDefEqProofs [hlt, hjl, hp, hq, rgV, clV_def, ha1, ha2, ha3, hb1, hb2, hb3, w1, n4, n5, n7, n8, ci_lt, ci_le, wi_i]))
          | ((with_reducible apply AWp.ret); try simp -implicitDefEqProofs [hlt, hjl, hp, hq, rgV, clV_def, ha1, ha2, ha3, hb1, hb2, hb3, w1, n4, n5, n7, n8, ci_lt, ci_le, wi_i])
          | ((with_reducible apply AWp.skip); try simp -implicitDefEqProofs [hlt, hjl, hp, hq, rgV, clV_def, ha1, ha2, ha3, hb1, hb2, hb3, w1, n4, n5, n7, n8, ci_lt, ci_le, wi_i])
          | ((with_reducible apply AWp.exit); try simp -implicitDefEqProofs [hlt, hjl, hp, hq, rgV, clV_def, ha1, ha2, ha3, hb1, hb2, hb3, w1, n4, n5, n7, n8, ci_lt, ci_le, wi_i]))
        refine stepA.mk (i + 1) (by (try dsimp only); omega) (by (try dsimp only); (simp only [List.cons_append, List.nil_append]; repeat (first | exact FrWk.nil | refine FrWk.cons (by first | (simp -implicitDefEqProofs [ci_lt, ci_le, wi_i]; done) | exact Wk.of (by (try simp -implicitDefEqProofs [ci_lt, ci_le, wi_i]) <;> rfl)) ?_))) (by (try dsimp only); (first | exact AS.le_refl _ | assumption | (repeat (first | exact AS.le_refl _ | assumption | refine le_new (by simp [*]) ?_)))) ?_
        try dsimp only
        omega
      · repeat (first
          | (with_reducible apply AWp.seq)
          | (with_reducible apply AWp.block)
          | ((with_reducible apply AWp.fork); simp -implicitDefEqProofs [hlt, hjl, hp, hq, rgV, clV_def, ha1, ha2, ha3, hb1, hb2, hb3, w1, n4, n5, n7, ci_lt, ci_le, wi_i])
          | ((with_reducible apply AWp.region); simp -implicitDefEqProofs [hlt, hjl, hp, hq, rgV, clV_def, ha1, ha2, ha3, hb1, hb2, hb3, w1, n4, n5, n7, ci_lt, ci_le, wi_i])
          | (with_reducible refine And.intro (by first | omega | assumption | decide) ?_)
          | ((with_reducible show condK _ _ _); simp -implicitDefEqProofs [hlt, hjl, hp, hq, rgV, clV_def, ha1, ha2, ha3, hb1, hb2, hb3, w1, n4, n5, n7, ci_lt, ci_le, wi_i])
          | ((with_reducible show guardK _ _ _ _ _ _ _ _ _); simp -implicitDefEqProofs [hlt, hjl, hp, hq, rgV, clV_def, ha1, ha2, ha3, hb1, hb2, hb3, w1, n4, n5, n7, ci_lt, ci_le, wi_i])
          | (((with_reducible apply AWp.drawS (id := 5) (t := (Sch.step 0 (Sch.step 2 (Sch.pure 1 (Sch.read 3 (Sch.pure 4 (Sch.step 5 Sch.done)))))))); (exact mixed); kernel_rfl; kernel_rfl; (repeat (with_reducible first | apply PanQ.then | apply PanQ.block | apply PanQ.body | apply PanQ.no))); simp -implicitDefEqProofs [hlt, hjl, hp, hq, rgV, clV_def, ha1, ha2, ha3, hb1, hb2, hb3, w1, n4, n5, n7, ci_lt, ci_le, wi_i])
          | (((with_reducible apply AWp.drawS (id := 6) (t := (Sch.step 0 (Sch.step 1 (Sch.step 2 (Sch.read 3 (Sch.pure 4 (Sch.pure 5 (Sch.step 6 (Sch.step 7 (Sch.step 8 (Sch.step 10 (Sch.step 13 (Sch.step 14 (Sch.pure 9 (Sch.read 11 (Sch.pure 12 (Sch.read 15 (Sch.pure 16 (Sch.pure 17 (Sch.step 18 (Sch.step 19 Sch.done)))))))))))))))))))))); (exact mixed); kernel_rfl; kernel_rfl; (repeat (with_reducible first | apply PanQ.then | apply PanQ.block | apply PanQ.body | apply PanQ.no))); simp -implicitDefEqProofs [hlt, hjl, hp, hq, rgV, clV_def, ha1, ha2, ha3, hb1, hb2, hb3, w1, n4, n5, n7, ci_lt, ci_le, wi_i])
          | (((with_reducible apply AWp.drawS (id := 11) (t := (Sch.step 0 (Sch.step 1 (Sch.step 2 (Sch.step 3 (Sch.step 4 (Sch.step 5 (Sch.step 9 (Sch.step 10 (Sch.step 11 (Sch.step 12 (Sch.step 13 (Sch.read 6 (Sch.step 7 (Sch.read 8 (Sch.read 14 (Sch.pure 15 (Sch.step 16 (Sch.step 17 (Sch.step 18 (Sch.step 19 (Sch.step 20 Sch.done))))))))))))))))))))))); (exact mixed); kernel_rfl; kernel_rfl; (repeat (with_reducible first | apply PanQ.then | apply PanQ.block | apply PanQ.body | apply PanQ.no))); simp -implicitDefEqProofs [hlt, hjl, hp, hq, rgV, clV_def, ha1, ha2, ha3, hb1, hb2, hb3, w1, n4, n5, n7, ci_lt, ci_le, wi_i])
          | (((with_reducible apply AWp.drawS (id := 12) (t := (Sch.step 0 (Sch.step 1 (Sch.step 2 (Sch.step 3 (Sch.step 4 (Sch.step 8 (Sch.step 9 (Sch.step 10 (Sch.step 11 (Sch.read 5 (Sch.step 6 (Sch.read 7 (Sch.read 12 (Sch.pure 13 (Sch.step 14 (Sch.step 15 (Sch.step 16 (Sch.step 17 (Sch.step 18 Sch.done))))))))))))))))))))); (exact mixed); kernel_rfl; kernel_rfl; (repeat (with_reducible first | apply PanQ.then | apply PanQ.block | apply PanQ.body | apply PanQ.no))); simp -implicitDefEqProofs [hlt, hjl, hp, hq, rgV, clV_def, ha1, ha2, ha3, hb1, hb2, hb3, w1, n4, n5, n7, ci_lt, ci_le, wi_i])
          | ((with_reducible apply aCall.id); first
              | ((apply aCall.gives (hbo1 _)); simp -implicitDefEqProofs [hlt, hjl, hp, hq, rgV, clV_def, ha1, ha2, ha3, hb1, hb2, hb3, w1, n4, n5, n7, ci_lt, ci_le, wi_i])
              | ((apply aCall.gives (hbo2 _)); simp -implicitDefEqProofs [hlt, hjl, hp, hq, rgV, clV_def, ha1, ha2, ha3, hb1, hb2, hb3, w1, n4, n5, n7, ci_lt, ci_le, wi_i]))
          | ((with_reducible apply pureCall.id); first
              | ((apply pureCall.gives (fun _ => hbo1 _)); simp -implicitDefEqProofs [hlt, hjl, hp, hq, rgV, clV_def, ha1, ha2, ha3, hb1, hb2, hb3, w1, n4, n5, n7, ci_lt, ci_le, wi_i])
              | ((apply pureCall.gives (fun _ => hbo2 _)); simp -implicitDefEqProofs [hlt, hjl, hp, hq, rgV, clV_def, ha1, ha2, ha3, hb1, hb2, hb3, w1, n4, n5, n7, ci_lt, ci_le, wi_i]))
          | ((with_reducible apply AWp.ret); try simp -implicitDefEqProofs [hlt, hjl, hp, hq, rgV, clV_def, ha1, ha2, ha3, hb1, hb2, hb3, w1, n4, n5, n7, ci_lt, ci_le, wi_i])
          | ((with_reducible apply AWp.skip); try simp -implicitDefEqProofs [hlt, hjl, hp, hq, rgV, clV_def, ha1, ha2, ha3, hb1, hb2, hb3, w1, n4, n5, n7, ci_lt, ci_le, wi_i])
          | ((with_reducible apply AWp.exit); try simp -implicitDefEqProofs [hlt, hjl, hp, hq, rgV, clV_def, ha1, ha2, ha3, hb1, hb2, hb3, w1, n4, n5, n7, ci_lt, ci_le, wi_i]))
        refine stepA.mk (i + 1) (by (try dsimp only); omega) (by (try dsimp only); (simp only [List.cons_append, List.nil_append]; repeat (first | exact FrWk.nil | refine FrWk.cons (by first | (simp -implicitDefEqProofs [ci_lt, ci_le, wi_i]; done) | exact Wk.of (by (try simp -implicitDefEqProofs [ci_lt, ci_le, wi_i]) <;> rfl)) ?_))) (by (try dsimp only); (first | exact AS.le_refl _ | assumption | (repeat (first | exact AS.le_refl _ | assumption | refine le_new (by simp [*]) ?_)))) ?_
        try dsimp only
        omega
    · repeat (first
        | (with_reducible apply AWp.seq)
        | (with_reducible apply AWp.block)
        | ((with_reducible apply AWp.fork); simp -implicitDefEqProofs [hlt, ci_lt, ci_le])
        | ((with_reducible apply AWp.region); simp -implicitDefEqProofs [hlt, ci_lt, ci_le])
        | (with_reducible refine And.intro (by first | omega | assumption | decide) ?_)
        | ((with_reducible show condK _ _ _); simp -implicitDefEqProofs [hlt, ci_lt, ci_le])
        | ((with_reducible show guardK _ _ _ _ _ _ _ _ _); simp -implicitDefEqProofs [hlt, ci_lt, ci_le])
        | (((with_reducible apply AWp.drawS (id := 5) (t := (Sch.step 0 (Sch.step 2 (Sch.pure 1 (Sch.read 3 (Sch.pure 4 (Sch.step 5 Sch.done)))))))); (exact mixed); kernel_rfl; kernel_rfl; (repeat (with_reducible first | apply PanQ.then | apply PanQ.block | apply PanQ.body | apply PanQ.no))); simp -implicitDefEqProofs [hlt, ci_lt, ci_le])
        | (((with_reducible apply AWp.drawS (id := 6) (t := (Sch.step 0 (Sch.step 1 (Sch.step 2 (Sch.read 3 (Sch.pure 4 (Sch.pure 5 (Sch.step 6 (Sch.step 7 (Sch.step 8 (Sch.step 10 (Sch.step 13 (Sch.step 14 (Sch.pure 9 (Sch.read 11 (Sch.pure 12 (Sch.read 15 (Sch.pure 16 (Sch.pure 17 (Sch.step 18 (Sch.step 19 Sch.done)))))))))))))))))))))); (exact mixed); kernel_rfl; kernel_rfl; (repeat (with_reducible first | apply PanQ.then | apply PanQ.block | apply PanQ.body | apply PanQ.no))); simp -implicitDefEqProofs [hlt, ci_lt, ci_le])
        | (((with_reducible apply AWp.drawS (id := 11) (t := (Sch.step 0 (Sch.step 1 (Sch.step 2 (Sch.step 3 (Sch.step 4 (Sch.step 5 (Sch.step 9 (Sch.step 10 (Sch.step 11 (Sch.step 12 (Sch.step 13 (Sch.read 6 (Sch.step 7 (Sch.read 8 (Sch.read 14 (Sch.pure 15 (Sch.step 16 (Sch.step 17 (Sch.step 18 (Sch.step 19 (Sch.step 20 Sch.done))))))))))))))))))))))); (exact mixed); kernel_rfl; kernel_rfl; (repeat (with_reducible first | apply PanQ.then | apply PanQ.block | apply PanQ.body | apply PanQ.no))); simp -implicitDefEqProofs [hlt, ci_lt, ci_le])
        | (((with_reducible apply AWp.drawS (id := 12) (t := (Sch.step 0 (Sch.step 1 (Sch.step 2 (Sch.step 3 (Sch.step 4 (Sch.step 8 (Sch.step 9 (Sch.step 10 (Sch.step 11 (Sch.read 5 (Sch.step 6 (Sch.read 7 (Sch.read 12 (Sch.pure 13 (Sch.step 14 (Sch.step 15 (Sch.step 16 (Sch.step 17 (Sch.step 18 Sch.done))))))))))))))))))))); (exact mixed); kernel_rfl; kernel_rfl; (repeat (with_reducible first | apply PanQ.then | apply PanQ.block | apply PanQ.body | apply PanQ.no))); simp -implicitDefEqProofs [hlt, ci_lt, ci_le])
        | ((with_reducible apply AWp.ret); try simp -implicitDefEqProofs [hlt, ci_lt, ci_le])
        | ((with_reducible apply AWp.skip); try simp -implicitDefEqProofs [hlt, ci_lt, ci_le])
        | ((with_reducible apply AWp.exit); try simp -implicitDefEqProofs [hlt, ci_lt, ci_le]))

end Go.Proofs.Ythbmjmdmamapiaa
