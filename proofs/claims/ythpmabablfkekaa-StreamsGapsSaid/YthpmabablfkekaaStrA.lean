/- Chapter 03: what is joined is parted to what it was (plain lists). -/
import Derived.Test.YthpmabablfkekaaStr8
set_option linter.unusedSimpArgs false
set_option linter.unusedVariables false
set_option maxRecDepth 100000
set_option maxHeartbeats 3200000
namespace Go.Proofs.Ythpmabablfkekaa
open Go Go.AW

def ent (s : Nat → List UInt8) (k : Nat) : List UInt8 := putB (plc s k) 4 ++ putB (s k).length 4 ++ tg k
theorem hdP_ent (s : Nat → List UInt8) (k : Nat) : hdP s (k + 1) = hdP s k ++ ent s k := by simp [hdP, ent]
theorem ent_len (s : Nat → List UInt8) (k : Nat) : (ent s k).length = 12 := by simp [ent, putB_length, tg_len]

theorem head_at (s : Nat → List UInt8) : ∀ (j k : Nat) (R : List UInt8), k < j → At (hdP s j ++ R) (8 + 12 * k) (ent s k) := by
  intro j
  induction j with
  | zero => intro k R h; omega
  | succ j ih =>
    intro k R h
    by_cases e : k = j
    · subst e
      have := At.mid (hdP s k) (ent s k) R
      rwa [← hdP_ent, hdP_len] at this
    · rw [hdP_ent, List.append_assoc]
      exact ih k _ (by omega)
theorem head_0 (s : Nat → List UInt8) : ∀ (j : Nat) (R : List UInt8), At (hdP s j ++ R) 0 [67, 71, 82, 68, 1, 0, 4, 0] := by
  intro j
  induction j with
  | zero => intro R; exact At.mid [] _ R
  | succ j ih => intro R; rw [hdP_ent, List.append_assoc]; exact ih _
theorem body_at (s : Nat → List UInt8) (H : List UInt8) : ∀ (j k : Nat) (R : List UInt8), k < j → At (H ++ (bdP s j ++ R)) (H.length + ((bdP s k).length + pad (bdP s k).length)) (s k) := by
  intro j
  induction j with
  | zero => intro k R h; omega
  | succ j ih =>
    intro k R h
    by_cases e : k = j
    · subst e
      have := At.mid (H ++ (bdP s k ++ List.replicate (pad (bdP s k).length) 0)) (s k) R
      simp only [List.length_append, List.length_replicate] at this
      simpa [bdP] using this
    · have := ih k (List.replicate (pad (bdP s j).length) 0 ++ s j ++ R) (by omega)
      simpa [bdP] using this

theorem plc_next (s : Nat → List UInt8) (k : Nat) : plc s k + (s k).length ≤ plc s (k + 1) := by
  simp only [plc, bdP, List.length_append, List.length_replicate]; omega
theorem plc_mod (s : Nat → List UInt8) (k : Nat) : plc s k % 4 = 0 := by
  have := pad_al (bdP s k).length
  unfold plc; omega

theorem num_at {b : List UInt8} {a : Nat} {x : Nat} (h : At b a (putB x 4)) (hx : x < 4294967296) : numL (seg b (a : Int) 4) = x := by
  have := (At.num (n := 4) h (by omega) (by have e : (256 : Int) ^ 4 = 4294967296 := by decide
                                            omega)).2
  simpa using this
theorem seg_at {b : List UInt8} {a n : Nat} {t : List UInt8} (h : At b a t) (hn : t.length = n) : seg b (a : Int) (n : Int) = t := by
  rw [seg_sg, ← hn]; exact h.2
theorem tagK_tg {k : Nat} (hk : k < 4) : tagK (tg k) = k := (tagK_eq hk).1 rfl

/-- Bytes that hold a head of such streams. -/
structure Held (s : Nat → List UInt8) (b : List UInt8) : Prop where
  hd : At b 0 [67, 71, 82, 68, 1, 0, 4, 0]
  en : ∀ k, k < 4 → At b (8 + 12 * k) (ent s k)
  lo : ∀ k, k < 4 → (s k).length ≤ 4000
  big : b.length ≤ 65536
  
theorem Held.plc_lt {s : Nat → List UInt8} {b : List UInt8} (h : Held s b) {k : Nat} (hk : k ≤ 4) : plc s k < 20000 := by
  have h1 := bdP_len (s := s) (k := k) (N := 4000) (fun j hj => h.lo j (by omega))
  have h2 : k * (4000 + 3) ≤ 4 * 4003 := Nat.mul_le_mul hk (by omega)
  have h3 := pad_lt (bdP s k).length
  unfold plc; omega
theorem Held.entry {s : Nat → List UInt8} {b : List UInt8} (h : Held s b) {k : Nat} (hk : k < 4) :
    numL (seg b ((8 + 12 * k : Nat) : Int) 4) = plc s k ∧ numL (seg b (((8 + 12 * k : Nat) : Int) + 4) 4) = (s k).length ∧ tagK (seg b (((8 + 12 * k : Nat) : Int) + 8) 4) = k := by
  have h1 := h.en k hk
  unfold ent at h1
  rw [At.app, At.app] at h1
  obtain ⟨⟨h1, h2⟩, h3⟩ := h1
  simp only [List.length_append, putB_length] at h2 h3
  have l1 := h.plc_lt (k := k) (by omega)
  have l2 := h.lo k hk
  refine ⟨num_at h1 (by omega), ?_, ?_⟩
  · rw [show (((8 + 12 * k : Nat) : Int) + 4) = ((8 + 12 * k + 4 : Nat) : Int) by omega]
    exact num_at h2 (by omega)
  · rw [show (((8 + 12 * k : Nat) : Int) + 8) = ((8 + 12 * k + (4 + 4) : Nat) : Int) by omega]
    have := seg_at (n := 4) h3 (tg_len k)
    rw [show (4 : Int) = ((4 : Nat) : Int) from rfl, this, tagK_tg hk]

def sp (s : Nat → List UInt8) (k : Nat) : Int × Int × Int := ((k : Int), (plc s k : Int), (plc s k : Int) + (s k).length)

theorem Held.wrong {s : Nat → List UInt8} {b : List UInt8} (h : Held s b) {k : Nat} (hk : k < 4) {M : List (Int × Int × Int)} (hM : ∀ x ∈ M, ∃ j, j < k ∧ x = sp s j) :
    wrongS b.length M k (plc s k) ((plc s k : Int) + (s k).length) = if (b.length : Int) < (plc s k : Int) + (s k).length then 1 else 0 := by
  have mono : ∀ j, j < k → plc s j + (s j).length ≤ plc s k := by
    intro j hj
    obtain ⟨d, rfl⟩ : ∃ d, k = j + 1 + d := ⟨k - (j + 1), by omega⟩
    clear hM hk
    induction d with
    | zero => exact plc_next s j
    | succ d ih =>
      have h1 := ih (by omega)
      have h2 := plc_next s (j + 1 + d)
      have : j + 1 + (d + 1) = j + 1 + d + 1 := by omega
      rw [this]; omega
  have p1 : 56 ≤ plc s k := by unfold plc; omega
  have p2 := plc_mod s k
  unfold wrongS
  rw [if_neg, if_neg]
  · by_cases hb : (b.length : Int) < (plc s k : Int) + (s k).length
    · rw [if_pos hb, if_pos hb]
    · rw [if_neg hb, if_neg hb, if_neg]
      rw [List.any_eq_true]
      rintro ⟨x, hx, hov⟩
      obtain ⟨j, hj, rfl⟩ := hM x hx
      have := mono j hj
      have hov' : (plc s k : Int) < (plc s j : Int) + (s j).length ∧ (plc s j : Int) < (plc s k : Int) + (s k).length ∧ (plc s k : Int) < (plc s k : Int) + (s k).length ∧ (plc s j : Int) < (plc s j : Int) + (s j).length := of_decide_eq_true hov
      omega
  · omega
  · rintro (h | h)
    · omega
    · rw [List.any_eq_true] at h
      obtain ⟨x, hx, he⟩ := h
      obtain ⟨j, hj, rfl⟩ := hM x hx
      simp [sp] at he
      omega

theorem Held.step {s : Nat → List UInt8} {b : List UInt8} (h : Held s b) {k : Nat} (hk : k < 4) {M : List (Int × Int × Int)} (hM : ∀ x ∈ M, ∃ j, j < k ∧ x = sp s j) (ha : At b (plc s k) (s k)) (m : Nat) (o : Strs) :
    splitL b (m + 1) (8 + 12 * k) M o = splitL b m (8 + 12 * (k + 1)) (M ++ [sp s k]) (o.set k (s k, false)) := by
  obtain ⟨e1, e2, e3⟩ := h.entry hk
  have hw := h.wrong hk hM
  have hl := ha.len
  rw [if_neg (by omega)] at hw
  rw [splitL, e1, e2, e3, if_pos hw, show seg b (plc s k : Int) ((s k).length : Int) = s k from seg_at ha rfl]
  rfl
theorem Held.short {s : Nat → List UInt8} {b : List UInt8} (h : Held s b) {k : Nat} (hk : k < 4) {M : List (Int × Int × Int)} (hM : ∀ x ∈ M, ∃ j, j < k ∧ x = sp s j) (hs : b.length < plc s k + (s k).length) (m : Nat) (o : Strs) :
    (splitL b (m + 1) (8 + 12 * k) M o).2.2 = 1 := by
  obtain ⟨e1, e2, e3⟩ := h.entry hk
  have hw := h.wrong hk hM
  rw [if_pos (by omega)] at hw
  rw [splitL, e1, e2, e3, if_neg (by rw [hw]; omega)]
  exact hw

theorem Held.start {s : Nat → List UInt8} {b : List UInt8} (h : Held s b) : splitS b = splitL b 4 8 [] E4 := by
  have h1 := (h.en 3 (by omega)).len
  rw [ent_len] at h1
  have hd := h.hd
  rw [show ([67, 71, 82, 68, 1, 0, 4, 0] : List UInt8) = [67, 71, 82, 68] ++ ([1, 0] ++ [4, 0]) from rfl, At.app, At.app] at hd
  obtain ⟨d1, d2, d3⟩ := hd
  have t1 : b.take 4 = CGRD := d1.take.symm
  have u2 : seg b 4 2 = [1, 0] := by simpa using seg_at (n := 2) d2 rfl
  have u3 : seg b 6 2 = [4, 0] := by simpa using seg_at (n := 2) d3 rfl
  have t2 : numL (seg b 4 2) = 1 := by rw [u2]; rfl
  have t3 : numL (seg b 6 2) = 4 := by rw [u3]; rfl
  have hb := h.big
  rw [splitS, if_neg (by omega), if_neg (by omega), if_neg (by simpa using t1), if_neg (by simpa using t2), if_neg (by simpa using t3)]

def outS (s : Nat → List UInt8) : Strs := [(s 0, false), (s 1, false), (s 2, false), (s 3, false)]

theorem in1 (s : Nat → List UInt8) : ∀ x ∈ [sp s 0], ∃ j, j < 1 ∧ x = sp s j := by
  intro x hx
  rcases List.mem_singleton.1 hx with rfl
  exact ⟨0, by omega, rfl⟩
theorem in2 (s : Nat → List UInt8) : ∀ x ∈ [sp s 0, sp s 1], ∃ j, j < 2 ∧ x = sp s j := by
  intro x hx
  rcases List.mem_cons.1 hx with rfl | hx
  · exact ⟨0, by omega, rfl⟩
  · rcases List.mem_singleton.1 hx with rfl
    exact ⟨1, by omega, rfl⟩
theorem in3 (s : Nat → List UInt8) : ∀ x ∈ [sp s 0, sp s 1, sp s 2], ∃ j, j < 3 ∧ x = sp s j := by
  intro x hx
  rcases List.mem_cons.1 hx with rfl | hx
  · exact ⟨0, by omega, rfl⟩
  · rcases List.mem_cons.1 hx with rfl | hx
    · exact ⟨1, by omega, rfl⟩
    · rcases List.mem_singleton.1 hx with rfl
      exact ⟨2, by omega, rfl⟩

theorem split_of {s : Nat → List UInt8} {b : List UInt8} (h : Held s b) (ha : ∀ k, k < 4 → At b (plc s k) (s k)) : splitS b = (outS s, 0, 0) := by
  rw [h.start]
  have s0 := h.step (k := 0) (by omega) (M := []) (by simp) (ha 0 (by omega)) 3 E4
  have s1 := h.step (k := 1) (by omega) (M := [sp s 0]) (in1 s) (ha 1 (by omega)) 2 (E4.set 0 (s 0, false))
  have s2 := h.step (k := 2) (by omega) (M := [sp s 0, sp s 1]) (in2 s) (ha 2 (by omega)) 1 ((E4.set 0 (s 0, false)).set 1 (s 1, false))
  have s3 := h.step (k := 3) (by omega) (M := [sp s 0, sp s 1, sp s 2]) (in3 s) (ha 3 (by omega)) 0 (((E4.set 0 (s 0, false)).set 1 (s 1, false)).set 2 (s 2, false))
  exact s0.trans (s1.trans (s2.trans s3))

theorem joinL_len {s : Nat → List UInt8} : (joinL s).length = plc s 3 + (s 3).length := by
  rw [joinL, List.length_append, hdP_len, show bdP s 4 = bdP s 3 ++ List.replicate (pad (bdP s 3).length) 0 ++ s 3 from rfl, plc]
  simp only [List.length_append, List.length_replicate]; omega
theorem joinL_held {s : Nat → List UInt8} (hs : ∀ k, k < 4 → (s k).length ≤ 4000) : Held s (joinL s) where
  hd := head_0 s 4 _
  en := fun k hk => head_at s 4 k _ hk
  lo := hs
  big := by
    rw [joinL, List.length_append, hdP_len]
    have := bdP_len (s := s) (k := 4) (N := 4000) hs
    omega
theorem joinL_at {s : Nat → List UInt8} {k : Nat} (hk : k < 4) : At (joinL s) (plc s k) (s k) := by
  have := body_at s (hdP s 4) 4 k [] hk
  rw [hdP_len, List.append_nil] at this
  rw [joinL, plc]
  rwa [show 8 + 12 * 4 + ((bdP s k).length + pad (bdP s k).length) = 56 + (bdP s k).length + pad (bdP s k).length by omega] at this
theorem split_join {s : Nat → List UInt8} (hs : ∀ k, k < 4 → (s k).length ≤ 4000) : splitS (joinL s) = (outS s, 0, 0) := split_of (joinL_held hs) fun k hk => joinL_at hk

end Go.Proofs.Ythpmabablfkekaa
