/- FnExactFormatLives: the plain law. -/
import Derived.Test.YtlikgaohcnbocaaDoorPG
import Derived.Test.YtlikgaohcnbocaaDoorQ4
namespace Go.Proofs.YtlikgaohcnbocaaDoor.Pr
open Go.RowKit Go.Proofs.YtlikgaohcnbocaaDoorW.PrintWords Go.Proofs.YtlikgaohcnbocaaDoorW.PrintLast Go.Proofs.YtlikgaohcnbocaaDoorW.PrintMore
theorem eqLife_go (xs : List S48) (hx : xs.length ≤ 100000000) : ∀ (d i : Nat), i + d = xs.length → Ev (fun k => laws_eqLifeS.l0 k xs xs (i : Int)) true
  | 0, i, hi => by
    refine Ev.step (f := fun _ => some true) (fun k => ?_) (Ev.now _)
    show laws_eqLifeS.l0 (k + 1) _ _ _ = _
    rw [laws_eqLifeS.l0, if_neg (by omega)]
  | d + 1, i, hi => by
    refine Ev.step (fun k => ?_) (eqLife_go xs hx d (i + 1) (by omega))
    show laws_eqLifeS.l0 (k + 1) _ _ _ = _
    rw [laws_eqLifeS.l0, if_pos (by omega), if_pos (by omega), if_pos (by omega), wrap_up (by omega)]
    unfold laws_eqLife.f
    rw [if_pos rfl, if_pos rfl, if_pos rfl, Option.bind_some, if_pos rfl]
theorem eqLife_ev (xs : List S48) (hx : xs.length ≤ 100000000) : Ev (fun k => laws_eqLifeS.f k xs xs) true := by
  refine Ev.congr (fun k => ?_) (eqLife_go xs hx xs.length 0 (by omega))
  show laws_eqLifeS.f k xs xs = _
  unfold laws_eqLifeS.f
  rw [if_pos rfl]
  rfl
theorem num_wf {x : Int} (h : (Lit.int .i64 x).wf = true) : Num x := by
  simp only [Lit.wf, Bool.and_eq_true, decide_eq_true_eq] at h
  exact ⟨h.1, h.2⟩
theorem take_len {B : Nat} {ps : List (List UInt8)} (h : ∀ p ∈ ps, p.length ≤ B) (i : Nat) (hB : B ≤ 1000) (hi : i ≤ 2000000) : (jn (ps.take i)).length ≤ 2002000000 := by
  have h1 := jn_len (B := B) (ps.take i) (fun p hp => h p (List.mem_of_mem_take hp))
  have h2 : (ps.take i).length ≤ 2000000 := by rw [List.length_take]; omega
  have := Nat.mul_le_mul (show B + 1 ≤ 1001 by omega) h2
  omega
theorem last_txt {ps : List (List UInt8)} (h : ∀ p ∈ ps, p ≠ []) : (if (bs (jn ps)).toList = ([] : List UInt8) then (some (⟨#[45]⟩ : ByteArray)) else (some (bs (jn ps)))) = some (txt ps) := by
  unfold txt
  rw [bs_toList]
  by_cases hp : ps = []
  · subst hp
    rfl
  · rw [if_neg (jn_ne ps hp h), if_neg hp]
theorem Ev.pos {α : Type} {c : Prop} [Decidable c] {f g : Nat → Option α} {r : α} (h : c) (k : Ev f r) : Ev (fun n => if c then f n else g n) r := by
  simpa only [if_pos h] using k
def el (x : S48) : List UInt8 := Lib.itoa x.f0 ++ [47] ++ Lib.itoa x.f1 ++ [47] ++ Lib.itoa x.f2
def els (l : List S48) : List (List UInt8) := l.map el
def Lifes (l : List S48) : Prop := ∀ x ∈ l, Num x.f0 ∧ Num x.f1 ∧ Num x.f2
theorem els_len {l : List S48} (h : Lifes l) : ∀ p ∈ els l, p.length ≤ 65 := by
  intro p hp
  obtain ⟨x, hx, rfl⟩ := List.mem_map.1 hp
  obtain ⟨h0, h1, h2⟩ := h x hx
  have := itoa_len _ h0.1 h0.2
  have := itoa_len _ h1.1 h1.2
  have := itoa_len _ h2.1 h2.2
  unfold el
  simp only [List.length_append, List.length_singleton]
  omega
theorem els_ne (l : List S48) : ∀ p ∈ els l, p ≠ [] := by
  intro p hp
  obtain ⟨x, hx, rfl⟩ := List.mem_map.1 hp
  unfold el
  simp
theorem flS_go (l : List S48) (hn : Lifes l) (hl : l.length ≤ 1048576) : ∀ (d i : Nat), i + d = l.length →
    Ev (fun k => spec_FormatLives.l0 k (bs (jn ((els l).take i))) l (l.length : Int) (i : Int)) (txt (els l))
  | 0, i, hi => by
    refine Ev.step (fun k => spec_FormatLives.l0.eq_2 (k := k) ..) ?_
    simp only [if_neg (show ¬ ((i : Int) < (l.length : Int)) by omega)]
    rw [List.take_of_length_le (by unfold els; rw [List.length_map]; omega)]
    simp only [last_txt (els_ne l)]
    exact Ev.now _
  | d + 1, i, hi => by
    have hlt : i < l.length := by omega
    have hnl : (els l).length = l.length := List.length_map ..
    obtain ⟨hx0, hx1, hx2⟩ := hn _ (List.getElem_mem hlt)
    have ih := flS_go l hn hl d (i + 1) (by omega)
    rw [jn_take (by omega)] at ih
    have hg : (els l)[i]'(by omega) = el l[i] := List.getElem_map ..
    rw [hg] at ih
    have hlen := take_len (els_len hn) i (by omega) (by omega)
    have h0 := itoa_len _ hx0.1 hx0.2
    have h1 := itoa_len _ hx1.1 hx1.2
    have h2 := itoa_len _ hx2.1 hx2.2
    refine Ev.step (fun k => spec_FormatLives.l0.eq_2 (k := k) ..) ?_
    simp only [if_pos (show ((i : Int) < (l.length : Int)) by omega), if_pos (show (0 : Int) ≤ (i : Int) by omega), rd48_at hlt, wrap_up (show i ≤ 1000000000 by omega), show (⟨#[32]⟩ : ByteArray) = bs [32] from rfl, show (⟨#[47]⟩ : ByteArray) = bs [47] from rfl, bs_append, bs_size]
    by_cases hz : i = 0
    · subst hz
      simp only [if_neg (show ¬ (((0 : Nat) : Int) > 0) by omega)]
      refine Ev.bind (dec_ev _ hx0.1 hx0.2) ?_
      simp only [bs_append, bs_size]
      refine Ev.pos (by omega) (Ev.pos (by simp only [List.length_append]; omega) (Ev.bind (dec_ev _ hx1.1 hx1.2) ?_))
      simp only [bs_append, bs_size]
      refine Ev.pos (by simp only [List.length_append, List.length_singleton]; omega) (Ev.pos (by simp only [List.length_append, List.length_singleton]; omega) (Ev.bind (dec_ev _ hx2.1 hx2.2) ?_))
      simp only [bs_append, bs_size]
      refine Ev.pos (by simp only [List.length_append, List.length_singleton]; omega) ?_
      simpa [jn, Lib.join_nil, el] using ih
    · simp only [if_pos (show ((i : Int) > 0) by omega)]
      rw [if_neg hz] at ih
      refine Ev.pos (by omega) (Ev.bind (dec_ev _ hx0.1 hx0.2) ?_)
      simp only [bs_append, bs_size]
      refine Ev.pos (by simp only [List.length_append, List.length_singleton]; omega) (Ev.pos (by simp only [List.length_append, List.length_singleton]; omega) (Ev.bind (dec_ev _ hx1.1 hx1.2) ?_))
      simp only [bs_append, bs_size]
      refine Ev.pos (by simp only [List.length_append, List.length_singleton]; omega) (Ev.pos (by simp only [List.length_append, List.length_singleton]; omega) (Ev.bind (dec_ev _ hx2.1 hx2.2) ?_))
      simp only [bs_append, bs_size]
      refine Ev.pos (by simp only [List.length_append, List.length_singleton]; omega) ?_
      simpa [el, List.append_assoc] using ih
theorem flI_go (l : List S48) (hn : Lifes l) (hl : l.length ≤ 1048576) : ∀ (d i : Nat), i + d = l.length →
    Ev (fun k => impl_FormatLives.l0 k (((els l).take i).map bs) l (l.length : Int) (i : Int)) (txt (els l))
  | 0, i, hi => by
    have hnl : (els l).length = l.length := List.length_map ..
    refine Ev.step (fun k => impl_FormatLives.l0.eq_2 (k := k) ..) ?_
    simp only [if_neg (show ¬ ((i : Int) < (l.length : Int)) by omega)]
    rw [List.take_of_length_le (by omega), spaced_txt (els l) (els_len hn) (by omega) (by omega)]
    exact Ev.now _
  | d + 1, i, hi => by
    have hlt : i < l.length := by omega
    have hnl : (els l).length = l.length := List.length_map ..
    obtain ⟨hx0, hx1, hx2⟩ := hn _ (List.getElem_mem hlt)
    have h0 := itoa_len _ hx0.1 hx0.2
    have h1 := itoa_len _ hx1.1 hx1.2
    have h2 := itoa_len _ hx2.1 hx2.2
    have ih := flI_go l hn hl d (i + 1) (by omega)
    rw [List.take_succ_eq_append_getElem (by omega)] at ih
    have hg : (els l)[i]'(by omega) = el l[i] := List.getElem_map ..
    rw [hg, List.map_append] at ih
    refine Ev.step (fun k => impl_FormatLives.l0.eq_2 (k := k) ..) ?_
    simp only [if_pos (show ((i : Int) < (l.length : Int)) by omega), if_pos (show (0 : Int) ≤ (i : Int) by omega), rd48_at hlt, wrap_up (show i ≤ 1000000000 by omega), itoa_f _ hx0.1 hx0.2, itoa_f _ hx1.1 hx1.2, itoa_f _ hx2.1 hx2.2, Option.bind_some, show (⟨#[47]⟩ : ByteArray) = bs [47] from rfl, bs_append, bs_size]
    refine Ev.pos (by omega) (Ev.pos (by simp only [List.length_append, List.length_singleton]; omega) (Ev.pos (by simp only [List.length_append, List.length_singleton]; omega) (Ev.pos (by simp only [List.length_append, List.length_singleton]; omega) (Ev.pos (by simp only [List.length_map, List.length_take]; omega) ?_))))
    exact ih
theorem flS_ev (l : List S48) (hn : Lifes l) (hl : l.length ≤ 1048576) : Ev (fun k => spec_FormatLives.f k l) (txt (els l)) := by
  have := flS_go l hn hl l.length 0 (Nat.zero_add _)
  rw [List.take_zero] at this
  exact this
theorem flI_ev (l : List S48) (hn : Lifes l) (hl : l.length ≤ 1048576) : Ev (fun k => impl_FormatLives.f k l) (txt (els l)) := by
  have := flI_go l hn hl l.length 0 (Nat.zero_add _)
  rw [List.take_zero] at this
  exact this
def cv (x : S50) : S48 := ⟨x.f0, x.f1, x.f2⟩
theorem rd50_at {xs : List S50} {i : Nat} (h : i < xs.length) : rd_T50 xs (i : Int) = xs[i] := by
  unfold rd_T50
  rw [List.getD_eq_getElem?_getD, Int.toNat_natCast, List.getElem?_eq_getElem h]
  rfl
theorem toLife_go (l : List S50) (hl : l.length ≤ 1048576) : ∀ (d i : Nat), i + d = l.length → Ev (fun k => laws_toLifeS.l0 k l ((l.map cv).take i ++ List.replicate d z48) (i : Int)) (l.map cv)
  | 0, i, hi => by
    refine Ev.step (fun k => laws_toLifeS.l0.eq_2 (k := k) ..) ?_
    simp only [if_neg (show ¬ ((i : Int) < (l.length : Int)) by omega)]
    rw [List.take_of_length_le (by rw [List.length_map]; omega), List.replicate_zero, List.append_nil]
    exact Ev.now _
  | d + 1, i, hi => by
    have hlt : i < l.length := by omega
    have hml : (l.map cv).length = l.length := List.length_map ..
    have ih := toLife_go l hl d (i + 1) (by omega)
    rw [List.take_succ_eq_append_getElem (by omega), List.append_assoc, List.getElem_map] at ih
    refine Ev.step (fun k => laws_toLifeS.l0.eq_2 (k := k) ..) ?_
    simp only [if_pos (show ((i : Int) < (l.length : Int)) by omega), if_pos (show (0 : Int) ≤ (i : Int) by omega), if_pos (show ((i : Int) < (((l.map cv).take i ++ List.replicate (d + 1) z48).length : Int)) by simp; omega), rd50_at hlt, laws_toLife.f, Option.bind_some, wrap_up (show i ≤ 1000000000 by omega), Int.toNat_natCast]
    have e : ((l.map cv).take i ++ List.replicate (d + 1) z48).set i (cv l[i]) = (l.map cv).take i ++ ([cv l[i]] ++ List.replicate d z48) := by
      rw [List.set_append_right _ _ (by rw [List.length_take]; omega), List.length_take, show i - min i (l.map cv).length = 0 by omega, List.replicate_succ, List.set_cons_zero]
      rfl
    rw [← e] at ih
    exact ih
theorem toLife_ev (l : List S50) (hl : l.length ≤ 1048576) : Ev (fun k => laws_toLifeS.f k l) (l.map cv) := by
  unfold laws_toLifeS.f
  simp only [if_pos (show 0 ≤ (l.length : Int) by omega), Int.toNat_natCast, if_pos (show l.length ≤ 11728124029610 by omega)]
  have := toLife_go l hl l.length 0 (Nat.zero_add _)
  rw [List.take_zero, List.nil_append] at this
  exact this
def laws_FnExactFormatLives.Pure : Prop := ∀ (l : List S50), l.length ≤ maxLen → (∀ x ∈ l, Num x.f0 ∧ Num x.f1 ∧ Num x.f2) → ∃ k, laws_FnExactFormatLives.f k l = some true
theorem laws_FnExactFormatLives.walk (P : laws_FnExactFormatLives.Pure) (a0 : Option Addr) (cap0 : Nat) (l : List S50) (w : World) (hLd : LaidT w) (hC : Kd.C k50 w a0 l.length l) (hc : l.length ≤ cap0) (hm : l.length ≤ maxLen) (hn : ∀ x ∈ l, Num x.f0 ∧ Num x.f1 ∧ Num x.f2) :
    Calls Tryd.prog 4 #[.slice a0 l.length cap0] w fun e w' => e = .returned (.bool true) ∧ Below w.heap.size w w' := by
  obtain ⟨k, h⟩ := P l hm hn
  exact laws_FnExactFormatLives.calls k a0 cap0 l true w hC hc hLd h
end Go.Proofs.YtlikgaohcnbocaaDoor.Pr
namespace Go.Proofs.YtlikgaohcnbocaaDoor.Pure
open Go.RowKit Go.Proofs.YtlikgaohcnbocaaDoorW.PrintWords Go.Proofs.YtlikgaohcnbocaaDoorW.PrintLast Go.Proofs.YtlikgaohcnbocaaDoorW.PrintMore
open Go.Proofs.YtlikgaohcnbocaaDoor.Pr
theorem FnExactFormatLives : laws_FnExactFormatLives.Pure := by
  intro l hm hwf
  have hn : Lifes (l.map cv) := fun x hx => by
    obtain ⟨y, hy, rfl⟩ := List.mem_map.1 hx
    exact hwf y hy
  have hml : (l.map cv).length = l.length := List.length_map ..
  unfold maxLen at hm
  refine Ev.rounds ?_
  unfold laws_FnExactFormatLives.f laws_szLifeS.f
  rw [Pr.wrap_small (by omega) (by omega)]
  by_cases hs : (1048576 : Int) - (l.length : Int) < 0
  · simp only [if_pos hs, Option.bind_some, if_pos (show (-1 : Int) < 0 by decide)]
    exact Ev.now _
  · simp only [if_neg hs, Option.bind_some]
    refine Ev.bind (toLife_ev l (by omega)) (Ev.bind (flS_ev _ hn (by omega)) (Ev.bind (toLife_ev l (by omega)) (Ev.bind (flI_ev _ hn (by omega)) ?_)))
    simp only [if_true]
    refine Ev.bind (toLife_ev l (by omega)) (Ev.bind (eqLife_ev _ (by omega)) ?_)
    simp only [if_true]
    exact Ev.now _
end Go.Proofs.YtlikgaohcnbocaaDoor.Pure
