/- sennitlaw13.Spoil: writes over a table with all its room; by hand. -/
import Derived.Test.YtckcldimnelklaaTM
import Derived.Test.YtckcldimnelklaaLG
namespace Go.Proofs.Ytckcldimnelklaa
open Go
set_option linter.unusedVariables false
set_option linter.unusedSimpArgs false
set_option maxRecDepth 100000
set_option maxHeartbeats 4000000

/-- A block of at least so many held cells, whatever they are. -/
def roomE (B m : Nat) : Ent where
  F := fun x => x = B
  h := fun w => ∃ cs : List Value, w.heap[B]? = some (.cells cs.toArray 60 (0, 0)) ∧ m * 56 ≤ cs.length
  st := fun hs h => by
    obtain ⟨cs, h1, h2⟩ := h
    exact ⟨cs, by rw [hs B rfl]; exact h1, h2⟩

theorem splice_len (c vs : List Value) (off : Nat) (h : off + vs.length ≤ c.length) : (splice c off vs).length = c.length := by
  simp [splice]; omega

/-- One's own table, as such a block. -/
theorem roomE_of {e : Enc Hd} (he : e.n = 56) {b n c : Nat} {xs : List Hd} {w : World} (h : (gsl 60 e (.slice (some ⟨b, 0, none⟩) n c) xs).h w) : (roomE b c).h w ∧ n ≤ c ∧ c ≤ 9223372036854775807 := by
  have ho : w.ownsRow 0 60 e.n (.slice (some ⟨b, 0, none⟩) n c) xs.length (flat e xs) := h
  rcases ho.2 with ⟨q, -⟩ | ⟨g, cap, cur, hv, hb, hh, k1, k2, k3, k4⟩
  · cases q
  · injection hv with e1 e2 e3
    injection e1 with e1
    injection e1 with e1
    subst e1; subst e2; subst e3
    refine ⟨⟨cur.toList, by simpa using hh, ?_⟩, k1, by unfold maxLen at k2; omega⟩
    rw [Array.length_toList, k3, he]; omega

section
variable {P : Program} {σ : Nat → Value} {w : World} {d : Option Tmp} {ty : TypeId} {pos : String} {af : Array Edge} {g : Option (Nat × Bool)}
theorem R.cap {x : Operand} {T E : TypeId} {a : Option Addr} {n c : Nat} (hT : P.underlying T = some (.slice E)) (h : ev σ x = .slice a n c) :
    Runs P σ ⟨d, .call ⟨.builtin .cap, #[x], #[T]⟩, ty, pos, af, g⟩ w (.int .i64 c) w := by
  simp [Runs, h, go_sem, hT]
theorem X.storeRoom {L0 L : List Ent} {w0 : World} (h : St L0 w0 w L) {T : TypeId} {n i b off m : Nat} {vs : List Value} {v : Value} {x y : Operand} (hi : L[i]? = some (roomE b m))
    (hsz : ∀ w, (sizeOf T).run P w = .ok n w) (hx : ev σ x = .pointer (some ⟨b, off, none⟩)) (hy : ev σ y = v)
    (hv : v.cells = vs.toArray) (hn : vs.length = n) (hl : vs.all leafB = true) (hlen : off + n ≤ m * 56) :
    ∃ w', (execOp (ev σ) ⟨d, .store T x y, ty, pos, af, g⟩).run P w = .ok .skip w' ∧ St L0 w0 w' L := by
  obtain ⟨cs, hh, hm⟩ := h.get hi
  have h1 := h.conv (E' := blk b 60 cs) hi hh (fun x hx => hx) rfl
  obtain ⟨w', hr, h2⟩ := X.store (P := P) (σ := σ) (d := d) (ty := ty) (pos := pos) (af := af) (g := g) h1 (set_get hi) hsz hx hy hv hn hl (by simp; omega) rfl rfl
  refine ⟨w', hr, ?_⟩
  have hg := h2.get (set_get (set_get hi))
  have h3 := h2.conv (E' := roomE b m) (set_get (set_get hi)) ⟨_, hg, by rw [splice_len _ _ _ (by omega)]; exact hm⟩ (fun x hx => hx) rfl
  rw [List.set_set, List.set_set] at h3
  have : L.set i (roomE b m) = L := by
    have hlt := (List.getElem?_eq_some_iff.1 hi)
    exact List.ext_getElem (by simp) fun k hk1 hk2 => by
      rw [List.getElem_set]; split
      · subst_vars; exact hlt.2.symm
      · rfl
  rw [this] at h3; exact h3
end

def bad : Hd := ⟨true, ⟨-99, Cl.zero.offer, Cl.zero.report, Cl.zero.view⟩⟩
theorem spoil13_ok (w : World) (p0 : Rw) (B n c : Nat) (hn : n ≤ c) (h63 : c ≤ 9223372036854775807) (hL : St [roomE B c] w w [roomE B c]) :
    Ret Try.prog 64 [Value.agg (List.toArray (encR p0 (Value.slice (some ⟨B, 0, none⟩) n c)))] w (fun v w' => v = Value.tuple #[] ∧ St [roomE B c] w w' []) := by
  refine enter (n := 21) Try.func64 rfl rfl rfl ?_
  refine WC.seq ?_
  refine WC.region ?_
  refine WL.new (L' := fun b1 => [roomE B c, blk b1 62 (encR p0 (Value.slice (some ⟨B, 0, none⟩) n c))]) (f := fun b1 => Value.pointer (some ⟨b1, 0, none⟩)) (X.box (v := Value.agg (List.toArray (encR p0 (Value.slice (some ⟨B, 0, none⟩) n c)))) (c := encR p0 (Value.slice (some ⟨B, 0, none⟩) n c)) (hL.here) rfl rfl (fun _ => rfl)) rfl ?_
  intro b1 w1 ht1 he1 hz1
  have hs1 := hL.trans ht1
  refine WL.nil ?_
  refine thenN ?_
  refine WC.seq ?_
  refine WC.region ?_
  refine WL.val (R.fieldAddr (o := 0) (o' := 56) fa62_2 rfl rfl) rfl ?_
  refine WL.val (R.loadL (v := Value.slice (some ⟨B, 0, none⟩) n c) lf28 rfl (hs1.at (i := 1) (off := 56) (n := 1) (cs := [Value.slice (some ⟨B, 0, none⟩) n c]) rfl rfl rfl)) rfl ?_
  refine WL.val (R.fieldAddr (o := 0) (o' := 56) fa62_2 rfl rfl) rfl ?_
  refine WL.val (R.loadL (v := Value.slice (some ⟨B, 0, none⟩) n c) lf28 rfl (hs1.at (i := 1) (off := 56) (n := 1) (cs := [Value.slice (some ⟨B, 0, none⟩) n c]) rfl rfl rfl)) rfl ?_
  refine WL.val (R.cap (a := some ⟨B, 0, none⟩) (n := n) (c := c) un28 rfl) rfl ?_
  refine WL.val (R.sliceTo (n := 56) (m := c) un28 ag60.size rfl rfl rfl (by omega)) rfl ?_
  refine WL.val (R.assign (v := Value.slice (some ⟨B, 0, none⟩) c c) rfl) rfl ?_
  refine WL.nil ?_
  refine thenN ?_
  refine WC.seq ?_
  refine WC.region ?_
  refine WL.val (R.assign (v := Value.int .i64 0) rfl) rfl ?_
  refine WL.nil ?_
  refine thenN ?_
  refine WC.join (fun σ' w' => St [roomE B c] w w' [roomE B c, blk b1 62 (encR p0 (Value.slice (some ⟨B, 0, none⟩) n c))]) ?_ ?_
  · refine WC.block ?_
    refine WC.loop (T := Nat) (fun i σ' w' => i ≤ c ∧ σ' 2 = Value.slice (some ⟨B, 0, none⟩) c c ∧ σ' 3 = Value.int .i64 ((i : Nat) : Int) ∧ St [roomE B c] w w' [roomE B c, blk b1 62 (encR p0 (Value.slice (some ⟨B, 0, none⟩) n c))]) (fun i => c + 1 - i) 0 ⟨Nat.zero_le _, rfl, rfl, hs1⟩ ?_
    rintro i σ' w' ⟨hi, s2, s3, hs⟩
    refine WC.seq ?_
    refine WC.seq ?_
    refine WC.region ?_
    refine WL.val (R.move (v := Value.int .i64 ((i : Nat) : Int)) (by exact s3)) rfl ?_
    refine WL.val (R.move (v := Value.slice (some ⟨B, 0, none⟩) c c) (by exact s2)) rfl ?_
    refine WL.val (R.len (a := some ⟨B, 0, none⟩) (n := c) (c := c) un28 rfl) rfl ?_
    by_cases hc : i < c
    · refine WL.val (R.lssT (k := .i64) (a := ((i : Nat) : Int)) (b := ((c : Nat) : Int)) un3 rfl rfl (by omega)) rfl ?_
      refine WL.nil ?_
      refine thenN ?_
      refine WC.condT rfl rfl ?_
      refine WC.skip ?_
      refine thenN ?_
      refine WC.seq ?_
      refine WC.block ?_
      refine WC.region ?_
      refine WL.val (R.move (v := Value.slice (some ⟨B, 0, none⟩) c c) (by exact s2)) rfl ?_
      refine WL.val (R.move (v := Value.int .i64 ((i : Nat) : Int)) (by exact s3)) rfl ?_
      have hd1 : ∀ w, (Instr.build 58 #[(0, Value.int .i64 (-99))]).run Try.prog w = .ok (Value.agg (List.toArray (encC bad.cell))) w := fun _ => by kernel_rfl
      refine WL.val (R.build (vs := [(0, Value.int .i64 (-99))]) rfl hd1) rfl ?_
      have hd2 : ∀ w, (Instr.build 60 #[(0, Value.bool true), (1, Value.agg (List.toArray (encC bad.cell)))]).run Try.prog w = .ok (Value.agg (List.toArray (encH bad))) w := fun _ => by kernel_rfl
      refine WL.val (R.build (vs := [(0, Value.bool true), (1, Value.agg (List.toArray (encC bad.cell)))]) rfl hd2) rfl ?_
      refine WL.val (R.indexS (n := 56) (m := i) (a := some ⟨B, 0, none⟩) (ad := ⟨B, 0, none⟩) (len := c) (cap := c) (z := ((i : Nat) : Int)) un28 ag60.size rfl rfl rfl rfl hc rfl) rfl ?_
      refine WL.sto (L' := [roomE B c, blk b1 62 (encR p0 (Value.slice (some ⟨B, 0, none⟩) n c))]) (X.storeRoom (i := 0) (n := 56) (b := B) (off := 0 + i * 56) (m := c) (vs := encH bad) (v := Value.agg (List.toArray (encH bad))) (hs.here) rfl ag60.size rfl rfl rfl rfl rfl (by omega)) rfl rfl ?_
      intro w2 ht2
      have hs2 := hs.trans ht2
      refine WL.nil ?_
      refine blockN ?_
      refine thenN ?_
      refine WC.region ?_
      refine WL.val (R.move (v := Value.int .i64 ((i : Nat) : Int)) (by exact s3)) rfl ?_
      refine WL.val (R.add (a := ((i : Nat) : Int)) (b := 1) (z := ((i + 1 : Nat) : Int)) rfl rfl (w64e rfl (by omega) (by omega))) rfl ?_
      refine WL.val (R.assign (v := Value.int .i64 ((i + 1 : Nat) : Int)) rfl) rfl ?_
      refine WL.nil ?_
      exact roundEnd (s := i + 1) ⟨by omega, s2, rfl, hs2⟩ (by omega)
    · refine WL.val (R.lssF (k := .i64) (a := ((i : Nat) : Int)) (b := ((c : Nat) : Int)) un3 rfl rfl (by omega)) rfl ?_
      refine WL.nil ?_
      refine thenN ?_
      refine WC.condF rfl rfl ?_
      refine WC.exit ?_
      refine thenE ?_
      refine thenE ?_
      refine blockHit ?_
      exact joinI hs
  · rintro σ' w' hs
    have ht := (hs.here).perm (L' := []) (G := [roomE B c, blk b1 62 (encR p0 (Value.slice (some ⟨B, 0, none⟩) n c))]) (List.Perm.refl _)
    exact end0 (P := Try.prog) (n := 21) (fn := Try.f64) (R := fun v w' => v = Value.tuple #[] ∧ St [roomE B c] w w' []) rfl ⟨rfl, hs.trans ht⟩
end Go.Proofs.Ytckcldimnelklaa
