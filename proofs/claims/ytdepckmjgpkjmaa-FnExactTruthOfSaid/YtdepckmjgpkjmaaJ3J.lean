/-
  Jobs: made.
-/
import Derived.Test.YtdepckmjgpkjmaaT
import Derived.Test.YtdepckmjgpkjmaaL
import Derived.Deep.QuietTactic
import Derived.BigQuiet
import Derived.Deep.LoopGhost
import Derived.Deep.RegionHeld3
import Derived.Test.YtdepckmjgpkjmaaN
import Derived.Test.YtdepckmjgpkjmaaA
import Derived.WalkSpells
import Derived.Laws.Cover3
import Derived.Test.YtdepckmjgpkjmaaJ1J
namespace Go.Proofs.Ytdepckmjgpkjmaa
open Go.RowKit

theorem toJob_any (x : Job) (w : World) : Calls Try.prog 85 #[.agg (FJob.enc x).toArray] w fun e w' => e = .returned (.agg (FJob.enc x).toArray) ∧ Below w.heap.size w w' :=
  toJob_ct x.Op.Kind x.Op.Cell x.Op.Size x.Op.Val x.Serial x.Pc x.Sub.Kind x.Sub.A x.Sub.Pc x.Sub.E x.Sub.Row x.Sub.B x.Sub.H x.Sub.Out x.Sub.Code x.H x.Old x.Val x.Code x.Busy x.Sub.Done w
theorem Try.infoJob : (Try.prog.info? 97).map (fun i => (i.zero, i.size, i.bytes)) = some (some (.agg #[.bool false, .int .i64 0, .int .i64 0, .int .i64 0, .int .i64 0, .int .i64 0, .int .i64 0, .int .i64 0, .int .i64 0, .int .i64 0, .int .i64 0, .int .i64 0, .int .i64 0, .int .i64 0, .int .i64 0, .int .i64 0, .bool false, .int .i64 0, .int .i64 0, .int .i64 0, .int .i64 0]), FJob.n, 168) := by kernel_rfl
theorem Try.sizeLJob : (Try.prog.info? 136).map (·.size) = some 21 := by kernel_rfl
set_option maxRecDepth 100000 in
set_option maxHeartbeats 1000000 in
theorem toJobS_ct (w : World) (v : Value) (l : List Job) (h : RdL FJob w w.heap.size v l) (hs : l.length ≤ 1048576) :
    Calls Try.prog 44 #[v] w fun e w' => e = .returned (.slice (some ⟨w.heap.size, 0, none⟩) l.length l.length) ∧ OwL FJob 97 w' (.slice (some ⟨w.heap.size, 0, none⟩) l.length l.length) l ∧ Below w.heap.size w w' := by
  have hmk := run_make_flat (P := Try.prog) FJob 66 97 (.agg #[.bool false, .int .i64 0, .int .i64 0, .int .i64 0, .int .i64 0, .int .i64 0, .int .i64 0, .int .i64 0, .int .i64 0, .int .i64 0, .int .i64 0, .int .i64 0, .int .i64 0, .int .i64 0, .int .i64 0, .int .i64 0, .bool false, .int .i64 0, .int .i64 0, .int .i64 0, .int .i64 0]) 168 Try.underlying66 Try.infoJob l.length (by omega) (by omega)
  have hU := Hid.mk_ Try.underlying136
  obtain ⟨A, cap, hv, _⟩ := id h
  subst hv
  go_enter Try.func44, Try.ntmps44
  go_wp2
  clear hmk
  go_loopw [4] (fun i wr => ∃ k : Nat, k ≤ l.length ∧ i = .int .i64 k ∧ OwL FJob 97 wr (.slice (some ⟨w.heap.size, 0, none⟩) l.length l.length) (l.take k ++ List.replicate (l.length - k) ⟨false, ⟨0, 0, 0, 0⟩, 0, 0, ⟨0, 0, 0, 0, 0, 0, 0, 0, 0, false⟩, 0, 0, 0, 0⟩) ∧ Below w.heap.size w wr) (fun i _ => l.length - (intOf i).toNat)
  case atStart => exact ⟨0, Nat.zero_le _, rfl, OwL.made FJob #[.bool false, .int .i64 0, .int .i64 0, .int .i64 0, .int .i64 0, .int .i64 0, .int .i64 0, .int .i64 0, .int .i64 0, .int .i64 0, .int .i64 0, .int .i64 0, .int .i64 0, .int .i64 0, .int .i64 0, .int .i64 0, .bool false, .int .i64 0, .int .i64 0, .int .i64 0, .int .i64 0] rfl l.length (by simp [maxLen]; omega) w 97, (Below.refl _ _).alloc (Nat.le_refl _) _⟩
  case round =>
    obtain ⟨i, hk, rfl, ho, hb⟩ := hrel
    by_cases hlt : i < l.length
    · obtain ⟨g, off, cap', he, hg, _, _, hc⟩ := (h.below hb).range_ (List.getElem?_eq_getElem hlt)
      injection he with he1 he2 he3
      clear he2
      subst he1 he3
      have hx := upd_get l ⟨false, ⟨0, 0, 0, 0⟩, 0, 0, ⟨0, 0, 0, 0, 0, 0, 0, 0, 0, false⟩, 0, 0, 0, 0⟩ i hlt
      have hz : w.heap.size < wr.heap.size := (World.ownsRow.lt ho _ rfl).2
      have htj := toJob_any l[i]
      have hlen := Hid.mk_ (FJob.len l[i])
      have hone := Hid.mk_ (FJob.one l[i])
      have hrow := fun (W : World) (hW : OwL FJob 97 W (.slice (some ⟨w.heap.size, 0, none⟩) l.length l.length) (l.take i ++ List.replicate (l.length - i) ⟨false, ⟨0, 0, 0, 0⟩, 0, 0, ⟨0, 0, 0, 0, 0, 0, 0, 0, 0, false⟩, 0, 0, 0, 0⟩)) => (OwL.setRow (y := l[i]) hW hx : OwL FJob 97 (W.setCells w.heap.size (i * FJob.n) (FJob.enc l[i])) _ _)
      have hthere := fun (W : World) (hW : OwL FJob 97 W (.slice (some ⟨w.heap.size, 0, none⟩) l.length l.length) (l.take i ++ List.replicate (l.length - i) ⟨false, ⟨0, 0, 0, 0⟩, 0, 0, ⟨0, 0, 0, 0, 0, 0, 0, 0, 0, false⟩, 0, 0, 0, 0⟩)) => OwL.there_ hW (k := i) (by simp; omega)
      rw [show FJob.n = 21 from rfl] at hthere hlen hc hrow
      have hupd := Hid.mk_ (upd_step l ⟨false, ⟨0, 0, 0, 0⟩, 0, 0, ⟨0, 0, 0, 0, 0, 0, 0, 0, 0, false⟩, 0, 0, 0, 0⟩ i hlt)
      clear hx
      obtain ⟨cs, hcs⟩ : ∃ cs, cs = FJob.enc l[i] := ⟨_, rfl⟩
      rw [← hcs] at htj hlen hone hc hrow
      clear hcs
      have hlen' : Hid (cs.toArray.size = 21) := Hid.mk_ (by rw [List.size_toArray]; exact hlen.out)
      go_wp2_with (first | (refine wpList_load_mid rfl 136 (.tmp 18) rfl g (off + i * 21) rfl cs _ hc hU.out rfl (by rw [hlen.out]; exact Try.sizeLJob) ?_) | (go_at_call 85; refine (htj _).mono ?_; rintro e w1 ⟨rfl, hb1⟩; replace ho := ho.keep (fun q hq => hb1.block q (World.ownsRow.lt ho _ hq).2); replace hb := hb.trans (hb1.mono hb.size); have hth := hthere _ ho; clear hb1) | (refine wpList_store_mid rfl 97 (.tmp 21) (.tmp 20) rfl w.heap.size (i * 21) cs.toArray rfl rfl (by rw [hlen'.out]; exact hth) (by rw [hlen'.out]; exact Try.sizeJob) (all_oneCell_toArray hone.out) ?_))
      go_roundw
      case rel => exact ⟨i + 1, by omega, by go_num, by rw [← hupd.out]; exact hrow _ ho, Below.setCells (Nat.le_refl _) _ _ hb⟩
      case measure => simp [intOf]; omega
    · go_wp2
      go_ret
      obtain rfl : i = l.length := by omega
      exact ⟨rfl, by simpa using ho, hb⟩
end Go.Proofs.Ytdepckmjgpkjmaa
