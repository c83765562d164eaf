/- Proved: what the program's and the reference's tests of a site, and the fetch by one, come to. Conditions: those in each head. -/
import Derived.Test.YtaeeoljihmndfaaDoorNameLib
import Derived.Test.YtaeeoljihmndfaaDoorA7
import Derived.Test.YtaeeoljihmndfaaDoorA8
import Derived.Test.YtaeeoljihmndfaaDoorA6
namespace Go.Proofs.YtaeeoljihmndfaaDoor.A
open Go.RowKit Go.Proofs.YtaeeoljihmndfaaDoorW.PrintWords Go.Proofs.YtaeeoljihmndfaaDoorW.PrintLast Go.Proofs.YtaeeoljihmndfaaDoor.PL
set_option linter.unusedSimpArgs false

/-- A value at a place isn't the site's. -/
def neqB (xs : List S88) (a : Int) (K M : Int) (s : ByteArray) : Bool := (!((rd_T88 xs a).f1.f0 == K) || (!((rd_T88 xs a).f1.f1 == M) || (!(((rd_T88 xs a).f1.f2).toList == s.toList))))
/-- The fault of a site among globals that have none. -/
def siteM (xs : List S88) (nm : ByteArray) (v K M : Int) (s : ByteArray) : Int :=
  if inB v 0 99999 = true then (if v = 0 then (if (!(K == 0) || (!(M == 0) || (!(s.toList == ([] : List UInt8))))) = true then 1 else 0) else (if valueM K M s = 0 then (if 0 ≤ atM xs nm then (if (rd_T88 xs (atM xs nm)).f2 = v then (if neqB xs (atM xs nm) K M s = true then 1 else 0) else 0) else 0) else valueM K M s)) else 3
theorem l7Site_ev (xs : List S88) (nm : ByteArray) (v K M : Int) (s : ByteArray) (hl : xs.length ≤ 1048576) (hs : s.size ≤ 9223372036854775807) : Ev (fun k => spec_l7Site.f k xs nm v K M s) (siteM xs nm v K M s) := by
  refine Ev.congr (fun k => spec_l7Site.f.eq_1 k _ _ _ _ _ _) (Ev.bind0 (l1In_eq _ _ _) (Ev.iff (fun c => Ev.iff (fun c1 => Ev.iff (fun c2 => Ev.leaf ?_) (fun c2 => Ev.leaf ?_)) (fun c1 => Ev.bind (l5Fault_ev _ _ _ hs) (Ev.iff (fun c2 => Ev.bind (l7At_ev xs nm (by omega)) (Ev.iff (fun c3 => ?_) (fun c3 => Ev.leaf ?_))) (fun c2 => Ev.leaf ?_)))) (fun c => Ev.leaf ?_)))
  · unfold siteM; rw [if_pos c, if_pos c1, if_pos c2]
  · unfold siteM; rw [if_pos c, if_pos c1, if_neg c2]
  · have c3' : 0 ≤ atM xs nm := c3
    have d := atM_lt xs nm
    refine Ev.ifp c3' (Ev.ifp (by omega) (Ev.iff (fun c4 => Ev.iff (fun c5 => Ev.leaf ?_) (fun c5 => Ev.leaf ?_)) (fun c4 => Ev.leaf ?_)))
    · unfold siteM; rw [if_pos c, if_neg c1, if_pos c2, if_pos c3', if_pos c4]; exact (if_pos (c := neqB xs (atM xs nm) K M s = true) c5).symm
    · unfold siteM; rw [if_pos c, if_neg c1, if_pos c2, if_pos c3', if_pos c4]; exact (if_neg (c := neqB xs (atM xs nm) K M s = true) c5).symm
    · unfold siteM; rw [if_pos c, if_neg c1, if_pos c2, if_pos c3', if_neg c4]
  · unfold siteM; rw [if_pos c, if_neg c1, if_pos c2, if_neg c3]
  · unfold siteM; rw [if_pos c, if_neg c1, if_neg c2]
  · unfold siteM; rw [if_neg c]
/-- The fault of globals, of a name and of a site. -/
def siteF (xs : List S88) (nm : ByteArray) (v K M : Int) (s : ByteArray) : Int := if nameM xs nm = 0 then siteM xs nm v K M s else nameM xs nm
theorem specSite_ev (xs : List S88) (nm : ByteArray) (v K M : Int) (s : ByteArray) (hx : okG xs) (hn : nm.size ≤ 9223372036854775807) (hl : xs.length ≤ 1048576) (hs : s.size ≤ 9223372036854775807) : Ev (fun k => spec_SiteFault.f k xs nm v K M s) (siteF xs nm v K M s) := by
  refine Ev.congr (fun k => spec_SiteFault.f.eq_1 k _ _ _ _ _ _) (Ev.bind (l7Asked_ev xs nm hx hn) (Ev.iff (fun c => Ev.bind (l7Site_ev xs nm v K M s hl hs) (Ev.leaf ?_)) (fun c => Ev.leaf ?_)))
  · unfold siteF; rw [if_pos c]
  · unfold siteF; rw [if_neg c]
theorem implSite_ev (xs : List S88) (nm : ByteArray) (v K M : Int) (s : ByteArray) (hx : okG xs) (hn : nm.size ≤ 9223372036854775807) (hl : xs.length ≤ 1048576) (hs : s.size ≤ 9223372036854775807) : Ev (fun k => impl_SiteFault.f k xs nm v K M s) (siteF xs nm v K M s) := by
  refine Ev.congr (fun k => impl_SiteFault.f.eq_1 k _ _ _ _ _ _) (Ev.bind (nameFault_ev xs nm hx hn) (Ev.iff (fun c0 => ?_) (fun c0 => Ev.leaf (by unfold siteF; rw [if_neg c0]))))
  have e : siteF xs nm v K M s = siteM xs nm v K M s := by unfold siteF; rw [if_pos c0]
  rw [e]
  refine Ev.bind0 (in_eq _ _ _) (Ev.iff (fun c => Ev.iff (fun c1 => Ev.iff (fun c2 => Ev.leaf ?_) (fun c2 => Ev.leaf ?_)) (fun c1 => Ev.bind (implValue_ev _ _ _ hs) (Ev.iff (fun c2 => Ev.bind (globalAt_ev xs nm (by omega)) (Ev.iff (fun c3 => ?_) (fun c3 => Ev.leaf ?_))) (fun c2 => Ev.leaf ?_)))) (fun c => Ev.leaf ?_))
  · unfold siteM; rw [if_pos c, if_pos c1, if_pos c2]
  · unfold siteM; rw [if_pos c, if_pos c1, if_neg c2]
  · have c3' : 0 ≤ atM xs nm := c3
    have d := atM_lt xs nm
    refine Ev.ifp c3' (Ev.ifp (by omega) (Ev.iff (fun c4 => Ev.iff (fun c5 => Ev.leaf ?_) (fun c5 => Ev.leaf ?_)) (fun c4 => Ev.leaf ?_)))
    · unfold siteM; rw [if_pos c, if_neg c1, if_pos c2, if_pos c3', if_pos c4]; exact (if_pos (c := neqB xs (atM xs nm) K M s = true) c5).symm
    · unfold siteM; rw [if_pos c, if_neg c1, if_pos c2, if_pos c3', if_pos c4]; exact (if_neg (c := neqB xs (atM xs nm) K M s = true) c5).symm
    · unfold siteM; rw [if_pos c, if_neg c1, if_pos c2, if_pos c3', if_neg c4]
  · unfold siteM; rw [if_pos c, if_neg c1, if_pos c2, if_neg c3]
  · unfold siteM; rw [if_pos c, if_neg c1, if_neg c2]
  · unfold siteM; rw [if_neg c]
end Go.Proofs.YtaeeoljihmndfaaDoor.A
