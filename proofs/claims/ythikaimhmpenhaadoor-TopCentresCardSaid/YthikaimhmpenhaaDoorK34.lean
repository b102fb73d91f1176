/-
  A hull's strip in a band, no program in sight: what its faces enclose, whole and cut at a height.
  A hull's strip in a band, no program in sight: its moments, whole and cut at a height.
  A hull's closed surface, cut at a height, no program in sight: what its faces' parts below it come to.
  A hull's closed surface, cut at a height, no program in sight: the sum over all faces is that over its bands.
  A hull's closed surface, cut at a height, no program in sight: volume and moments as hydro's rule gives them.
  What below's closure value returns of a form within bounds: areas and moments of its waterlines as fractions; the bands' shares.
  What below returns of a form within bounds: six times the volume, 72 times the moment along, 24 times that upwards, as fractions.
  What below returns of a form within bounds: the sum over the bands up to a height, brought to the closed surface's.
  (Written by wip/pack.py out of XFacA, XFacB, XFacC, XFacD, XFacE, XFNumE, XFNumF, XFNumG.)
-/
import Derived.WalkKit
import Derived.Test.YthikaimhmpenhaaDoorK29
import Derived.Test.YthikaimhmpenhaaDoorK33
namespace Go.Proofs.YthikaimhmpenhaaDoor.Fa
set_option linter.all false
set_option maxRecDepth 100000
def dt (a b c p q r x y w z : Int) : Int := a * (q * (w - z) - (r - z) * y) - b * (p * (w - z) - (r - z) * x) + (c - z) * (p * y - q * x)
def sd (x0 x1 h00 h01 h10 h11 z0 z1 z : Int) : Int :=
  dt x0 h00 z0 x1 h11 z1 x1 h10 z0 z + dt x0 h00 z0 x0 h01 z1 x1 h11 z1 z + dt x0 (-h00) z0 x1 (-h10) z0 x1 (-h11) z1 z + dt x0 (-h00) z0 x1 (-h11) z1 x0 (-h01) z1 z
def en (x h0 h1 z0 z1 z : Int) : Int := dt x (-h0) z0 x h0 z0 x h1 z1 z + dt x (-h0) z0 x h1 z1 x (-h1) z1 z
def fl (x0 x1 h0 h1 z0 z : Int) : Int := dt x0 (-h0) z0 x1 h1 z0 x0 h0 z0 z + dt x0 (-h0) z0 x1 (-h1) z0 x1 h1 z0 z
def nw (x0 x1 h00 h01 h10 h11 d : Int) : Int := d * ((x1 - x0) * (h00 + h10) + (x1 - x0) * ((h00 + h01) + 2 * (h00 + h11) + (h10 + h11)) + (x1 - x0) * (h01 + h11))
theorem full_is (x0 x1 h00 h01 h10 h11 z0 z1 z : Int) : sd x0 x1 h00 h01 h10 h11 z0 z1 z + (en x1 h10 h11 z0 z1 z - en x0 h00 h01 z0 z1 z) + (fl x0 x1 h01 h11 z1 z - fl x0 x1 h00 h10 z0 z) = nw x0 x1 h00 h01 h10 h11 (z1 - z0) := by
  unfold sd en fl nw dt
  grind
def sc (x0 x1 h00 h01 h10 h11 z0 d s : Int) : Int :=
  -- (0, i, k), (0, i + 1, k + 1), (0, i + 1, k): low, high, low
  (dt (d * x0) (d * h00) (d * z0) (d * x0 + (x1 - x0) * s) (d * h00 + (h11 - h00) * s) (d * (z0 + s)) (d * x1 + (x1 - x1) * (d - s)) (d * h11 + (h10 - h11) * (d - s)) (d * (z0 + s)) (d * (z0 + s)) +
    dt (d * x0) (d * h00) (d * z0) (d * x1 + (x1 - x1) * (d - s)) (d * h11 + (h10 - h11) * (d - s)) (d * (z0 + s)) (d * x1) (d * h10) (d * z0) (d * (z0 + s))) +
  -- (0, i, k), (0, i, k + 1), (0, i + 1, k + 1): low, high, high
  dt (d * x0) (d * h00) (d * z0) (d * x0 + (x0 - x0) * s) (d * h00 + (h01 - h00) * s) (d * (z0 + s)) (d * x1 + (x0 - x1) * (d - s)) (d * h11 + (h00 - h11) * (d - s)) (d * (z0 + s)) (d * (z0 + s)) +
  -- (1, i, k), (1, i + 1, k), (1, i + 1, k + 1): low, low, high
  (dt (d * x0) (d * -h00) (d * z0) (d * x1) (d * -h10) (d * z0) (d * x1 + (x1 - x1) * s) (d * -h10 + (-h11 - -h10) * s) (d * (z0 + s)) (d * (z0 + s)) +
    dt (d * x0) (d * -h00) (d * z0) (d * x1 + (x1 - x1) * s) (d * -h10 + (-h11 - -h10) * s) (d * (z0 + s)) (d * x1 + (x0 - x1) * (d - s)) (d * -h11 + (-h00 - -h11) * (d - s)) (d * (z0 + s)) (d * (z0 + s))) +
  -- (1, i, k), (1, i + 1, k + 1), (1, i, k + 1): low, high, high
  dt (d * x0) (d * -h00) (d * z0) (d * x0 + (x1 - x0) * s) (d * -h00 + (-h11 - -h00) * s) (d * (z0 + s)) (d * x0 + (x0 - x0) * (d - s)) (d * -h01 + (-h00 - -h01) * (d - s)) (d * (z0 + s)) (d * (z0 + s))
def ec (x h0 h1 z0 d s : Int) : Int :=
  -- (1, k), (0, k), (0, k + 1): low, low, high
  (dt (d * x) (d * -h0) (d * z0) (d * x) (d * h0) (d * z0) (d * x + (x - x) * s) (d * h0 + (h1 - h0) * s) (d * (z0 + s)) (d * (z0 + s)) +
    dt (d * x) (d * -h0) (d * z0) (d * x + (x - x) * s) (d * h0 + (h1 - h0) * s) (d * (z0 + s)) (d * x + (x - x) * (d - s)) (d * h1 + (-h0 - h1) * (d - s)) (d * (z0 + s)) (d * (z0 + s))) +
  -- (1, k), (0, k + 1), (1, k + 1): low, high, high
  dt (d * x) (d * -h0) (d * z0) (d * x + (x - x) * s) (d * -h0 + (h1 - -h0) * s) (d * (z0 + s)) (d * x + (x - x) * (d - s)) (d * -h1 + (-h0 - -h1) * (d - s)) (d * (z0 + s)) (d * (z0 + s))
def nc (x0 x1 h00 h01 h10 h11 d s : Int) : Int := s * (d * d * ((x1 - x0) * (h00 + h10)) +
  (s * (x1 - x0) * ((2 * d * h00 + s * (h01 - h00)) + (2 * d * h00 + s * (h11 - h00))) + (2 * d - s) * (x1 - x0) * ((2 * d * h00 + s * (h11 - h00)) + (2 * d * h10 + s * (h11 - h10)))) +
  (s * (x1 - x0) * ((d * h00 + s * (h01 - h00)) + (d * h00 + s * (h11 - h00))) + (d - s) * (x1 - x0) * ((d * h00 + s * (h11 - h00)) + (d * h10 + s * (h11 - h10)))))
set_option maxHeartbeats 4000000 in
theorem cut_is (x0 x1 h00 h01 h10 h11 z0 d s : Int) : sc x0 x1 h00 h01 h10 h11 z0 d s + (ec x1 h10 h11 z0 d s - ec x0 h00 h01 z0 d s) - d * d * d * fl x0 x1 h00 h10 z0 (z0 + s) = d * nc x0 x1 h00 h01 h10 h11 d s := by
  unfold sc ec fl nc dt
  grind
end Go.Proofs.YthikaimhmpenhaaDoor.Fa
namespace Go.Proofs.YthikaimhmpenhaaDoor.Fa
set_option linter.all false
set_option maxRecDepth 100000
def dl (a b c p q r x y w z : Int) : Int := dt a b c p q r x y w z * (a + p + x)
def dh (a b c p q r x y w z : Int) : Int := dt a b c p q r x y w z * (c + r + w + z)
def sdL (x0 x1 h00 h01 h10 h11 z0 z1 z : Int) : Int :=
  dl x0 h00 z0 x1 h11 z1 x1 h10 z0 z + dl x0 h00 z0 x0 h01 z1 x1 h11 z1 z + dl x0 (-h00) z0 x1 (-h10) z0 x1 (-h11) z1 z + dl x0 (-h00) z0 x1 (-h11) z1 x0 (-h01) z1 z
def enL (x h0 h1 z0 z1 z : Int) : Int := dl x (-h0) z0 x h0 z0 x h1 z1 z + dl x (-h0) z0 x h1 z1 x (-h1) z1 z
def flL (x0 x1 h0 h1 z0 z : Int) : Int := dl x0 (-h0) z0 x1 h1 z0 x0 h0 z0 z + dl x0 (-h0) z0 x1 (-h1) z0 x1 h1 z0 z
def scL (x0 x1 h00 h01 h10 h11 z0 d s : Int) : Int :=
  -- (0, i, k), (0, i + 1, k + 1), (0, i + 1, k): low, high, low
  (dl (d * x0) (d * h00) (d * z0) (d * x0 + (x1 - x0) * s) (d * h00 + (h11 - h00) * s) (d * (z0 + s)) (d * x1 + (x1 - x1) * (d - s)) (d * h11 + (h10 - h11) * (d - s)) (d * (z0 + s)) (d * (z0 + s)) +
    dl (d * x0) (d * h00) (d * z0) (d * x1 + (x1 - x1) * (d - s)) (d * h11 + (h10 - h11) * (d - s)) (d * (z0 + s)) (d * x1) (d * h10) (d * z0) (d * (z0 + s))) +
  -- (0, i, k), (0, i, k + 1), (0, i + 1, k + 1): low, high, high
  dl (d * x0) (d * h00) (d * z0) (d * x0 + (x0 - x0) * s) (d * h00 + (h01 - h00) * s) (d * (z0 + s)) (d * x1 + (x0 - x1) * (d - s)) (d * h11 + (h00 - h11) * (d - s)) (d * (z0 + s)) (d * (z0 + s)) +
  -- (1, i, k), (1, i + 1, k), (1, i + 1, k + 1): low, low, high
  (dl (d * x0) (d * -h00) (d * z0) (d * x1) (d * -h10) (d * z0) (d * x1 + (x1 - x1) * s) (d * -h10 + (-h11 - -h10) * s) (d * (z0 + s)) (d * (z0 + s)) +
    dl (d * x0) (d * -h00) (d * z0) (d * x1 + (x1 - x1) * s) (d * -h10 + (-h11 - -h10) * s) (d * (z0 + s)) (d * x1 + (x0 - x1) * (d - s)) (d * -h11 + (-h00 - -h11) * (d - s)) (d * (z0 + s)) (d * (z0 + s))) +
  -- (1, i, k), (1, i + 1, k + 1), (1, i, k + 1): low, high, high
  dl (d * x0) (d * -h00) (d * z0) (d * x0 + (x1 - x0) * s) (d * -h00 + (-h11 - -h00) * s) (d * (z0 + s)) (d * x0 + (x0 - x0) * (d - s)) (d * -h01 + (-h00 - -h01) * (d - s)) (d * (z0 + s)) (d * (z0 + s))
def ecL (x h0 h1 z0 d s : Int) : Int :=
  -- (1, k), (0, k), (0, k + 1): low, low, high
  (dl (d * x) (d * -h0) (d * z0) (d * x) (d * h0) (d * z0) (d * x + (x - x) * s) (d * h0 + (h1 - h0) * s) (d * (z0 + s)) (d * (z0 + s)) +
    dl (d * x) (d * -h0) (d * z0) (d * x + (x - x) * s) (d * h0 + (h1 - h0) * s) (d * (z0 + s)) (d * x + (x - x) * (d - s)) (d * h1 + (-h0 - h1) * (d - s)) (d * (z0 + s)) (d * (z0 + s))) +
  -- (1, k), (0, k + 1), (1, k + 1): low, high, high
  dl (d * x) (d * -h0) (d * z0) (d * x + (x - x) * s) (d * -h0 + (h1 - -h0) * s) (d * (z0 + s)) (d * x + (x - x) * (d - s)) (d * -h1 + (-h0 - -h1) * (d - s)) (d * (z0 + s)) (d * (z0 + s))
def sdH (x0 x1 h00 h01 h10 h11 z0 z1 z : Int) : Int :=
  dh x0 h00 z0 x1 h11 z1 x1 h10 z0 z + dh x0 h00 z0 x0 h01 z1 x1 h11 z1 z + dh x0 (-h00) z0 x1 (-h10) z0 x1 (-h11) z1 z + dh x0 (-h00) z0 x1 (-h11) z1 x0 (-h01) z1 z
def enH (x h0 h1 z0 z1 z : Int) : Int := dh x (-h0) z0 x h0 z0 x h1 z1 z + dh x (-h0) z0 x h1 z1 x (-h1) z1 z
def flH (x0 x1 h0 h1 z0 z : Int) : Int := dh x0 (-h0) z0 x1 h1 z0 x0 h0 z0 z + dh x0 (-h0) z0 x1 (-h1) z0 x1 h1 z0 z
def scH (x0 x1 h00 h01 h10 h11 z0 d s : Int) : Int :=
  -- (0, i, k), (0, i + 1, k + 1), (0, i + 1, k): low, high, low
  (dh (d * x0) (d * h00) (d * z0) (d * x0 + (x1 - x0) * s) (d * h00 + (h11 - h00) * s) (d * (z0 + s)) (d * x1 + (x1 - x1) * (d - s)) (d * h11 + (h10 - h11) * (d - s)) (d * (z0 + s)) (d * (z0 + s)) +
    dh (d * x0) (d * h00) (d * z0) (d * x1 + (x1 - x1) * (d - s)) (d * h11 + (h10 - h11) * (d - s)) (d * (z0 + s)) (d * x1) (d * h10) (d * z0) (d * (z0 + s))) +
  -- (0, i, k), (0, i, k + 1), (0, i + 1, k + 1): low, high, high
  dh (d * x0) (d * h00) (d * z0) (d * x0 + (x0 - x0) * s) (d * h00 + (h01 - h00) * s) (d * (z0 + s)) (d * x1 + (x0 - x1) * (d - s)) (d * h11 + (h00 - h11) * (d - s)) (d * (z0 + s)) (d * (z0 + s)) +
  -- (1, i, k), (1, i + 1, k), (1, i + 1, k + 1): low, low, high
  (dh (d * x0) (d * -h00) (d * z0) (d * x1) (d * -h10) (d * z0) (d * x1 + (x1 - x1) * s) (d * -h10 + (-h11 - -h10) * s) (d * (z0 + s)) (d * (z0 + s)) +
    dh (d * x0) (d * -h00) (d * z0) (d * x1 + (x1 - x1) * s) (d * -h10 + (-h11 - -h10) * s) (d * (z0 + s)) (d * x1 + (x0 - x1) * (d - s)) (d * -h11 + (-h00 - -h11) * (d - s)) (d * (z0 + s)) (d * (z0 + s))) +
  -- (1, i, k), (1, i + 1, k + 1), (1, i, k + 1): low, high, high
  dh (d * x0) (d * -h00) (d * z0) (d * x0 + (x1 - x0) * s) (d * -h00 + (-h11 - -h00) * s) (d * (z0 + s)) (d * x0 + (x0 - x0) * (d - s)) (d * -h01 + (-h00 - -h01) * (d - s)) (d * (z0 + s)) (d * (z0 + s))
def ecH (x h0 h1 z0 d s : Int) : Int :=
  -- (1, k), (0, k), (0, k + 1): low, low, high
  (dh (d * x) (d * -h0) (d * z0) (d * x) (d * h0) (d * z0) (d * x + (x - x) * s) (d * h0 + (h1 - h0) * s) (d * (z0 + s)) (d * (z0 + s)) +
    dh (d * x) (d * -h0) (d * z0) (d * x + (x - x) * s) (d * h0 + (h1 - h0) * s) (d * (z0 + s)) (d * x + (x - x) * (d - s)) (d * h1 + (-h0 - h1) * (d - s)) (d * (z0 + s)) (d * (z0 + s))) +
  -- (1, k), (0, k + 1), (1, k + 1): low, high, high
  dh (d * x) (d * -h0) (d * z0) (d * x + (x - x) * s) (d * -h0 + (h1 - -h0) * s) (d * (z0 + s)) (d * x + (x - x) * (d - s)) (d * -h1 + (-h0 - -h1) * (d - s)) (d * (z0 + s)) (d * (z0 + s))
def s3 (x0 y0 x1 y1 : Int) : Int := (x1 - x0) * (x0 * y0 + (x0 + x1) * (y0 + y1) + x1 * y1)
def nwL (x0 x1 h00 h01 h10 h11 d : Int) : Int := 2 * d * (2 * s3 x0 h00 x1 h10 +
  (s3 (2 * x0) (h00 + h01) (x0 + x1) (h00 + h11) + s3 (x0 + x1) (h00 + h11) (2 * x1) (h10 + h11)) + 2 * s3 x0 h01 x1 h11)
theorem full_isL (x0 x1 h00 h01 h10 h11 z0 z1 z : Int) : 3 * (sdL x0 x1 h00 h01 h10 h11 z0 z1 z + (enL x1 h10 h11 z0 z1 z - enL x0 h00 h01 z0 z1 z) + (flL x0 x1 h01 h11 z1 z - flL x0 x1 h00 h10 z0 z)) = nwL x0 x1 h00 h01 h10 h11 (z1 - z0) := by
  unfold sdL enL flL nwL dl dt s3
  grind
def ncL (x0 x1 h00 h01 h10 h11 d s : Int) : Int := 2 * s * (2 * (d * d * d) * s3 x0 h00 x1 h10 +
  (s3 (2 * d * x0) (2 * d * h00 + s * (h01 - h00)) (2 * d * x0 + s * (x1 - x0)) (2 * d * h00 + s * (h11 - h00)) + s3 (2 * d * x0 + s * (x1 - x0)) (2 * d * h00 + s * (h11 - h00)) (2 * d * x1) (2 * d * h10 + s * (h11 - h10))) +
  2 * (s3 (d * x0) (d * h00 + s * (h01 - h00)) (d * x0 + s * (x1 - x0)) (d * h00 + s * (h11 - h00)) + s3 (d * x0 + s * (x1 - x0)) (d * h00 + s * (h11 - h00)) (d * x1) (d * h10 + s * (h11 - h10))))
set_option maxHeartbeats 8000000 in
theorem cut_isL (x0 x1 h00 h01 h10 h11 z0 d s : Int) : 3 * (scL x0 x1 h00 h01 h10 h11 z0 d s + (ecL x1 h10 h11 z0 d s - ecL x0 h00 h01 z0 d s) - d * d * d * d * flL x0 x1 h00 h10 z0 (z0 + s)) = d * ncL x0 x1 h00 h01 h10 h11 d s := by
  unfold scL ecL flL ncL dl dt s3
  grind
def nwH (x0 x1 h00 h01 h10 h11 z0 z1 : Int) : Int := 4 * (z1 - z0) * z0 * ((x1 - x0) * (h00 + h10)) + 2 * (z1 - z0) * (z0 + z1) * ((x1 - x0) * ((h00 + h01) + 2 * (h00 + h11) + (h10 + h11))) + 4 * (z1 - z0) * z1 * ((x1 - x0) * (h01 + h11))
theorem full_isH (x0 x1 h00 h01 h10 h11 z0 z1 z : Int) : sdH x0 x1 h00 h01 h10 h11 z0 z1 z + (enH x1 h10 h11 z0 z1 z - enH x0 h00 h01 z0 z1 z) + (flH x0 x1 h01 h11 z1 z - flH x0 x1 h00 h10 z0 z) = nwH x0 x1 h00 h01 h10 h11 z0 z1 := by
  unfold sdH enH flH nwH dh dt
  grind
def ncH (x0 x1 h00 h01 h10 h11 z0 d s : Int) : Int := 4 * s * z0 * (d * d * ((x1 - x0) * (h00 + h10))) +
  2 * s * (2 * z0 + s) * (s * (x1 - x0) * ((2 * d * h00 + s * (h01 - h00)) + (2 * d * h00 + s * (h11 - h00))) + (2 * d - s) * (x1 - x0) * ((2 * d * h00 + s * (h11 - h00)) + (2 * d * h10 + s * (h11 - h10)))) +
  4 * s * (z0 + s) * (s * (x1 - x0) * ((d * h00 + s * (h01 - h00)) + (d * h00 + s * (h11 - h00))) + (d - s) * (x1 - x0) * ((d * h00 + s * (h11 - h00)) + (d * h10 + s * (h11 - h10))))
set_option maxHeartbeats 8000000 in
theorem cut_isH (x0 x1 h00 h01 h10 h11 z0 d s : Int) : scH x0 x1 h00 h01 h10 h11 z0 d s + (ecH x1 h10 h11 z0 d s - ecH x0 h00 h01 z0 d s) - d * d * d * d * flH x0 x1 h00 h10 z0 (z0 + s) = d * d * ncH x0 x1 h00 h01 h10 h11 z0 d s := by
  unfold scH ecH flH ncH dh dt
  grind
end Go.Proofs.YthikaimhmpenhaaDoor.Fa
namespace Go.Proofs.YthikaimhmpenhaaDoor.Fa
set_option linter.all false
open Sf
set_option maxRecDepth 100000
abbrev P3 := Int × Int × Int
abbrev W10 := Int → Int → Int → Int → Int → Int → Int → Int → Int → Int → Int
def und1 (z d : Int) (a b : P3) : List P3 := (if a.2.2 ≤ z then [(d * a.1, d * a.2.1, d * a.2.2)] else []) ++
  (if (a.2.2 < z ∧ z < b.2.2) ∨ (z < a.2.2 ∧ b.2.2 < z) then [(d * a.1 + (b.1 - a.1) * (if z - a.2.2 < 0 then -(z - a.2.2) else z - a.2.2), d * a.2.1 + (b.2.1 - a.2.1) * (if z - a.2.2 < 0 then -(z - a.2.2) else z - a.2.2), d * z)] else [])
def und (z d : Int) (a b c : P3) : List P3 := und1 z d a b ++ und1 z d b c ++ und1 z d c a
def ap (w : W10) (z : Int) (p a b : P3) : Int := w p.1 p.2.1 p.2.2 a.1 a.2.1 a.2.2 b.1 b.2.1 b.2.2 z
def fan (w : W10) (z : Int) (p : P3) : List P3 → Int
  | a :: b :: l => ap w z p a b + fan w z p (b :: l)
  | _ => 0
def fanA (w : W10) (z : Int) : List P3 → Int
  | p :: l => fan w z p l
  | [] => 0
def tri (w : W10) (z d : Int) (a b c : P3) : Int := fanA w (d * z) (und z d a b c)
variable (w : W10)
theorem tri_low {z d : Int} {a b c : P3} (ha : a.2.2 ≤ z) (hb : b.2.2 ≤ z) (hc : c.2.2 ≤ z) :
    tri w z d a b c = w (d * a.1) (d * a.2.1) (d * a.2.2) (d * b.1) (d * b.2.1) (d * b.2.2) (d * c.1) (d * c.2.1) (d * c.2.2) (d * z) := by
  have h1 : ¬ z < a.2.2 := by omega
  have h2 : ¬ z < b.2.2 := by omega
  have h3 : ¬ z < c.2.2 := by omega
  simp [tri, und, und1, fanA, fan, ap, ha, hb, hc, h1, h2, h3]
theorem tri_high {z d : Int} {a b c : P3} (ha : z < a.2.2) (hb : z < b.2.2) (hc : z < c.2.2) : tri w z d a b c = 0 := by
  have h1 : ¬ a.2.2 ≤ z := by omega
  have h2 : ¬ b.2.2 ≤ z := by omega
  have h3 : ¬ c.2.2 ≤ z := by omega
  have h4 : ¬ a.2.2 < z := by omega
  have h5 : ¬ b.2.2 < z := by omega
  have h6 : ¬ c.2.2 < z := by omega
  simp [tri, und, und1, fanA, h1, h2, h3, h4, h5, h6]
theorem tri_at_lhl {z d : Int} {a b c : P3} (ha : a.2.2 = z) (hb : z < b.2.2) (hc : c.2.2 = z) : tri w z d a b c = 0 := by
  have h2 : ¬ b.2.2 ≤ z := by omega
  have h5 : ¬ b.2.2 < z := by omega
  simp [tri, und, und1, fanA, fan, ha, hc, h2, h5]
theorem tri_at_lhh {z d : Int} {a b c : P3} (ha : a.2.2 = z) (hb : z < b.2.2) (hc : z < c.2.2) : tri w z d a b c = 0 := by
  have h2 : ¬ b.2.2 ≤ z := by omega
  have h5 : ¬ b.2.2 < z := by omega
  have h3 : ¬ c.2.2 ≤ z := by omega
  have h6 : ¬ c.2.2 < z := by omega
  simp [tri, und, und1, fanA, fan, ha, h2, h5, h3, h6]
theorem tri_at_llh {z d : Int} {a b c : P3} (ha : a.2.2 = z) (hb : b.2.2 = z) (hc : z < c.2.2) : tri w z d a b c = 0 := by
  have h3 : ¬ c.2.2 ≤ z := by omega
  have h6 : ¬ c.2.2 < z := by omega
  simp [tri, und, und1, fanA, fan, ha, hb, h3, h6]
variable {z0 d s : Int}
theorem tri_lhl {a b c : P3} (ha : a.2.2 = z0) (hb : b.2.2 = z0 + d) (hc : c.2.2 = z0) (hs : 0 < s) (hd : s < d) : tri w (z0 + s) d a b c =
    w (d * a.1) (d * a.2.1) (d * z0) (d * a.1 + (b.1 - a.1) * s) (d * a.2.1 + (b.2.1 - a.2.1) * s) (d * (z0 + s)) (d * b.1 + (c.1 - b.1) * (d - s)) (d * b.2.1 + (c.2.1 - b.2.1) * (d - s)) (d * (z0 + s)) (d * (z0 + s)) +
    w (d * a.1) (d * a.2.1) (d * z0) (d * b.1 + (c.1 - b.1) * (d - s)) (d * b.2.1 + (c.2.1 - b.2.1) * (d - s)) (d * (z0 + s)) (d * c.1) (d * c.2.1) (d * z0) (d * (z0 + s)) := by
  have e1 : z0 ≤ z0 + s := by omega
  have e2 : ¬ z0 + d ≤ z0 + s := by omega
  have e3 : z0 < z0 + s := by omega
  have e4 : z0 + s < z0 + d := by omega
  have e5 : ¬ z0 + d < z0 + s := by omega
  have e6 : ¬ z0 + s < z0 := by omega
  have e7 : ¬ z0 + s - z0 < 0 := by omega
  have e8 : z0 + s - (z0 + d) < 0 := by omega
  have e9 : z0 + s - z0 = s := by omega
  have e11 : ¬ s < 0 := by omega
  have e10 : -(z0 + s - (z0 + d)) = d - s := by omega
  simp only [tri, und, und1, fanA, fan, ap, ha, hb, hc, e1, e2, e3, e4, e5, e6, e7, e8, e9, e10, if_true, if_false, and_true, and_false, or_false, or_true, false_or, true_or, List.cons_append, List.nil_append, List.append_nil, false_and, true_and]
  simp [e11]
theorem tri_lhh {a b c : P3} (ha : a.2.2 = z0) (hb : b.2.2 = z0 + d) (hc : c.2.2 = z0 + d) (hs : 0 < s) (hd : s < d) : tri w (z0 + s) d a b c =
    w (d * a.1) (d * a.2.1) (d * z0) (d * a.1 + (b.1 - a.1) * s) (d * a.2.1 + (b.2.1 - a.2.1) * s) (d * (z0 + s)) (d * c.1 + (a.1 - c.1) * (d - s)) (d * c.2.1 + (a.2.1 - c.2.1) * (d - s)) (d * (z0 + s)) (d * (z0 + s)) := by
  have e1 : z0 ≤ z0 + s := by omega
  have e2 : ¬ z0 + d ≤ z0 + s := by omega
  have e3 : z0 < z0 + s := by omega
  have e4 : z0 + s < z0 + d := by omega
  have e5 : ¬ z0 + d < z0 + s := by omega
  have e6 : ¬ z0 + s < z0 := by omega
  have e7 : ¬ z0 + s - z0 < 0 := by omega
  have e8 : z0 + s - (z0 + d) < 0 := by omega
  have e9 : z0 + s - z0 = s := by omega
  have e11 : ¬ s < 0 := by omega
  have e10 : -(z0 + s - (z0 + d)) = d - s := by omega
  simp only [tri, und, und1, fanA, fan, ap, ha, hb, hc, e1, e2, e3, e4, e5, e6, e7, e8, e9, e10, if_true, if_false, and_true, and_false, or_false, or_true, false_or, true_or, List.cons_append, List.nil_append, List.append_nil, false_and, true_and]
  simp [e11]
theorem tri_llh {a b c : P3} (ha : a.2.2 = z0) (hb : b.2.2 = z0) (hc : c.2.2 = z0 + d) (hs : 0 < s) (hd : s < d) : tri w (z0 + s) d a b c =
    w (d * a.1) (d * a.2.1) (d * z0) (d * b.1) (d * b.2.1) (d * z0) (d * b.1 + (c.1 - b.1) * s) (d * b.2.1 + (c.2.1 - b.2.1) * s) (d * (z0 + s)) (d * (z0 + s)) +
    w (d * a.1) (d * a.2.1) (d * z0) (d * b.1 + (c.1 - b.1) * s) (d * b.2.1 + (c.2.1 - b.2.1) * s) (d * (z0 + s)) (d * c.1 + (a.1 - c.1) * (d - s)) (d * c.2.1 + (a.2.1 - c.2.1) * (d - s)) (d * (z0 + s)) (d * (z0 + s)) := by
  have e1 : z0 ≤ z0 + s := by omega
  have e2 : ¬ z0 + d ≤ z0 + s := by omega
  have e3 : z0 < z0 + s := by omega
  have e4 : z0 + s < z0 + d := by omega
  have e5 : ¬ z0 + d < z0 + s := by omega
  have e6 : ¬ z0 + s < z0 := by omega
  have e7 : ¬ z0 + s - z0 < 0 := by omega
  have e8 : z0 + s - (z0 + d) < 0 := by omega
  have e9 : z0 + s - z0 = s := by omega
  have e11 : ¬ s < 0 := by omega
  have e10 : -(z0 + s - (z0 + d)) = d - s := by omega
  simp only [tri, und, und1, fanA, fan, ap, ha, hb, hc, e1, e2, e3, e4, e5, e6, e7, e8, e9, e10, if_true, if_false, and_true, and_false, or_false, or_true, false_or, true_or, List.cons_append, List.nil_append, List.append_nil, false_and, true_and]
  simp [e11]
variable (X Z : Nat → Int) (H : Nat → Nat → Int)
def pt (p : Pt) : P3 := (X p.2.1, (if p.1 = 0 then H p.2.1 p.2.2 else -H p.2.1 p.2.2), Z p.2.2)
def ftri (z d : Int) (f : Fc) : Int := tri w z d (pt X Z H f.1) (pt X Z H f.2.1) (pt X Z H f.2.2)
def wsd (x0 x1 h00 h01 h10 h11 z0 z1 z : Int) : Int :=
  w x0 h00 z0 x1 h11 z1 x1 h10 z0 z + w x0 h00 z0 x0 h01 z1 x1 h11 z1 z + w x0 (-h00) z0 x1 (-h10) z0 x1 (-h11) z1 z + w x0 (-h00) z0 x1 (-h11) z1 x0 (-h01) z1 z
def wen (x h0 h1 z0 z1 z : Int) : Int := w x (-h0) z0 x h0 z0 x h1 z1 z + w x (-h0) z0 x h1 z1 x (-h1) z1 z
def wfl (x0 x1 h0 h1 z0 z : Int) : Int := w x0 (-h0) z0 x1 h1 z0 x0 h0 z0 z + w x0 (-h0) z0 x1 (-h1) z0 x1 h1 z0 z
def wsc (x0 x1 h00 h01 h10 h11 z0 d s : Int) : Int :=
  (w (d * x0) (d * h00) (d * z0) (d * x0 + (x1 - x0) * s) (d * h00 + (h11 - h00) * s) (d * (z0 + s)) (d * x1 + (x1 - x1) * (d - s)) (d * h11 + (h10 - h11) * (d - s)) (d * (z0 + s)) (d * (z0 + s)) +
    w (d * x0) (d * h00) (d * z0) (d * x1 + (x1 - x1) * (d - s)) (d * h11 + (h10 - h11) * (d - s)) (d * (z0 + s)) (d * x1) (d * h10) (d * z0) (d * (z0 + s))) +
  w (d * x0) (d * h00) (d * z0) (d * x0 + (x0 - x0) * s) (d * h00 + (h01 - h00) * s) (d * (z0 + s)) (d * x1 + (x0 - x1) * (d - s)) (d * h11 + (h00 - h11) * (d - s)) (d * (z0 + s)) (d * (z0 + s)) +
  (w (d * x0) (d * -h00) (d * z0) (d * x1) (d * -h10) (d * z0) (d * x1 + (x1 - x1) * s) (d * -h10 + (-h11 - -h10) * s) (d * (z0 + s)) (d * (z0 + s)) +
    w (d * x0) (d * -h00) (d * z0) (d * x1 + (x1 - x1) * s) (d * -h10 + (-h11 - -h10) * s) (d * (z0 + s)) (d * x1 + (x0 - x1) * (d - s)) (d * -h11 + (-h00 - -h11) * (d - s)) (d * (z0 + s)) (d * (z0 + s))) +
  w (d * x0) (d * -h00) (d * z0) (d * x0 + (x1 - x0) * s) (d * -h00 + (-h11 - -h00) * s) (d * (z0 + s)) (d * x0 + (x0 - x0) * (d - s)) (d * -h01 + (-h00 - -h01) * (d - s)) (d * (z0 + s)) (d * (z0 + s))
def wec (x h0 h1 z0 d s : Int) : Int :=
  (w (d * x) (d * -h0) (d * z0) (d * x) (d * h0) (d * z0) (d * x + (x - x) * s) (d * h0 + (h1 - h0) * s) (d * (z0 + s)) (d * (z0 + s)) +
    w (d * x) (d * -h0) (d * z0) (d * x + (x - x) * s) (d * h0 + (h1 - h0) * s) (d * (z0 + s)) (d * x + (x - x) * (d - s)) (d * h1 + (-h0 - h1) * (d - s)) (d * (z0 + s)) (d * (z0 + s))) +
  w (d * x) (d * -h0) (d * z0) (d * x + (x - x) * s) (d * -h0 + (h1 - -h0) * s) (d * (z0 + s)) (d * x + (x - x) * (d - s)) (d * -h1 + (-h0 - -h1) * (d - s)) (d * (z0 + s)) (d * (z0 + s))
def wec0 (x h0 h1 z0 d s : Int) : Int :=
  -- (1, k), (1, k + 1), (0, k + 1): low, high, high
  w (d * x) (d * -h0) (d * z0) (d * x + (x - x) * s) (d * -h0 + (-h1 - -h0) * s) (d * (z0 + s)) (d * x + (x - x) * (d - s)) (d * h1 + (-h0 - h1) * (d - s)) (d * (z0 + s)) (d * (z0 + s)) +
  -- (1, k), (0, k + 1), (0, k): low, high, low
  (w (d * x) (d * -h0) (d * z0) (d * x + (x - x) * s) (d * -h0 + (h1 - -h0) * s) (d * (z0 + s)) (d * x + (x - x) * (d - s)) (d * h1 + (h0 - h1) * (d - s)) (d * (z0 + s)) (d * (z0 + s)) +
    w (d * x) (d * -h0) (d * z0) (d * x + (x - x) * (d - s)) (d * h1 + (h0 - h1) * (d - s)) (d * (z0 + s)) (d * x) (d * h0) (d * z0) (d * (z0 + s)))
def wen0 (x h0 h1 z0 z1 z : Int) : Int := w x (-h0) z0 x (-h1) z1 x h1 z1 z + w x (-h0) z0 x h1 z1 x h0 z0 z
def wfl0 (x0 x1 h0 h1 z0 z : Int) : Int := w x0 (-h0) z0 x0 h0 z0 x1 h1 z0 z + w x0 (-h0) z0 x1 h1 z0 x1 (-h1) z0 z
structure Fit (w : W10) (d c : Int) : Prop where
  sc : ∀ a b e p q r x y u z, w (d * a) (d * b) (d * e) (d * p) (d * q) (d * r) (d * x) (d * y) (d * u) (d * z) = c * w a b e p q r x y u z
  en0 : ∀ x h0 h1 z0 z1 z, wen0 w x h0 h1 z0 z1 z = -wen w x h0 h1 z0 z1 z
  fl0 : ∀ x0 x1 h0 h1 z0 z, wfl0 w x0 x1 h0 h1 z0 z = -wfl w x0 x1 h0 h1 z0 z
  ec0 : ∀ x h0 h1 z0 s, wec0 w x h0 h1 z0 d s = -wec w x h0 h1 z0 d s
  top : ∀ x0 x1 h0 h1 z, wfl w x0 x1 h0 h1 z z = 0
  flat : ∀ a b p q x y z, w a b z p q z x y z z = 0
theorem fit_dt (d : Int) : Fit dt d (d * d * d) := by
  refine ⟨?_, ?_, ?_, ?_, ?_, ?_⟩ <;> intros <;> simp only [wen0, wen, wfl0, wfl, wec0, wec, dt] <;> grind
set_option maxHeartbeats 4000000 in
theorem fit_dl (d : Int) : Fit dl d (d * d * d * d) := by
  refine ⟨?_, ?_, ?_, ?_, ?_, ?_⟩ <;> intros <;> simp only [wen0, wen, wfl0, wfl, wec0, wec, dl, dt] <;> grind
set_option maxHeartbeats 4000000 in
theorem fit_dh (d : Int) : Fit dh d (d * d * d * d) := by
  refine ⟨?_, ?_, ?_, ?_, ?_, ?_⟩ <;> intros <;> simp only [wen0, wen, wfl0, wfl, wec0, wec, dh, dt] <;> grind
end Go.Proofs.YthikaimhmpenhaaDoor.Fa
namespace Go.Proofs.YthikaimhmpenhaaDoor.Fa
set_option linter.all false
open Sf
set_option maxRecDepth 100000
variable (w : W10) (X Z : Nat → Int) (H : Nat → Nat → Int)
variable {z d c : Int}
theorem cell_low (hf : Fit w d c) (i k : Nat) (h0 : Z k ≤ z) (h1 : Z (k + 1) ≤ z) : su (ftri w X Z H z d) (cellS i k) = c * wsd w (X i) (X (i + 1)) (H i k) (H i (k + 1)) (H (i + 1) k) (H (i + 1) (k + 1)) (Z k) (Z (k + 1)) z := by
  simp only [cellS, su, ftri]
  rw [tri_low w h0 h1 h0, tri_low w h0 h1 h1, tri_low w h0 h0 h1, tri_low w h0 h1 h1, hf.sc, hf.sc, hf.sc, hf.sc]
  simp only [pt, wsd, if_true, if_false, Nat.one_ne_zero]
  simp only [Int.mul_add, Int.add_assoc, Int.add_zero]
theorem cell_at (i k : Nat) (h0 : Z k = z) (h1 : z < Z (k + 1)) : su (ftri w X Z H z d) (cellS i k) = 0 := by
  simp only [cellS, su, ftri]
  rw [tri_at_lhl w h0 h1 h0, tri_at_lhh w h0 h1 h1, tri_at_llh w h0 h0 h1, tri_at_lhh w h0 h1 h1]
  rfl
theorem cell_high (i k : Nat) (h0 : z < Z k) (h1 : z < Z (k + 1)) : su (ftri w X Z H z d) (cellS i k) = 0 := by
  simp only [cellS, su, ftri]
  rw [tri_high w h0 h1 h0, tri_high w h0 h1 h1, tri_high w h0 h0 h1, tri_high w h0 h1 h1]
  rfl
theorem cell_cut {z0 s : Int} (i k : Nat) (h0 : Z k = z0) (h1 : Z (k + 1) = z0 + d) (hs : 0 < s) (hd : s < d) : su (ftri w X Z H (z0 + s) d) (cellS i k) = wsc w (X i) (X (i + 1)) (H i k) (H i (k + 1)) (H (i + 1) k) (H (i + 1) (k + 1)) z0 d s := by
  simp only [cellS, su, ftri]
  rw [tri_lhl w h0 h1 h0 hs hd, tri_lhh w h0 h1 h1 hs hd, tri_llh w h0 h0 h1 hs hd, tri_lhh w h0 h1 h1 hs hd]
  simp only [pt, wsc, if_true, if_false, Nat.one_ne_zero]
  simp only [Int.add_assoc, Int.add_zero]
theorem flat_sum (hf : Fit w d c) (i M : Nat) (h0 : Z 0 ≤ z) (h1 : z ≤ Z M) : su (ftri w X Z H z d) (flatS M i) = -(c * wfl w (X i) (X (i + 1)) (H i 0) (H (i + 1) 0) (Z 0) z) := by
  simp only [flatS, su, ftri]
  rw [tri_low w h0 h0 h0, tri_low w h0 h0 h0]
  have e : ∀ a b e : Pt, a.2.2 = M → b.2.2 = M → e.2.2 = M → tri w z d (pt X Z H a) (pt X Z H b) (pt X Z H e) = 0 := by
    intro a b e ha hb he
    have ta : (pt X Z H a).2.2 = Z M := by unfold pt; rw [ha]
    have tb : (pt X Z H b).2.2 = Z M := by unfold pt; rw [hb]
    have te : (pt X Z H e).2.2 = Z M := by unfold pt; rw [he]
    by_cases hz : z < Z M
    · exact tri_high w (by omega) (by omega) (by omega)
    · have hz' : Z M = z := by omega
      rw [tri_low w (by omega) (by omega) (by omega), hf.sc, ta, tb, te, hz', hf.flat, Int.mul_zero]
  rw [e _ _ _ rfl rfl rfl, e _ _ _ rfl rfl rfl, hf.sc, hf.sc]
  have := hf.fl0 (X i) (X (i + 1)) (H i 0) (H (i + 1) 0) (Z 0) z
  rw [← Int.mul_neg, ← this]
  simp only [pt, wfl0, if_true, if_false, Nat.one_ne_zero]
  simp only [Int.mul_add, Int.add_assoc, Int.add_zero]
theorem end_low (hf : Fit w d c) (N k : Nat) (h0 : Z k ≤ z) (h1 : Z (k + 1) ≤ z) : su (ftri w X Z H z d) (endS N k) = c * (wen w (X N) (H N k) (H N (k + 1)) (Z k) (Z (k + 1)) z - wen w (X 0) (H 0 k) (H 0 (k + 1)) (Z k) (Z (k + 1)) z) := by
  simp only [endS, su, ftri]
  rw [tri_low w h0 h1 h1, tri_low w h0 h1 h0, tri_low w h0 h0 h1, tri_low w h0 h1 h1, hf.sc, hf.sc, hf.sc, hf.sc]
  have := hf.en0 (X 0) (H 0 k) (H 0 (k + 1)) (Z k) (Z (k + 1)) z
  rw [show ∀ a b : Int, a - b = a + -b from fun a b => rfl, ← this]
  simp only [pt, wen, wen0, if_true, if_false, Nat.one_ne_zero]
  simp only [Int.mul_add, Int.add_zero]
  omega
theorem end_at (N k : Nat) (h0 : Z k = z) (h1 : z < Z (k + 1)) : su (ftri w X Z H z d) (endS N k) = 0 := by
  simp only [endS, su, ftri]
  rw [tri_at_lhh w h0 h1 h1, tri_at_lhl w h0 h1 h0, tri_at_llh w h0 h0 h1, tri_at_lhh w h0 h1 h1]
  rfl
theorem end_high (N k : Nat) (h0 : z < Z k) (h1 : z < Z (k + 1)) : su (ftri w X Z H z d) (endS N k) = 0 := by
  simp only [endS, su, ftri]
  rw [tri_high w h0 h1 h1, tri_high w h0 h1 h0, tri_high w h0 h0 h1, tri_high w h0 h1 h1]
  rfl
theorem end_cut {z0 s : Int} (hf : Fit w d c) (N k : Nat) (h0 : Z k = z0) (h1 : Z (k + 1) = z0 + d) (hs : 0 < s) (hd : s < d) : su (ftri w X Z H (z0 + s) d) (endS N k) = wec w (X N) (H N k) (H N (k + 1)) z0 d s - wec w (X 0) (H 0 k) (H 0 (k + 1)) z0 d s := by
  simp only [endS, su, ftri]
  rw [tri_lhh w h0 h1 h1 hs hd, tri_lhl w h0 h1 h0 hs hd, tri_llh w h0 h0 h1 hs hd, tri_lhh w h0 h1 h1 hs hd]
  have := hf.ec0 (X 0) (H 0 k) (H 0 (k + 1)) z0 s
  rw [show wec w (X N) (H N k) (H N (k + 1)) z0 d s - wec w (X 0) (H 0 k) (H 0 (k + 1)) z0 d s = wec w (X N) (H N k) (H N (k + 1)) z0 d s + wec0 w (X 0) (H 0 k) (H 0 (k + 1)) z0 d s by omega]
  simp only [pt, wec, wec0, if_true, if_false, Nat.one_ne_zero]
  omega
theorem sr_split (f g : Nat → Int) (e : Int) (K : Nat) : ∀ M, K ≤ M → (∀ k, k < K → f k = g k) → (K < M → f K = e) → (K = M → e = 0) → (∀ k, K < k → k < M → f k = 0) → sr f M = sr g K + e
  | 0, hK, _, _, he, _ => by
    obtain rfl : K = 0 := by omega
    rw [he rfl]; rfl
  | M + 1, hK, h1, h2, h3, h4 => by
    by_cases e1 : K = M + 1
    · subst e1
      rw [h3 rfl, Int.add_zero]
      exact sr_congr _ h1
    · rw [sr]
      by_cases e2 : K = M
      · subst e2
        rw [h2 (by omega), sr_congr _ h1]
      · rw [h4 M (by omega) (by omega), sr_split f g e K M (by omega) h1 (fun h => h2 (by omega)) (fun h => absurd h e2) (fun k hk hk2 => h4 k hk (by omega))]
        omega
def FWf (z : Int) (i k : Nat) : Int := wsd w (X i) (X (i + 1)) (H i k) (H i (k + 1)) (H (i + 1) k) (H (i + 1) (k + 1)) (Z k) (Z (k + 1)) z +
  (wen w (X (i + 1)) (H (i + 1) k) (H (i + 1) (k + 1)) (Z k) (Z (k + 1)) z - wen w (X i) (H i k) (H i (k + 1)) (Z k) (Z (k + 1)) z) +
  (wfl w (X i) (X (i + 1)) (H i (k + 1)) (H (i + 1) (k + 1)) (Z (k + 1)) z - wfl w (X i) (X (i + 1)) (H i k) (H (i + 1) k) (Z k) z)
def CWf (c : Int) (K : Nat) (d s : Int) (i : Nat) : Int := wsc w (X i) (X (i + 1)) (H i K) (H i (K + 1)) (H (i + 1) K) (H (i + 1) (K + 1)) (Z K) d s +
  (wec w (X (i + 1)) (H (i + 1) K) (H (i + 1) (K + 1)) (Z K) d s - wec w (X i) (H i K) (H i (K + 1)) (Z K) d s) - c * wfl w (X i) (X (i + 1)) (H i K) (H (i + 1) K) (Z K) (Z K + s)
theorem total (hf : Fit w d c) (N M K : Nat) (hK : K ≤ M) (hlow : ∀ k, k ≤ K → Z k ≤ z) (hhigh : ∀ k, K < k → k ≤ M → z < Z k) (hM : z ≤ Z M) (hd : Z K < z → Z (K + 1) = Z K + d) :
    su (ftri w X Z H z d) (faces N M) = c * sr (fun k => sr (fun i => FWf w X Z H z i k) N) K + (if Z K < z then sr (CWf w X Z H c K d (z - Z K)) N else 0) := by
  have hMK : K = M → ¬ Z K < z := by rintro rfl; omega
  -- the cells
  have c1 : ∀ i, sr (fun k => su (ftri w X Z H z d) (cellS i k)) M = sr (fun k => c * wsd w (X i) (X (i + 1)) (H i k) (H i (k + 1)) (H (i + 1) k) (H (i + 1) (k + 1)) (Z k) (Z (k + 1)) z) K +
      (if Z K < z then wsc w (X i) (X (i + 1)) (H i K) (H i (K + 1)) (H (i + 1) K) (H (i + 1) (K + 1)) (Z K) d (z - Z K) else 0) := by
    intro i
    refine sr_split _ _ _ K M hK (fun k hk => cell_low w X Z H hf i k (hlow k (by omega)) (hlow (k + 1) (by omega))) (fun hk => ?_) (fun e => by rw [if_neg (hMK e)]) (fun k hk hk2 => cell_high w X Z H i k (hhigh k hk (by omega)) (hhigh (k + 1) (by omega) (by omega)))
    have h1 := hhigh (K + 1) (by omega) (by omega)
    have h0 := hlow K (Nat.le_refl K)
    split
    · rename_i hc
      have h2 := hd hc
      have := cell_cut w X Z H (z0 := Z K) (s := z - Z K) (d := d) i K rfl h2 (by omega) (by omega)
      rw [show Z K + (z - Z K) = z by omega] at this
      exact this
    · exact cell_at w X Z H i K (by omega) h1
  have c2 : sr (fun k => su (ftri w X Z H z d) (endS N k)) M = sr (fun k => c * (wen w (X N) (H N k) (H N (k + 1)) (Z k) (Z (k + 1)) z - wen w (X 0) (H 0 k) (H 0 (k + 1)) (Z k) (Z (k + 1)) z)) K +
      (if Z K < z then wec w (X N) (H N K) (H N (K + 1)) (Z K) d (z - Z K) - wec w (X 0) (H 0 K) (H 0 (K + 1)) (Z K) d (z - Z K) else 0) := by
    refine sr_split _ _ _ K M hK (fun k hk => end_low w X Z H hf N k (hlow k (by omega)) (hlow (k + 1) (by omega))) (fun hk => ?_) (fun e => by rw [if_neg (hMK e)]) (fun k hk hk2 => end_high w X Z H N k (hhigh k hk (by omega)) (hhigh (k + 1) (by omega) (by omega)))
    have h1 := hhigh (K + 1) (by omega) (by omega)
    have h0 := hlow K (Nat.le_refl K)
    split
    · rename_i hc
      have h2 := hd hc
      have := end_cut w X Z H (z0 := Z K) (s := z - Z K) (d := d) hf N K rfl h2 (by omega) (by omega)
      rw [show Z K + (z - Z K) = z by omega] at this
      exact this
    · exact end_at w X Z H N K (by omega) h1
  unfold faces
  rw [su_append, su_append, su_range, su_range, su_range]
  rw [sr_congr (g := fun i => su _ ((List.range M).flatMap fun k => cellS i k)) N (fun i _ => by rw [su_range, c1 i])]
  rw [sr_congr (g := fun i => su _ (flatS M i)) N (fun i _ => flat_sum w X Z H hf i M (hlow 0 (by omega)) hM), c2]
  -- the bands
  have e1 : sr (fun k => sr (fun i => FWf w X Z H z i k) N) K = sr (fun k => sr (fun i => wsd w (X i) (X (i + 1)) (H i k) (H i (k + 1)) (H (i + 1) k) (H (i + 1) (k + 1)) (Z k) (Z (k + 1)) z) N) K +
      sr (fun k => wen w (X N) (H N k) (H N (k + 1)) (Z k) (Z (k + 1)) z - wen w (X 0) (H 0 k) (H 0 (k + 1)) (Z k) (Z (k + 1)) z) K +
      (sr (fun i => wfl w (X i) (X (i + 1)) (H i K) (H (i + 1) K) (Z K) z) N - sr (fun i => wfl w (X i) (X (i + 1)) (H i 0) (H (i + 1) 0) (Z 0) z) N) := by
    have e2 : sr (fun k => sr (fun i => wfl w (X i) (X (i + 1)) (H i (k + 1)) (H (i + 1) (k + 1)) (Z (k + 1)) z - wfl w (X i) (X (i + 1)) (H i k) (H (i + 1) k) (Z k) z) N) K =
        sr (fun i => wfl w (X i) (X (i + 1)) (H i K) (H (i + 1) K) (Z K) z) N - sr (fun i => wfl w (X i) (X (i + 1)) (H i 0) (H (i + 1) 0) (Z 0) z) N := by
      rw [← sr_swap (fun i k => wfl w (X i) (X (i + 1)) (H i (k + 1)) (H (i + 1) (k + 1)) (Z (k + 1)) z - wfl w (X i) (X (i + 1)) (H i k) (H (i + 1) k) (Z k) z) K N]
      rw [sr_congr (g := fun i => sr _ K) (h := fun i => wfl w (X i) (X (i + 1)) (H i K) (H (i + 1) K) (Z K) z + -1 * wfl w (X i) (X (i + 1)) (H i 0) (H (i + 1) 0) (Z 0) z) N (fun i _ => by
        rw [sr_tele (fun k => wfl w (X i) (X (i + 1)) (H i k) (H (i + 1) k) (Z k) z)]; omega), sr_add, sr_mul]
      omega
    rw [← e2, ← sr_add, ← sr_add]
    refine sr_congr K (fun k _ => ?_)
    rw [sr_congr (g := fun i => FWf w X Z H z i k) N (fun i _ => rfl)]
    unfold FWf
    rw [sr_add, sr_add, sr_tele (fun i => wen w (X i) (H i k) (H i (k + 1)) (Z k) (Z (k + 1)) z)]
  rw [e1, sr_add]
  rw [sr_swap (fun i k => c * wsd w (X i) (X (i + 1)) (H i k) (H i (k + 1)) (H (i + 1) k) (H (i + 1) (k + 1)) (Z k) (Z (k + 1)) z) K N]
  rw [sr_congr (g := fun k => sr (fun i => c * wsd w (X i) (X (i + 1)) (H i k) (H i (k + 1)) (H (i + 1) k) (H (i + 1) (k + 1)) (Z k) (Z (k + 1)) z) N) K (fun k _ => sr_mul c _ N), sr_mul c, sr_mul c]
  rw [sr_congr (g := fun i => -(c * wfl w (X i) (X (i + 1)) (H i 0) (H (i + 1) 0) (Z 0) z)) (h := fun i => -c * wfl w (X i) (X (i + 1)) (H i 0) (H (i + 1) 0) (Z 0) z) N (fun i _ => (Int.neg_mul _ _).symm), sr_mul]
  generalize sr (fun k => sr (fun i => wsd w (X i) (X (i + 1)) (H i k) (H i (k + 1)) (H (i + 1) k) (H (i + 1) (k + 1)) (Z k) (Z (k + 1)) z) N) K = A
  generalize sr (fun k => wen w (X N) (H N k) (H N (k + 1)) (Z k) (Z (k + 1)) z - wen w (X 0) (H 0 k) (H 0 (k + 1)) (Z k) (Z (k + 1)) z) K = B
  generalize sr (fun i => wfl w (X i) (X (i + 1)) (H i 0) (H (i + 1) 0) (Z 0) z) N = F0
  by_cases hc : Z K < z
  · simp only [if_pos hc]
    unfold CWf
    rw [show Z K + (z - Z K) = z by omega]
    rw [sr_congr (g := fun i => _ - c * wfl w (X i) (X (i + 1)) (H i K) (H (i + 1) K) (Z K) z) (h := fun i => wsc w (X i) (X (i + 1)) (H i K) (H i (K + 1)) (H (i + 1) K) (H (i + 1) (K + 1)) (Z K) d (z - Z K) +
      (wec w (X (i + 1)) (H (i + 1) K) (H (i + 1) (K + 1)) (Z K) d (z - Z K) - wec w (X i) (H i K) (H i (K + 1)) (Z K) d (z - Z K)) + -c * wfl w (X i) (X (i + 1)) (H i K) (H (i + 1) K) (Z K) z) N (fun i _ => by rw [Int.neg_mul]; rfl)]
    rw [sr_add, sr_add, sr_mul, sr_tele (fun i => wec w (X i) (H i K) (H i (K + 1)) (Z K) d (z - Z K))]
    generalize sr (fun i => wfl w (X i) (X (i + 1)) (H i K) (H (i + 1) K) (Z K) z) N = FK
    generalize sr (fun i => wsc w (X i) (X (i + 1)) (H i K) (H i (K + 1)) (H (i + 1) K) (H (i + 1) (K + 1)) (Z K) d (z - Z K)) N = S
    generalize wec w (X N) (H N K) (H N (K + 1)) (Z K) d (z - Z K) = p
    generalize wec w (X 0) (H 0 K) (H 0 (K + 1)) (Z K) d (z - Z K) = q
    grind
  · simp only [if_neg hc]
    have hz : Z K = z := by have := hlow K (Nat.le_refl K); omega
    rw [sr_congr (g := fun i => wfl w (X i) (X (i + 1)) (H i K) (H (i + 1) K) (Z K) z) (h := fun _ => 0) N (fun i _ => by rw [hz]; exact hf.top _ _ _ _ _), sr_zero]
    try rw [sr_zero]
    grind
end Go.Proofs.YthikaimhmpenhaaDoor.Fa
namespace Go.Proofs.YthikaimhmpenhaaDoor.Fa
set_option linter.all false
open Sf
set_option maxRecDepth 100000
variable (X Z : Nat → Int) (H : Nat → Nat → Int)
def nwI (i k : Nat) : Int := nw (X i) (X (i + 1)) (H i k) (H i (k + 1)) (H (i + 1) k) (H (i + 1) (k + 1)) (Z (k + 1) - Z k)
def ncI (K : Nat) (d s : Int) (i : Nat) : Int := nc (X i) (X (i + 1)) (H i K) (H i (K + 1)) (H (i + 1) K) (H (i + 1) (K + 1)) d s
def nwLI (i k : Nat) : Int := nwL (X i) (X (i + 1)) (H i k) (H i (k + 1)) (H (i + 1) k) (H (i + 1) (k + 1)) (Z (k + 1) - Z k)
def ncLI (K : Nat) (d s : Int) (i : Nat) : Int := ncL (X i) (X (i + 1)) (H i K) (H i (K + 1)) (H (i + 1) K) (H (i + 1) (K + 1)) d s
def nwHI (i k : Nat) : Int := nwH (X i) (X (i + 1)) (H i k) (H i (k + 1)) (H (i + 1) k) (H (i + 1) (k + 1)) (Z k) (Z (k + 1))
def ncHI (K : Nat) (d s : Int) (i : Nat) : Int := ncH (X i) (X (i + 1)) (H i K) (H i (K + 1)) (H (i + 1) K) (H (i + 1) (K + 1)) (Z K) d s
theorem FW_dt (z : Int) (i k : Nat) : FWf dt X Z H z i k = nwI X Z H i k := full_is _ _ _ _ _ _ _ _ _
theorem FW_dl (z : Int) (i k : Nat) : 3 * FWf dl X Z H z i k = nwLI X Z H i k := full_isL _ _ _ _ _ _ _ _ _
theorem FW_dh (z : Int) (i k : Nat) : FWf dh X Z H z i k = nwHI X Z H i k := full_isH _ _ _ _ _ _ _ _ _
theorem CW_dt (K : Nat) (d s : Int) (i : Nat) : CWf dt X Z H (d * d * d) K d s i = d * ncI X H K d s i := cut_is _ _ _ _ _ _ _ _ _
theorem CW_dl (K : Nat) (d s : Int) (i : Nat) : 3 * CWf dl X Z H (d * d * d * d) K d s i = d * ncLI X H K d s i := cut_isL _ _ _ _ _ _ _ _ _
theorem CW_dh (K : Nat) (d s : Int) (i : Nat) : CWf dh X Z H (d * d * d * d) K d s i = d * d * ncHI X Z H K d s i := cut_isH _ _ _ _ _ _ _ _ _
variable {z d : Int} (N M K : Nat) (hK : K ≤ M) (hlow : ∀ k, k ≤ K → Z k ≤ z) (hhigh : ∀ k, K < k → k ≤ M → z < Z k) (hM : z ≤ Z M) (hd : Z K < z → Z (K + 1) = Z K + d)
include hK hlow hhigh hM hd
theorem vol_is : su (ftri dt X Z H z d) (faces N M) = d * d * d * sr (fun k => sr (fun i => nwI X Z H i k) N) K + (if Z K < z then d * sr (ncI X H K d (z - Z K)) N else 0) := by
  rw [total dt X Z H (fit_dt d) N M K hK hlow hhigh hM hd, sr_congr (g := fun k => sr (fun i => FWf dt X Z H z i k) N) K (fun k _ => sr_congr N (fun i _ => FW_dt X Z H z i k)),
    sr_congr (g := CWf dt X Z H (d * d * d) K d (z - Z K)) N (fun i _ => CW_dt X Z H K d (z - Z K) i), sr_mul]
theorem long_is : 3 * su (ftri dl X Z H z d) (faces N M) = d * d * d * d * sr (fun k => sr (fun i => nwLI X Z H i k) N) K + (if Z K < z then d * sr (ncLI X H K d (z - Z K)) N else 0) := by
  rw [total dl X Z H (fit_dl d) N M K hK hlow hhigh hM hd]
  have e1 : sr (fun k => sr (fun i => nwLI X Z H i k) N) K = 3 * sr (fun k => sr (fun i => FWf dl X Z H z i k) N) K := by
    rw [← sr_mul]
    refine sr_congr K (fun k _ => ?_)
    rw [← sr_mul]
    exact sr_congr N (fun i _ => (FW_dl X Z H z i k).symm)
  have e2 : d * sr (ncLI X H K d (z - Z K)) N = 3 * sr (CWf dl X Z H (d * d * d * d) K d (z - Z K)) N := by
    rw [← sr_mul, ← sr_mul]
    exact sr_congr N (fun i _ => (CW_dl X Z H K d (z - Z K) i).symm)
  rw [e1, e2]
  generalize sr (fun k => sr (fun i => FWf dl X Z H z i k) N) K = A
  generalize sr (CWf dl X Z H (d * d * d * d) K d (z - Z K)) N = B
  generalize d * d * d * d = c
  split <;> grind
theorem high_is : su (ftri dh X Z H z d) (faces N M) = d * d * d * d * sr (fun k => sr (fun i => nwHI X Z H i k) N) K + (if Z K < z then d * d * sr (ncHI X Z H K d (z - Z K)) N else 0) := by
  rw [total dh X Z H (fit_dh d) N M K hK hlow hhigh hM hd, sr_congr (g := fun k => sr (fun i => FWf dh X Z H z i k) N) K (fun k _ => sr_congr N (fun i _ => FW_dh X Z H z i k)),
    sr_congr (g := CWf dh X Z H (d * d * d * d) K d (z - Z K)) N (fun i _ => CW_dh X Z H K d (z - Z K) i), sr_mul]
end Go.Proofs.YthikaimhmpenhaaDoor.Fa

namespace Go.Proofs.YthikaimhmpenhaaDoor
set_option linter.all false
open Go Go.RowKit Wd
open Sf (sr sr_congr sr_add sr_mul sr_nonneg)
set_option maxRecDepth 100000
structure Gd (X Z : List Int) (H : List (List Int)) (C b : Int) : Prop where
  x2 : 2 ≤ X.length
  x8 : X.length ≤ 8
  z2 : 2 ≤ Z.length
  z8 : Z.length ≤ 8
  xs : ∀ i, i < X.length → 0 ≤ ix X i ∧ ix X i ≤ C
  xu : ∀ i, i + 1 < X.length → ix X i < ix X (i + 1)
  zs : ∀ k, k < Z.length → 0 ≤ ix Z k ∧ ix Z k ≤ C
  zu : ∀ k, k + 1 < Z.length → ix Z k < ix Z (k + 1) ∧ ix Z (k + 1) - ix Z k ≤ b
  hl : H.length = X.length
  hr : ∀ i, i < H.length → (row H i).length = Z.length
  hs : ∀ i, i < X.length → ∀ k, k < Z.length → 0 ≤ ix (row H i) k ∧ ix (row H i) k ≤ C
def hk (H : List (List Int)) (k i : Nat) : Int := ix (row H i) k
variable {X Z : List Int} {H : List (List Int)} {C b : Int}
theorem Gd.mono (g : Gd X Z H C b) : ∀ k, k < Z.length → ∀ j, j ≤ k → ix Z j ≤ ix Z k
  | 0, _, j, hj => by obtain rfl : j = 0 := by omega
                      exact Int.le_refl _
  | k + 1, h, j, hj => by
    by_cases e : j = k + 1
    · subst e; exact Int.le_refl _
    · have h1 := g.mono k (by omega) j (by omega)
      have h2 := (g.zu k h).1
      omega
theorem out_whole (g : Gd X Z H C b) (hC : C ≤ 400000) {k : Nat} (hk' : k < Z.length) : OutC X Z H (2 * ix Z k) X.length (fun i => q (ix X i) 1) (fun i => q (hk H k i) 1) := by
  have x2 := g.x2
  have x8 := g.x8
  have z8 := g.z8
  have z2 := g.z2
  refine outlineH (by omega) (by omega) (fun k hk => by have := g.zs k hk; omega) ?_
  intro bX oX cX bZ oZ cZ bH oH cH A C' w hT hX hZ hH
  have h := corners_whole bX oX cX bZ oZ cZ bH oH cH A C' X (dblZ Z) H k (2 * ix Z k) (fun i => q (ix X i) 1) (fun i => q (hk H k i) 1) (by omega) (by omega) (by rw [dblZ_len]; exact hk') (by rw [dblZ_len]; omega)
    (fun j hj => by rw [dblZ_at Z (by omega)]; have := g.mono k hk' j hj; omega) (dblZ_at Z hk') (fun h => by rw [dblZ_len] at h; rw [dblZ_at Z h]; have := (g.zu k h).1; omega) g.hl (fun i hi => by rw [dblZ_len]; exact g.hr i hi)
    (fun i hi => ofQ (ix X i) 1 (by have := g.xs i hi; omega) (by have := g.xs i hi; omega) (by omega) (by omega)) (fun i hi => ofQ (ix (row H i) k) 1 (by have := g.hs i hi k hk'; omega) (by have := g.hs i hi k hk'; omega) (by omega) (by omega)) w hT hX hZ hH
  exact h
theorem out_cut (g : Gd X Z H C b) (hC : C ≤ 2000) (hb : b ≤ 60) {k : Nat} (hk' : k + 1 < Z.length) {n : Int} {t D : Nat} (hn : 2 * ix Z k < n) (hn' : n < 2 * ix Z (k + 1)) (hD : 0 < D) (hD' : D ≤ 120) (ht : t ≤ D) (he : (t : Int) * (2 * ix Z (k + 1) - 2 * ix Z k) = (n - 2 * ix Z k) * (D : Int)) :
    OutC X Z H n (2 * X.length - 1) (fun j => q (cutX (ix X) D t j) D) (fun j => q (cutY (hk H k) (hk H (k + 1)) D t j) D) := by
  have x2 := g.x2
  have x8 := g.x8
  have z8 := g.z8
  have z2 := g.z2
  have zb := (g.zu k hk').2
  have z0 := g.zs k (by omega)
  have z1 := g.zs (k + 1) hk'
  have e0 := dblZ_at Z (i := k) (by omega)
  have e1 := dblZ_at Z hk'
  refine outlineH (by omega) (by omega) (fun k hk => by have := g.zs k hk; omega) ?_
  intro bX oX cX bZ oZ cZ bH oH cH A C' w hT hX hZ hH
  have at' : ∀ a c : Int, 0 ≤ a → a ≤ 2000 → 0 ≤ c → c ≤ 2000 → AtQ n (ix (dblZ Z) k) (ix (dblZ Z) (k + 1)) a c (q ((D : Int) * a + (t : Int) * (c - a)) D) := fun a c h1 h2 h3 h4 => by
    rw [e0, e1]
    exact atQ t D hn hn' (by omega) hD hD' ht he h1 h2 h3 h4
  have h := corners_cut bX oX cX bZ oZ cZ bH oH cH A C' X (dblZ Z) H k n (fun j => q (cutX (ix X) D t j) D) (fun j => q (cutY (hk H k) (hk H (k + 1)) D t j) D) (by omega) (by omega) (by rw [dblZ_len]; exact hk') (by rw [dblZ_len]; omega)
    (fun j hj => by rw [dblZ_at Z (by omega)]; have := g.mono k (by omega) j hj; omega) (by rw [e0]; exact hn) (by rw [e1]; exact hn') g.hl (fun i hi => by rw [dblZ_len]; exact g.hr i hi)
    (by rw [e0]; omega) (by rw [e1]; omega) (fun i hi => by have := g.xs i hi; omega) (fun i hi k hk => by rw [dblZ_len] at hk; have := g.hs i hi k hk; omega)
    (fun i hi => by have := g.xs i hi; simp only [cutX_0]; exact ofQ1 hD (by omega) (by omega))
    (fun i hi => by have h1 := g.hs i hi k (by omega); have h2 := g.hs i hi (k + 1) hk'; simp only [cutY_0]; exact at' _ _ h1.1 (by omega) h2.1 (by omega))
    (fun i hi => by have h1 := g.xs i (by omega); have h2 := g.xs (i + 1) hi; simp only [cutX_1]; exact at' _ _ h1.1 (by omega) h2.1 (by omega))
    (fun i hi => by have h1 := g.hs i (by omega) k (by omega); have h2 := g.hs (i + 1) hi (k + 1) hk'; simp only [cutY_1]; exact at' _ _ h1.1 (by omega) h2.1 (by omega)) w hT hX hZ hH
  exact h
theorem wl_w (g : Gd X Z H C b) {k : Nat} (hk' : k < Z.length) : Wl (ix X) (hk H k) X.length C := by
  have x2 := g.x2
  have h := wl_whole (X := ix X) (a := hk H k) (C := C) (N := X.length - 1) (fun i hi => g.xs i (by omega)) (fun i hi => Int.le_of_lt (g.xu i (by omega))) (fun i hi => g.hs i (by omega) k hk')
  rwa [show X.length - 1 + 1 = X.length by omega] at h
theorem wl_c (g : Gd X Z H C b) {k : Nat} (hk' : k + 1 < Z.length) {t D : Nat} (ht : t ≤ D) : Wl (cutX (ix X) D t) (cutY (hk H k) (hk H (k + 1)) D t) (2 * X.length - 1) ((D : Int) * C) := by
  have x2 := g.x2
  have h := wl_cut (X := ix X) (a := hk H k) (b := hk H (k + 1)) (C := C) (D := (D : Int)) (t := (t : Int)) (N := X.length - 1) (fun i hi => g.xs i (by omega)) (fun i hi => Int.le_of_lt (g.xu i (by omega))) (fun i hi => g.hs i (by omega) k (by omega)) (fun i hi => g.hs i (by omega) (k + 1) hk') (by omega) (by omega)
  rwa [show 2 * (X.length - 1) + 1 = 2 * X.length - 1 by omega] at h
theorem Gd.c0 (g : Gd X Z H C b) : 0 ≤ C := by
  have x2 := g.x2
  have := g.xs 0 (by omega)
  omega
def aW (X : List Int) (H : List (List Int)) (k : Nat) : Int := sr (ta (ix X) (hk H k)) (X.length - 1)
def lW (X : List Int) (H : List (List Int)) (k : Nat) : Int := sr (tl (ix X) (hk H k)) (X.length - 1)
def aC (X : List Int) (H : List (List Int)) (k D t : Nat) : Int := sr (cutA (ix X) (hk H k) (hk H (k + 1)) D t) (X.length - 1)
def lC (X : List Int) (H : List (List Int)) (k D t : Nat) : Int := sr (cutL (ix X) (hk H k) (hk H (k + 1)) D t) (X.length - 1)
theorem two_n {n : Nat} : 2 * n - 1 - 1 = 2 * (n - 1) := by omega
theorem area_w (g : Gd X Z H C b) (hC : C ≤ 2000) {k : Nat} (hk' : k < Z.length) : ValC 43 X Z H false (2 * ix Z k) (q (aW X H k) 1) ∧ 0 ≤ aW X H k ∧ aW X H k ≤ 8000000 := by
  have c0 := g.c0
  have x2 := g.x2
  have x8 := g.x8
  have W := wl_w g hk'
  have h := overArea (D := 1) W (by omega) (by omega) (by omega) (by omega) c0 (by omega)
  refine ⟨value_low (out_whole g (by omega) hk') h, sr_nonneg _ (fun j hj => W.ta0 (by omega)), ?_⟩
  have h1 := W.taS c0 (n := X.length - 1) (by omega)
  have h2 := (mul_bd c0 (show 0 ≤ 2 * C by omega) hC (show 2 * C ≤ 4000 by omega)).2
  unfold aW
  omega
theorem area_c (g : Gd X Z H C b) (hC : C ≤ 2000) (hb : b ≤ 60) {k : Nat} (hk' : k + 1 < Z.length) {n : Int} {t D : Nat} (hn : 2 * ix Z k < n) (hn' : n < 2 * ix Z (k + 1)) (hD : 0 < D) (hD' : D ≤ 120) (ht : t ≤ D) (he : (t : Int) * (2 * ix Z (k + 1) - 2 * ix Z k) = (n - 2 * ix Z k) * (D : Int)) :
    ValC 43 X Z H false n (q (aC X H k D t) (D * D)) ∧ 0 ≤ aC X H k D t ∧ aC X H k D t ≤ ((D : Int) * C) * (2 * ((D : Int) * C)) := by
  have c0 := g.c0
  have x2 := g.x2
  have x8 := g.x8
  have W := wl_c g hk' ht
  have hDC := mul_bd (show (0 : Int) ≤ D by omega) c0 (show (D : Int) ≤ 120 by omega) hC
  have h := overArea (D := D) W (by omega) (by omega) hD hD' hDC.1 (by omega)
  rw [two_n, ta_cut] at h
  refine ⟨value_low (out_cut g hC hb hk' hn hn' hD hD' ht he) h, ?_, ?_⟩
  · have := sr_nonneg (g := ta (cutX (ix X) D t) (cutY (hk H k) (hk H (k + 1)) D t)) (2 * (X.length - 1)) (fun j hj => W.ta0 (by omega))
    rw [ta_cut] at this
    exact this
  · have := W.taS hDC.1 (n := 2 * (X.length - 1)) (by omega)
    rw [ta_cut] at this
    exact this
theorem long_w (g : Gd X Z H C b) (hC : C ≤ 200) {k : Nat} (hk' : k < Z.length) : ValC 49 X Z H false (2 * ix Z k) (q (lW X H k) 3) ∧ 0 ≤ lW X H k ∧ lW X H k ≤ 48000000 := by
  have c0 := g.c0
  have x2 := g.x2
  have x8 := g.x8
  have W := wl_w g hk'
  have h := overLong (D := 1) W (by omega) (by omega) (by omega) (by omega) c0 (by omega)
  refine ⟨value_low (out_whole g (by omega) hk') h, sr_nonneg _ (fun j hj => W.tl0 c0 (by omega)), ?_⟩
  have h1 := W.tlS c0 (n := X.length - 1) (by omega)
  have h2 := mul_bd c0 c0 hC hC
  have h3 := (mul_bd c0 (show 0 ≤ 6 * (C * C) by omega) hC (show 6 * (C * C) ≤ 240000 by omega)).2
  unfold lW
  omega
theorem long_c (g : Gd X Z H C b) (hC : C ≤ 200) (hb : b ≤ 20) {k : Nat} (hk' : k + 1 < Z.length) {n : Int} {t D : Nat} (hn : 2 * ix Z k < n) (hn' : n < 2 * ix Z (k + 1)) (hD : 0 < D) (hD' : D ≤ 40) (ht : t ≤ D) (he : (t : Int) * (2 * ix Z (k + 1) - 2 * ix Z k) = (n - 2 * ix Z k) * (D : Int)) :
    ValC 49 X Z H false n (q (lC X H k D t) (3 * (D * D * D))) ∧ 0 ≤ lC X H k D t ∧ lC X H k D t ≤ ((D : Int) * C) * (6 * (((D : Int) * C) * ((D : Int) * C))) := by
  have c0 := g.c0
  have x2 := g.x2
  have x8 := g.x8
  have W := wl_c g hk' ht
  have hDC := mul_bd (show (0 : Int) ≤ D by omega) c0 (show (D : Int) ≤ 40 by omega) hC
  have h := overLong (D := D) W (by omega) (by omega) hD hD' hDC.1 (by omega)
  rw [two_n, tl_cut] at h
  refine ⟨value_low (out_cut g (by omega) (by omega) hk' hn hn' hD (by omega) ht he) h, ?_, ?_⟩
  · have := sr_nonneg (g := tl (cutX (ix X) D t) (cutY (hk H k) (hk H (k + 1)) D t)) (2 * (X.length - 1)) (fun j hj => W.tl0 hDC.1 (by omega))
    rw [tl_cut] at this
    exact this
  · have := W.tlS hDC.1 (n := 2 * (X.length - 1)) (by omega)
    rw [tl_cut] at this
    exact this
theorem high_w (g : Gd X Z H C b) (hC : C ≤ 200) {k : Nat} (hk' : k < Z.length) : ValC 43 X Z H true (2 * ix Z k) (q (2 * ix Z k * aW X H k) 2) ∧ 0 ≤ aW X H k ∧ aW X H k ≤ 80000 := by
  have c0 := g.c0
  have x2 := g.x2
  have x8 := g.x8
  have z := g.zs k hk'
  have W := wl_w g hk'
  have h := overArea (D := 1) W (by omega) (by omega) (by omega) (by omega) c0 (by omega)
  have a0 : 0 ≤ aW X H k := sr_nonneg _ (fun j hj => W.ta0 (by omega))
  have a1 : aW X H k ≤ 80000 := by
    have h1 := W.taS c0 (n := X.length - 1) (by omega)
    have h2 := (mul_bd c0 (show 0 ≤ 2 * C by omega) hC (show 2 * C ≤ 400 by omega)).2
    unfold aW
    omega
  refine ⟨value_high (out_whole g (by omega) hk') h (ofQ (2 * ix Z k) 2 (by omega) (by omega) (by omega) (by omega)) ?_, a0, a1⟩
  refine tim2E (B := 80000) (M := 1) (B' := 400) (M' := 2) ⟨by omega, by omega, by omega, by omega, by omega, by omega⟩ (bd _ _ (by have : sr (ta (ix X) (hk H k)) (X.length - 1) = aW X H k := rfl; omega) (by have : sr (ta (ix X) (hk H k)) (X.length - 1) = aW X H k := rfl; omega) (by omega) (by omega)) (bd _ _ (by omega) (by omega) (by omega) (by omega)) (by omega) ?_
  rw [show sr (ta (ix X) (hk H k)) (X.length - 1) = aW X H k from rfl]
  have : ((1 : Nat) : Int) = 1 := rfl
  have : ((2 : Nat) : Int) = 2 := rfl
  generalize aW X H k = a
  generalize ix Z k = z
  grind
theorem high_c (g : Gd X Z H C b) (hC : C ≤ 200) (hb : b ≤ 20) {k : Nat} (hk' : k + 1 < Z.length) {n : Int} {t D : Nat} (hn : 2 * ix Z k < n) (hn' : n < 2 * ix Z (k + 1)) (hD : 0 < D) (hD' : D ≤ 40) (ht : t ≤ D) (he : (t : Int) * (2 * ix Z (k + 1) - 2 * ix Z k) = (n - 2 * ix Z k) * (D : Int)) :
    ValC 43 X Z H true n (q (n * aC X H k D t) (2 * (D * D))) ∧ 0 ≤ aC X H k D t ∧ aC X H k D t ≤ ((D : Int) * C) * (2 * ((D : Int) * C)) := by
  have c0 := g.c0
  have x2 := g.x2
  have x8 := g.x8
  have z0 := g.zs k (by omega)
  have z1 := g.zs (k + 1) hk'
  have W := wl_c g hk' ht
  have hDC := mul_bd (show (0 : Int) ≤ D by omega) c0 (show (D : Int) ≤ 40 by omega) hC
  have h := overArea (D := D) W (by omega) (by omega) hD (by omega) hDC.1 (by omega)
  rw [two_n, ta_cut] at h
  have a0 : 0 ≤ aC X H k D t := by
    have := sr_nonneg (g := ta (cutX (ix X) D t) (cutY (hk H k) (hk H (k + 1)) D t)) (2 * (X.length - 1)) (fun j hj => W.ta0 (by omega))
    rw [ta_cut] at this
    exact this
  have a1 : aC X H k D t ≤ ((D : Int) * C) * (2 * ((D : Int) * C)) := by
    have := W.taS hDC.1 (n := 2 * (X.length - 1)) (by omega)
    rw [ta_cut] at this
    exact this
  have h2 := (mul_bd hDC.1 (show 0 ≤ 2 * ((D : Int) * C) by omega) hDC.2 (show 2 * ((D : Int) * C) ≤ 16000 by omega)).2
  have hDD : D * D ≤ 1600 := Nat.mul_le_mul hD' hD'
  have hDD0 : 0 < D * D := Nat.mul_pos hD hD
  refine ⟨value_high (out_cut g (by omega) (by omega) hk' hn hn' hD (by omega) ht he) h (ofQ n 2 (by omega) (by omega) (by omega) (by omega)) ?_, a0, a1⟩
  refine tim2E (B := 128000000) (M := 1600) (B' := 400) (M' := 2) ⟨by omega, by omega, by omega, by omega, by omega, by omega⟩ (bd _ _ (by have : sr (cutA (ix X) (hk H k) (hk H (k + 1)) D t) (X.length - 1) = aC X H k D t := rfl; omega) (by have : sr (cutA (ix X) (hk H k) (hk H (k + 1)) D t) (X.length - 1) = aC X H k D t := rfl; omega) hDD0 hDD) (bd _ _ (by omega) (by omega) (by omega) (by omega)) (by omega) ?_
  rw [show sr (cutA (ix X) (hk H k) (hk H (k + 1)) D t) (X.length - 1) = aC X H k D t from rfl, Int.natCast_mul]
  have : ((2 : Nat) : Int) = 2 := rfl
  generalize aC X H k D t = a
  generalize ((D * D : Nat) : Int) = z
  grind
end Go.Proofs.YthikaimhmpenhaaDoor

namespace Go.Proofs.YthikaimhmpenhaaDoor
set_option linter.all false
open Go Go.RowKit Wd
open Sf (sr sr_congr sr_add sr_mul sr_nonneg)
open Fa (nwI ncI nwLI ncLI nwHI ncHI)
set_option maxRecDepth 100000
variable {X Z : List Int} {H : List (List Int)} {C b : Int}
def hf (H : List (List Int)) (i k : Nat) : Int := ix (row H i) k
theorem nw_sum (X Z : List Int) (H : List (List Int)) (k : Nat) : (ix Z (k + 1) - ix Z k) * (aW X H k + aC X H k 2 1 + aW X H (k + 1)) = sr (fun i => nwI (ix X) (ix Z) (hf H) i k) (X.length - 1) := by
  unfold aW aC
  rw [← sr_add, ← sr_add, ← sr_mul]
  refine sr_congr _ (fun i _ => ?_)
  unfold ta cutA nwI Fa.nw hk hf
  have : ((1 : Nat) : Int) = 1 := rfl
  have : ((2 : Nat) : Int) = 2 := rfl
  grind
theorem nc_sum (X Z : List Int) (H : List (List Int)) (k d s : Nat) : (s : Int) * ((d : Int) * d * aW X H k + aC X H k (2 * d) s + aC X H k d s) = sr (ncI (ix X) (hf H) k d s) (X.length - 1) := by
  unfold aW aC
  rw [← sr_mul, ← sr_add, ← sr_add, ← sr_mul]
  refine sr_congr _ (fun i _ => ?_)
  unfold ta cutA ncI Fa.nc hk hf
  rw [Int.natCast_mul]
  have : ((2 : Nat) : Int) = 2 := rfl
  grind
theorem nwL_sum (X Z : List Int) (H : List (List Int)) (k : Nat) : 2 * ((ix Z (k + 1) - ix Z k) * (2 * lW X H k + lC X H k 2 1 + 2 * lW X H (k + 1))) = sr (fun i => nwLI (ix X) (ix Z) (hf H) i k) (X.length - 1) := by
  unfold lW lC
  rw [← sr_mul, ← sr_mul, ← sr_add, ← sr_add, ← sr_mul, ← sr_mul]
  refine sr_congr _ (fun i _ => ?_)
  unfold tl cutL nwLI Fa.nwL hk hf
  have e : ∀ a b c d, Fa.s3 a b c d = s3 a b c d := fun a b c d => rfl
  simp only [e]
  have : ((1 : Nat) : Int) = 1 := rfl
  have : ((2 : Nat) : Int) = 2 := rfl
  unfold s3
  grind
theorem ncL_sum (X Z : List Int) (H : List (List Int)) (k d s : Nat) : 2 * ((s : Int) * (2 * ((d : Int) * d * d) * lW X H k + lC X H k (2 * d) s + 2 * lC X H k d s)) = sr (ncLI (ix X) (hf H) k d s) (X.length - 1) := by
  unfold lW lC
  rw [← sr_mul, ← sr_mul, ← sr_add, ← sr_add, ← sr_mul, ← sr_mul]
  refine sr_congr _ (fun i _ => ?_)
  unfold tl cutL ncLI Fa.ncL hk hf
  have e : ∀ a b c d, Fa.s3 a b c d = s3 a b c d := fun a b c d => rfl
  simp only [e]
  rw [Int.natCast_mul]
  have : ((2 : Nat) : Int) = 2 := rfl
  generalize s3 _ _ _ _ = u1
  generalize s3 _ _ _ _ = u2
  generalize s3 _ _ _ _ = u3
  generalize s3 _ _ _ _ = u4
  generalize s3 _ _ _ _ = u5
  grind
theorem nwH_sum (X Z : List Int) (H : List (List Int)) (k : Nat) : 2 * ((ix Z (k + 1) - ix Z k) * (2 * ix Z k * aW X H k + (ix Z k + ix Z (k + 1)) * aC X H k 2 1 + 2 * ix Z (k + 1) * aW X H (k + 1))) = sr (fun i => nwHI (ix X) (ix Z) (hf H) i k) (X.length - 1) := by
  unfold aW aC
  rw [← sr_mul, ← sr_mul, ← sr_mul, ← sr_add, ← sr_add, ← sr_mul, ← sr_mul]
  refine sr_congr _ (fun i _ => ?_)
  unfold ta cutA nwHI Fa.nwH hk hf
  have : ((1 : Nat) : Int) = 1 := rfl
  have : ((2 : Nat) : Int) = 2 := rfl
  grind
theorem ncH_sum (X Z : List Int) (H : List (List Int)) (k d s : Nat) : 2 * ((s : Int) * ((d : Int) * d * (2 * ix Z k * aW X H k) + (2 * ix Z k + s) * aC X H k (2 * d) s + 2 * (ix Z k + s) * aC X H k d s)) = sr (ncHI (ix X) (ix Z) (hf H) k d s) (X.length - 1) := by
  unfold aW aC
  rw [← sr_mul, ← sr_mul, ← sr_mul, ← sr_mul, ← sr_add, ← sr_add, ← sr_mul, ← sr_mul]
  refine sr_congr _ (fun i _ => ?_)
  unfold ta cutA ncHI Fa.ncH hk hf
  rw [Int.natCast_mul]
  have : ((2 : Nat) : Int) = 2 := rfl
  grind
def Sh (f : FuncId) (X Z : List Int) (H : List (List Int)) (high : Bool) (a c : Int) (y : Fr) : Prop := ∃ v0 v1 v2, ValC f X Z H high (2 * a) v0 ∧ ValC f X Z H high (a + c) v1 ∧ ValC f X Z H high (2 * c) v2 ∧ BandC (c - a) v0 v1 v2 y
theorem full_a (g : Gd X Z H C b) (hC : C ≤ 2000) (hb : b ≤ 60) {k : Nat} (hk' : k + 1 < Z.length) :
    Sh 43 X Z H false (ix Z k) (ix Z (k + 1)) (q (sr (fun i => nwI (ix X) (ix Z) (hf H) i k) (X.length - 1)) 6) ∧ 0 ≤ sr (fun i => nwI (ix X) (ix Z) (hf H) i k) (X.length - 1) ∧ sr (fun i => nwI (ix X) (ix Z) (hf H) i k) (X.length - 1) ≤ 200000000000 := by
  have c0 := g.c0
  obtain ⟨zu, zb⟩ := g.zu k hk'
  obtain ⟨h0, p0, r0⟩ := area_w g hC (k := k) (by omega)
  obtain ⟨h1, p1, r1⟩ := area_c g hC hb hk' (n := ix Z k + ix Z (k + 1)) (t := 1) (D := 2) (by omega) (by omega) (by omega) (by omega) (by omega) (by have : ((1 : Nat) : Int) = 1 := rfl; have : ((2 : Nat) : Int) = 2 := rfl; omega)
  obtain ⟨h2, p2, r2⟩ := area_w g hC hk'
  have r1' := Int.le_trans r1 (mul_bd (show 0 ≤ ((2 : Nat) : Int) * C by omega) (show 0 ≤ 2 * (((2 : Nat) : Int) * C) by omega) (show ((2 : Nat) : Int) * C ≤ 4000 by omega) (show 2 * (((2 : Nat) : Int) * C) ≤ 8000 by omega)).2
  have hs := bandQ (m := 1) (h := ix Z (k + 1) - ix Z k) (by omega) (by omega) p0 (by omega) p1 (by omega) p2 (by omega) (by omega) (by omega)
  rw [nw_sum] at hs
  refine ⟨⟨_, _, _, h0, h1, h2, hs⟩, ?_⟩
  have := mul_bd (show 0 ≤ ix Z (k + 1) - ix Z k by omega) (show 0 ≤ aW X H k + aC X H k 2 1 + aW X H (k + 1) by omega) (show _ ≤ 60 by omega) (show _ ≤ 50000000 by omega)
  rw [nw_sum] at this
  omega
theorem cut_a (g : Gd X Z H C b) (hC : C ≤ 2000) (hb : b ≤ 60) {k d s : Nat} (hk' : k + 1 < Z.length) (hd : ix Z (k + 1) - ix Z k = d) (hs0 : 0 < s) (hsd : s < d) :
    Sh 43 X Z H false (ix Z k) (ix Z k + s) (q (sr (ncI (ix X) (hf H) k d s) (X.length - 1)) (6 * (d * d))) ∧ 0 ≤ sr (ncI (ix X) (hf H) k d s) (X.length - 1) ∧ sr (ncI (ix X) (hf H) k d s) (X.length - 1) ≤ 3600000000000000 := by
  have c0 := g.c0
  obtain ⟨zu, zb⟩ := g.zu k hk'
  have hd60 : d ≤ 60 := by omega
  have hdd : d * d ≤ 3600 := Nat.mul_le_mul hd60 hd60
  have hdd0 : 0 < d * d := Nat.mul_pos (by omega) (by omega)
  have e1 : (s : Int) * (2 * ix Z (k + 1) - 2 * ix Z k) = (ix Z k + (ix Z k + s) - 2 * ix Z k) * ((2 * d : Nat) : Int) := by
    rw [show 2 * ix Z (k + 1) - 2 * ix Z k = 2 * (d : Int) by omega, show ix Z k + (ix Z k + s) - 2 * ix Z k = (s : Int) by omega, Int.natCast_mul]
    rfl
  have e2 : (s : Int) * (2 * ix Z (k + 1) - 2 * ix Z k) = (2 * (ix Z k + s) - 2 * ix Z k) * (d : Int) := by
    rw [show 2 * ix Z (k + 1) - 2 * ix Z k = 2 * (d : Int) by omega, show 2 * (ix Z k + s) - 2 * ix Z k = 2 * (s : Int) by omega]
    grind
  obtain ⟨h0, p0, r0⟩ := area_w g hC (k := k) (by omega)
  obtain ⟨h1, p1, r1⟩ := area_c g hC hb hk' (n := ix Z k + (ix Z k + s)) (t := s) (D := 2 * d) (by omega) (by omega) (by omega) (by omega) (by omega) e1
  obtain ⟨h2, p2, r2⟩ := area_c g hC hb hk' (n := 2 * (ix Z k + s)) (t := s) (D := d) (by omega) (by omega) (by omega) (by omega) (by omega) e2
  have m1 := mul_bd (show (0 : Int) ≤ ((2 * d : Nat) : Int) by omega) c0 (show ((2 * d : Nat) : Int) ≤ 120 by omega) hC
  have m2 := mul_bd (show (0 : Int) ≤ (d : Int) by omega) c0 (show (d : Int) ≤ 60 by omega) hC
  have r1' := Int.le_trans r1 (mul_bd m1.1 (show 0 ≤ 2 * (((2 * d : Nat) : Int) * C) by omega) m1.2 (show 2 * (((2 * d : Nat) : Int) * C) ≤ 480000 by omega)).2
  have r2' := Int.le_trans r2 (mul_bd m2.1 (show 0 ≤ 2 * ((d : Int) * C) by omega) m2.2 (show 2 * ((d : Int) * C) ≤ 240000 by omega)).2
  have m3 := mul_bd (show (0 : Int) ≤ ((d * d : Nat) : Int) by omega) p0 (show ((d * d : Nat) : Int) ≤ 3600 by omega) r0
  rw [Int.natCast_mul] at m3
  have hb' := bandQ (m := d * d) (x0 := (d : Int) * d * aW X H k) (x1 := aC X H k (2 * d) s) (x2 := aC X H k d s) (h := ix Z k + s - ix Z k) (by omega) (by omega) m3.1 (by omega) p1 (by omega) p2 (by omega) (by omega) (by omega)
  rw [show ix Z k + (s : Int) - ix Z k = (s : Int) by omega, nc_sum X Z] at hb'
  rw [show 2 * d * (2 * d) = 4 * (d * d) by grind] at h1
  rw [q_eq (y := (d : Int) * d * aW X H k) (n := d * d) (by omega) hdd0 (by rw [Int.natCast_mul]; generalize aW X H k = a; have : ((1 : Nat) : Int) = 1 := rfl; grind)] at h0
  refine ⟨⟨_, _, _, h0, h1, h2, ?_⟩, ?_⟩
  · rw [show ix Z k + (s : Int) - ix Z k = (s : Int) by omega]
    exact hb'
  · have := mul_bd (show 0 ≤ (s : Int) by omega) (show 0 ≤ (d : Int) * d * aW X H k + aC X H k (2 * d) s + aC X H k d s by omega) (show (s : Int) ≤ 60 by omega) (show _ ≤ 60000000000000 by omega)
    rw [nc_sum X Z] at this
    omega
theorem full_l (g : Gd X Z H C b) (hC : C ≤ 200) (hb : b ≤ 20) {k : Nat} (hk' : k + 1 < Z.length) :
    Sh 49 X Z H false (ix Z k) (ix Z (k + 1)) (q (sr (fun i => nwLI (ix X) (ix Z) (hf H) i k) (X.length - 1)) 72) ∧ 0 ≤ sr (fun i => nwLI (ix X) (ix Z) (hf H) i k) (X.length - 1) ∧ sr (fun i => nwLI (ix X) (ix Z) (hf H) i k) (X.length - 1) ≤ 200000000000 := by
  have c0 := g.c0
  obtain ⟨zu, zb⟩ := g.zu k hk'
  obtain ⟨h0, p0, r0⟩ := long_w g hC (k := k) (by omega)
  obtain ⟨h1, p1, r1⟩ := long_c g hC hb hk' (n := ix Z k + ix Z (k + 1)) (t := 1) (D := 2) (by omega) (by omega) (by omega) (by omega) (by omega) (by have : ((1 : Nat) : Int) = 1 := rfl; have : ((2 : Nat) : Int) = 2 := rfl; omega)
  obtain ⟨h2, p2, r2⟩ := long_w g hC hk'
  have m1 := mul_bd (show 0 ≤ ((2 : Nat) : Int) * C by omega) (show 0 ≤ ((2 : Nat) : Int) * C by omega) (show ((2 : Nat) : Int) * C ≤ 400 by omega) (show ((2 : Nat) : Int) * C ≤ 400 by omega)
  have r1' := Int.le_trans r1 (mul_bd (show 0 ≤ ((2 : Nat) : Int) * C by omega) (show 0 ≤ 6 * ((((2 : Nat) : Int) * C) * (((2 : Nat) : Int) * C)) by omega) (show ((2 : Nat) : Int) * C ≤ 400 by omega) (show _ ≤ 960000 by omega)).2
  have hs := bandQ (m := 6) (x0 := 2 * lW X H k) (x1 := lC X H k 2 1) (x2 := 2 * lW X H (k + 1)) (h := ix Z (k + 1) - ix Z k) (by omega) (by omega) (by omega) (by omega) p1 (by omega) (by omega) (by omega) (by omega) (by omega)
  rw [q_eq (z := (ix Z (k + 1) - ix Z k) * _) (y := sr (fun i => nwLI (ix X) (ix Z) (hf H) i k) (X.length - 1)) (n := 72) (by omega) (by omega) (by rw [← nwL_sum]; have : ((72 : Nat) : Int) = 72 := rfl; have : ((6 * 6 : Nat) : Int) = 36 := rfl; grind)] at hs
  rw [q_eq (y := 2 * lW X H k) (n := 6) (by omega) (by omega) (by have : ((3 : Nat) : Int) = 3 := rfl; have : ((6 : Nat) : Int) = 6 := rfl; grind)] at h0
  rw [q_eq (y := 2 * lW X H (k + 1)) (n := 6) (by omega) (by omega) (by have : ((3 : Nat) : Int) = 3 := rfl; have : ((6 : Nat) : Int) = 6 := rfl; grind)] at h2
  refine ⟨⟨_, _, _, h0, h1, h2, hs⟩, ?_⟩
  have := mul_bd (show 0 ≤ ix Z (k + 1) - ix Z k by omega) (show 0 ≤ 2 * lW X H k + lC X H k 2 1 + 2 * lW X H (k + 1) by omega) (show _ ≤ 20 by omega) (show _ ≤ 600000000 by omega)
  rw [← nwL_sum]
  omega
theorem cut_l (g : Gd X Z H C b) (hC : C ≤ 200) (hb : b ≤ 20) {k d s : Nat} (hk' : k + 1 < Z.length) (hd : ix Z (k + 1) - ix Z k = d) (hs0 : 0 < s) (hsd : s < d) :
    Sh 49 X Z H false (ix Z k) (ix Z k + s) (q (sr (ncLI (ix X) (hf H) k d s) (X.length - 1)) (72 * (d * d * d))) ∧ 0 ≤ sr (ncLI (ix X) (hf H) k d s) (X.length - 1) ∧ sr (ncLI (ix X) (hf H) k d s) (X.length - 1) ≤ 3600000000000000 := by
  have c0 := g.c0
  obtain ⟨zu, zb⟩ := g.zu k hk'
  have hd20 : d ≤ 20 := by omega
  have hdd : d * d ≤ 400 := Nat.mul_le_mul hd20 hd20
  have hddd : d * d * d ≤ 8000 := Nat.mul_le_mul hdd hd20
  have hddd0 : 0 < d * d * d := Nat.mul_pos (Nat.mul_pos (by omega) (by omega)) (by omega)
  have e1 : (s : Int) * (2 * ix Z (k + 1) - 2 * ix Z k) = (ix Z k + (ix Z k + s) - 2 * ix Z k) * ((2 * d : Nat) : Int) := by
    rw [show 2 * ix Z (k + 1) - 2 * ix Z k = 2 * (d : Int) by omega, show ix Z k + (ix Z k + s) - 2 * ix Z k = (s : Int) by omega, Int.natCast_mul]
    rfl
  have e2 : (s : Int) * (2 * ix Z (k + 1) - 2 * ix Z k) = (2 * (ix Z k + s) - 2 * ix Z k) * (d : Int) := by
    rw [show 2 * ix Z (k + 1) - 2 * ix Z k = 2 * (d : Int) by omega, show 2 * (ix Z k + s) - 2 * ix Z k = 2 * (s : Int) by omega]
    grind
  obtain ⟨h0, p0, r0⟩ := long_w g hC (k := k) (by omega)
  obtain ⟨h1, p1, r1⟩ := long_c g hC hb hk' (n := ix Z k + (ix Z k + s)) (t := s) (D := 2 * d) (by omega) (by omega) (by omega) (by omega) (by omega) e1
  obtain ⟨h2, p2, r2⟩ := long_c g hC hb hk' (n := 2 * (ix Z k + s)) (t := s) (D := d) (by omega) (by omega) (by omega) (by omega) (by omega) e2
  have m1 := mul_bd (show (0 : Int) ≤ ((2 * d : Nat) : Int) by omega) c0 (show ((2 * d : Nat) : Int) ≤ 40 by omega) hC
  have m2 := mul_bd (show (0 : Int) ≤ (d : Int) by omega) c0 (show (d : Int) ≤ 20 by omega) hC
  have n1 := mul_bd m1.1 m1.1 m1.2 m1.2
  have n2 := mul_bd m2.1 m2.1 m2.2 m2.2
  have r1' := Int.le_trans r1 (mul_bd m1.1 (show 0 ≤ 6 * ((((2 * d : Nat) : Int) * C) * (((2 * d : Nat) : Int) * C)) by omega) m1.2 (show _ ≤ 384000000 by omega)).2
  have r2' := Int.le_trans r2 (mul_bd m2.1 (show 0 ≤ 6 * (((d : Int) * C) * ((d : Int) * C)) by omega) m2.2 (show _ ≤ 96000000 by omega)).2
  have m3 := mul_bd (show (0 : Int) ≤ ((d * d * d : Nat) : Int) by omega) p0 (show ((d * d * d : Nat) : Int) ≤ 8000 by omega) r0
  rw [Int.natCast_mul, Int.natCast_mul] at m3
  have e3 : 2 * ((d : Int) * d * d) * lW X H k = 2 * ((d : Int) * d * d * lW X H k) := by grind
  have hb' := bandQ (m := 6 * (d * d * d)) (x0 := 2 * ((d : Int) * d * d) * lW X H k) (x1 := lC X H k (2 * d) s) (x2 := 2 * lC X H k d s) (h := (s : Int)) (by omega) (by omega) (by omega) (by omega) p1 (by omega) (by omega) (by omega) (by omega) (by omega)
  rw [q_eq (z := (s : Int) * _) (y := sr (ncLI (ix X) (hf H) k d s) (X.length - 1)) (n := 72 * (d * d * d)) (by omega) (by omega) (by
    rw [← ncL_sum X Z]
    generalize (s : Int) * _ = u
    generalize d * d * d = e
    simp only [Int.natCast_mul]
    have : ((72 : Nat) : Int) = 72 := rfl
    have : ((6 : Nat) : Int) = 6 := rfl
    grind)] at hb'
  rw [show 3 * (2 * d * (2 * d) * (2 * d)) = 4 * (6 * (d * d * d)) by grind] at h1
  rw [q_eq (y := 2 * ((d : Int) * d * d) * lW X H k) (n := 6 * (d * d * d)) (by omega) (by omega) (by
    simp only [Int.natCast_mul]
    generalize lW X H k = a
    have : ((3 : Nat) : Int) = 3 := rfl
    have : ((6 : Nat) : Int) = 6 := rfl
    grind)] at h0
  rw [q_eq (y := 2 * lC X H k d s) (n := 6 * (d * d * d)) (by omega) (by omega) (by
    simp only [Int.natCast_mul]
    generalize lC X H k d s = a
    have : ((3 : Nat) : Int) = 3 := rfl
    have : ((6 : Nat) : Int) = 6 := rfl
    grind)] at h2
  refine ⟨⟨_, _, _, h0, h1, h2, ?_⟩, ?_⟩
  · rw [show ix Z k + (s : Int) - ix Z k = (s : Int) by omega]
    exact hb'
  · have := mul_bd (show 0 ≤ (s : Int) by omega) (show 0 ≤ 2 * ((d : Int) * d * d) * lW X H k + lC X H k (2 * d) s + 2 * lC X H k d s by omega) (show (s : Int) ≤ 20 by omega) (show _ ≤ 30000000000000 by omega)
    rw [← ncL_sum X Z]
    omega
theorem full_h (g : Gd X Z H C b) (hC : C ≤ 200) (hb : b ≤ 20) {k : Nat} (hk' : k + 1 < Z.length) :
    Sh 43 X Z H true (ix Z k) (ix Z (k + 1)) (q (sr (fun i => nwHI (ix X) (ix Z) (hf H) i k) (X.length - 1)) 24) ∧ 0 ≤ sr (fun i => nwHI (ix X) (ix Z) (hf H) i k) (X.length - 1) ∧ sr (fun i => nwHI (ix X) (ix Z) (hf H) i k) (X.length - 1) ≤ 200000000000 := by
  have c0 := g.c0
  obtain ⟨zu, zb⟩ := g.zu k hk'
  have z0 := g.zs k (by omega)
  have z1 := g.zs (k + 1) hk'
  obtain ⟨h0, p0, r0⟩ := high_w g hC (k := k) (by omega)
  obtain ⟨h1, p1, r1⟩ := high_c g hC hb hk' (n := ix Z k + ix Z (k + 1)) (t := 1) (D := 2) (by omega) (by omega) (by omega) (by omega) (by omega) (by have : ((1 : Nat) : Int) = 1 := rfl; have : ((2 : Nat) : Int) = 2 := rfl; omega)
  obtain ⟨h2, p2, r2⟩ := high_w g hC hk'
  have r1' := Int.le_trans r1 (mul_bd (show 0 ≤ ((2 : Nat) : Int) * C by omega) (show 0 ≤ 2 * (((2 : Nat) : Int) * C) by omega) (show ((2 : Nat) : Int) * C ≤ 400 by omega) (show 2 * (((2 : Nat) : Int) * C) ≤ 800 by omega)).2
  have y0 := mul_bd (show 0 ≤ 2 * ix Z k by omega) p0 (show _ ≤ 400 by omega) r0
  have y1 := mul_bd (show 0 ≤ ix Z k + ix Z (k + 1) by omega) p1 (show _ ≤ 400 by omega) r1'
  have y2 := mul_bd (show 0 ≤ 2 * ix Z (k + 1) by omega) p2 (show _ ≤ 400 by omega) r2
  have hs := bandQ (m := 2) (h := ix Z (k + 1) - ix Z k) (by omega) (by omega) y0.1 (by omega) y1.1 (by omega) y2.1 (by omega) (by omega) (by omega)
  rw [q_eq (z := (ix Z (k + 1) - ix Z k) * _) (y := sr (fun i => nwHI (ix X) (ix Z) (hf H) i k) (X.length - 1)) (n := 24) (by omega) (by omega) (by rw [← nwH_sum]; have : ((24 : Nat) : Int) = 24 := rfl; have : ((6 * 2 : Nat) : Int) = 12 := rfl; grind)] at hs
  refine ⟨⟨_, _, _, h0, h1, h2, hs⟩, ?_⟩
  have := mul_bd (show 0 ≤ ix Z (k + 1) - ix Z k by omega) (show 0 ≤ 2 * ix Z k * aW X H k + (ix Z k + ix Z (k + 1)) * aC X H k 2 1 + 2 * ix Z (k + 1) * aW X H (k + 1) by omega) (show _ ≤ 20 by omega) (show _ ≤ 600000000 by omega)
  rw [← nwH_sum]
  omega
theorem cut_h (g : Gd X Z H C b) (hC : C ≤ 200) (hb : b ≤ 20) {k d s : Nat} (hk' : k + 1 < Z.length) (hd : ix Z (k + 1) - ix Z k = d) (hs0 : 0 < s) (hsd : s < d) :
    Sh 43 X Z H true (ix Z k) (ix Z k + s) (q (sr (ncHI (ix X) (ix Z) (hf H) k d s) (X.length - 1)) (24 * (d * d))) ∧ 0 ≤ sr (ncHI (ix X) (ix Z) (hf H) k d s) (X.length - 1) ∧ sr (ncHI (ix X) (ix Z) (hf H) k d s) (X.length - 1) ≤ 3600000000000000 := by
  have c0 := g.c0
  obtain ⟨zu, zb⟩ := g.zu k hk'
  have z0 := g.zs k (by omega)
  have z1 := g.zs (k + 1) hk'
  have hd20 : d ≤ 20 := by omega
  have hdd : d * d ≤ 400 := Nat.mul_le_mul hd20 hd20
  have hdd0 : 0 < d * d := Nat.mul_pos (by omega) (by omega)
  have e1 : (s : Int) * (2 * ix Z (k + 1) - 2 * ix Z k) = (ix Z k + (ix Z k + s) - 2 * ix Z k) * ((2 * d : Nat) : Int) := by
    rw [show 2 * ix Z (k + 1) - 2 * ix Z k = 2 * (d : Int) by omega, show ix Z k + (ix Z k + s) - 2 * ix Z k = (s : Int) by omega, Int.natCast_mul]
    rfl
  have e2 : (s : Int) * (2 * ix Z (k + 1) - 2 * ix Z k) = (2 * (ix Z k + s) - 2 * ix Z k) * (d : Int) := by
    rw [show 2 * ix Z (k + 1) - 2 * ix Z k = 2 * (d : Int) by omega, show 2 * (ix Z k + s) - 2 * ix Z k = 2 * (s : Int) by omega]
    grind
  obtain ⟨h0, p0, r0⟩ := high_w g hC (k := k) (by omega)
  obtain ⟨h1, p1, r1⟩ := high_c g hC hb hk' (n := ix Z k + (ix Z k + s)) (t := s) (D := 2 * d) (by omega) (by omega) (by omega) (by omega) (by omega) e1
  obtain ⟨h2, p2, r2⟩ := high_c g hC hb hk' (n := 2 * (ix Z k + s)) (t := s) (D := d) (by omega) (by omega) (by omega) (by omega) (by omega) e2
  have m1 := mul_bd (show (0 : Int) ≤ ((2 * d : Nat) : Int) by omega) c0 (show ((2 * d : Nat) : Int) ≤ 40 by omega) hC
  have m2 := mul_bd (show (0 : Int) ≤ (d : Int) by omega) c0 (show (d : Int) ≤ 20 by omega) hC
  have r1' := Int.le_trans r1 (mul_bd m1.1 (show 0 ≤ 2 * (((2 * d : Nat) : Int) * C) by omega) m1.2 (show 2 * (((2 * d : Nat) : Int) * C) ≤ 16000 by omega)).2
  have r2' := Int.le_trans r2 (mul_bd m2.1 (show 0 ≤ 2 * ((d : Int) * C) by omega) m2.2 (show 2 * ((d : Int) * C) ≤ 8000 by omega)).2
  have y0 := mul_bd (show 0 ≤ 2 * ix Z k by omega) p0 (show _ ≤ 400 by omega) r0
  have y1 := mul_bd (show 0 ≤ ix Z k + (ix Z k + s) by omega) p1 (show _ ≤ 400 by omega) r1'
  have y2 := mul_bd (show 0 ≤ 2 * (ix Z k + s) by omega) p2 (show _ ≤ 400 by omega) r2'
  have m3 := mul_bd (show (0 : Int) ≤ ((d * d : Nat) : Int) by omega) y0.1 (show ((d * d : Nat) : Int) ≤ 400 by omega) y0.2
  rw [Int.natCast_mul] at m3
  have hb' := bandQ (m := 2 * (d * d)) (x0 := (d : Int) * d * (2 * ix Z k * aW X H k)) (x1 := (ix Z k + (ix Z k + s)) * aC X H k (2 * d) s) (x2 := 2 * (ix Z k + s) * aC X H k d s) (h := (s : Int)) (by omega) (by omega) m3.1 (by omega) y1.1 (by omega) y2.1 (by omega) (by omega) (by omega)
  have eH := ncH_sum X Z H k d s
  rw [show 2 * ix Z k + (s : Int) = ix Z k + (ix Z k + s) by omega] at eH
  rw [q_eq (z := (s : Int) * _) (y := sr (ncHI (ix X) (ix Z) (hf H) k d s) (X.length - 1)) (n := 24 * (d * d)) (by omega) (by omega) (by
    rw [← eH]
    generalize (s : Int) * _ = u
    generalize d * d = e
    simp only [Int.natCast_mul]
    have : ((24 : Nat) : Int) = 24 := rfl
    have : ((6 : Nat) : Int) = 6 := rfl
    have : ((2 : Nat) : Int) = 2 := rfl
    grind)] at hb'
  rw [show 2 * (2 * d * (2 * d)) = 4 * (2 * (d * d)) by grind] at h1
  rw [q_eq (y := (d : Int) * d * (2 * ix Z k * aW X H k)) (n := 2 * (d * d)) (by omega) (by omega) (by
    simp only [Int.natCast_mul]
    generalize 2 * ix Z k * aW X H k = a
    have : ((2 : Nat) : Int) = 2 := rfl
    grind)] at h0
  refine ⟨⟨_, _, _, h0, h1, h2, ?_⟩, ?_⟩
  · rw [show ix Z k + (s : Int) - ix Z k = (s : Int) by omega]
    exact hb'
  · have := mul_bd (show 0 ≤ (s : Int) by omega) (show 0 ≤ (d : Int) * d * (2 * ix Z k * aW X H k) + (ix Z k + (ix Z k + s)) * aC X H k (2 * d) s + 2 * (ix Z k + s) * aC X H k d s by omega) (show (s : Int) ≤ 20 by omega) (show _ ≤ 30000000000000 by omega)
    rw [← eH]
    omega
end Go.Proofs.YthikaimhmpenhaaDoor

namespace Go.Proofs.YthikaimhmpenhaaDoor
set_option linter.all false
open Go Go.RowKit Wd
open Sf (sr sr_congr sr_add sr_mul sr_nonneg)
open Fa (nwI ncI nwLI ncLI nwHI ncHI)
set_option maxRecDepth 100000
theorem sr_bound (T : Nat → Int) (c : Int) : ∀ n : Nat, (∀ i, i < n → T i ≤ c) → sr T n ≤ (n : Int) * c
  | 0, _ => by simp [sr]
  | n + 1, h => by
    have h1 := sr_bound T c n (fun i hi => h i (by omega))
    have h2 := h n (by omega)
    have e : sr T (n + 1) = sr T n + T n := rfl
    rw [e, Int.natCast_add, Int.add_mul, Int.natCast_one, Int.one_mul]
    omega
variable {X Z : List Int} {H : List (List Int)} {C b : Int} {f : FuncId} {high : Bool} {c K : Nat} {Yf : Nat → Int}
theorem top_full (g : Gd X Z H C b) {z : Int} {k K : Nat} (hK : K < Z.length) (hk' : k < K) (hz : ix Z K ≤ z) : topB Z z k = ix Z (k + 1) := by
  have := g.mono K hK (k + 1) (by omega)
  unfold topB
  split <;> omega
def Whole (f : FuncId) (X Z : List Int) (H : List (List Int)) (high : Bool) (c : Nat) (Yf : Nat → Int) : Prop := ∀ k, k + 1 < Z.length → Sh f X Z H high (ix Z k) (ix Z (k + 1)) (q (Yf k) c) ∧ 0 ≤ Yf k ∧ Yf k ≤ 200000000000
theorem whole_S (g : Gd X Z H C b) (hW : Whole f X Z H high c Yf) {j : Nat} (hj : j < Z.length) : 0 ≤ sr Yf j ∧ sr Yf j ≤ 2000000000000 := by
  have z8 := g.z8
  have h1 := sr_nonneg (g := Yf) j (fun i hi => (hW i (by omega)).2.1)
  have h2 := sr_bound Yf 200000000000 j (fun i hi => (hW i (by omega)).2.2)
  omega
theorem whole_sum (g : Gd X Z H C b) (hc : 0 < c) (hc' : c ≤ 72) (hW : Whole f X Z H high c Yf) {k : Nat} (hk' : k + 1 < Z.length) : SumC 2 (pk2 (q (sr Yf k) c) (q (Yf k) c)) (q (sr Yf (k + 1)) c) := by
  have h1 := whole_S g hW (j := k) (by omega)
  have h2 := hW k hk'
  exact sum2S (B := 2000000000000) (M := 72) (B' := 200000000000) (M' := 72) ⟨by omega, by omega, by omega, by omega, by omega, by omega⟩ (bd _ _ (by omega) (by omega) hc hc') (bd _ _ (by omega) (by omega) hc hc')
theorem of_zero {c : Nat} (hc : 0 < c) : OfC 0 1 (q 0 c) := by
  have := ofQ 0 1 (by omega) (by omega) (by omega) (by omega)
  rwa [q_eq (y := 0) (n := c) (by omega) hc (by simp)] at this
theorem bel_at (g : Gd X Z H C b) (hC : C ≤ 2000) (hc : 0 < c) (hc' : c ≤ 72) (hW : Whole f X Z H high c Yf) (hK : K < Z.length) : BelC f X Z H high (ix Z K) (q (sr Yf K) c) := by
  have z2 := g.z2
  have z8 := g.z8
  have zK := g.zs K hK
  refine belowH K (fun j => q (sr Yf j) c) (fun k => q (Yf k) c) (by omega) (by omega) (fun k hk => by have := g.zs k hk; omega) (by omega) (by omega) (fun k hk => ⟨by omega, ?_⟩) (fun _ => Int.le_refl _) hK (of_zero hc) (fun k hk => ?_) (fun k hk => whole_sum g hc hc' hW (by omega))
  · have h1 := g.mono K hK (k + 1) (by omega)
    have h2 := (g.zu k (by omega)).1
    omega
  · rw [top_full g hK hk (Int.le_refl _)]
    exact (hW k (by omega)).1
theorem bel_cut (g : Gd X Z H C b) (hC : C ≤ 2000) (hc : 0 < c) (hc' : c ≤ 72) (hW : Whole f X Z H high c Yf) {s : Nat} (hK : K + 1 < Z.length) (hs0 : 0 < s) (hs1 : ix Z K + s < ix Z (K + 1)) {Y R : Int} {M Den : Nat}
    (hY : Sh f X Z H high (ix Z K) (ix Z K + s) (q Y M) ∧ 0 ≤ Y ∧ Y ≤ 3600000000000000) (hM : 0 < M) (hM' : M ≤ 600000) (hD : 0 < Den) (he : (sr Yf K * (M : Int) + Y * (c : Int)) * (Den : Int) = R * ((c : Int) * (M : Int))) : BelC f X Z H high (ix Z K + s) (q R Den) := by
  have z2 := g.z2
  have z8 := g.z8
  have zK := g.zs K (by omega)
  have zK1 := g.zs (K + 1) hK
  have hS := whole_S g hW (j := K) (by omega)
  have h := belowH (f := f) (X := X) (Z := Z) (H := H) (high := high) (z := ix Z K + s) (K + 1) (fun j => if j ≤ K then q (sr Yf j) c else q R Den) (fun k => if k < K then q (Yf k) c else q Y M) (by omega) (by omega) (fun k hk => by have := g.zs k hk; omega) (by omega) (by omega) (fun k hk => ⟨by omega, ?_⟩) (fun _ => by omega) hK (by simp only [Nat.zero_le, if_true]; exact of_zero hc) (fun k hk => ?_) (fun k hk => ?_)
  · simp only [show ¬ K + 1 ≤ K by omega, if_false] at h
    exact h
  · have := g.mono K (by omega) k (by omega)
    omega
  · by_cases e : k < K
    · rw [if_pos e, top_full g (K := K) (by omega) e (by omega)]
      exact (hW k (by omega)).1
    · obtain rfl : k = K := by omega
      rw [if_neg e, show topB Z (ix Z k + s) k = ix Z k + s by unfold topB; rw [if_pos hs1]]
      exact hY.1
  · by_cases e : k < K
    · simp only [if_pos (show k ≤ K by omega), if_pos (show k + 1 ≤ K by omega), if_pos e]
      exact whole_sum g hc hc' hW (by omega)
    · obtain rfl : k = K := by omega
      simp only [if_pos (Nat.le_refl k), if_neg (show ¬ k + 1 ≤ k by omega), if_neg e]
      exact sum2E (B := 2000000000000) (M := 72) (B' := 3600000000000000) (M' := 600000) ⟨by omega, by omega, by omega, by omega, by omega, by omega⟩ (bd _ _ (by omega) (by omega) hc hc') (bd _ _ (by omega) (by omega) hM hM') hD he
structure At (Z : List Int) (z : Int) (K d : Nat) : Prop where
  k : K < Z.length
  le : ix Z K ≤ z
  one : ix Z K = z → d = 1
  lt : ix Z K < z → K + 1 < Z.length ∧ z < ix Z (K + 1) ∧ ix Z (K + 1) - ix Z K = d
theorem At.d0 {z : Int} {K d : Nat} (h : At Z z K d) : 0 < d := by
  by_cases e : ix Z K = z
  · rw [h.one e]; omega
  · have h1 := h.le
    have := h.lt (by omega)
    omega
def volS (X Z : List Int) (H : List (List Int)) (K : Nat) : Int := sr (fun k => sr (fun i => nwI (ix X) (ix Z) (hf H) i k) (X.length - 1)) K
def volR (X Z : List Int) (H : List (List Int)) (z : Int) (K d : Nat) : Int := (d : Int) * d * d * volS X Z H K + (if ix Z K < z then (d : Int) * sr (ncI (ix X) (hf H) K d (z - ix Z K)) (X.length - 1) else 0)
theorem vol_below (g : Gd X Z H C b) (hC : C ≤ 2000) (hb : b ≤ 60) {z : Int} {d : Nat} (hA : At Z z K d) : BelC 43 X Z H false z (q (volR X Z H z K d) (6 * d * d * d)) := by
  have hW : Whole 43 X Z H false 6 (fun k => sr (fun i => nwI (ix X) (ix Z) (hf H) i k) (X.length - 1)) := fun k hk' => full_a g hC hb hk'
  by_cases e : ix Z K = z
  · rw [hA.one e, ← e]
    unfold volR
    rw [if_neg (by omega)]
    have h := bel_at g hC (by omega) (by omega) hW hA.k
    have e2 : ((1 : Nat) : Int) * (1 : Nat) * (1 : Nat) * volS X Z H K + 0 = volS X Z H K := by simp
    rw [e2]
    exact h
  · obtain ⟨hK, hz, hd⟩ := hA.lt (by have := hA.le; omega)
    have hle := hA.le
    obtain ⟨s, hs⟩ : ∃ s : Nat, z - ix Z K = s := ⟨(z - ix Z K).toNat, by omega⟩
    have hz' : z = ix Z K + s := by omega
    have hdd0 : 0 < d * d := Nat.mul_pos (by omega) (by omega)
    have hd60 : d ≤ 60 := by have := (g.zu K hK).2; omega
    have hdd : d * d ≤ 3600 := Nat.mul_le_mul hd60 hd60
    have hddd0 : 0 < 6 * d * d * d := Nat.mul_pos (Nat.mul_pos (Nat.mul_pos (by omega) (by omega)) (by omega)) (by omega)
    subst hz'
    refine bel_cut g hC (by omega) (by omega) hW hK (by omega) (by omega) (cut_a g hC hb hK hd (by omega) (by omega)) (by omega) (by omega) hddd0 ?_
    unfold volR
    rw [if_pos (by omega), hs]
    rw [show sr (fun k => sr (fun i => nwI (ix X) (ix Z) (hf H) i k) (X.length - 1)) K = volS X Z H K from rfl]
    simp only [Int.natCast_mul]
    generalize volS X Z H K = S
    generalize sr (ncI (ix X) (hf H) K d s) (X.length - 1) = Y
    generalize (d : Int) = e
    have : ((6 : Nat) : Int) = 6 := rfl
    grind
def lonS (X Z : List Int) (H : List (List Int)) (K : Nat) : Int := sr (fun k => sr (fun i => nwLI (ix X) (ix Z) (hf H) i k) (X.length - 1)) K
def lonR (X Z : List Int) (H : List (List Int)) (z : Int) (K d : Nat) : Int := (d : Int) * d * d * d * lonS X Z H K + (if ix Z K < z then (d : Int) * sr (ncLI (ix X) (hf H) K d (z - ix Z K)) (X.length - 1) else 0)
theorem lon_below (g : Gd X Z H C b) (hC : C ≤ 200) (hb : b ≤ 20) {z : Int} {d : Nat} (hA : At Z z K d) : BelC 49 X Z H false z (q (lonR X Z H z K d) (72 * d * d * d * d)) := by
  have hW : Whole 49 X Z H false 72 (fun k => sr (fun i => nwLI (ix X) (ix Z) (hf H) i k) (X.length - 1)) := fun k hk' => full_l g hC hb hk'
  by_cases e : ix Z K = z
  · rw [hA.one e, ← e]
    unfold lonR
    rw [if_neg (by omega)]
    have h := bel_at g (by omega) (by omega) (by omega) hW hA.k
    have e2 : ((1 : Nat) : Int) * (1 : Nat) * (1 : Nat) * (1 : Nat) * lonS X Z H K + 0 = lonS X Z H K := by simp
    rw [e2]
    exact h
  · obtain ⟨hK, hz, hd⟩ := hA.lt (by have := hA.le; omega)
    have hle := hA.le
    obtain ⟨s, hs⟩ : ∃ s : Nat, z - ix Z K = s := ⟨(z - ix Z K).toNat, by omega⟩
    have hz' : z = ix Z K + s := by omega
    have hd20 : d ≤ 20 := by have := (g.zu K hK).2; omega
    have hdd : d * d ≤ 400 := Nat.mul_le_mul hd20 hd20
    have hddd : d * d * d ≤ 8000 := Nat.mul_le_mul hdd hd20
    have hddd0 : 0 < d * d * d := Nat.mul_pos (Nat.mul_pos (by omega) (by omega)) (by omega)
    have hdddd0 : 0 < 72 * d * d * d * d := Nat.mul_pos (Nat.mul_pos (Nat.mul_pos (Nat.mul_pos (by omega) (by omega)) (by omega)) (by omega)) (by omega)
    subst hz'
    refine bel_cut g (by omega) (by omega) (by omega) hW hK (by omega) (by omega) (cut_l g hC hb hK hd (by omega) (by omega)) (by omega) (by omega) hdddd0 ?_
    unfold lonR
    rw [if_pos (by omega), hs]
    rw [show sr (fun k => sr (fun i => nwLI (ix X) (ix Z) (hf H) i k) (X.length - 1)) K = lonS X Z H K from rfl]
    simp only [Int.natCast_mul]
    generalize lonS X Z H K = S
    generalize sr (ncLI (ix X) (hf H) K d s) (X.length - 1) = Y
    generalize (d : Int) = e
    have : ((72 : Nat) : Int) = 72 := rfl
    grind
def higS (X Z : List Int) (H : List (List Int)) (K : Nat) : Int := sr (fun k => sr (fun i => nwHI (ix X) (ix Z) (hf H) i k) (X.length - 1)) K
def higR (X Z : List Int) (H : List (List Int)) (z : Int) (K d : Nat) : Int := (d : Int) * d * d * d * higS X Z H K + (if ix Z K < z then (d : Int) * d * sr (ncHI (ix X) (ix Z) (hf H) K d (z - ix Z K)) (X.length - 1) else 0)
theorem hig_below (g : Gd X Z H C b) (hC : C ≤ 200) (hb : b ≤ 20) {z : Int} {d : Nat} (hA : At Z z K d) : BelC 43 X Z H true z (q (higR X Z H z K d) (24 * d * d * d * d)) := by
  have hW : Whole 43 X Z H true 24 (fun k => sr (fun i => nwHI (ix X) (ix Z) (hf H) i k) (X.length - 1)) := fun k hk' => full_h g hC hb hk'
  by_cases e : ix Z K = z
  · rw [hA.one e, ← e]
    unfold higR
    rw [if_neg (by omega)]
    have h := bel_at g (by omega) (by omega) (by omega) hW hA.k
    have e2 : ((1 : Nat) : Int) * (1 : Nat) * (1 : Nat) * (1 : Nat) * higS X Z H K + 0 = higS X Z H K := by simp
    rw [e2]
    exact h
  · obtain ⟨hK, hz, hd⟩ := hA.lt (by have := hA.le; omega)
    have hle := hA.le
    obtain ⟨s, hs⟩ : ∃ s : Nat, z - ix Z K = s := ⟨(z - ix Z K).toNat, by omega⟩
    have hz' : z = ix Z K + s := by omega
    have hd20 : d ≤ 20 := by have := (g.zu K hK).2; omega
    have hdd : d * d ≤ 400 := Nat.mul_le_mul hd20 hd20
    have hdd0 : 0 < d * d := Nat.mul_pos (by omega) (by omega)
    have hdddd0 : 0 < 24 * d * d * d * d := Nat.mul_pos (Nat.mul_pos (Nat.mul_pos (Nat.mul_pos (by omega) (by omega)) (by omega)) (by omega)) (by omega)
    subst hz'
    refine bel_cut g (by omega) (by omega) (by omega) hW hK (by omega) (by omega) (cut_h g hC hb hK hd (by omega) (by omega)) (by omega) (by omega) hdddd0 ?_
    unfold higR
    rw [if_pos (by omega), hs]
    rw [show sr (fun k => sr (fun i => nwHI (ix X) (ix Z) (hf H) i k) (X.length - 1)) K = higS X Z H K from rfl]
    simp only [Int.natCast_mul]
    generalize higS X Z H K = S
    generalize sr (ncHI (ix X) (ix Z) (hf H) K d s) (X.length - 1) = Y
    generalize (d : Int) = e
    have : ((24 : Nat) : Int) = 24 := rfl
    grind
end Go.Proofs.YthikaimhmpenhaaDoor
