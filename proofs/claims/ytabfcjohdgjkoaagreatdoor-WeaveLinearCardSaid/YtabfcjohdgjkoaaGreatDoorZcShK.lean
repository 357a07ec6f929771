/- The reference: an object's words at the beginning. -/
import Derived.Test.YtabfcjohdgjkoaaGreatDoorZcShJ
namespace Go.Proofs.YtabfcjohdgjkoaaGreatDoor
open Go.RowKit
open Go.Lib (hid)
attribute [local go_sem] Oper.semAt_some
set_option maxHeartbeats 4000000
set_option maxRecDepth 100000
def LayO (w:World) (L:List Int) (e:Ending) (w':World):Prop:=∃ b N,e=.returned (.slice (some ⟨b,0,none⟩) N N)∧L.length=N∧N≤300∧w.heap.size≤b∧RowB w' b (fa L) 22∧(∀ z ∈ L,(Lit.int .u32 z).wf=true)∧Below w.heap.size w w'
theorem LayO.mk {w w':World} {b N:Nat} {L:List Int} (hr:RowB w' b (fa L) 22) (hN:L.length=N) (h3:N≤300) (hw:∀ z ∈ L,(Lit.int .u32 z).wf=true) (hb:Below w.heap.size w w') (h0:w.heap.size≤b):LayO w L (.returned (.slice (some ⟨b,0,none⟩) N N)) w':=⟨b,N,rfl,hN,h3,h0,hr,hw,hb⟩
def LySt (w:World) (n b B:Nat) (o:Ob) (l Z:List Int) (D k:Nat) (wr:World):Prop:=Below n w wr∧ObX wr n o∧RowB wr b (fa (lA Z D (l.take k))) 22∧Ws wr B o.I l
theorem LySt.step {w wr wx:World} {n b B D k:Nat} {o:Ob} {l Z:List Int} {z:Int} (h:LySt w n b B o l Z D k wr) (hx:Below wr.heap.size wr wx) (hz:l[k]?=some z) (hD:D+l.length≤Z.length) (hn:n<b) (hB:B≤n):LySt w n b B o l Z D (k+1) (wx.setCell ⟨b,D+k,none⟩ (.int .u32 z)):=by
 obtain⟨h1,h2,h3,h4⟩:=h;have aJ:=h3.lt;have hk:=bQ hz;refine⟨eG (h1.trans (hx.mono (by omega))) b _ (by omega) _,(ie _ _ _ _ _ (by omega)).trans (h2.kept hx),?_,?_⟩
 ·have h5:=(h3.kept hx).set (D+k) (.int .u32 z);rw[nC] at h5;have hl:(l.take k).length=k:=by simp;omega
  have h6:=BB (Z:=Z) (b:=D) (l:=l.take k) (x:=z) (by rw[hl];omega);rw[hl] at h6;rw[h6,← bp hz] at h5;exact h5
 ·exact h4.below (eG (hx.mono (by omega)) b _ (by omega) _) (Nat.le_refl _)
theorem LySt.below {w wr wx:World} {n b B D k:Nat} {o:Ob} {l Z:List Int} (h:LySt w n b B o l Z D k wr) (hx:Below wr.heap.size wr wx) (hn:n<b) (hB:B≤n):LySt w n b B o l Z D k wx:=by
 obtain⟨h1,h2,h3,h4⟩:=h;have aJ:=h3.lt;exact⟨h1.trans (hx.mono (by omega)),h2.kept hx,h3.kept hx,h4.below (hx.mono (by omega)) (Nat.le_refl _)⟩
theorem LySt.cell {w wr:World} {n b B D k:Nat} {o:Ob} {l Z:List Int} (h:LySt w n b B o l Z D k wr) (hk:k<l.length) (hD:D+l.length≤Z.length):∃ u,wr.cell? ⟨b,D+k,none⟩=some u:=by
 have h3:=h.2.2.1.cell (D+k);have hl:(lA Z D (l.take k)).length=Z.length:=jP (by simp;omega);rw[h3,lE];obtain⟨u,hu⟩:=bu (l:=lA Z D (l.take k)) (k:=D+k) (by omega);exact⟨_,by rw[hu];rfl⟩
theorem uy {o:Ob} {l:List Int} (h:bD o) (hl:o.ni=l.length):0≤dw o∧dw o≤16∧0≤dw o*o.wd∧dw o*o.wd≤256∧0≤et o∧et o+l.length≤aB o∧l.length≤8:=by
 obtain⟨a,b,c,d,e⟩:=nE h
 rcases ba h with ⟨k,q⟩ | ⟨k,q⟩ | ⟨k,q⟩ | ⟨k,q⟩ | ⟨k,q⟩ | ⟨k,q⟩
 ·have hs:dw o=0:=by unfold dw;rw[if_neg (by omega)]
  have z:=kX q;have jV:(l.length:Int)=o.wd:=by unfold cG ax at q;omega
  unfold et;rw[hs,gx q,mc k];omega
 ·have hs:dw o=0:=by unfold dw;rw[if_neg (by omega)]
  have z:=kU q;have jV:(l.length:Int)=o.wd:=by unfold cF ax at q;omega
  have mm:2*o.wd≤((o.nr:Int)+2)*o.wd:=Int.mul_le_mul_of_nonneg_right (by omega) (by omega);unfold et;rw[hs,gv q,ma k];omega
 ·have hs:dw o=0:=by unfold dw;rw[if_neg (by omega)]
  have z:=kC q;have jV:(l.length:Int)=o.wd:=by unfold ee ax at q;omega
  unfold et;rw[hs,ir q,ot k];omega
 ·have hs:dw o=o.st%o.s:=by unfold dw;rw[if_pos k]
  have z:=fh q;have p0:=Int.emod_nonneg o.st (show o.s≠0 by omega);have p1:=Int.emod_lt_of_pos o.st (show 0<o.s by omega);have jV:(l.length:Int)=o.wd:=by unfold ce ax at q;omega
  have m:=fP (a:=o.st%o.s) (b:=o.wd) (by omega) (by omega) (by omega) (by omega)
  have mm:(o.st%o.s)*o.wd+o.wd≤o.s*o.wd:=by
   have:=Int.mul_le_mul_of_nonneg_right (show o.st%o.s+1≤o.s by omega) (show 0≤o.wd by omega);rw[Int.add_mul] at this;omega
  unfold et;rw[hs,gy q,me k];omega
 ·have hs:dw o=0:=by unfold dw;rw[if_neg (by omega)]
  have z:=gP q;have jV:(l.length:Int)=o.wd:=by unfold eh ax at q;omega
  have mm:2*o.wd≤o.s*o.wd:=Int.mul_le_mul_of_nonneg_right (by omega) (by omega);unfold et;rw[hs,iq q,oq k];omega
 ·have hs:dw o=0:=by unfold dw;rw[if_neg (by omega)]
  have z:=gG q;have jV:(l.length:Int)=0:=by unfold bL ax at q;omega
  have mm:1*o.wd≤o.s*o.wd:=Int.mul_le_mul_of_nonneg_right (by omega) (by omega);unfold et;rw[hs,gw q,p9 k];omega
end Go.Proofs.YtabfcjohdgjkoaaGreatDoor
