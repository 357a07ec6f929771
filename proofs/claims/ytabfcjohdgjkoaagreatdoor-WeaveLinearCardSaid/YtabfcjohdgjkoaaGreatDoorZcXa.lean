/- Looms that are finished, and operations alone. -/
import Derived.Test.YtabfcjohdgjkoaaGreatDoorZcWu
namespace Go.Proofs.YtabfcjohdgjkoaaGreatDoor
namespace Kc
theorem left_zero {c:Kc}:c.left=0↔c.over=true:=by
  unfold left
  constructor
  · intro h
    cases ho:c.over
    · rw[ho] at h
      simp only[Bool.false_eq_true,if_false] at h
      repeat' split at h
      all_goals first
        | (unfold leftFour at h;split at h <;> split at h <;> omega)
        | (unfold leftChen at h;split at h <;> split at h <;> omega)
        | (unfold leftSeq at h;split at h <;> split at h <;> omega)
        | (unfold leftRing at h;split at h <;> split at h <;> omega)
        | (unfold leftCab at h;split at h <;> split at h <;> omega)
        | (unfold leftFifo at h;split at h <;> omega)
    · rfl
  · intro h;rw[h,if_pos rfl]
end Kc
theorem sd {o:Ob} (op:Int) (h:cG o):eH o op=(if op=2 then o.wd+4 else if op=1 then o.wd+3 else 0):=by
  obtain⟨k1,k2,k3,k4,k5,k6⟩:=@cm o;unfold eH;rw[if_pos h]
theorem r8 {o:Ob} (op:Int) (h:cF o):eH o op=(if op=2 then o.wd+2*o.nr+2 else if op=1 then o.wd+4 else 0):=by
  obtain⟨k1,k2,k3,k4,k5,k6⟩:=@cm o;unfold eH;rw[if_neg (fun q=>absurd (k1 q) (by have:=k2 h;omega)),if_pos h]
theorem tT {o:Ob} (op:Int) (h:ee o):eH o op=(if op=2 then o.wd+3 else if op=1 then o.c*(o.wd+2) else 0):=by
  obtain⟨k1,k2,k3,k4,k5,k6⟩:=@cm o;unfold eH;rw[if_neg (fun q=>absurd (k1 q) (by have:=k3 h;omega)),if_neg (fun q=>absurd (k2 q) (by have:=k3 h;omega)),if_pos h]
theorem se {o:Ob} (op:Int) (h:ce o):eH o op=(if op=2 then o.wd+2 else if op=1 then o.c*(o.wd+2) else 0):=by
  obtain⟨k1,k2,k3,k4,k5,k6⟩:=@cm o;unfold eH;rw[if_neg (fun q=>absurd (k1 q) (by have:=k4 h;omega)),if_neg (fun q=>absurd (k2 q) (by have:=k4 h;omega)),if_neg (fun q=>absurd (k3 q) (by have:=k4 h;omega)),if_pos h]
theorem tS {o:Ob} (op:Int) (h:eh o):eH o op=(if op=2 then o.wd+o.nr+2 else if op=1 then 3*o.c+o.wd+1 else 0):=by
  obtain⟨k1,k2,k3,k4,k5,k6⟩:=@cm o;unfold eH;rw[if_neg (fun q=>absurd (k1 q) (by have:=k5 h;omega)),if_neg (fun q=>absurd (k2 q) (by have:=k5 h;omega)),if_neg (fun q=>absurd (k3 q) (by have:=k5 h;omega)),if_neg (fun q=>absurd (k4 q) (by have:=k5 h;omega)),if_pos h]
theorem r9 {o:Ob} (op:Int) (h:bL o):eH o op=(if op=3∨op=4 then o.wd+3 else 0):=by
  obtain⟨k1,k2,k3,k4,k5,k6⟩:=@cm o;unfold eH;rw[if_neg (fun q=>absurd (k1 q) (by have:=k6 h;omega)),if_neg (fun q=>absurd (k2 q) (by have:=k6 h;omega)),if_neg (fun q=>absurd (k3 q) (by have:=k6 h;omega)),if_neg (fun q=>absurd (k4 q) (by have:=k6 h;omega)),if_neg (fun q=>absurd (k5 q) (by have:=k6 h;omega)),if_pos h]
theorem Ez {o:Ob} {at' op rd:Int} {r:List Int} (h:fM o at' op rd r.length=0):eH o op=((Kc.most o.k o.wd.toNat o.nr o.c.toNat op:Nat):Int):=by
  obtain⟨hS,hR,_,_,hc⟩:=rf h;obtain⟨p1,p2,p3⟩:=vz hR;have OH:=hS.op5;have OI:=hS.op6;have e5:o.k≠6→op=2∨op=1:=OH;have e6:o.k=6→op=3∨op=4:=OI
  have hm:((o.c.toNat*(o.wd.toNat+2):Nat):Int)=o.c*(o.wd+2):=by
    rw[Int.natCast_mul,Int.natCast_add,Int.toNat_of_nonneg p2,Int.toNat_of_nonneg p3];rfl
  rcases ba hR with ⟨q,h1⟩ | ⟨q,h1⟩ | ⟨q,h1⟩ | ⟨q,h1⟩ | ⟨q,h1⟩ | ⟨q,h1⟩
  · rw[sd op h1,q]
    rcases e5 (by omega) with e | e <;> subst e
    · show o.wd+4=((o.wd.toNat+4:Nat):Int);omega
    · show o.wd+3=((o.wd.toNat+3:Nat):Int);omega
  · rw[r8 op h1,q]
    rcases e5 (by omega) with e | e <;> subst e
    · show o.wd+2*(o.nr:Int)+2=((o.wd.toNat+2*o.nr+2:Nat):Int);omega
    · show o.wd+4=((o.wd.toNat+4:Nat):Int);omega
  · rw[tT op h1,q]
    rcases e5 (by omega) with e | e <;> subst e
    · show o.wd+3=((o.wd.toNat+3:Nat):Int);omega
    · show o.c*(o.wd+2)=((o.c.toNat*(o.wd.toNat+2):Nat):Int);exact hm.symm
  · rw[se op h1,q]
    rcases e5 (by omega) with e | e <;> subst e
    · show o.wd+2=((o.wd.toNat+2:Nat):Int);omega
    · show o.c*(o.wd+2)=((o.c.toNat*(o.wd.toNat+2):Nat):Int);exact hm.symm
  · rw[tS op h1,q]
    rcases e5 (by omega) with e | e <;> subst e
    · show o.wd+(o.nr:Int)+2=((o.wd.toNat+o.nr+2:Nat):Int);omega
    · show 3*o.c+o.wd+1=((3*o.c.toNat+o.wd.toNat+1:Nat):Int);omega
  · rw[r9 op h1,if_pos (e6 q),q]
    show o.wd+3=((o.wd.toNat+3:Nat):Int);omega


namespace Kc
section
variable {c:Kc} {l:List Int}
theorem gM (hl:W32 l) (k:Nat) {v:Int} (h0:0≤v) (h1:v<4294967296):W32 (c.wrm l k v):=hl.set _ ⟨h0,h1⟩
theorem I6 (hl:W32 l) (hr:W32 c.rc) (frm:Nat):W32 (c.wmem l frm):=by
  unfold wmem
  split
  · refine hl.set _ ?_
    rw[List.getD_eq_getElem?_getD];cases e:c.rc[c.i]? with
    | none=>exact⟨Int.le_refl _,by show(0:Int)<_;omega⟩
    | some z=>exact hr.get e
  · exact hl
theorem step_w (hI:Inv c) (hl:W32 l):W32 (c.step l).2:=by
  have S:=hI.sta;have hr:=hI.gen.w32;have hw:∀ frm,W32 (wmem { c with steps:=c.steps+1 } l frm):=fun frm=>I6 hl hr frm
  have n4:=S.nr4;have s16:=S.sl16
  rcases S.kd with q | q | q | q | q | q
  · have e:c.step l=four { c with steps:=c.steps+1 } l:=by simp[Kc.step,q]
    obtain⟨hA,hB,_⟩:=hI.d1 q;rw[e];unfold four;cases h2:(c.op==2)
    · rcases ae:c.ph with _ | _ | _ | n
      · exact hl
      · exact gM hl _ (v:=c.A) (by omega) (by omega)
      · exact hl
      · simp only[word_eq,Bool.false_eq_true,if_false]
        exact hw _
    · rcases ae:c.ph with _ | _ | _ | _ | n
      · exact hl
      · exact hl
      · simp only[word_eq,if_true]
        exact hw _
      · exact gM hl _ (v:=c.B) (by omega) (by omega)
      · exact gM hl _ (v:=c.A) (by omega) (by omega)
  · have e:c.step l=chen { c with steps:=c.steps+1 } l:=by simp[Kc.step,q]
    obtain⟨hA,hB,_⟩:=hI.d2 q;rw[e];unfold chen;cases h2:(c.op==2)
    · rcases ae:c.ph with _ | _ | _ | _ | n
      · exact gM hl _ (v:=(c.nr+2:Int)) (by omega) (by omega)
      · exact hl
      · simp only[Bool.false_eq_true,if_false]
        split
        · exact gM hl _ (v:=c.A) (by omega) (by omega)
        · exact hl
      · exact hl
      · simp only[word_eq,Bool.false_eq_true,if_false]
        exact hw _
    · rcases ae:c.ph with _ | _ | _ | _ | n
      · exact hl
      · simp only[if_true]
        split <;> exact hl
      · simp only[word_eq,if_true]
        exact hw _
      · exact gM hl _ (v:=c.B) (by omega) (by omega)
      · simp only[if_true]
        split
        · exact gM hl _ (v:=c.B) (by omega) (by omega)
        · exact hl
  · have e:c.step l=seq { c with steps:=c.steps+1 } l:=by simp[Kc.step,q]
    rw[e];unfold seq;have h1:=Int.emod_nonneg (c.A+1) (show(4294967296:Int)≠0 by decide);have h2:=Int.emod_lt_of_pos (c.A+1) (show(0:Int)<4294967296 by decide);have h3:=Int.emod_nonneg (c.A+2) (show(4294967296:Int)≠0 by decide);have h4:=Int.emod_lt_of_pos (c.A+2) (show(0:Int)<4294967296 by decide);cases h2:(c.op==2)
    · rcases ae:c.ph with _ | _ | n
      · exact hl
      · simp only[word_eq,Bool.false_eq_true,if_false]
        exact hw _
      · exact hl
    · rcases ae:c.ph with _ | _ | _ | n
      · exact hl
      · exact gM hl _ (v:=(c.A+1)%4294967296) h1 (by assumption)
      · simp only[word_eq,if_true]
        exact hw _
      · exact gM hl _ (v:=(c.A+2)%4294967296) h3 h4
  · have e:c.step l=ring { c with steps:=c.steps+1 } l:=by simp[Kc.step,q]
    obtain⟨hA,hB,_⟩:=hI.d4 q;rw[e];unfold ring
    rcases ae:c.ph with _ | _ | n
    · exact hl
    · simp only[word_eq]
      exact hw _
    · simp only
      split
      · exact gM hl _ (v:=c.A) (by omega) (by omega)
      · exact hl
  · have e:c.step l=cab { c with steps:=c.steps+1 } l:=by simp[Kc.step,q]
    obtain⟨hA,hB,_⟩:=hI.d5 q;rw[e];unfold cab;have h1:=Int.emod_nonneg (c.A+1) (show(4294967296:Int)≠0 by decide);have h2:=Int.emod_lt_of_pos (c.A+1) (show(0:Int)<4294967296 by decide);cases h2:(c.op==2)
    · rcases ae:c.ph with _ | _ | _ | _ | n
      · exact hl
      · exact gM hl _ (v:=(c.A+1)%4294967296) h1 (by assumption)
      · exact hl
      · simp only[word_eq,Bool.false_eq_true,if_false]
        exact hw _
      · exact gM hl _ (v:=0) (by omega) (by omega)
    · rcases ae:c.ph with _ | _ | _ | n
      · exact hl
      · simp only[if_true]
        split
        · split <;> exact hl
        · split <;> exact hl
      · simp only[word_eq,if_true]
        exact hw _
      · exact gM hl _ (v:=c.B) (by omega) (by omega)
  · have e:c.step l=fifo { c with steps:=c.steps+1 } l:=by simp[Kc.step,q]
    obtain⟨hA,_⟩:=hI.d6 q;rw[e];unfold fifo
    rcases ae:c.ph with _ | _ | _ | n
    · exact hl
    · simp only
      split <;> exact hl
    · simp only[word_eq]
      exact hw _
    · have h1:0≤inc c.A (2*c.sl)∧inc c.A (2*c.sl)<4294967296:=by
        unfold inc
        split <;> omega
      exact gM hl _ h1.1 h1.2
end
end Kc
namespace Kc
/-- An operation while nobody else is under way: what it keeps is what lies there. -/
structure Al (c:Kc) (l:List Int):Prop where
  cd:c.code≠1
  s3:c.kd=3→(c.over=true→l.getD 0 0%2=0)∧(c.over=false→(c.op=2→(c.ph=0→l.getD 0 0%2=0)∧(1≤c.ph→c.A%2=0))∧(c.op≠2→l.getD 0 0%2=0∧(1≤c.ph→c.A=l.getD 0 0)))
  s4:c.kd=4→c.over=false→c.op≠2→1≤c.ph→c.A=l.getD 0 0%(c.sl*1048576)
  s5:c.kd=5→c.over=false→c.op≠2→c.B=0∧(1≤c.ph→c.ph≤2→c.A=l.getD 0 0%c.sl)
section
variable {c:Kc} {l:List Int}
theorem Gu {frm:Nat} (hb:c.base=0) (hf:1≤frm):(c.wmem l frm).getD 0 0=l.getD 0 0:=by
  unfold wmem wrm
  split
  · rw[List.getD_eq_getElem?_getD,List.getElem?_set_ne (by omega),← List.getD_eq_getElem?_getD]
  · rfl
theorem Py {k:Nat} {v:Int} (hb:c.base=0) (hf:1≤k):(c.wrm l k v).getD 0 0=l.getD 0 0:=by
  unfold wrm;rw[List.getD_eq_getElem?_getD,List.getElem?_set_ne (by omega),← List.getD_eq_getElem?_getD]
theorem Sv (h:c.code≠1):(c.four l).1.code≠1:=by
  unfold four;have h0:(0:Int)≠1:=by decide
  cases (c.op==2)
  · rcases c.ph with _ | _ | _ | n <;> first | exact h | (simp only[word_eq,Bool.false_eq_true,if_false];split <;> first | exact h0 | exact h)
  · rcases c.ph with _ | _ | _ | _ | n <;> first | exact h | exact h0 | (simp only[word_eq,if_true];split <;> exact h)
theorem Sw (h:c.code≠1):(c.chen l).1.code≠1:=by
  unfold chen;have h0:(0:Int)≠1:=by decide
  cases (c.op==2)
  · rcases c.ph with _ | _ | _ | _ | n <;> first | exact h | (simp only[word_eq,Bool.false_eq_true,if_false];split <;> first | exact h0 | exact h)
  · rcases c.ph with _ | _ | _ | _ | n <;> first | exact h | (simp only[word_eq,if_true];split <;> first | exact h0 | exact h)
theorem Sx (h:c.code≠1):(c.fifo l).1.code≠1:=by
  unfold fifo;have h0:(0:Int)≠1:=by decide
  have h2:(2:Int)≠1:=by decide
  have h3:(3:Int)≠1:=by decide
  rcases c.ph with _ | _ | _ | n
  · exact h
  · simp only
    cases (c.op==3)
    · simp only[Bool.false_eq_true,if_false]
      split
      · exact h3
      · exact h
    · simp only[if_true]
      split
      · exact h2
      · exact h
  · simp only[word_eq];split <;> exact h
  · exact h0
theorem Sr (h:c.Al l) (hk:c.kd=3) (hb:c.base=0) (ho:c.over=false) (aU:c.op=2∨c.op=1):Al (c.seq l).1 (c.seq l).2:=by
  obtain⟨_,nt⟩:=h.s3 hk;obtain⟨h2,h1⟩:=nt ho;have hz:c.rdm l 0=l.getD 0 0:=by unfold rdm;rw[hb]
  have no4:∀ d:Kc,d.kd=c.kd→d.kd≠4:=fun d e=>by omega
  have no5:∀ d:Kc,d.kd=c.kd→d.kd≠5:=fun d e=>by omega
  have mk:∀ (d:Kc) (m:List Int),d.kd=c.kd→d.code≠1→((d.over=true→m.getD 0 0%2=0)∧(d.over=false→(d.op=2→(d.ph=0→m.getD 0 0%2=0)∧(1≤d.ph→d.A%2=0))∧(d.op≠2→m.getD 0 0%2=0∧(1≤d.ph→d.A=m.getD 0 0))))→Al d m:=fun d m e a b=>⟨a,fun _=>b,fun q=>absurd q (no4 d e),fun q=>absurd q (no5 d e)⟩
  unfold seq
  rcases aU with e | e
  · rw[if_pos (by rw[e];decide)]
    obtain⟨a0,a1⟩:=h2 e
    rcases ae:c.ph with _ | _ | _ | n
    · exact mk _ _ rfl h.cd ⟨fun q=>absurd (ho.symm.trans q) (by decide),fun _=>⟨fun _=>⟨fun q=>absurd q (by show(1:Nat)≠0;decide),fun _=>by show c.rdm l 0%2=0;rw[hz];exact a0 ae⟩,fun q=>absurd e q⟩⟩
    · exact mk _ _ rfl h.cd ⟨fun q=>absurd (ho.symm.trans q) (by decide),fun _=>⟨fun _=>⟨fun q=>absurd q (by show(2:Nat)≠0;decide),fun _=>a1 (by omega)⟩,fun q=>absurd e q⟩⟩
    · simp only[word_eq]
      split
      · exact mk _ _ rfl h.cd ⟨fun q=>absurd (ho.symm.trans q) (by decide),fun _=>⟨fun _=>⟨fun q=>absurd q (by show(3:Nat)≠0;decide),fun _=>a1 (by omega)⟩,fun q=>absurd e q⟩⟩
      · exact mk _ _ rfl h.cd ⟨fun q=>absurd (ho.symm.trans q) (by decide),fun _=>⟨fun _=>⟨fun q=>absurd (show c.ph=0 from q) (by omega),fun _=>a1 (by omega)⟩,fun q=>absurd e q⟩⟩
    · refine mk _ _ rfl (show(0:Int)≠1 by decide) ⟨fun _=>?_,fun q=>absurd (show true=false from q) (by decide)⟩
      have:=a1 (by omega);show(c.wrm l 0 ((c.A+2)%4294967296)).getD 0 0%2=0;unfold wrm;rw[hb,List.getD_eq_getElem?_getD,List.getElem?_set];simp only[Nat.add_zero,if_true]
      split
      · show(c.A+2)%4294967296%2=0
        omega
      · rfl
  · have ne:c.op≠2:=by omega
    rw[if_neg (by rw[e];decide)];obtain⟨a0,a1⟩:=h1 ne;have dg:∀ q:c.over=true,False:=fun q=>absurd (ho.symm.trans q) (by decide)
    rcases ae:c.ph with _ | _ | n
    · have hn:¬ c.rdm l 0%2=1:=by rw[hz];omega
      simp only[if_neg hn];exact mk _ _ rfl h.cd ⟨fun q=>(dg q).elim,fun _=>⟨fun q=>absurd q ne,fun _=>⟨a0,fun _=>hz⟩⟩⟩
    · simp only[word_eq]
      have hm:(c.wmem l 1).getD 0 0=l.getD 0 0:=Gu hb (by omega)
      split
      · exact mk _ _ rfl h.cd ⟨fun q=>(dg q).elim,fun _=>⟨fun q=>absurd q ne,fun _=>by rw[hm];exact⟨a0,fun _=>a1 (by omega)⟩⟩⟩
      · exact mk _ _ rfl h.cd ⟨fun q=>(dg q).elim,fun _=>⟨fun q=>absurd q ne,fun _=>by rw[hm];exact⟨a0,fun _=>a1 (by omega)⟩⟩⟩
    · have hn:c.rdm l 0=c.A:=by rw[hz];exact(a1 (by omega)).symm
      simp only[if_pos hn];exact mk _ _ rfl (show(0:Int)≠1 by decide) ⟨fun _=>a0,fun q=>absurd (show true=false from q) (by decide)⟩
theorem Ss (h:c.Al l) (hk:c.kd=4) (hs:2≤c.sl) (hb:c.base=0) (ho:c.over=false) (aU:c.op=2∨c.op=1):Al (c.ring l).1 (c.ring l).2:=by
  have hw:=h.s4 hk ho;have hz:c.rdm l 0=l.getD 0 0:=by unfold rdm;rw[hb]
  have mk:∀ (d:Kc) (m:List Int),d.kd=c.kd→d.code≠1→(d.over=false→d.op≠2→1≤d.ph→d.A=m.getD 0 0%(d.sl*1048576))→Al d m:=fun d m e a b=>⟨a,fun q=>absurd (e.symm.trans q) (by omega),fun _=>b,fun q=>absurd (e.symm.trans q) (by omega)⟩
  unfold ring
  rcases ae:c.ph with _ | _ | n
  · refine mk _ _ rfl h.cd fun _ q _=>?_
    have q:¬ c.op=2:=q;show(if (c.op==2)=true then inc (c.rdm l 0%(c.sl*1048576)) (c.sl*1048576) else c.rdm l 0%(c.sl*1048576))=_;rw[if_neg (by simpa using q),hz];rfl
  · simp only[word_eq]
    have hm:∀ k:Nat,(c.wmem l (1+k)).getD 0 0=l.getD 0 0:=fun k=>Gu hb (by omega)
    split
    · exact mk _ _ rfl h.cd fun _ q _=>by rw[hm];exact hw q (by omega)
    · exact mk _ _ rfl h.cd fun _ q _=>by rw[hm];exact hw q (by omega)
  · rcases aU with e | e
    · simp only[e]
      exact mk _ _ rfl (show(0:Int)≠1 by decide) fun q=>absurd (show true=false from q) (by decide)
    · have ne:¬ (c.op==2)=true:=by rw[e];decide
      have hA:=hw (by omega) (by omega)
      have hg:gap c.A (c.rdm l 0%(c.sl*1048576)) (c.sl*1048576)<c.sl - 1:=by
        rw[hz,← hA];unfold gap;rw[if_pos (Int.le_refl _)];omega
      simp only[if_neg ne,if_pos hg];exact mk _ _ rfl (show(0:Int)≠1 by decide) fun q=>absurd (show true=false from q) (by decide)
theorem Su (h:c.Al l) (hk:c.kd=5) (hb:c.base=0) (ho:c.over=false) (aU:c.op=2∨c.op=1):Al (c.cab l).1 (c.cab l).2:=by
  have hw:=h.s5 hk ho;have hz:c.rdm l 0=l.getD 0 0:=by unfold rdm;rw[hb]
  have mk:∀ (d:Kc) (m:List Int),d.kd=c.kd→d.code≠1→(d.over=false→d.op≠2→d.B=0∧(1≤d.ph→d.ph≤2→d.A=m.getD 0 0%d.sl))→Al d m:=fun d m e a b=>⟨a,fun q=>absurd (e.symm.trans q) (by omega),fun q=>absurd (e.symm.trans q) (by omega),fun _=>b⟩
  have z:(0:Int)≠1:=by decide
  unfold cab
  rcases aU with e | e
  · have nn:∀ d:Kc,d.op=c.op→d.over=false→d.op≠2→d.B=0∧(1≤d.ph→d.ph≤2→d.A=(l.getD 0 0)%d.sl):=fun d a _ b=>absurd (a.trans e) b
    have np:∀ (d:Kc) (m:List Int),d.kd=c.kd→d.op=c.op→d.code≠1→Al d m:=fun d m a b cc=>mk d m a cc fun _ q=>absurd (b.trans e) q
    rw[if_pos (by rw[e];decide)]
    rcases ae:c.ph with _ | _ | _ | n
    · exact np _ _ rfl rfl h.cd
    · simp only
      split
      · split <;> exact np _ _ rfl rfl h.cd
      · split <;> exact np _ _ rfl rfl h.cd
    · simp only[word_eq]
      split <;> exact np _ _ rfl rfl h.cd
    · exact np _ _ rfl rfl z
  · have ne:c.op≠2:=by omega
    obtain⟨hB,hA⟩:=hw ne;rw[if_neg (by rw[e];decide)]
    rcases ae:c.ph with _ | _ | _ | _ | n
    · exact mk _ _ rfl h.cd fun _ _=>⟨hB,fun _ _=>by show c.rdm l 0%c.sl=_;rw[hz];rfl⟩
    · exact mk _ _ rfl h.cd fun _ _=>⟨hB,fun _ _=>(hA (by omega) (by omega)).trans (congrArg (·%(c.sl:Int)) (Py (k:=1+c.rd) hb (by omega)).symm)⟩
    · have hn:c.rdm l 0%c.sl=c.A:=by rw[hz];exact(hA (by omega) (by omega)).symm
      simp only[if_pos hn];exact mk _ _ rfl h.cd fun _ _=>⟨hB,fun _ q=>absurd (show(3:Nat)≤2 from q) (by decide)⟩
    · simp only[word_eq]
      split
      · exact mk _ _ rfl h.cd fun _ _=>⟨hB,fun _ q=>absurd (show(4:Nat)≤2 from q) (by decide)⟩
      · exact mk _ _ rfl h.cd fun _ _=>⟨hB,fun _ q=>absurd (show c.ph≤2 from q) (by omega)⟩
    · exact mk _ _ rfl (by show c.B≠1;omega) fun q=>absurd (show true=false from q) (by decide)
theorem Al.step (h:c.Al l) (hI:Inv c) (hb:c.base=0) (ho:c.over=false):Al (c.step l).1 (c.step l).2:=by
  have S:=hI.sta;have hu:Al { c with steps:=c.steps+1 } l:=⟨h.cd,h.s3,h.s4,h.s5⟩;have hk:(c.step l).1.kd=c.kd:=(left_step (l:=l) ho S.wd1 S.nr1 S.cap1).2.1;have other:c.kd≠3→c.kd≠4→c.kd≠5→(c.step l).1.code≠1→Al (c.step l).1 (c.step l).2:=fun a b d e=>⟨e,fun q=>absurd (hk.symm.trans q) a,fun q=>absurd (hk.symm.trans q) b,fun q=>absurd (hk.symm.trans q) d⟩
  rcases S.kd with q | q | q | q | q | q
  · have e:c.step l=four { c with steps:=c.steps+1 } l:=by simp[Kc.step,q]
    exact other (by omega) (by omega) (by omega) (by rw[e];exact Sv hu.cd)
  · have e:c.step l=chen { c with steps:=c.steps+1 } l:=by simp[Kc.step,q]
    exact other (by omega) (by omega) (by omega) (by rw[e];exact Sw hu.cd)
  · have e:c.step l=seq { c with steps:=c.steps+1 } l:=by simp[Kc.step,q]
    rw[e];exact Sr hu q hb ho (S.op5 (by omega))
  · have e:c.step l=ring { c with steps:=c.steps+1 } l:=by simp[Kc.step,q]
    rw[e];exact Ss hu q (S.sl4 q) hb ho (S.op5 (by omega))
  · have e:c.step l=cab { c with steps:=c.steps+1 } l:=by simp[Kc.step,q]
    rw[e];exact Su hu q hb ho (S.op5 (by omega))
  · have e:c.step l=fifo { c with steps:=c.steps+1 } l:=by simp[Kc.step,q]
    exact other (by omega) (by omega) (by omega) (by rw[e];exact Sx hu.cd)
end
end Kc


def CH (o:Ob) (t:Td):Nat:=(eH o t.op).toNat
def sO:Option Kc→Nat
  | none=>0
  | some c=>c.left
def oH (o:Ob) (p:Pr):Nat:=sO p.op+(p.left.map (CH o)).sum
def iQ (o:Ob) (L:Lm):Nat:=(L.ps.map (oH o)).sum
def mR (L:Lm):Nat:=(L.ps.map fun p=>p.left.length).sum
theorem rA {α:Type} (f:α→Nat):∀ (l:List α) (k:Nat) (x y:α),l[k]?=some x→((l.set k y).map f).sum+f x=(l.map f).sum+f y
  | [],_,_,_,h=>by simp at h
  | a::l,0,x,y,h=>by
    obtain rfl:a=x:=by simpa using h
    simp only[List.set_cons_zero,List.map_cons,List.sum_cons];omega
  | a::l,k+1,x,y,h=>by
    have ih:=rA f l k x y (by simpa using h);simp only[List.set_cons_succ,List.map_cons,List.sum_cons];omega
theorem C5 {o:Ob} {k:Nat} {t:Td} (h:fM o 0 t.op (yp k) t.r.length=0) (hI:Kc.Inv (eg o k t)):(eg o k t).left≤CH o t:=by
  have h1:=Ez h;have h2:(eg o k t).left≤Kc.most o.k o.wd.toNat o.nr o.c.toNat t.op:=Kc.left_start (kd:=o.k) hI.sta.cap1;unfold CH;omega
/-- What holds of a loom that is finished, behind each turn. -/
structure Lm.Fin (o:Ob) (T n:Nat) (L:Lm):Prop where
  good:∃ j,L.Good o j
  cl:L.calls.length+mR L=T
  now:L.now+iQ o L≤n
  ends:∀ (i:Nat) (x:Cl),L.calls[i]?=some x→(0≤x.e∧x.e<(L.now:Int))∨∃ (k:Nat) (p:Pr) (c:Kc),L.ps[k]?=some p∧p.op=some c∧c.over=false∧p.call=i
theorem Lm.Fin.one {o:Ob} {T n k:Nat} {L L':Lm} {p:Pr} (h:L.Fin o T n) (hw:W32 L.mem) (hp:L.ps[k]?=some p) (h1:Lm.one (eg o) Kc.step L k p=some L'):L'.Fin o T n∧iQ o L'<iQ o L:=by
  obtain⟨j,hg⟩:=h.good;have N6:=(hg.one hw hp h1).1;obtain⟨L1,ts,c,q,hb,rfl⟩:=Lm.one_some h1;obtain⟨c',nq,dg,hinv,cX,fI,fm,QC,fY⟩:=Lm.beg_op hg.inv hp hb;cases nq;have US:=(Kc.left_step (l:=L1.mem) dg hinv.sta.wd1 hinv.sta.nr1 hinv.sta.cap1).1;have hk:=(List.getElem?_eq_some_iff.1 hp).1;have Lb:∀ d:Kc,d.over=true→d.left=0:=fun d e=>Kc.left_zero.2 e
  -- the state behind: its processes and calls
  obtain⟨e1,e2,e3,e4⟩:(Lm.go Kc.step L1 k ⟨ts,some c,q⟩ c).ps=L.ps.set k ⟨ts,some (c.step L1.mem).1,q⟩∧sO (some c)+(ts.map (CH o)).sum≤oH o p∧L1.calls.length+ts.length=L.calls.length+p.left.length∧L1.now=L.now:=by
    rcases Lm.beg_some hb with ⟨rfl,rfl⟩ | ⟨t,ts',hl,ix,rfl⟩
    · exact⟨rfl,Nat.le_refl _,rfl,rfl⟩
    · cases ix
      refine⟨?_,?_,?_,rfl⟩
      · show(L.ps.set k _).set k _=_
        rw[List.set_set]
      · obtain⟨aq,aO,_,_⟩:=hg.inv.left k p t hp (by rw[hl];exact List.mem_cons_self)
        have:=C5 (hg.left k p hp t (by rw[hl];exact List.mem_cons_self)).1 aq;unfold oH;rw[hl];simp only[List.map_cons,List.sum_cons,sO];omega
      · rw[hl]
        simp only[List.length_append,List.length_cons,List.length_nil];omega
  have iw:(Lm.go Kc.step L1 k ⟨ts,some c,q⟩ c).calls.length=L1.calls.length:=by
    unfold Lm.go;dsimp only
    split
    · rw[List.length_modify]
    · rfl
  have gl:(Lm.go Kc.step L1 k ⟨ts,some c,q⟩ c).now=L.now+1:=by show L1.now+1=_;rw[e4]
  have s1:=rA (oH o) L.ps k p ⟨ts,some (c.step L1.mem).1,q⟩ hp;have s2:=rA (fun p:Pr=>p.left.length) L.ps k p ⟨ts,some (c.step L1.mem).1,q⟩ hp;have f1:oH o ⟨ts,some (c.step L1.mem).1,q⟩=(c.step L1.mem).1.left+(ts.map (CH o)).sum:=rfl;have f2:sO (some c)=c.left:=rfl;have t1:iQ o (Lm.go Kc.step L1 k ⟨ts,some c,q⟩ c)=((L.ps.set k ⟨ts,some (c.step L1.mem).1,q⟩).map (oH o)).sum:=by unfold iQ;rw[e1]
  have t2:mR (Lm.go Kc.step L1 k ⟨ts,some c,q⟩ c)=((L.ps.set k ⟨ts,some (c.step L1.mem).1,q⟩).map fun p=>p.left.length).sum:=by unfold mR;rw[e1]
  have t3:iQ o L=(L.ps.map (oH o)).sum:=rfl;have t4:mR L=(L.ps.map fun p=>p.left.length).sum:=rfl;have Aa:=h.now;have Hq:=h.cl;dsimp only at s2;refine⟨⟨⟨_,N6⟩,by rw[iw,t2];omega,by rw[gl,t1];omega,fun i x hx=>?_⟩,by rw[t1,t3];omega⟩;rw[gl,e1]
  -- the calls
  have hin:∀ (i:Nat) (x:Cl),L1.calls[i]?=some x→(0≤x.e∧x.e<(L.now:Int))∨i=q∨∃ (k':Nat) (p':Pr) (c':Kc),k'≠k∧L.ps[k']?=some p'∧p'.op=some c'∧c'.over=false∧p'.call=i:=fun i x hx=>by
    rcases Lm.beg_some hb with ⟨rfl,rfl⟩ | ⟨t,ts',hl,ix,rfl⟩
    · rcases h.ends i x hx with r | ⟨k',p',c',r1,r2,r3,r4⟩
      · exact .inl r
      · by_cases e:k'=k
        · subst e
          rw[hp] at r1;cases r1;exact .inr (.inl r4.symm)
        · exact .inr (.inr ⟨k',p',c',e,r1,r2,r3,r4⟩)
    · cases ix
      have hd:p.done=true:=by
        unfold Lm.beg at hb
        by_cases e:p.done=true
        · exact e
        · rw[if_neg e] at hb
          have h2:=congrArg Prod.snd (Option.some.inj hb);dsimp only at h2;rw[h2] at hl;dsimp only at hl;have:=congrArg List.length hl;simp at this
      by_cases hi:i<L.calls.length
      · have hx:(L.calls++_)[i]?=some x:=hx
        rw[List.getElem?_append_left hi] at hx
        rcases h.ends i x hx with r | ⟨k',p',c',r1,r2,r3,r4⟩
        · exact .inl r
        · by_cases e:k'=k
          · subst e
            rw[hp] at r1;cases r1;unfold Pr.done at hd;rw[r2] at hd;have hd:c'.over=true:=hd;rw[r3] at hd;cases hd
          · exact .inr (.inr ⟨k',p',c',e,r1,r2,r3,r4⟩)
      · have:=(List.getElem?_eq_some_iff.1 hx).1
        simp only[List.length_append,List.length_cons,List.length_nil] at this;exact .inr (.inl (by omega))
  have aC:(L.ps.set k (⟨ts,some (c.step L1.mem).1,q⟩:Pr))[k]?=some ⟨ts,some (c.step L1.mem).1,q⟩:=by simp[hk]
  unfold Lm.go at hx;dsimp only at hx
  split at hx
  · rename_i hov'
    rw[List.getElem?_modify] at hx;cases hy:L1.calls[i]? with
    | none=>rw[hy] at hx;cases hx
    | some y=>
      rw[hy] at hx;have hx:some (if q=i then dQ k L1.now (c.step L1.mem).1 y else y)=some x:=hx
      by_cases e:q=i
      · rw[if_pos e] at hx
        cases hx;exact .inl ⟨by show(0:Int)≤(L1.now:Int);omega,by show(L1.now:Int)<_;rw[e4];omega⟩
      · rw[if_neg e] at hx
        cases hx
        rcases hin i _ hy with r | r | ⟨k',p',c',r0,r1,r2,r3,r4⟩
        · exact .inl ⟨r.1,by omega⟩
        · exact absurd r.symm e
        · exact .inr ⟨k',p',c',by rw[List.getElem?_set_ne (Ne.symm r0)];exact r1,r2,r3,r4⟩
  · rename_i hov'
    rcases hin i x hx with r | r | ⟨k',p',c',r0,r1,r2,r3,r4⟩
    · exact .inl ⟨r.1,by omega⟩
    · exact .inr ⟨k,_,_,aC,rfl,by simpa using hov',r.symm⟩
    · exact .inr ⟨k',p',c',by rw[List.getElem?_set_ne (Ne.symm r0)];exact r1,r2,r3,r4⟩
theorem Lm.turn_is {bg:Nat→Td→Kc} {st:Kc→List Int→Kc × List Int} {L L':Lm} {k:Int} (h:Lm.turn? bg st L k=some L'):Lm.turn bg st L k=L':=by unfold Lm.turn;rw[h];rfl
theorem Lm.turn_one {bg:Nat→Td→Kc} {st:Kc→List Int→Kc × List Int} {L L':Lm} {k:Int} (h:Lm.turn? bg st L k=some L'):∃ p,L.ps[k.toNat]?=some p∧Lm.one bg st L k.toNat p=some L':=by
  unfold Lm.turn? at h
  by_cases hk:k<0
  · rw[if_pos hk] at h;cases h
  · rw[if_neg hk] at h
    cases hp:L.ps[k.toNat]? with
    | none=>rw[hp] at h;cases h
    | some p=>rw[hp] at h;exact⟨p,rfl,h⟩
theorem Lm.Fin.turn {o:Ob} {T n:Nat} {L L':Lm} {k:Int} (h:L.Fin o T n) (hw:W32 L.mem) (h1:Lm.turn? (eg o) Kc.step L k=some L'):L'.Fin o T n∧iQ o L'<iQ o L:=by
  obtain⟨p,hp,h2⟩:=Lm.turn_one h1;exact h.one hw hp h2
/-- One process's turns as long as it has some. -/
def drain (o:Ob) (k:Int):Nat→Lm→Lm
  | 0,L=>L
  | f+1,L=>match Lm.turn? (eg o) Kc.step L k with
    | some L'=>drain o k f L'
    | none=>L
theorem kj {o:Ob} {k:Int} {f:Nat} {L L':Lm} (h:Lm.turn? (eg o) Kc.step L k=some L'):drain o k (f+1) L=drain o k f L':=by
  show(match Lm.turn? (eg o) Kc.step L k with | some L'=>drain o k f L' | none=>L)=_;rw[h]
theorem ki {o:Ob} {k:Int} {f:Nat} {L:Lm} (h:Lm.turn? (eg o) Kc.step L k=none):drain o k f L=L:=by
  cases f with
  | zero=>rfl
  | succ f=>
    show(match Lm.turn? (eg o) Kc.step L k with | some L'=>drain o k f L' | none=>L)=_;rw[h]
/-- All processes, one behind the other. -/
def drains (o:Ob) (f:Nat):Nat→Lm→Lm
  | 0,L=>L
  | k+1,L=>drain o (k:Int) f (drains o f k L)
theorem E6 {o:Ob} {T n k:Nat} {L:Lm} {p:Pr} (h:L.Fin o T n) (hp:L.ps[k]?=some p) (h1:Lm.turn? (eg o) Kc.step L (k:Int)=none):p.done=true∧p.left=[]:=by
  obtain⟨j,hg⟩:=h.good;unfold Lm.turn? at h1;rw[if_neg (by omega),Int.toNat_natCast,hp] at h1;have h2:Lm.one (eg o) Kc.step L k p=none:=h1;cases hb:Lm.beg (eg o) L k p with
  | none=>
    unfold Lm.beg at hb
    by_cases e:p.done=true
    · rw[if_pos e] at hb
      cases hl:p.left with
      | nil=>exact⟨e,rfl⟩
      | cons t ts=>rw[hl] at hb;cases hb
    · rw[if_neg e] at hb;cases hb
  | some r=>
    obtain⟨L1,p1⟩:=r;obtain⟨c,hc,_⟩:=Lm.beg_op hg.inv hp hb;obtain⟨ts,oc,q⟩:=p1;dsimp only at hc;subst hc;unfold Lm.one at h2;rw[hb] at h2;cases h2

open Go.RowKit
attribute [local go_sem] Oper.semAt_some

def lq (ls:List (List Td)):Nat:=(ls.map List.length).sum
def gO (o:Ob) (ls:List (List Td)):Nat:=(ls.map fun l=>(l.map (CH o)).sum).sum
theorem Lm.Fin.start {o:Ob} {ls:List (List Td)} {m:List Int} (h:(gC ls m).Good o 0):(gC ls m).Fin o (lq ls) (gO o ls):=by
  have e1:mR (gC ls m)=lq ls:=by unfold mR gC lq;rw[List.map_map];rfl
  have e2:iQ o (gC ls m)=gO o ls:=by
    unfold iQ gC gO;rw[List.map_map]
    congr 1
    apply List.map_congr_left;intro l _;show sO none+_=_;exact Nat.zero_add _
  exact⟨⟨0,h⟩,by rw[e1];exact Nat.zero_add _,by rw[e2];exact Nat.le_of_eq (Nat.zero_add _),fun i x hx=>by cases hx⟩
theorem Lm.Fin.any {o:Ob} {T n:Nat} {L:Lm} (h:L.Fin o T n) (hw:W32 L.mem) (k:Int):(Lm.turn (eg o) Kc.step L k).Fin o T n:=by
  cases h1:Lm.turn? (eg o) Kc.step L k with
  | none=>unfold Lm.turn;rw[h1];exact h
  | some L'=>rw[Lm.turn_is h1];exact(h.turn hw h1).1
theorem Lm.Fin.runs {o:Ob} {T n:Nat} {L0:Lm} {ks:List Int} (h:L0.Fin o T n) (hg:Lm.GoodTo o L0 ks ks.length):(Lm.run (eg o) Kc.step L0 ks).Fin o T n:=by
  have h1:∀ j,j≤ks.length→(Lm.run (eg o) Kc.step L0 (ks.take j)).Fin o T n:=fun j=>by
    induction j with
    | zero=>intro _;exact h
    | succ j ih=>
      intro hj;rw[Lm.run_snoc (List.getElem?_eq_getElem (show j<ks.length by omega))];refine(ih (by omega)).any ?_ _
      by_cases e:j<ks.length
      · exact(hg j (by omega)).2.2 e
      · omega
  have h2:=h1 ks.length (Nat.le_refl _);rw[List.take_length] at h2;exact h2
/-- The first processes are done. -/
def Fdone (L:Lm) (k:Nat):Prop:=∀ (i:Nat) (p:Pr),i<k→L.ps[i]?=some p→p.done=true∧p.left=[]
theorem uU {bg:Nat→Td→Kc} {st:Kc→List Int→Kc × List Int} {L L':Lm} {k:Int} {i:Nat} (h:Lm.turn? bg st L k=some L') (hi:i≠k.toNat):L'.ps[i]?=L.ps[i]?:=by
  obtain⟨p,hp,h1⟩:=Lm.turn_one h;obtain⟨L1,ts,c,q,hb,rfl⟩:=Lm.one_some h1;show(L1.ps.set _ _)[i]?=_;rw[List.getElem?_set_ne (Ne.symm hi)]
  rcases Lm.beg_some hb with ⟨rfl,_⟩ | ⟨t,ts',_,_,rfl⟩
  · rfl
  · exact List.getElem?_set_ne (Ne.symm hi)
theorem Fdone.turn {o:Ob} {L L':Lm} {k:Nat} (h:Fdone L k) (h1:Lm.turn? (eg o) Kc.step L (k:Int)=some L'):Fdone L' k:=fun i p hi hp=>by
  rw[uU h1 (by rw[Int.toNat_natCast];omega)] at hp;exact h i p hi hp
theorem Fdone.next {o:Ob} {T n k:Nat} {L:Lm} (h:Fdone L k) (hF:L.Fin o T n) (h1:Lm.turn? (eg o) Kc.step L (k:Int)=none):Fdone L (k+1):=fun i p hi hp=>by
  by_cases e:i<k
  · exact h i p e hp
  · obtain rfl:i=k:=by omega
    exact E6 hF hp h1
/-- All is done: all calls have ended, within the bound. -/
theorem Lm.Fin.all {o:Ob} {T n:Nat} {L:Lm} (h:L.Fin o T n) (hd:Fdone L L.ps.length):L.calls.length=T∧∀ x ∈ L.calls,0≤x.e∧x.e<(n:Int):=by
  have hz:mR L=0:=by
    unfold mR
    have h1:∀ l:List Pr,(∀ p ∈ l,p.left=[])→(l.map fun p=>p.left.length).sum=0:=fun l=>by
      induction l with
      | nil=>intro _;rfl
      | cons a l ih=>
        intro hl;rw[List.map_cons,List.sum_cons,ih (fun p hp=>hl p (List.mem_cons_of_mem _ hp)),hl a List.mem_cons_self];rfl
    refine h1 _ fun p hp=>?_
    obtain⟨i,hi⟩:=List.getElem?_of_mem hp;exact(hd i p (List.getElem?_eq_some_iff.1 hi).1 hi).2
  refine⟨by have:=h.cl;omega,fun x hx=>?_⟩;obtain⟨i,hi⟩:=List.getElem?_of_mem hx;have hn:=h.now
  rcases h.ends i x hi with ⟨r1,r2⟩ | ⟨k,p,c,r1,r2,r3,_⟩
  · exact⟨r1,by omega⟩
  · have:=(hd k p (List.getElem?_eq_some_iff.1 r1).1 r1).1
    unfold Pr.done at this;rw[r2] at this;have this:c.over=true:=this;rw[r3] at this;cases this
section
variable {N:Nat} {W:World} {o:Ob} {lb pb mb ml pc:Nat} {cv:Value} {tg:Nat→Nat} {L:Lm} {gs:List PG} {es:List CV} {w:World}
theorem ye {T n:Nat} (h:LoomS N W o lb pb mb ml pc cv tg L gs es w) (ho:o.Ok) (hF:L.Fin o T n) (Jt:T≤1000) (gT:n≤1000000) (bf:L.ps.length≤1000) (hT:Tab64 W) (hG:(0:Nat)<N) (k:Int):
    Calls Tryz.prog 32 #[.pointer (some ⟨lb,0,none⟩),.int .i64 k] w (TurnR N W o lb pb mb ml pc L k):=by
  obtain⟨j,hg⟩:=hF.good
  by_cases hk:k<0∨(gs.length:Int)≤k
  · exact qt h k hk
  · obtain⟨i,rfl⟩:∃ i:Nat,k=i:=⟨k.toNat,by omega⟩
    have hl:=h.len;have hc:=h.cx;have hn:=hF.cl;have hw:=hF.now;have Hw:es.length=L.calls.length:=by rw[← hc,List.length_map]
    refine tG h ho i (by omega) (by omega) hg.inv hg.call hT hG (fun g e t ht=>?_) (by omega) (by omega);obtain⟨p,hp⟩:∃ p,L.ps[i]?=some p:=⟨_,List.getElem?_eq_getElem (by omega)⟩;exact hg.left i p hp t.td (by rw[(h.ps i g p e hp).left];exact List.mem_map_of_mem ht)
end
/-- What Finish comes to. -/
def t7 (o:Ob) (gs:List PG) (m ks:List Int):Lm:=drains o (gO o (cV gs)) gs.length (Lm.run (eg o) Kc.step (gC (cV gs) m) ks)
def Kw (o:Ob) (gs:List PG) (m ks:List Int) (w:World) (z:Ending) (w':World):Prop:=
  ∃ A c es,z=.returned (.tuple #[.slice A es.length c,.int .i64 0])∧es.length≤c∧(t7 o gs m ks).Fin o (lq (cV gs)) (gO o (cV gs))∧Fdone (t7 o gs m ks) (t7 o gs m ks).ps.length∧Lm.GoodTo o (gC (cV gs) m) ks ks.length∧es.map (·.x)=(t7 o gs m ks).calls∧SlOf cvE w' w'.heap.size A es∧(∀ e ∈ es,Ws w' w'.heap.size e.A e.x.r)∧Below w.heap.size w w' 
set_option maxRecDepth 100000 in
set_option maxHeartbeats 2000000 in
theorem I4 (o:Ob) (ho:o.Ok) (A B:Option Addr) (cap kc:Nat) (gs:List PG) (l ks:List Int) (w:World) (hin:ProcsIn w w.heap.size A gs) (bf:gs.length≤1000) (iy:∀ g ∈ gs,g.ts.length≤1000) (gB:∀ g ∈ gs,∀ t ∈ g.ts,t.r.length≤1000) (hf:dE o (cV gs)=0)
    (hl:o.ni=l.length) (hI:Ws w w.heap.size o.I l) (hK:SlOf (bn .i64) w w.heap.size B ks) (ym:ks.length≤1000) (hT:Tab64 w) (hG:(0:Nat)<w.heap.size) (Jt:lq (cV gs)≤1000) (gT:gO o (cV gs)≤1000000):
    Calls Tryz.prog 11 #[.agg (af o),.slice A gs.length cap,.slice B ks.length kc] w (Kw o gs (aW o l) ks w):=by
  obtain⟨hR,yl,_⟩:=dR hf
  have mg:Lm.Good o 0 (gC (cV gs) (aW o l)):=Lm.Good.start hf (oG hR hl) (fun x hx t ht=>by
    unfold cV at hx;obtain⟨g,hg,rfl⟩:=List.mem_map.1 hx;obtain⟨u,hu,rfl⟩:=List.mem_map.1 ht;exact⟨gB g hg u hu,jD (hin.ws g hg u hu)⟩)
  have hn:=RowB.new w (af o) 26;have hB:=bK w (.cells (af o) 26);unfold af at hn hB;have HB:=Lib.hid hB;have NP:Tab64 (w.alloc (.cells #[.int .i64 o.k,.int .i64 o.wd,.int .i64 o.s,.int .i64 o.c,.int .u32 o.st,.slice o.I o.ni o.ci,.int .i64 o.wr,.slice o.R o.nr o.cr] 26)):=fun j hj=>(hB.cell (p:=⟨_,j,none⟩) hG).trans (hT j hj)
  have rJ:=Nat.lt_of_lt_of_le hG hB.size;have hr:=Cz o ho A B cap kc gs l ks _ (hin.below hB hB.size) bf iy gB hf hl (hI.below hB hB.size) (hK.below hB hB.size) ym NP rJ;unfold af at hr;have HR:=Lib.hid hr;have HC:=Lib.hid (And.intro ho (And.intro Jt (And.intro gT (And.intro bf (And.intro NP rJ)))));have Mj:=Lib.hid mg;clear hn hr hf hin bf iy gB ho hl hI hK ym hT hG Jt gT NP rJ hR yl mg hB;unfold af;go_enter Tryz.func11,Tryz.ntmps11;go_wp2_with fail;generalize (w.alloc (.cells #[.int .i64 o.k,.int .i64 o.wd,.int .i64 o.s,.int .i64 o.c,.int .u32 o.st,.slice o.I o.ni o.ci,.int .i64 o.wr,.slice o.R o.nr o.cr] 26))=w0 at HB HR HC ⊢;refine HR.out.mono ?_;rintro e w1 ⟨lb,pb,mb,ml,pc,cv,tg,gs',es,rfl,F6,hL⟩;have NF:=(Lm.Fin.start Mj.out).runs F6;have lK:(Lm.run (eg o) Kc.step (gC (cV gs) (aW o l)) ks).ps.length=gs.length:=by rw[Lm.run_len];show((cV gs).map _).length=_;unfold cV;rw[List.length_map,List.length_map]
  have yu:=Lib.hid F6;obtain⟨LK,NM⟩:∃ x,Lm.run (eg o) Kc.step (gC (cV gs) (aW o l)) ks=x:=⟨_,rfl⟩;have R5:=Lib.hid NM;rw[NM] at hL NF lK;have PH:=Lib.hid NF;have PW:=Lib.hid hL;have Sd:=Lib.hid lK;clear F6 NF hL lK NM HR;go_wp2_with fail
  go_loopw [23] (fun jv wq=>∃ i:Nat,i≤gs.length∧jv=.int .i64 (i:Int)∧∃ cv tg gs' es,LoomS w0.heap.size w0 o lb pb mb ml pc cv tg (drains o (gO o (cV gs)) i LK) gs' es wq∧(drains o (gO o (cV gs)) i LK).Fin o (lq (cV gs)) (gO o (cV gs))∧Fdone (drains o (gO o (cV gs)) i LK) i∧(drains o (gO o (cV gs)) i LK).ps.length=gs.length) (fun jv _=>gs.length - (intOf jv).toNat)
  case atStart=>exact⟨0,Nat.zero_le _,rfl,cv,tg,gs',es,PW.out,PH.out,fun i p hi _=>absurd hi (by omega),Sd.out⟩
  case round=>
    clear PW PH;obtain⟨i,hi,rfl,cv,tg,gs',es,hL,hF,hD,lK⟩:=hrel
    by_cases aJ:i<gs.length
    · have hd:decide ((i:Int)<(gs.length:Int))=true:=decide_eq_true (by omega)
      have qU:decide (i<gs.length)=true:=decide_eq_true aJ;have Ix:IntKind.i64.wrap ((i:Int)+1)=(i:Int)+1:=ag (by omega) (by have:=HC.out.2.2.2.1;omega);have HL:=Lib.hid hL;have HF:=Lib.hid hF;have HD:=Lib.hid hD;have HP:=Lib.hid lK;have HI:=Lib.hid aJ;clear hL hF hD lK aJ hi;go_wp2_with fail
      go_loopg [] (gO o (cV gs)) (fun gk wq=>∃ L cv tg gs' es,LoomS w0.heap.size w0 o lb pb mb ml pc cv tg L gs' es wq∧L.Fin o (lq (cV gs)) (gO o (cV gs))∧Fdone L i∧L.ps.length=gs.length∧iQ o L≤gk∧drain o (i:Int) gk L=drains o (gO o (cV gs)) (i+1) LK)
      case atStart=>exact⟨_,cv,tg,gs',es,HL.out,HF.out,HD.out,HP.out,by have:=HF.out.now;omega,rfl⟩
      case round=>
        clear HL HF HD HP;obtain⟨L,cv,tg,gs',es,hL,hF,hD,lK,ov,F4⟩:=hrel;have HT:=Lib.hid (ye hL HC.out.1 hF HC.out.2.1 HC.out.2.2.1 (by rw[lK];exact HC.out.2.2.2.1) HC.out.2.2.2.2.1 HC.out.2.2.2.2.2 (i:Int));have ga:=hL.mem.w32;cases ht:Lm.turn? (eg o) Kc.step L (i:Int) with
        | none=>
          have HL:=Lib.hid hL;have HF:=Lib.hid hF;have HD:=Lib.hid (hD.next hF ht);have HP:=Lib.hid lK;have HX:=Lib.hid ((ki ht).symm.trans F4);have Ko:=Lib.hid ht;clear hL hF hD lK ov F4 ga ht;go_wp2_with fail;refine HT.out.mono ?_;rintro e w2 ⟨rfl,cv1,tg1,gs1,es1,iZ⟩;have e1:Lm.turn (eg o) Kc.step L (i:Int)=L:=by unfold Lm.turn;rw[Ko.out];rfl
          rw[e1] at iZ;rw[Ko.out];have GC:=Lib.hid iZ;clear iZ e1;go_wp2_with fail;go_roundw
          case rel=>exact⟨i+1,by have:=HI.out;omega,by go_num,cv1,tg1,gs1,es1,HX.out ▸ GC.out,HX.out ▸ HF.out,HX.out ▸ HD.out,HX.out ▸ HP.out⟩
          case measure=>have:=HI.out;simp[intOf];omega
        | some L'=>
          have HF:=Lib.hid (hF.turn ga ht).1;have HD:=Lib.hid (hD.turn ht);have HP:=Lib.hid (show L'.ps.length=gs.length by rw[← Lm.turn_is ht,Lm.turn_len,lK])
          obtain⟨g',H9,N7⟩:∃ g',gk=g'+1∧(iQ o L'≤g'∧drain o (i:Int) g' L'=drains o (gO o (cV gs)) (i+1) LK):=by
            have h2:=(hF.turn ga ht).2;obtain⟨g,rfl⟩:∃ g,gk=g+1:=⟨gk - 1,by omega⟩;rw[kj ht] at F4;exact⟨g,rfl,by omega,F4⟩
          have HG:=Lib.hid (And.intro H9 N7);have Ko:=Lib.hid ht;clear hL hF hD lK ov F4 ga ht H9 N7;go_wp2_with fail;refine HT.out.mono ?_;rintro e w2 ⟨rfl,cv1,tg1,gs1,es1,iZ⟩;rw[Lm.turn_is Ko.out] at iZ;rw[Ko.out];have GC:=Lib.hid iZ;clear iZ;go_wp2_with fail
          go_roundg g'
          case measure=>have:=HG.out.1;omega
          case rel=>exact⟨L',cv1,tg1,gs1,es1,GC.out,HF.out,HD.out,HP.out,HG.out.2.1,HG.out.2.2⟩
    · have hd:decide ((i:Int)<(gs.length:Int))=false:=decide_eq_false (by omega)
      obtain rfl:i=gs.length:=by omega
      obtain⟨A1,c1,rfl,_,_,aj⟩:=hL.calls.sl;have c10:wr.cell? ⟨lb,10,none⟩=some (.slice A1 es.length c1):=(hL.row.cell 10).trans rfl;obtain⟨jg,hg⟩:=hF.good;have ol:=hL.cx
      have F9:es.length≤1000:=by
        have h1:=congrArg List.length ol;rw[List.length_map] at h1;have h2:=hF.cl;have h3:=HC.out.2.1;omega
      have uv:=re A1 c1 es wr (by omega) (fun e he=>Nat.le_trans (hg.rl e.x (by rw[← ol];exact List.mem_map_of_mem he)) (by omega)) aj (fun e he=>(hL.recs e he).1) (by rw[ol];exact hg.up.up);rw[ol] at uv;have HS:=Lib.hid uv;have HX:=Lib.hid (And.intro hF (And.intro hD (And.intro lK (HB.out.trans (hL.bel.mono HB.out.size)))));clear hL hF hD lK aJ hi aj hg ol F9 uv;go_wp2_with fail;refine HS.out.mono ?_;rintro z w2 ⟨A2,c2,es2,rfl,vO,hm,aj,fZ,aO⟩;have dn:=Lib.hid vO;have HY:=Lib.hid (And.intro hm (And.intro aj (And.intro fZ (HX.out.2.2.2.trans (aO.mono HX.out.2.2.2.size)))));clear hm aj fZ aO vO;go_wp2_with fail;go_ret2;refine⟨A2,c2,es2,rfl,dn.out,?_⟩;unfold t7;rw[R5.out];exact⟨HX.out.1,by rw[HX.out.2.2.1];exact HX.out.2.1,yu.out,HY.out⟩


theorem G2 {o:Ob} (_h:bD o) (t:Td):CH o t≤1000:=by
  have hm:∀ c d:Int,1≤c→c≤16→1≤d→d≤8→c*(d+2)≤160:=fun c d h1 h2 h3 h4=>by
    have:=Int.mul_le_mul h2 (show d+2≤10 by omega) (by omega) (by omega);omega
  unfold CH eH
  split
  · rename_i h1;have:=kX h1;repeat' split
    all_goals omega
  · split
    · rename_i h1;have:=kU h1;repeat' split
      all_goals omega
    · split
      · rename_i h1;have:=kC h1;have:=hm o.c o.wd (by omega) (by omega) (by omega) (by omega);repeat' split
        all_goals omega
      · split
        · rename_i h1;have:=fh h1;have:=hm o.c o.wd (by omega) (by omega) (by omega) (by omega);repeat' split
          all_goals omega
        · split
          · rename_i h1;have:=gP h1;repeat' split
            all_goals omega
          · split
            · rename_i h1;have:=gG h1;repeat' split
              all_goals omega
            · omega
theorem oX {α:Type} (f:α→Nat) (m:Nat):∀ l:List α,(∀ x ∈ l,f x≤m)→(l.map f).sum≤l.length*m
  | [],_=>by simp
  | a::l,h=>by
    have h1:=oX f m l (fun x hx=>h x (List.mem_cons_of_mem _ hx));have h2:=h a List.mem_cons_self;rw[List.map_cons,List.sum_cons,List.length_cons,Nat.add_mul];omega
theorem ri {gs:List PG} (h1:gs.length≤20) (h2:∀ g ∈ gs,g.ts.length≤20):lq (cV gs)≤400:=by
  unfold lq cV;have:=oX List.length 20 (gs.map fun g=>g.ts.map TV.td) (fun l hl=>by obtain⟨g,hg,rfl⟩:=List.mem_map.1 hl;rw[List.length_map];exact h2 g hg);rw[List.length_map] at this;omega
theorem vC {o:Ob} (hR:bD o) {gs:List PG} (h1:gs.length≤20) (h2:∀ g ∈ gs,g.ts.length≤20):gO o (cV gs)≤400000:=by
  unfold gO cV
  have:=oX (fun l:List Td=>(l.map (CH o)).sum) 20000 (gs.map fun g=>g.ts.map TV.td) (fun l hl=>by
    obtain⟨g,hg,rfl⟩:=List.mem_map.1 hl;have h3:=oX (CH o) 1000 (g.ts.map TV.td) (fun t _=>G2 hR t);rw[List.length_map] at h3;have:=h2 g hg;omega)
  rw[List.length_map] at this;omega


/-- What holds of a loom in which one process's turns come one behind the other. -/
structure Lm.Solo (o:Ob) (k:Nat) (L:Lm):Prop where
  calls:∀ x ∈ L.calls,x.c≠1∧(x.e=-1∨x.b≤x.e)
  rest:∀ (i:Nat) (p:Pr) (c:Kc),L.ps[i]?=some p→p.op=some c→i≠k→c.over=true
  own:∀ (p:Pr) (c:Kc),L.ps[k]?=some p→p.op=some c→Kc.Al c L.mem∧c.kd=o.k
  quiet:o.k=3→(∀ p:Pr,L.ps[k]?=some p→p.done=true)→L.mem.getD 0 0%2=0
theorem r7 {o:Ob} {k:Nat} {L L1:Lm} {p p1:Pr} (hb:Lm.beg (eg o) L k p=some (L1,p1)):p.done=true∨(L1=L∧p1=p):=by
  unfold Lm.beg at hb
  by_cases e:p.done=true
  · exact .inl e
  · rw[if_neg e] at hb
    cases hb;exact .inr ⟨rfl,rfl⟩
theorem Lm.Solo.one {o:Ob} {k j:Nat} {L L':Lm} {p:Pr} (h:L.Solo o k) (hg:L.Good o j) (hp:L.ps[k]?=some p) (h1:Lm.one (eg o) Kc.step L k p=some L'):L'.Solo o k:=by
  obtain⟨L1,ts,c,q,hb,rfl⟩:=Lm.one_some h1;obtain⟨c',nq,dg,hinv,cX,_,fm,_,_⟩:=Lm.beg_op hg.inv hp hb;cases nq
  obtain⟨SQ,Oi⟩:Kc.Al c L1.mem∧c.kd=o.k:=by
    rcases Lm.beg_some hb with ⟨rfl,rfl⟩ | ⟨t,ts',hl,ix,rfl⟩
    · exact h.own _ c hp rfl
    · cases ix
      have hq:o.k=3→L.mem.getD 0 0%2=0:=fun e=>h.quiet e fun p' e'=>by
        rw[hp] at e';cases e'
        rcases r7 hb with d | ⟨_,d⟩
        · exact d
        · have:=congrArg (fun x:Pr=>x.left.length) d
          rw[← d] at hl;have:=congrArg List.length hl;simp at this
      refine⟨⟨by show(0:Int)≠1;decide,fun e=>⟨fun e'=>absurd (show false=true from e') (by decide),fun _=>⟨fun _=>⟨fun _=>hq e,fun e'=>absurd (show 1≤0 from e') (by decide)⟩,fun _=>⟨hq e,fun e'=>absurd (show 1≤0 from e') (by decide)⟩⟩⟩,fun _ _ _ e'=>absurd (show 1≤0 from e') (by decide),fun _ _ _=>⟨rfl,fun e'=>absurd (show 1≤0 from e') (by decide)⟩⟩,rfl⟩
  have hs:=SQ.step hinv cX dg;have dU:(c.step L1.mem).1.kd=o.k:=((Kc.left_step (l:=L1.mem) dg hinv.sta.wd1 hinv.sta.nr1 hinv.sta.cap1).2.1).trans Oi
  have iw:∀ x ∈ L1.calls,x.c≠1∧(x.e=-1∨x.b≤x.e)∧x.b≤(L1.now:Int):=by
    rcases Lm.beg_some hb with ⟨rfl,_⟩ | ⟨t,ts',_,_,rfl⟩
    · intro x hx
      have h2:=hg.up.lt x hx;exact⟨(h.calls x hx).1,(h.calls x hx).2,by omega⟩
    · intro x hx
      rcases List.mem_append.1 hx with hx | hx
      · have h2:=hg.up.lt x hx
        exact⟨(h.calls x hx).1,(h.calls x hx).2,by show x.b≤(L.now:Int);omega⟩
      · rw[List.mem_singleton.1 hx]
        exact⟨by show(0:Int)≠1;decide,.inl rfl,Int.le_refl _⟩
  have hk:k<L1.ps.length:=(List.getElem?_eq_some_iff.1 fm).1;refine⟨fun x hx=>?_,fun i p' d e hd hi=>?_,fun p' d e hd=>?_,fun e hd=>?_⟩
  · unfold Lm.go at hx
    dsimp only at hx
    split at hx
    · obtain⟨i,hi⟩:=List.getElem?_of_mem hx
      rw[List.getElem?_modify] at hi;cases hy:L1.calls[i]? with
      | none=>rw[hy] at hi;split at hi <;> cases hi
      | some y=>
        rw[hy] at hi;have sL:=iw y (List.mem_of_getElem? hy);obtain rfl:=Option.some.inj hi
        by_cases e:q=i
        · simp only[if_pos e]
          exact⟨hs.cd,.inr sL.2.2⟩
        · simp only[if_neg e]
          exact⟨sL.1,sL.2.1⟩
    · exact⟨(iw x hx).1,(iw x hx).2.1⟩
  · rcases bz e with ⟨e',_⟩ | ⟨_,e⟩
    · exact absurd e' hi
    · rcases Lm.beg_some hb with ⟨rfl,_⟩ | ⟨t,ts',_,_,rfl⟩
      · exact h.rest i p' d e hd hi
      · rcases bz e with ⟨e',_⟩ | ⟨_,e⟩
        · exact absurd e' hi
        · exact h.rest i p' d e hd hi
  · rcases bz e with ⟨_,rfl⟩ | ⟨e',_⟩
    · cases hd
      exact⟨hs,dU⟩
    · exact absurd rfl e'
  · have ho:(c.step L1.mem).1.over=true:=hd ⟨ts,some (c.step L1.mem).1,q⟩ (by show(L1.ps.set k _)[k]?=_;simp[hk])
    exact(hs.s3 (dU.trans e)).1 ho
theorem Lm.Solo.next {o:Ob} {k:Nat} {L:Lm} (h:L.Solo o k) (hd:∀ p,L.ps[k]?=some p→p.done=true) (hk:∀ p,L.ps[k+1]?=some p→p.op=none):L.Solo o (k+1):=
  ⟨h.calls,fun i p c e hc hi=>by
    by_cases q:i=k
    · subst q
      have:=hd p e;unfold Pr.done at this;rw[hc] at this;exact this
    · exact h.rest i p c e hc q,fun p c e hc=>(by rw[hk p e] at hc;cases hc),fun e _=>h.quiet e hd⟩
theorem Gr {o:Ob} {l:List Int} (ho:o.Ok) (hl:W32 l):W32 (aW o l):=by
  have hB:W32 (jw o):=fun z hz=>by
    have:=Fo ho z hz;simp[Lit.wf,IntKind.min,IntKind.max,IntKind.signed,IntKind.bits] at this;omega
  unfold aW
  split
  · intro z hz
    unfold lA at hz
    rcases List.mem_append.1 hz with hz | hz
    · rcases List.mem_append.1 hz with hz | hz
      · exact hB z (List.mem_of_mem_take hz)
      · exact hl z hz
    · exact hB z (List.mem_of_mem_drop hz)
  · exact fun z hz=>by cases hz
end Go.Proofs.YtabfcjohdgjkoaaGreatDoor
