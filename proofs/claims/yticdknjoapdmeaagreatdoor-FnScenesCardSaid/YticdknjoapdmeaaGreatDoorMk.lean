/- Several texts in one: SurfAt1, SurfAt2, Cursor, DrawTr, Draw14, Bytes, DrawImg, DrawTex, DrawPat, DrawPat2, DrawPat3, DrawPat4, DrawSurf. -/
import Derived.Test.YticdknjoapdmeaaGreatDoorMa
import Derived.Test.YticdknjoapdmeaaGreatDoorMj
import Derived.Test.YticdknjoapdmeaaGreatDoorMe
import Derived.BigQuiet
import Derived.Deep.QuietTactic
import Derived.Test.YticdknjoapdmeaaGreatDoorMc
import Derived.Test.YticdknjoapdmeaaGreatDoorMd
import Derived.Deep.RegionHeld3
import Derived.Deep.LoopGhost
set_option linter.unusedVariables false
set_option linter.unusedSimpArgs false
set_option linter.unnecessarySimpa false
namespace Go.Proofs.YticdknjoapdmeaaGreatDoor
set_option maxHeartbeats 16000000
section
set_option maxRecDepth 100000
open Go.RowKit Go.Lib
set_option maxHeartbeats 32000000 in
theorem Zyk (p q:Zau) (w:World) (hp:Zba p=true) (hq:Zba q=true) :
  CR 54 #[Zbv p,Zbv q,.int .i64 0] w ((Zbv p)):=by
 unfold Zba at hp hq
 simp only [Bool.and_eq_true] at hp hq
 have HW:=qh (∀ wx,CL 77 #[.int .i64 0,.int .i64 0,.int .i64 16] wx λe w'=>e=.returned (.bool true)/\wx=w') (λwx=>by have:=Zg3 0 0 16 wx;rwa [Zbw qd qd] at this)
 have HL0:=qh (∀ wx,CR 115 #[Zbi (p 0) (p 1) (p 2),Zbi (q 0) (q 1) (q 2),.int .i64 0,.int .i64 16] wx (Zbi (p 0) (p 1) (p 2))) (λwx=>Zok _ _ _ _ _ _ wx hp.1 hq.1)
 have HL1:=qh (∀ wx,CR 115 #[Zbi (p 3) (p 4) (p 5),Zbi (q 3) (q 4) (q 5),.int .i64 0,.int .i64 16] wx (Zbi (p 3) (p 4) (p 5))) (λwx=>Zok _ _ _ _ _ _ wx hp.2.1 hq.2.1)
 have HL2:=qh (∀ wx,CR 115 #[Zbi (p 6) (p 7) (p 8),Zbi (q 6) (q 7) (q 8),.int .i64 0,.int .i64 16] wx (Zbi (p 6) (p 7) (p 8))) (λwx=>Zok _ _ _ _ _ _ wx hp.2.2.1 hq.2.2.1)
 have HL3:=qh (∀ wx,CR 115 #[Zbi (p 9) (p 10) (p 11),Zbi (q 9) (q 10) (q 11),.int .i64 0,.int .i64 16] wx (Zbi (p 9) (p 10) (p 11))) (λwx=>Zok _ _ _ _ _ _ wx hp.2.2.2 hq.2.2.2)
 obtain ⟨p0,hp0⟩:∃ x,p 0=x:=⟨_,rfl⟩
 obtain ⟨q0,hq0⟩:∃ x,q 0=x:=⟨_,rfl⟩
 obtain ⟨p1,hp1⟩:∃ x,p 1=x:=⟨_,rfl⟩
 obtain ⟨q1,hq1⟩:∃ x,q 1=x:=⟨_,rfl⟩
 obtain ⟨p2,hp2⟩:∃ x,p 2=x:=⟨_,rfl⟩
 obtain ⟨q2,hq2⟩:∃ x,q 2=x:=⟨_,rfl⟩
 obtain ⟨p3,hp3⟩:∃ x,p 3=x:=⟨_,rfl⟩
 obtain ⟨q3,hq3⟩:∃ x,q 3=x:=⟨_,rfl⟩
 obtain ⟨p4,hp4⟩:∃ x,p 4=x:=⟨_,rfl⟩
 obtain ⟨q4,hq4⟩:∃ x,q 4=x:=⟨_,rfl⟩
 obtain ⟨p5,hp5⟩:∃ x,p 5=x:=⟨_,rfl⟩
 obtain ⟨q5,hq5⟩:∃ x,q 5=x:=⟨_,rfl⟩
 obtain ⟨p6,hp6⟩:∃ x,p 6=x:=⟨_,rfl⟩
 obtain ⟨q6,hq6⟩:∃ x,q 6=x:=⟨_,rfl⟩
 obtain ⟨p7,hp7⟩:∃ x,p 7=x:=⟨_,rfl⟩
 obtain ⟨q7,hq7⟩:∃ x,q 7=x:=⟨_,rfl⟩
 obtain ⟨p8,hp8⟩:∃ x,p 8=x:=⟨_,rfl⟩
 obtain ⟨q8,hq8⟩:∃ x,q 8=x:=⟨_,rfl⟩
 obtain ⟨p9,hp9⟩:∃ x,p 9=x:=⟨_,rfl⟩
 obtain ⟨q9,hq9⟩:∃ x,q 9=x:=⟨_,rfl⟩
 obtain ⟨p10,hp10⟩:∃ x,p 10=x:=⟨_,rfl⟩
 obtain ⟨q10,hq10⟩:∃ x,q 10=x:=⟨_,rfl⟩
 obtain ⟨p11,hp11⟩:∃ x,p 11=x:=⟨_,rfl⟩
 obtain ⟨q11,hq11⟩:∃ x,q 11=x:=⟨_,rfl⟩
 unfold Zbv
 rw [hp0,hq0,hp1,hq1,hp2,hq2,hp3,hq3,hp4,hq4,hp5,hq5,hp6,hq6,hp7,hq7,hp8,hq8,hp9,hq9,hp10,hq10,hp11,hq11]
 rw [hp0,hq0,hp1,hq1,hp2,hq2] at HL0
 rw [hp3,hq3,hp4,hq4,hp5,hq5] at HL1
 rw [hp6,hq6,hp7,hq7,hp8,hq8] at HL2
 rw [hp9,hq9,hp10,hq10,hp11,hq11] at HL3
 clear hp hq hp0 hq0 hp1 hq1 hp2 hq2 hp3 hq3 hp4 hq4 hp5 hq5 hp6 hq6 hp7 hq7 hp8 hq8 hp9 hq9 hp10 hq10 hp11 hq11
 have ix0:∀ wx:World,(Instr.index 41 (.agg #[.int .i64 p0,.int .i64 p1,.int .i64 p2,.int .i64 p3,.int .i64 p4,.int .i64 p5,.int .i64 p6,.int .i64 p7,.int .i64 p8,.int .i64 p9,.int .i64 p10,.int .i64 p11]) (.int .i64 0)).run Tryz.prog wx=.ok (Zbi p0 p1 p2) wx:=λwx=>by kernel_rfl
 have ix1:∀ wx:World,(Instr.index 41 (.agg #[.int .i64 p0,.int .i64 p1,.int .i64 p2,.int .i64 p3,.int .i64 p4,.int .i64 p5,.int .i64 p6,.int .i64 p7,.int .i64 p8,.int .i64 p9,.int .i64 p10,.int .i64 p11]) (.int .i64 1)).run Tryz.prog wx=.ok (Zbi p3 p4 p5) wx:=λwx=>by kernel_rfl
 have ix2:∀ wx:World,(Instr.index 41 (.agg #[.int .i64 p0,.int .i64 p1,.int .i64 p2,.int .i64 p3,.int .i64 p4,.int .i64 p5,.int .i64 p6,.int .i64 p7,.int .i64 p8,.int .i64 p9,.int .i64 p10,.int .i64 p11]) (.int .i64 2)).run Tryz.prog wx=.ok (Zbi p6 p7 p8) wx:=λwx=>by kernel_rfl
 have ix3:∀ wx:World,(Instr.index 41 (.agg #[.int .i64 p0,.int .i64 p1,.int .i64 p2,.int .i64 p3,.int .i64 p4,.int .i64 p5,.int .i64 p6,.int .i64 p7,.int .i64 p8,.int .i64 p9,.int .i64 p10,.int .i64 p11]) (.int .i64 3)).run Tryz.prog wx=.ok (Zbi p9 p10 p11) wx:=λwx=>by kernel_rfl
 go_enter Tryz.func54,Tryz.ntmps54
 go_wp2_with (first|(go_at_call 77;(with_reducible refine (HW.out _).mono ?_);rintro e w' ⟨rfl,rfl⟩)|fail)
 refine wp_loop_rounds 5 ?_
 obtain ⟨w0,hw0⟩:∃ w0,w0=(((w.alloc (.cells #[.int .i64 p0,.int .i64 p1,.int .i64 p2,.int .i64 p3,.int .i64 p4,.int .i64 p5,.int .i64 p6,.int .i64 p7,.int .i64 p8,.int .i64 p9,.int .i64 p10,.int .i64 p11] 43)).alloc (.cells #[.int .i64 q0,.int .i64 q1,.int .i64 q2,.int .i64 q3,.int .i64 q4,.int .i64 q5,.int .i64 q6,.int .i64 q7,.int .i64 q8,.int .i64 q9,.int .i64 q10,.int .i64 q11] 43)).alloc (.cells ⟨[.int .i64 0,.int .i64 0,.int .i64 0,.int .i64 0,.int .i64 0,.int .i64 0,.int .i64 0,.int .i64 0,.int .i64 0,.int .i64 0,.int .i64 0,.int .i64 0]⟩ 43)):=⟨_,rfl⟩
 have HP0:=qh (Own w0 w.heap.size 43 [.int .i64 p0,.int .i64 p1,.int .i64 p2,.int .i64 p3,.int .i64 p4,.int .i64 p5,.int .i64 p6,.int .i64 p7,.int .i64 p8,.int .i64 p9,.int .i64 p10,.int .i64 p11]) (by rw [hw0];exact Own.alloc (Own.alloc (Own.new w _ #[_,_,_,_,_,_,_,_,_,_,_,_]) _) _)
 have HQ0:=qh (Own w0 (w.heap.size+1) 43 [.int .i64 q0,.int .i64 q1,.int .i64 q2,.int .i64 q3,.int .i64 q4,.int .i64 q5,.int .i64 q6,.int .i64 q7,.int .i64 q8,.int .i64 q9,.int .i64 q10,.int .i64 q11]) (by rw [hw0];exact Own.alloc (Own.at_new (cs := #[_,_,_,_,_,_,_,_,_,_,_,_]) qs) _)
 have HR0:=qh (Own w0 (w.heap.size+2) 43 [.int .i64 0,.int .i64 0,.int .i64 0,.int .i64 0,.int .i64 0,.int .i64 0,.int .i64 0,.int .i64 0,.int .i64 0,.int .i64 0,.int .i64 0,.int .i64 0]) (by rw [hw0];exact Own.at_new (cs := #[_,_,_,_,_,_,_,_,_,_,_,_]) qs)
 have HB0:=qh (Bw w w0) (by rw [hw0];exact (((Below.refl _ _).alloc (Nat.le_refl _) _).alloc qs _).alloc (by simp;omega) _)
 have HE0:=hdQ hw0
 clear hw0
 rw [<- HE0.out]
 clear HE0
 rw [rounds_succ]
 have a0:=HP0.out.cell 0
 have a1:=HP0.out.cell 1
 have a2:=HP0.out.cell 2
 have b0:=HQ0.out.cell 0
 have b1:=HQ0.out.cell 1
 have b2:=HQ0.out.cell 2
 have af:=HP0.out.frozen
 have al:=HP0.out.lt
 have bl:=HQ0.out.lt
 have na:¬ w.heap.size=w0.heap.size:=qo
 have nb:¬ w.heap.size+1=w0.heap.size:=qo
 simp only [List.getElem?_cons_zero,List.getElem?_cons_succ] at a0 a1 a2 b0 b1 b2
 go_wp2_with fail
 refine wp_region_held_drew (S:=(λw'=>w'.cell? ⟨w0.heap.size,0,none⟩=some (.int .i64 p0)/\w'.cell? ⟨w0.heap.size,1,none⟩=some (.int .i64 p1)/\w'.cell? ⟨w0.heap.size,2,none⟩=some (.int .i64 p2)/\w'.cell? ⟨w.heap.size+1,0,none⟩=some (.int .i64 q0)/\w'.cell? ⟨w.heap.size+1,1,none⟩=some (.int .i64 q1)/\w'.cell? ⟨w.heap.size+1,2,none⟩=some (.int .i64 q2))) kr (by (try dsimp only);refine ⟨?_, ?_, ?_, ?_, ?_, ?_⟩<;>(go_simp;done)) (λhHeld=>?_)
 refine tkH 0 ?_;(try simp only [LO,Act.put])
 refine tkH 1 ?_;(try simp only [LO,Act.put])
 refine tkH 2 ?_;(try simp only [LO,Act.put])
 refine tkH 3 ?_;(try simp only [LO,Act.put])
 refine tkH 4 ?_;(try simp only [LO,Act.put])
 refine tkH 5 ?_;(try simp only [LO,Act.put])
 refine tkH 6 ?_;(try simp only [LO,Act.put])
 refine tkH 8 ?_;(try simp only [LO,Act.put])
 refine wpAnyH_ready (rs:=[7]) kr qs ?_
 refine AllReadyH.cons rfl (λK7 hK7=>?_) AllReadyH.nil
 go_simp
 (with_reducible refine (HL0.out _).mono ?_)
 rintro e w1 ⟨rfl,hb⟩
 have hz1:=hb.size
 (try simp at hz1)
 have HB1:=bh w hb
 have HP1':Hid (Own w1 w.heap.size 43 [.int .i64 p0,.int .i64 p1,.int .i64 p2,.int .i64 p3,.int .i64 p4,.int .i64 p5,.int .i64 p6,.int .i64 p7,.int .i64 p8,.int .i64 p9,.int .i64 p10,.int .i64 p11]):=hdQ (Own.step hb (Own.drew (HP0.out.alloc _)))
 have HQ1':Hid (Own w1 (w.heap.size+1) 43 [.int .i64 q0,.int .i64 q1,.int .i64 q2,.int .i64 q3,.int .i64 q4,.int .i64 q5,.int .i64 q6,.int .i64 q7,.int .i64 q8,.int .i64 q9,.int .i64 q10,.int .i64 q11]):=hdQ (Own.step hb (Own.drew (HQ0.out.alloc _)))
 have HR1':Hid (Own w1 (w.heap.size+2) 43 [.int .i64 0,.int .i64 0,.int .i64 0,.int .i64 0,.int .i64 0,.int .i64 0,.int .i64 0,.int .i64 0,.int .i64 0,.int .i64 0,.int .i64 0,.int .i64 0]):=hdQ (Own.step hb (Own.drew (HR0.out.alloc _)))
 have HV:=qh (Own w1 w0.heap.size 40 [.int .i64 p0,.int .i64 p1,.int .i64 p2]) (Own.step hb (Own.drew (Own.new w0 _ #[_,_,_])))
 clear hb a0 a1 a2 b0 b1 b2 af al bl hHeld na nb
 refine hK7.out _ _ (⟨HV.out.cell 0,HV.out.cell 1,HV.out.cell 2,HQ1'.out.cell 0,HQ1'.out.cell 1,HQ1'.out.cell 2⟩) (λhHeld7=>?_)
 (try simp only [LO,Act.put])
 refine tkH 9 ?_;(try simp only [LO,Act.put])
 have hwl:w.heap.size<w0.heap.size:=HP0.out.lt
 have hwn:¬ w0.heap.size=w.heap.size:=qo
 have a0:=HP1'.out.cell 0
 have a1:=HP1'.out.cell 1
 have a2:=HP1'.out.cell 2
 have af:=HP1'.out.frozen
 have al:=HP1'.out.lt
 simp only [List.getElem?_cons_zero,List.getElem?_cons_succ] at a0 a1 a2
 refine wpAnyH_ready (rs:=[10]) kr qs ?_
 refine AllReadyH.cons rfl (λK10 hK10=>?_) AllReadyH.nil
 go_simp
 refine hK10.out _ _ (by (try dsimp only);refine ⟨?_, ?_, ?_, ?_, ?_, ?_⟩<;>(first|(go_simp;done)|(simp [*];done))) (λhHeld10=>?_)
 refine wpAnyH_done kr ?_ _
 clear hHeld7 hHeld10 a0 a1 a2 af al HV hwl hwn
 obtain ⟨v1,hv1⟩:∃ v,v=((w1.setCell ⟨w.heap.size,0,none⟩ (.int .i64 p0)).setCell ⟨w.heap.size,1,none⟩ (.int .i64 p1)).setCell ⟨w.heap.size,2,none⟩ (.int .i64 p2):=⟨_,rfl⟩
 have HPv1:=qh (Own v1 w.heap.size 43 [.int .i64 p0,.int .i64 p1,.int .i64 p2,.int .i64 p3,.int .i64 p4,.int .i64 p5,.int .i64 p6,.int .i64 p7,.int .i64 p8,.int .i64 p9,.int .i64 p10,.int .i64 p11]) (by rw [hv1];exact Own.set_ (Own.set_ (Own.set_ HP1'.out 0 _) 1 _) 2 _)
 have HQv1:=qh (Own v1 (w.heap.size+1) 43 [.int .i64 q0,.int .i64 q1,.int .i64 q2,.int .i64 q3,.int .i64 q4,.int .i64 q5,.int .i64 q6,.int .i64 q7,.int .i64 q8,.int .i64 q9,.int .i64 q10,.int .i64 q11]) (by rw [hv1];exact (owx (HQ1'.out)))
 have HRv1:=qh (Own v1 (w.heap.size+2) 43 [.int .i64 0,.int .i64 0,.int .i64 0,.int .i64 0,.int .i64 0,.int .i64 0,.int .i64 0,.int .i64 0,.int .i64 0,.int .i64 0,.int .i64 0,.int .i64 0]) (by rw [hv1];exact (owx (HR1'.out)))
 have HBv1:=qh (Bw w v1) (by rw [hv1];exact bll)
 rw [<- hv1]
 clear hv1 HP1' HQ1' HR1'
 go_wp2_with fail
 rw [rounds_succ]
 have a0:=HPv1.out.cell 3
 have a1:=HPv1.out.cell 4
 have a2:=HPv1.out.cell 5
 have b0:=HQv1.out.cell 3
 have b1:=HQv1.out.cell 4
 have b2:=HQv1.out.cell 5
 have af:=HPv1.out.frozen
 have al:=HPv1.out.lt
 have bl:=HQv1.out.lt
 have na:¬ w.heap.size=v1.heap.size:=qo
 have nb:¬ w.heap.size+1=v1.heap.size:=qo
 simp only [List.getElem?_cons_zero,List.getElem?_cons_succ] at a0 a1 a2 b0 b1 b2
 go_wp2_with fail
 refine wp_region_held_drew (S:=(λw'=>w'.cell? ⟨v1.heap.size,0,none⟩=some (.int .i64 p3)/\w'.cell? ⟨v1.heap.size,1,none⟩=some (.int .i64 p4)/\w'.cell? ⟨v1.heap.size,2,none⟩=some (.int .i64 p5)/\w'.cell? ⟨w.heap.size+1,3,none⟩=some (.int .i64 q3)/\w'.cell? ⟨w.heap.size+1,4,none⟩=some (.int .i64 q4)/\w'.cell? ⟨w.heap.size+1,5,none⟩=some (.int .i64 q5))) kr (by (try dsimp only);refine ⟨?_, ?_, ?_, ?_, ?_, ?_⟩<;>(go_simp;done)) (λhHeld=>?_)
 refine tkH 0 ?_;(try simp only [LO,Act.put])
 refine tkH 1 ?_;(try simp only [LO,Act.put])
 refine tkH 2 ?_;(try simp only [LO,Act.put])
 refine tkH 3 ?_;(try simp only [LO,Act.put])
 refine tkH 4 ?_;(try simp only [LO,Act.put])
 refine tkH 5 ?_;(try simp only [LO,Act.put])
 refine tkH 6 ?_;(try simp only [LO,Act.put])
 refine tkH 8 ?_;(try simp only [LO,Act.put])
 refine wpAnyH_ready (rs:=[7]) kr qs ?_
 refine AllReadyH.cons rfl (λK7 hK7=>?_) AllReadyH.nil
 go_simp
 (with_reducible refine (HL1.out _).mono ?_)
 rintro e w2 ⟨rfl,hb⟩
 have hz2:=hb.size
 (try simp at hz2)
 have HB2:=bh w hb
 have HP2':Hid (Own w2 w.heap.size 43 [.int .i64 p0,.int .i64 p1,.int .i64 p2,.int .i64 p3,.int .i64 p4,.int .i64 p5,.int .i64 p6,.int .i64 p7,.int .i64 p8,.int .i64 p9,.int .i64 p10,.int .i64 p11]):=hdQ (Own.step hb (Own.drew (HPv1.out.alloc _)))
 have HQ2':Hid (Own w2 (w.heap.size+1) 43 [.int .i64 q0,.int .i64 q1,.int .i64 q2,.int .i64 q3,.int .i64 q4,.int .i64 q5,.int .i64 q6,.int .i64 q7,.int .i64 q8,.int .i64 q9,.int .i64 q10,.int .i64 q11]):=hdQ (Own.step hb (Own.drew (HQv1.out.alloc _)))
 have HR2':Hid (Own w2 (w.heap.size+2) 43 [.int .i64 0,.int .i64 0,.int .i64 0,.int .i64 0,.int .i64 0,.int .i64 0,.int .i64 0,.int .i64 0,.int .i64 0,.int .i64 0,.int .i64 0,.int .i64 0]):=hdQ (Own.step hb (Own.drew (HRv1.out.alloc _)))
 have HV:=qh (Own w2 v1.heap.size 40 [.int .i64 p3,.int .i64 p4,.int .i64 p5]) (Own.step hb (Own.drew (Own.new v1 _ #[_,_,_])))
 clear hb a0 a1 a2 b0 b1 b2 af al bl hHeld na nb
 refine hK7.out _ _ (⟨HV.out.cell 0,HV.out.cell 1,HV.out.cell 2,HQ2'.out.cell 3,HQ2'.out.cell 4,HQ2'.out.cell 5⟩) (λhHeld7=>?_)
 (try simp only [LO,Act.put])
 refine tkH 9 ?_;(try simp only [LO,Act.put])
 have hwl:w.heap.size<v1.heap.size:=HPv1.out.lt
 have hwn:¬ v1.heap.size=w.heap.size:=qo
 have a0:=HP2'.out.cell 3
 have a1:=HP2'.out.cell 4
 have a2:=HP2'.out.cell 5
 have af:=HP2'.out.frozen
 have al:=HP2'.out.lt
 simp only [List.getElem?_cons_zero,List.getElem?_cons_succ] at a0 a1 a2
 refine wpAnyH_ready (rs:=[10]) kr qs ?_
 refine AllReadyH.cons rfl (λK10 hK10=>?_) AllReadyH.nil
 go_simp
 refine hK10.out _ _ (by (try dsimp only);refine ⟨?_, ?_, ?_, ?_, ?_, ?_⟩<;>(first|(go_simp;done)|(simp [*];done))) (λhHeld10=>?_)
 refine wpAnyH_done kr ?_ _
 clear hHeld7 hHeld10 a0 a1 a2 af al HV hwl hwn
 obtain ⟨v2,hv2⟩:∃ v,v=((w2.setCell ⟨w.heap.size,3,none⟩ (.int .i64 p3)).setCell ⟨w.heap.size,4,none⟩ (.int .i64 p4)).setCell ⟨w.heap.size,5,none⟩ (.int .i64 p5):=⟨_,rfl⟩
 have HPv2:=qh (Own v2 w.heap.size 43 [.int .i64 p0,.int .i64 p1,.int .i64 p2,.int .i64 p3,.int .i64 p4,.int .i64 p5,.int .i64 p6,.int .i64 p7,.int .i64 p8,.int .i64 p9,.int .i64 p10,.int .i64 p11]) (by rw [hv2];exact Own.set_ (Own.set_ (Own.set_ HP2'.out 3 _) 4 _) 5 _)
 have HQv2:=qh (Own v2 (w.heap.size+1) 43 [.int .i64 q0,.int .i64 q1,.int .i64 q2,.int .i64 q3,.int .i64 q4,.int .i64 q5,.int .i64 q6,.int .i64 q7,.int .i64 q8,.int .i64 q9,.int .i64 q10,.int .i64 q11]) (by rw [hv2];exact (owx (HQ2'.out)))
 have HRv2:=qh (Own v2 (w.heap.size+2) 43 [.int .i64 0,.int .i64 0,.int .i64 0,.int .i64 0,.int .i64 0,.int .i64 0,.int .i64 0,.int .i64 0,.int .i64 0,.int .i64 0,.int .i64 0,.int .i64 0]) (by rw [hv2];exact (owx (HR2'.out)))
 have HBv2:=qh (Bw w v2) (by rw [hv2];exact bll)
 rw [<- hv2]
 clear hv2 HP2' HQ2' HR2'
 go_wp2_with fail
 rw [rounds_succ]
 have a0:=HPv2.out.cell 6
 have a1:=HPv2.out.cell 7
 have a2:=HPv2.out.cell 8
 have b0:=HQv2.out.cell 6
 have b1:=HQv2.out.cell 7
 have b2:=HQv2.out.cell 8
 have af:=HPv2.out.frozen
 have al:=HPv2.out.lt
 have bl:=HQv2.out.lt
 have na:¬ w.heap.size=v2.heap.size:=qo
 have nb:¬ w.heap.size+1=v2.heap.size:=qo
 simp only [List.getElem?_cons_zero,List.getElem?_cons_succ] at a0 a1 a2 b0 b1 b2
 go_wp2_with fail
 refine wp_region_held_drew (S:=(λw'=>w'.cell? ⟨v2.heap.size,0,none⟩=some (.int .i64 p6)/\w'.cell? ⟨v2.heap.size,1,none⟩=some (.int .i64 p7)/\w'.cell? ⟨v2.heap.size,2,none⟩=some (.int .i64 p8)/\w'.cell? ⟨w.heap.size+1,6,none⟩=some (.int .i64 q6)/\w'.cell? ⟨w.heap.size+1,7,none⟩=some (.int .i64 q7)/\w'.cell? ⟨w.heap.size+1,8,none⟩=some (.int .i64 q8))) kr (by (try dsimp only);refine ⟨?_, ?_, ?_, ?_, ?_, ?_⟩<;>(go_simp;done)) (λhHeld=>?_)
 refine tkH 0 ?_;(try simp only [LO,Act.put])
 refine tkH 1 ?_;(try simp only [LO,Act.put])
 refine tkH 2 ?_;(try simp only [LO,Act.put])
 refine tkH 3 ?_;(try simp only [LO,Act.put])
 refine tkH 4 ?_;(try simp only [LO,Act.put])
 refine tkH 5 ?_;(try simp only [LO,Act.put])
 refine tkH 6 ?_;(try simp only [LO,Act.put])
 refine tkH 8 ?_;(try simp only [LO,Act.put])
 refine wpAnyH_ready (rs:=[7]) kr qs ?_
 refine AllReadyH.cons rfl (λK7 hK7=>?_) AllReadyH.nil
 go_simp
 (with_reducible refine (HL2.out _).mono ?_)
 rintro e w3 ⟨rfl,hb⟩
 have hz3:=hb.size
 (try simp at hz3)
 have HB3:=bh w hb
 have HP3':Hid (Own w3 w.heap.size 43 [.int .i64 p0,.int .i64 p1,.int .i64 p2,.int .i64 p3,.int .i64 p4,.int .i64 p5,.int .i64 p6,.int .i64 p7,.int .i64 p8,.int .i64 p9,.int .i64 p10,.int .i64 p11]):=hdQ (Own.step hb (Own.drew (HPv2.out.alloc _)))
 have HQ3':Hid (Own w3 (w.heap.size+1) 43 [.int .i64 q0,.int .i64 q1,.int .i64 q2,.int .i64 q3,.int .i64 q4,.int .i64 q5,.int .i64 q6,.int .i64 q7,.int .i64 q8,.int .i64 q9,.int .i64 q10,.int .i64 q11]):=hdQ (Own.step hb (Own.drew (HQv2.out.alloc _)))
 have HR3':Hid (Own w3 (w.heap.size+2) 43 [.int .i64 0,.int .i64 0,.int .i64 0,.int .i64 0,.int .i64 0,.int .i64 0,.int .i64 0,.int .i64 0,.int .i64 0,.int .i64 0,.int .i64 0,.int .i64 0]):=hdQ (Own.step hb (Own.drew (HRv2.out.alloc _)))
 have HV:=qh (Own w3 v2.heap.size 40 [.int .i64 p6,.int .i64 p7,.int .i64 p8]) (Own.step hb (Own.drew (Own.new v2 _ #[_,_,_])))
 clear hb a0 a1 a2 b0 b1 b2 af al bl hHeld na nb
 refine hK7.out _ _ (⟨HV.out.cell 0,HV.out.cell 1,HV.out.cell 2,HQ3'.out.cell 6,HQ3'.out.cell 7,HQ3'.out.cell 8⟩) (λhHeld7=>?_)
 (try simp only [LO,Act.put])
 refine tkH 9 ?_;(try simp only [LO,Act.put])
 have hwl:w.heap.size<v2.heap.size:=HPv2.out.lt
 have hwn:¬ v2.heap.size=w.heap.size:=qo
 have a0:=HP3'.out.cell 6
 have a1:=HP3'.out.cell 7
 have a2:=HP3'.out.cell 8
 have af:=HP3'.out.frozen
 have al:=HP3'.out.lt
 simp only [List.getElem?_cons_zero,List.getElem?_cons_succ] at a0 a1 a2
 refine wpAnyH_ready (rs:=[10]) kr qs ?_
 refine AllReadyH.cons rfl (λK10 hK10=>?_) AllReadyH.nil
 go_simp
 refine hK10.out _ _ (by (try dsimp only);refine ⟨?_, ?_, ?_, ?_, ?_, ?_⟩<;>(first|(go_simp;done)|(simp [*];done))) (λhHeld10=>?_)
 refine wpAnyH_done kr ?_ _
 clear hHeld7 hHeld10 a0 a1 a2 af al HV hwl hwn
 obtain ⟨v3,hv3⟩:∃ v,v=((w3.setCell ⟨w.heap.size,6,none⟩ (.int .i64 p6)).setCell ⟨w.heap.size,7,none⟩ (.int .i64 p7)).setCell ⟨w.heap.size,8,none⟩ (.int .i64 p8):=⟨_,rfl⟩
 have HPv3:=qh (Own v3 w.heap.size 43 [.int .i64 p0,.int .i64 p1,.int .i64 p2,.int .i64 p3,.int .i64 p4,.int .i64 p5,.int .i64 p6,.int .i64 p7,.int .i64 p8,.int .i64 p9,.int .i64 p10,.int .i64 p11]) (by rw [hv3];exact Own.set_ (Own.set_ (Own.set_ HP3'.out 6 _) 7 _) 8 _)
 have HQv3:=qh (Own v3 (w.heap.size+1) 43 [.int .i64 q0,.int .i64 q1,.int .i64 q2,.int .i64 q3,.int .i64 q4,.int .i64 q5,.int .i64 q6,.int .i64 q7,.int .i64 q8,.int .i64 q9,.int .i64 q10,.int .i64 q11]) (by rw [hv3];exact (owx (HQ3'.out)))
 have HRv3:=qh (Own v3 (w.heap.size+2) 43 [.int .i64 0,.int .i64 0,.int .i64 0,.int .i64 0,.int .i64 0,.int .i64 0,.int .i64 0,.int .i64 0,.int .i64 0,.int .i64 0,.int .i64 0,.int .i64 0]) (by rw [hv3];exact (owx (HR3'.out)))
 have HBv3:=qh (Bw w v3) (by rw [hv3];exact bll)
 rw [<- hv3]
 clear hv3 HP3' HQ3' HR3'
 go_wp2_with fail
 rw [rounds_succ]
 have a0:=HPv3.out.cell 9
 have a1:=HPv3.out.cell 10
 have a2:=HPv3.out.cell 11
 have b0:=HQv3.out.cell 9
 have b1:=HQv3.out.cell 10
 have b2:=HQv3.out.cell 11
 have af:=HPv3.out.frozen
 have al:=HPv3.out.lt
 have bl:=HQv3.out.lt
 have na:¬ w.heap.size=v3.heap.size:=qo
 have nb:¬ w.heap.size+1=v3.heap.size:=qo
 simp only [List.getElem?_cons_zero,List.getElem?_cons_succ] at a0 a1 a2 b0 b1 b2
 go_wp2_with fail
 refine wp_region_held_drew (S:=(λw'=>w'.cell? ⟨v3.heap.size,0,none⟩=some (.int .i64 p9)/\w'.cell? ⟨v3.heap.size,1,none⟩=some (.int .i64 p10)/\w'.cell? ⟨v3.heap.size,2,none⟩=some (.int .i64 p11)/\w'.cell? ⟨w.heap.size+1,9,none⟩=some (.int .i64 q9)/\w'.cell? ⟨w.heap.size+1,10,none⟩=some (.int .i64 q10)/\w'.cell? ⟨w.heap.size+1,11,none⟩=some (.int .i64 q11))) kr (by (try dsimp only);refine ⟨?_, ?_, ?_, ?_, ?_, ?_⟩<;>(go_simp;done)) (λhHeld=>?_)
 refine tkH 0 ?_;(try simp only [LO,Act.put])
 refine tkH 1 ?_;(try simp only [LO,Act.put])
 refine tkH 2 ?_;(try simp only [LO,Act.put])
 refine tkH 3 ?_;(try simp only [LO,Act.put])
 refine tkH 4 ?_;(try simp only [LO,Act.put])
 refine tkH 5 ?_;(try simp only [LO,Act.put])
 refine tkH 6 ?_;(try simp only [LO,Act.put])
 refine tkH 8 ?_;(try simp only [LO,Act.put])
 refine wpAnyH_ready (rs:=[7]) kr qs ?_
 refine AllReadyH.cons rfl (λK7 hK7=>?_) AllReadyH.nil
 go_simp
 (with_reducible refine (HL3.out _).mono ?_)
 rintro e w4 ⟨rfl,hb⟩
 have hz4:=hb.size
 (try simp at hz4)
 have HB4:=bh w hb
 have HP4':Hid (Own w4 w.heap.size 43 [.int .i64 p0,.int .i64 p1,.int .i64 p2,.int .i64 p3,.int .i64 p4,.int .i64 p5,.int .i64 p6,.int .i64 p7,.int .i64 p8,.int .i64 p9,.int .i64 p10,.int .i64 p11]):=hdQ (Own.step hb (Own.drew (HPv3.out.alloc _)))
 have HQ4':Hid (Own w4 (w.heap.size+1) 43 [.int .i64 q0,.int .i64 q1,.int .i64 q2,.int .i64 q3,.int .i64 q4,.int .i64 q5,.int .i64 q6,.int .i64 q7,.int .i64 q8,.int .i64 q9,.int .i64 q10,.int .i64 q11]):=hdQ (Own.step hb (Own.drew (HQv3.out.alloc _)))
 have HR4':Hid (Own w4 (w.heap.size+2) 43 [.int .i64 0,.int .i64 0,.int .i64 0,.int .i64 0,.int .i64 0,.int .i64 0,.int .i64 0,.int .i64 0,.int .i64 0,.int .i64 0,.int .i64 0,.int .i64 0]):=hdQ (Own.step hb (Own.drew (HRv3.out.alloc _)))
 have HV:=qh (Own w4 v3.heap.size 40 [.int .i64 p9,.int .i64 p10,.int .i64 p11]) (Own.step hb (Own.drew (Own.new v3 _ #[_,_,_])))
 clear hb a0 a1 a2 b0 b1 b2 af al bl hHeld na nb
 refine hK7.out _ _ (⟨HV.out.cell 0,HV.out.cell 1,HV.out.cell 2,HQ4'.out.cell 9,HQ4'.out.cell 10,HQ4'.out.cell 11⟩) (λhHeld7=>?_)
 (try simp only [LO,Act.put])
 refine tkH 9 ?_;(try simp only [LO,Act.put])
 have hwl:w.heap.size<v3.heap.size:=HPv3.out.lt
 have hwn:¬ v3.heap.size=w.heap.size:=qo
 have a0:=HP4'.out.cell 9
 have a1:=HP4'.out.cell 10
 have a2:=HP4'.out.cell 11
 have af:=HP4'.out.frozen
 have al:=HP4'.out.lt
 simp only [List.getElem?_cons_zero,List.getElem?_cons_succ] at a0 a1 a2
 refine wpAnyH_ready (rs:=[10]) kr qs ?_
 refine AllReadyH.cons rfl (λK10 hK10=>?_) AllReadyH.nil
 go_simp
 refine hK10.out _ _ (by (try dsimp only);refine ⟨?_, ?_, ?_, ?_, ?_, ?_⟩<;>(first|(go_simp;done)|(simp [*];done))) (λhHeld10=>?_)
 refine wpAnyH_done kr ?_ _
 clear hHeld7 hHeld10 a0 a1 a2 af al HV hwl hwn
 obtain ⟨v4,hv4⟩:∃ v,v=((w4.setCell ⟨w.heap.size,9,none⟩ (.int .i64 p9)).setCell ⟨w.heap.size,10,none⟩ (.int .i64 p10)).setCell ⟨w.heap.size,11,none⟩ (.int .i64 p11):=⟨_,rfl⟩
 have HPv4:=qh (Own v4 w.heap.size 43 [.int .i64 p0,.int .i64 p1,.int .i64 p2,.int .i64 p3,.int .i64 p4,.int .i64 p5,.int .i64 p6,.int .i64 p7,.int .i64 p8,.int .i64 p9,.int .i64 p10,.int .i64 p11]) (by rw [hv4];exact Own.set_ (Own.set_ (Own.set_ HP4'.out 9 _) 10 _) 11 _)
 have HQv4:=qh (Own v4 (w.heap.size+1) 43 [.int .i64 q0,.int .i64 q1,.int .i64 q2,.int .i64 q3,.int .i64 q4,.int .i64 q5,.int .i64 q6,.int .i64 q7,.int .i64 q8,.int .i64 q9,.int .i64 q10,.int .i64 q11]) (by rw [hv4];exact (owx (HQ4'.out)))
 have HRv4:=qh (Own v4 (w.heap.size+2) 43 [.int .i64 0,.int .i64 0,.int .i64 0,.int .i64 0,.int .i64 0,.int .i64 0,.int .i64 0,.int .i64 0,.int .i64 0,.int .i64 0,.int .i64 0,.int .i64 0]) (by rw [hv4];exact (owx (HR4'.out)))
 have HBv4:=qh (Bw w v4) (by rw [hv4];exact bll)
 rw [<- hv4]
 clear hv4 HP4' HQ4' HR4'
 go_wp2_with fail
 have a0:=HPv4.out.cell 0
 have a1:=HPv4.out.cell 1
 have a2:=HPv4.out.cell 2
 have a3:=HPv4.out.cell 3
 have a4:=HPv4.out.cell 4
 have a5:=HPv4.out.cell 5
 have a6:=HPv4.out.cell 6
 have a7:=HPv4.out.cell 7
 have a8:=HPv4.out.cell 8
 have a9:=HPv4.out.cell 9
 have a10:=HPv4.out.cell 10
 have a11:=HPv4.out.cell 11
 have r0:=HRv4.out.cell 0
 have r1:=HRv4.out.cell 1
 have r2:=HRv4.out.cell 2
 have r3:=HRv4.out.cell 3
 have r4:=HRv4.out.cell 4
 have r5:=HRv4.out.cell 5
 have r6:=HRv4.out.cell 6
 have r7:=HRv4.out.cell 7
 have r8:=HRv4.out.cell 8
 have r9:=HRv4.out.cell 9
 have r10:=HRv4.out.cell 10
 have r11:=HRv4.out.cell 11
 simp only [List.getElem?_cons_zero,List.getElem?_cons_succ] at a0 r0 a1 r1 a2 r2 a3 r3 a4 r4 a5 r5 a6 r6 a7 r7 a8 r8 a9 r9 a10 r10 a11 r11
 have rf:=HRv4.out.frozen
 have rl:=HRv4.out.lt
 rw [rounds_succ]
 go_wp2_with fail
 exact bodyPost_ret (v:=.agg #[.int .i64 p0,.int .i64 p1,.int .i64 p2,.int .i64 p3,.int .i64 p4,.int .i64 p5,.int .i64 p6,.int .i64 p7,.int .i64 p8,.int .i64 p9,.int .i64 p10,.int .i64 p11]) (by simp [results,Tryz.results54,go_sem, *]) rfl ⟨rfl,bll⟩
section
variable {P:Program} {w w':World} {ops:Array Oper} {o:Oper} {a:Act} {Q:Exit->Act->World->Prop}
theorem Zma {os:List Oper} (h:wpList P ops Q os a w):wpList P ops Q os a w:=h
theorem Zqs {os:List Oper} (hg:o.guard=none) (t:TypeId) (x:Operand) (ho:o.op=.box t x) {p v:Value} (hx:a.eval x=p) (hr:(Instr.box t p).run P w=.ok v w') (h:wpList P ops Q os (a.put o.dst v) w'):wpList P ops Q (o::os) a w:=by
 refine wpList_plain hg λK hK=>?_
 unfold Oper.wp execOp
 simp only [ho,Sem.run_bind,Sem.run_pure,Result.andThen_ok,hx,hr]
 exact hK _ _ h
end
set_option maxHeartbeats 16000000 in
theorem Zqm {x:Zbt} {n:Int} (w:World) (hx:Zch n x=true) :
  CR 15 #[.agg ⟨eSurf x⟩,.int .i64 0] w ((Zbv x.1)):=by
 unfold Zch at hx
 simp only [Bool.and_eq_true] at hx
 have HI:=qh (∀ wx,CR 54 #[.agg ⟨c12 x.1⟩,.agg ⟨c12 x.2.1⟩,.int .i64 0] wx (.agg ⟨c12 x.1⟩)) (λwx=>Zyk x.1 x.2.1 wx hx.1 hx.2.1)
 clear hx
 obtain ⟨p,q,sh,rt⟩:=x
 dsimp only [eSurf] at *
 rw [Zrm]
 obtain ⟨W0,hW0⟩:∃ W0,W0=(w.alloc (.cells ⟨c26 p q sh rt⟩ 45)).alloc (.cells ⟨c12 zPt⟩ 43):=⟨_,rfl⟩
 have HX:=qh (Own W0 w.heap.size 45 (c26 p q sh rt)) (by rw [hW0];exact Own.alloc (Own.new w _ _) _)
 have HR:=qh (Own W0 (w.heap.size+1) 43 (c12 zPt)) (by rw [hW0];exact Own.at_new (cs:=⟨c12 zPt⟩) qs)
 have HB:=qh (Bw w W0) (by rw [hW0];exact ((Below.refl _ _).alloc (Nat.le_refl _) _).alloc qs _)
 have hz0:W0.heap.size=w.heap.size+2:=by rw [hW0];simp
 have HBX:=qh ((Instr.box 45 (.agg ⟨c26 p q sh rt⟩)).run Tryz.prog w=.ok (.pointer (some ⟨w.heap.size,0,none⟩)) (w.alloc (.cells ⟨c26 p q sh rt⟩ 45))) kr
 have HAL:=qh ((Instr.alloc 43 true (.tuple #[])).run Tryz.prog (w.alloc (.cells ⟨c26 p q sh rt⟩ 45))=.ok (.pointer (some ⟨w.heap.size+1,0,none⟩)) W0) (by
  rw [hW0]
  have:∀ wx:World,(Instr.alloc 43 true (.tuple #[])).run Tryz.prog wx=.ok (.pointer (some ⟨wx.heap.size,0,none⟩)) (wx.alloc (.cells ⟨c12 zPt⟩ 43)):=λwx=>by kernel_rfl
  have:=this (w.alloc (.cells ⟨c26 p q sh rt⟩ 45))
  simpa using this)
 have HL1:=qh ((Instr.loadAt 43 (.pointer (some ⟨w.heap.size,0,none⟩))).run Tryz.prog W0=.ok (.agg ⟨c12 p⟩) W0) (Zak (P:=Tryz.prog) Tryz.underlying43 rfl (by rw [Zbs];kernel_rfl) (λj v hv=>by rw [Nat.zero_add,HX.out.cell];exact Zlx hv))
 have HL2:=qh ((Instr.loadAt 43 (.pointer (some ⟨w.heap.size,12,none⟩))).run Tryz.prog W0=.ok (.agg ⟨c12 q⟩) W0) (Zak (P:=Tryz.prog) Tryz.underlying43 rfl (by rw [Zbs];kernel_rfl) (λj v hv=>by rw [HX.out.cell];exact c26_q hv))
 clear hW0
 go_enter Tryz.func15,Tryz.ntmps15
 go_wp2_with ((with_reducible refine Zma ?_);first|(refine Zqs rfl 45 (.tmp 0) rfl rfl HBX.out ?_)|(refine Zah rfl 43 rfl HAL.out ?_)|(refine Zal rfl 43 (.tmp 5) rfl rfl HL1.out ?_)|(refine Zal rfl 43 (.tmp 7) rfl rfl HL2.out ?_)|fail)
 (with_reducible refine (HI.out _).mono ?_)
 rintro e w1 ⟨rfl,hb1⟩
 have hz1:=hb1.size
 have HB1:=qh (Bw w w1) (Below.step hb1 HB.out qo)
 have HR1:=hdQ (Own.step hb1 HR.out)
 obtain ⟨u7,hst,hs,hbk,hs7,e1,e2,e3⟩:=Zap (P:=Tryz.prog) (T:=43) (zs:=c12 p) (k:=0) HR1.out (by rw [Zbs];kernel_rfl) (by rw [Zbs,Zbs];decide) qr
 have HST7:=hdQ hst
 have HRR:=qh (u7.heap[w.heap.size+1]? = some (.cells ⟨c12 p⟩ 43 (0,0))) (by have:=hs;unfold Own at this;rw [this];rw [Zbs];simp [c12])
 have HB7:=qh (Bw w u7) (HB1.out.trans ⟨e1,e2,e3,qo,λb h=>hbk b qo⟩)
 clear hst hs hbk e1 e2 e3 hb1
 go_wp2_with ((with_reducible refine Zma ?_);first|(refine Zae rfl 43 (.tmp 4) (.tmp 10) rfl rfl rfl HST7.out ?_)|fail)
 exact bodyPost_ret (v:=.agg ⟨c12 p⟩) (results_cell_row Tryz.results15 _ _ (w.heap.size+1) _ _ (0,0) _ rfl HRR.out Tryz.underlying43 rfl kr) rfl ⟨rfl,HB7.out⟩
end
section
set_option maxRecDepth 20000
open Go.RowKit
abbrev u8s (l:List Int):List Value:=l.map (Value.int .u8)
theorem u8s_at {l:List Int} {k:Nat} (h:k<l.length):(u8s l)[k]? = some (.int .u8 l[k]):=by simp [h]
theorem Zk5 (x:Int):0<=bits .and .i64 x 255/\bits .and .i64 x 255<=255:=by
 have hb:(BitVec.ofInt 64 255).toNat=255:=rfl
 have h1:(BitVec.ofInt 64 x &&& BitVec.ofInt 64 255).toNat<=255:=by
  rw [BitVec.toNat_and,hb];exact Nat.and_le_right
 have h2:bits .and .i64 x 255=IntKind.i64.wrap ((BitVec.ofInt 64 x &&& BitVec.ofInt 64 255).toNat:Int):=rfl
 rw [h2,IntWalk.i64_in _ qo]
 omega
theorem RS.only {w w':World} {size n c B:Nat} {A:OA} {xs:List Value} {G:List Nat} (h:RS w size A n c xs) (hO:Only B G w w') (hB:w.heap.size<=B) (hg:0<n->∀ x,x∈gOf A->x∉G):RS w' size A n c xs:=by
 obtain ⟨hl,A',c',hs,h1,h2,hr⟩:=h
 refine ⟨hl,A',c',hs,h1,h2,λhn=>?_⟩
 injection hs with e1 _ e2
 subst e1
 obtain ⟨b,o,h3,h4,h5,h6⟩:=hr hn
 refine ⟨b,o,h3,h4,Nat.lt_of_lt_of_le h5 hO.size,λj hj=>?_⟩
 rw [<- h6 j hj]
 exact (hO.cell b qo (hg hn b (by rw [h3];simp [gOf]))).1 _
theorem Only.mono {B B':Nat} {G G':List Nat} {a w:World} (h:Only B G a w) (hB:B'<=B) (hG:∀ x,x∈G->x∈G'∨B'<=x):Only B' G' a w :=
 ⟨h.os,h.tape,h.output,h.size,λk hk hn=>h.block k qo (λhx=>(hG k hx).elim hn (λh=>by omega))⟩
theorem Only.alloc {B:Nat} {G:List Nat} {a w:World} (h:Only B G a w) (hB:B<=w.heap.size) (o:Obj):Only B G a (w.alloc o) :=
 Only.trans h (Only.of_below ((Below.refl B w).alloc hB o) G) (Nat.le_refl _) (λx hx=>hx)
theorem Only.up {B:Nat} {G:List Nat} {a w:World} (h:Only B G a w) {p:Addr} (hp:B<=p.block) (u:Value):Only B G a (w.setCell p u) :=
 ⟨h.os,h.tape,h.output,by simpa [World.setCell] using h.size,λi hi hn=>(Below.heap_setCell w p u i qo).trans (h.block i hi hn)⟩
def Cur (T:TypeId) (w:World) (g:Nat) (A:OA) (c:Nat) (l:List Int):Prop :=
 ∃ (i:Nat) (h:Int),i<=l.length/\Own w g T [.slice A l.length c,.int .i64 i,.int .i64 h]/\RS w 1 A l.length c (u8s l)/\(0<l.length->∀ x,x∈gOf A->x<g)
section
variable {T:TypeId} {w w':World} {g c:Nat} {A:OA} {l:List Int}
theorem Cur.lt (h:Cur T w g A c l):g<w.heap.size:=by obtain ⟨i,x,_,ho,_⟩:=h;exact ho.lt
theorem Cur.step (hb:Bw w w') (h:Cur T w g A c l):Cur T w' g A c l:=by
 obtain ⟨i,x,h1,ho,hr,hg⟩:=h
 exact ⟨i,x,h1,ho.step hb,RS.step hb hr,hg⟩
theorem Cur.stepB {B:Nat} (h:Cur T w g A c l) (hb:Below B w w') (hg:g<B):Cur T w' g A c l:=by
 obtain ⟨i,x,h1,ho,hr,hgA⟩:=h
 refine ⟨i,x,h1,ho.below hb hg, ?_,hgA⟩
 obtain ⟨hl,A',c',hs,h2,h3,hr⟩:=hr
 refine ⟨hl,A',c',hs,h2,h3,λhn=>?_⟩
 injection hs with e1 _ e2
 subst e1
 obtain ⟨b,o,h4,h5,h6,h7⟩:=hr hn
 have hbB:b<B:=Nat.lt_trans (hgA hn b (by rw [h4];simp [gOf])) hg
 refine ⟨b,o,h4,h5,Nat.lt_of_lt_of_le h6 hb.size,λj hj=>?_⟩
 rw [<- h7 j hj]
 exact hb.cell (p:=⟨b,o+j,none⟩) hbB
theorem Cur.alloc (h:Cur T w g A c l) (o:Obj):Cur T (w.alloc o) g A c l:=h.step ((Below.refl _ _).alloc (Nat.le_refl _) o)
theorem Cur.drew (h:Cur T w g A c l):Cur T w.drew g A c l:=h
theorem Cur.drewN (h:Cur T w g A c l) (n:Nat):Cur T (w.drewN n) g A c l:=h
theorem Cur.only {B:Nat} {G:List Nat} (h:Cur T w g A c l) (hO:Only B G w w') (hB:w.heap.size<=B) (hG:g∉G) (hA:0<l.length->∀ x,x∈gOf A->x∉G):Cur T w' g A c l:=by
 obtain ⟨i,x,h1,ho,hr,hg⟩:=h
 exact ⟨i,x,h1,hO.own ho (by have:=ho.lt;omega) hG,RS.only hr hO hB hA,hg⟩
theorem Cur.far (h:Cur T w g A c l) {p:Addr} (hp:g<p.block) (u:Value):Cur T (w.setCell p u) g A c l:=by
 obtain ⟨i,x,h1,ho,hr,hg⟩:=h
 exact ⟨i,x,h1,ho.far qo u,RS.only hr (Only.setCell (B:=w.heap.size) (Only.refl _ [p.block] w) qs u) (Nat.le_refl _) (λhn x hx=>by have:=hg hn x hx;simp;omega),hg⟩
end
def CurR (w:World) (g:Nat) (A:OA) (c:Nat) (l:List Int) (lo hi:Int):Ending->World->Prop:=λe w'=>∃ x,e=.returned (.int .i64 x)/\lo<=x/\x<=hi/\Cur 125 w' g A c l/\Only w.heap.size [g] w w'
theorem Zm7 {g c:Nat} {A:OA} {l:List Int} (w:World) (h:Cur 125 w g A c l) :
  CL 107 #[.pointer (some ⟨g,0,none⟩)] w (CurR w g A c l 0 255):=by
 obtain ⟨i,hh,hi,ho,hr,hgA⟩:=h
 have hlen:=hr.len
 unfold maxLen at hlen
 have c0:=ho.cell 0
 have c1:=ho.cell 1
 have c2:=ho.cell 2
 have fz:=ho.frozen
 simp only [List.getElem?_cons_zero,List.getElem?_cons_succ] at c0 c1 c2
 have HO:=hdQ ho
 have HR:=hdQ hr
 have HA:=hdQ hgA
 have hlt:=ho.lt
 clear ho hr hgA
 by_cases hin:i<l.length
 ·obtain ⟨b,o,rfl,hb,hcell⟩:=HR.out.open_.2.2 qo
  have hbg:b<g:=HA.out qo b (by simp [gOf])
  have x1:w.cell? ⟨b,o+i,none⟩=some (.int .u8 l[i]):=by rw [hcell i qo,u8s_at hin]
  have i1:(i:Int)<l.length:=qo
  have i0:(0:Int)<=i:=qo
  have hne:¬ g=b:=qo
  have w1':IntKind.i64.wrap ((i:Int)+1)=(i:Int)+1:=IntWalk.i64_in _ qo
  have HI:=hdQ (show i+1<=l.length by omega)
  generalize l[i]=v at *
  clear hcell
  go_enter Tryz.func107,Tryz.ntmps107
  go_wp2_with fail
  go_quiet (fail)
  generalize hz:bits BinOp.and IntKind.i64 _ 255=z
  have hz1:0<=z/\z<=255:=by rw [<- hz];exact Zk5 _
  generalize wrap64 (wrap64 (hh*6364136223846793005)+1442695040888963407)=h2 at *
  obtain ⟨z1,z2⟩:=hz1
  clear hz c2
  go_wp2_with fail
  go_quiet (fail)
  go_wp2_with fail
  go_quiet (fail)
  generalize hy:bits BinOp.and IntKind.i64 _ 255=y
  have hy1:0<=y/\y<=255:=by rw [<- hy];exact Zk5 _
  clear hy
  go_wp2
  go_ret
  refine ⟨y,rfl,hy1.1,hy1.2,⟨i+1,h2,HI.out, ?_, ?_,HA.out⟩, ?_⟩
  ·rw [show (((i+1:Nat):Int))=(i:Int)+1 by simp];exact Own.set_ (Own.drewN (Own.set_ HO.out 2 (.int .i64 h2)) _) 1 (.int .i64 ((i:Int)+1))
  ·exact (by repeat (first|(with_reducible exact HR.out)|(with_reducible refine RS.drewN ?_ _)|(with_reducible refine RS.drew ?_)|((with_reducible refine RS.setCell ?_ ?_ _);rotate_left;(intro ad had;simp at had;subst had;simp;omega))))
  ·exact Only.setCell (p:=⟨g,1,none⟩) (Only.drewN (Only.setCell (p:=⟨g,2,none⟩) (Only.refl _ _ _) qs _) _) qs _
 ·have i1:¬ (i:Int)<l.length:=by omega
  go_enter Tryz.func107,Tryz.ntmps107
  go_wp2_with fail
  go_quiet (fail)
  generalize hz:bits BinOp.and IntKind.i64 _ 255=z
  have hz1:0<=z/\z<=255:=by rw [<- hz];exact Zk5 _
  generalize wrap64 (wrap64 (hh*6364136223846793005)+1442695040888963407)=h2 at *
  obtain ⟨z1,z2⟩:=hz1
  clear hz c2
  go_wp2_with fail
  go_quiet (fail)
  go_wp2
  go_ret
  refine ⟨z,rfl,z1,z2,⟨i,h2,hi, ?_, ?_,HA.out⟩, ?_⟩
  ·exact (by repeat (first|(with_reducible refine Own.drewN ?_ _)|(with_reducible refine Own.drew ?_)|exact Own.set_ HO.out 2 (.int .i64 h2)))
  ·have hRS:RS (w.setCell ⟨g,2,none⟩ (.int .i64 h2)) 1 A l.length c (u8s l):=RS.only HR.out (Only.setCell (B:=w.heap.size) (p:=⟨g,2,none⟩) (Only.refl _ [g] w) qs _) (Nat.le_refl _) (λhn x hx=>by have:=HA.out hn x hx;simp;omega)
   exact (by repeat (first|(with_reducible exact hRS)|(with_reducible refine RS.drewN ?_ _)|(with_reducible refine RS.drew ?_)))
  ·exact (by repeat (first|(with_reducible refine Only.drewN ?_ _)|(with_reducible refine Only.drew ?_)|exact Only.setCell (p:=⟨g,2,none⟩) (Only.refl _ _ _) qs _))
theorem Zaw {g c:Nat} {A:OA} {l:List Int} {n:Int} (w:World) (h:Cur 125 w g A c l) (hn:1<=n/\n<=256) :
  CL 102 #[.pointer (some ⟨g,0,none⟩),.int .i64 n] w (CurR w g A c l 0 (n-1)):=by
 obtain ⟨n1,n2⟩:=hn
 have HC:=hdQ h
 clear h
 go_enter Tryz.func102,Tryz.ntmps102
 go_wp2_with fail
 refine (Zm7 _ HC.out).mono ?_
 rintro e w' ⟨x,rfl,x1,x2,hc,hO⟩
 have y1:0<=x % n:=Int.emod_nonneg _ qo
 have y2:x % n<=n-1:=by have:=Int.emod_lt_of_pos x (show 0<n by omega);omega
 have w1':IntKind.i64.wrap (x % n)=x % n:=IntWalk.i64_in _ qo
 have n0:(n==0)=false:=by rw [beq_eq_false_iff_ne];omega
 have HC':=hdQ hc
 have HO:=hdQ hO
 clear hc hO
 go_wp2
 go_ret
 exact ⟨_,rfl,y1,y2,HC'.out,HO.out⟩
theorem S_below4 {g c:Nat} {A:OA} {l:List Int} {n:Int} (w:World) (h:Cur 125 w g A c l) (hn:257<=n/\n<=1000000) :
  CL 102 #[.pointer (some ⟨g,0,none⟩),.int .i64 n] w (CurR w g A c l 0 (n-1)):=by
 obtain ⟨n1,n2⟩:=hn
 have HC:=hdQ h
 clear h
 go_enter Tryz.func102,Tryz.ntmps102
 go_wp2_with fail
 refine (Zm7 _ HC.out).mono ?_
 rintro e u1 ⟨a,rfl,a1,a2,hc,hO⟩
 have HC1:=hdQ hc
 have HO1:=hdQ hO
 have z1:=hO.size
 clear hc hO
 go_wp2_with fail
 refine (Zm7 _ HC1.out).mono ?_
 rintro e u2 ⟨b,rfl,b1,b2,hc,hO⟩
 have HC2:=hdQ hc
 have HO2:=hdQ hO
 have z2:=hO.size
 clear hc hO
 go_wp2_with fail
 refine (Zm7 _ HC2.out).mono ?_
 rintro e u3 ⟨d,rfl,d1,d2,hc,hO⟩
 have HC3:=hdQ hc
 have HO3:=hdQ hO
 have z3:=hO.size
 clear hc hO
 go_wp2_with fail
 refine (Zm7 _ HC3.out).mono ?_
 rintro e u4 ⟨f,rfl,f1,f2,hc,hO⟩
 have HC4:=hdQ hc
 have HO4:=hdQ (Only.trans HO1.out (Only.trans HO2.out (Only.trans HO3.out hO z3 (λx hx=>hx)) z2 (λx hx=>hx)) z1 (λx hx=>hx))
 clear hc hO
 obtain ⟨x,hx⟩:=qv (a*16777216+b*65536+d*256+f)
 have v1:IntKind.i64.wrap (a*16777216)=a*16777216:=IntWalk.i64_in _ qo
 have v2:IntKind.i64.wrap (b*65536)=b*65536:=IntWalk.i64_in _ qo
 have v3:IntKind.i64.wrap (a*16777216+b*65536)=a*16777216+b*65536:=IntWalk.i64_in _ qo
 have v4:IntKind.i64.wrap (d*256)=d*256:=IntWalk.i64_in _ qo
 have v5:IntKind.i64.wrap (a*16777216+b*65536+d*256)=a*16777216+b*65536+d*256:=IntWalk.i64_in _ qo
 have v6:IntKind.i64.wrap (a*16777216+b*65536+d*256+f)=x:=by rw [hx];exact IntWalk.i64_in _ qo
 have x1:0<=x:=qo
 have y1:0<=x % n:=Int.emod_nonneg _ qo
 have y2:x % n<=n-1:=by have:=Int.emod_lt_of_pos x (show 0<n by omega);omega
 have w1':IntKind.i64.wrap (x % n)=x % n:=IntWalk.i64_in _ qo
 have n0:(n==0)=false:=by rw [beq_eq_false_iff_ne];omega
 clear hx
 go_wp2
 go_ret
 exact ⟨_,rfl,y1,y2,HC4.out,HO4.out⟩
def NewCur (w:World) (A:OA) (c:Nat) (l:List Int):Ending->World->Prop:=λe w'=>∃ g,e=.returned (.pointer (some ⟨g,0,none⟩))/\w.heap.size<=g/\Cur 125 w' g A c l/\Bw w w'
theorem Ztn {c:Nat} {A:OA} {l:List Int} (w:World) (hl:l.length<=1048576) (h:RS w 1 A l.length c (u8s l)) :
  CL 39 #[.slice A l.length c] w (NewCur w A c l):=by
 have HR:=hdQ h
 have hcm:=h.open_
 clear h
 have w0:IntKind.i64.wrap (1953+(l.length:Int))=1953+(l.length:Int):=IntWalk.i64_in _ qo
 go_enter Tryz.func39,Tryz.ntmps39
 go_wp2_with fail
 go_loopw [3,4] (λhh i wr=>∃ (k:Nat) (x:Int),k<=l.length/\i=.int .i64 k/\hh=.int .i64 x/\Bw w wr) (λ_ i _=>l.length-(intOf i).toNat)
 case atStart=>exact ⟨0,_,Nat.zero_le _,rfl,rfl,Below.refl _ _⟩
 case round =>
  obtain ⟨k,x,hk,rfl,rfl,hb⟩:=hrel
  have HB:=hdQ hb
  have HRr:=hdQ (RS.step hb HR.out)
  clear hb
  by_cases hlt:k<l.length/\k<4000
  ·obtain ⟨hlt1,hlt2⟩:=hlt
   obtain ⟨b,o,rfl,hbh,hcell⟩:=HRr.out.open_.2.2 qo
   have x1:wr.cell? ⟨b,o+k,none⟩=some (.int .u8 l[k]):=by rw [hcell k qo,u8s_at hlt1]
   have i0:(0:Int)<=k:=qo
   have i1:(k:Int)<l.length:=qo
   have i2:(k:Int)<4000:=qo
   have w1':IntKind.i64.wrap ((k:Int)+1)=(k:Int)+1:=IntWalk.i64_in _ qo
   clear hcell
   generalize l[k]=v at *
   go_wp2_with fail
   go_roundw
   case rel=>exact ⟨k+1,_,qo,qg,rfl,bll⟩
   case measure=>simp [intOf];omega
  ·have hend:¬ (k:Int)<l.length∨((k:Int)<l.length/\¬ (k:Int)<4000):=by omega
   clear hlt
   rcases hend with i1|⟨i1,i2⟩
   all_goals
    have hg:0<l.length->∀ z,z∈gOf A->z<wr.heap.size:=by
     intro hp z hz
     obtain ⟨b,o,rfl,hbh,_⟩:=HRr.out.open_.2.2 hp
     simp [gOf] at hz
     omega
    go_wp2
    go_ret
    refine ⟨wr.heap.size,rfl,HB.out.size,⟨0,x,Nat.zero_le _,Own.new _ _ _,HRr.out.alloc _,hg⟩,Below.alloc HB.out HB.out.size _⟩
theorem Zx3 {c n:Nat} {A:OA} {l:List Int} (w:World) (hl:l.length<=1048576) (hn:n<=1000) (h:RS w 1 A l.length c (u8s l)) :
  CL 48 #[.slice A l.length c,.int .i64 n] w (NewCur w A c l):=by
 have HR:=hdQ h
 clear h
 go_enter Tryz.func48,Tryz.ntmps48
 go_wp2_with fail
 refine (Ztn _ hl HR.out).mono ?_
 rintro e w1 ⟨g,rfl,hg,hc,hb⟩
 have HC:=hdQ hc
 have HB:=hdQ hb
 have hlt:=hc.lt
 clear hc hb
 go_wp2_with fail
 go_loopw [6] (λi wr=>∃ (k:Nat),k<=n/\i=.int .i64 k/\Cur 125 wr g A c l/\Only w1.heap.size [g] w1 wr) (λi _=>n-(intOf i).toNat)
 case atStart=>exact ⟨0,Nat.zero_le _,rfl,HC.out,Only.refl _ _ _⟩
 case round =>
  obtain ⟨k,hk,rfl,hc,hO⟩:=hrel
  have HCr:=hdQ hc
  have HO:=hdQ hO
  have hz:=hO.size
  clear hc hO
  by_cases hlt1:k<n
  ·have i1:(k:Int)<n:=by omega
   have w1':IntKind.i64.wrap ((k:Int)+1)=(k:Int)+1:=IntWalk.i64_in _ qo
   go_wp2_with fail
   refine (Zm7 _ HCr.out).mono ?_
   rintro e w2 ⟨x,rfl,x1,x2,hc,hO⟩
   have HC2:=hdQ hc
   have HO2:=hdQ (Only.trans HO.out hO hz (λx hx=>hx))
   clear hc hO
   go_wp2
   go_roundw
   case rel=>exact ⟨k+1,qo,qg,HC2.out,HO2.out⟩
   case measure=>simp [intOf];omega
  ·have i1:¬ (k:Int)<n:=by omega
   go_wp2
   go_ret
   exact ⟨g,rfl,hg,HCr.out,Below.trans HB.out (HO.out.below HB.out.size (λx hx=>by simp at hx;omega))⟩
end
section
set_option maxRecDepth 100000
open Go.RowKit Go.Lib
theorem Zk9 {g c:Nat} {A:OA} {l:List Int} {n:Int} (w:World) (h:Cur 125 w g A c l) (hn:1<=n/\n<=256) :
  CL 104 #[.pointer (some ⟨g,0,none⟩),.int .i64 n] w λe w'=>∃ b:Bool,e=.returned (.bool b)/\Cur 125 w' g A c l/\Only w.heap.size [g] w w':=by
 have HC:=hdQ h
 clear h
 go_enter Tryz.func104,Tryz.ntmps104
 go_wp2_with fail
 refine (Zaw _ HC.out hn).mono ?_
 rintro e w1 ⟨x,rfl,x0,x1,hc,hO⟩
 have HCC:=hdQ hc
 have HO:=hdQ hO
 clear hc hO
 go_wp2
 go_ret
 exact ⟨_,rfl,HCC.out,HO.out⟩
theorem S_str {g c k b:Nat} {A:OA} {l:List Int} {xs:List (List UInt8)} (w:World) (h:Cur 125 w g A c l) (hr:RS w 1 (some ⟨b,0,none⟩) xs.length k (Zck xs)) (hx:1<=xs.length/\xs.length<=256) (hb:¬ b=g) :
  CL 276 #[.pointer (some ⟨g,0,none⟩),.slice (some ⟨b,0,none⟩) xs.length k] w λe w'=>∃ s,s∈xs/\e=.returned (str s)/\Cur 125 w' g A c l/\Only w.heap.size [g] w w':=by
 obtain ⟨x1,x2⟩:=hx
 have HC:=hdQ h
 obtain ⟨h1,h2,h3⟩:=hr.open_
 obtain ⟨b',o',e,hbl,hcell⟩:=h3 qo
 injection e with e
 injection e with e1 e2
 subst e1;subst e2
 have HCELL:=hdQ hcell
 clear h hr h3 hcell
 go_enter Tryz.func276,Tryz.ntmps276
 go_wp2_with fail
 refine (Zaw (n:=xs.length) _ HC.out qo).mono ?_
 rintro e w1 ⟨x,rfl,y0,y1,hc,hO⟩
 obtain ⟨j,rfl⟩:∃ j:Nat,x=j:=⟨x.toNat,qo⟩
 have hj:j<xs.length:=qo
 have c0:w1.cell? ⟨b,j,none⟩=some (str xs[j]):=by
  rw [(hO.cell b hbl (by simpa using hb)).1,<- Zit hj]
  have:=HCELL.out j qo
  simpa using this
 have HM:=hdQ (List.getElem_mem hj)
 have i0:(0:Int)<=j:=qo
 have i1:(j:Int)<xs.length:=qo
 have HCC:=hdQ hc
 have HO:=hdQ hO
 generalize xs[j]=u at *
 clear hc hO
 go_wp2
 go_ret
 exact ⟨_,HM.out,rfl,HCC.out,HO.out⟩
def ExpR (w:World) (g:Nat) (A:OA) (c:Nat) (l:List Int) (n D B:Nat):Ending->World->Prop:=λe w'=>∃ s,e=.returned (str s)/\TX n D B s/\Cur 125 w' g A c l/\Only w.heap.size [g] w w'
theorem Only.then_ {g:Nat} {w a b:World} (h:Only w.heap.size [g] w a) (k:Only a.heap.size [g] a b):Only w.heap.size [g] w b:=Only.trans h k h.size (λx hx=>hx)
theorem Only.thenA {g:Nat} {w a b:World} {o:Obj} (h:Only w.heap.size [g] w a) (k:Only (a.alloc o).heap.size [g] (a.alloc o) b):Only w.heap.size [g] w b :=
 Only.trans (Only.alloc h h.size o) (k.mono (by have:=h.size;simp<;>omega) (λx hx=>Or.inl hx)) h.size (λx hx=>hx)
theorem cB_rng {n:Nat} (h:n<=3):4<=cB n/\cB n<=130:=by rcases (show n=0∨n=1∨n=2∨n=3 by omega) with rfl|rfl|rfl|rfl<;>decide
theorem bW_rng3 {n:Nat} (h:n<=3):1<=bW n:=by rcases (show n=0∨n=1∨n=2∨n=3 by omega) with rfl|rfl|rfl|rfl<;>decide
theorem TX.len {n D B:Nat} {s:List UInt8} (h:TX n D B s):s.length<=B:=by obtain ⟨_,_,_,_,_,h⟩:=h;exact h
set_option maxHeartbeats 16000000 in
theorem Zih {g c:Nat} {A:OA} {l:List Int}:∀ (n:Nat),n<=3->∀ (d:Int) (w:World),Cur 125 w g A c l -> -10<=d->d<=n->CL 251 #[.pointer (some ⟨g,0,none⟩),.int .i64 d] w (ExpR w g A c l (bW n) (2*n) (cB n)):=by
 intro n
 induction n with
 | zero =>
  intro _ d w h _ hd
  have hgl:=h.lt
  have HC:=hdQ h
  clear h
  go_enter Tryz.func251,Tryz.ntmps251
  go_wp2_with fail
  refine (S_str (xs:=Zkq) _ (HC.out.alloc _) (ltt 10) qd qo).mono ?_
  rintro e w1 ⟨s,hs,rfl,hc,hO⟩
  have HCC:=hdQ hc
  have HO:=qh (Only w.heap.size [g] w w1) (Only.thenA (Only.refl w.heap.size [g] w) hO)
  have HS:=hdQ hs
  clear hc hO hs
  go_wp2
  go_ret
  exact ⟨s,rfl,(TX.leaf14 HS.out).mono qd (Nat.zero_le _) qd,HCC.out,HO.out⟩
 | succ n ih =>
  intro hn d w h hlo hd
  have hW:=bW_rng3 (show n<=3 by omega)
  have hB:=cB_rng (show n<=3 by omega)
  rw [show bW (n+1)=2*bW n+2 from rfl,show cB (n+1)=2*cB n+14 from rfl]
  have HI:=hdQ (ih qo)
  have hgl:=h.lt
  have HC:=hdQ h
  clear h ih
  generalize bW n=W at *
  generalize cB n=B at *
  by_cases h0:d<=0
  ·go_enter Tryz.func251,Tryz.ntmps251
   go_wp2_with fail
   refine (S_str (xs:=Zkq) _ (HC.out.alloc _) (ltt 10) qd qo).mono ?_
   rintro e w1 ⟨s,hs,rfl,hc,hO⟩
   have HCC:=hdQ hc
   have HO:=qh (Only w.heap.size [g] w w1) (Only.thenA (Only.refl w.heap.size [g] w) hO)
   have HS:=hdQ hs
   clear hc hO hs
   go_wp2
   go_ret
   exact ⟨s,rfl,(TX.leaf14 HS.out).mono qo (Nat.zero_le _) qo,HCC.out,HO.out⟩
  have v1:IntKind.i64.wrap (d-1)=d-1:=IntWalk.i64_in _ qo
  go_enter Tryz.func251,Tryz.ntmps251
  go_wp2_with fail
  refine (Zk9 (n:=4) _ HC.out qo).mono ?_
  rintro e w1 ⟨b,rfl,hc,hO⟩
  have hz1:=hO.size
  have HC1:=hdQ hc
  have HO1:=hdQ hO
  clear hc hO
  cases b with
  | true =>
   go_wp2_with fail
   refine (S_str (xs:=Zkq) _ (HC1.out.alloc _) (ltt 10) qd qo).mono ?_
   rintro e w2 ⟨s,hs,rfl,hc,hO⟩
   have HC2:=hdQ hc
   have HO2:=hdQ (HO1.out.thenA hO)
   have HS:=hdQ hs
   clear hc hO hs
   go_wp2
   go_ret
   exact ⟨s,rfl,(TX.leaf14 HS.out).mono qo (Nat.zero_le _) qo,HC2.out,HO2.out⟩
  | false =>
   go_wp2_with fail
   refine (HI.out (d-1) _ HC1.out qo qo).mono ?_
   rintro e w2 ⟨s,rfl,hs,hc,hO⟩
   have hz2:=hO.size
   have hls:=hs.len
   have HC2:=hdQ hc
   have HO2:=hdQ (HO1.out.then_ hO)
   have HS:=hdQ hs
   clear hc hO hs
   go_wp2_with fail
   refine (HI.out (d-1) _ HC2.out qo qo).mono ?_
   rintro e w3 ⟨t,rfl,ht,hc,hO⟩
   have hz3:=hO.size
   have hlt:=ht.len
   have HC3:=hdQ hc
   have HO3:=hdQ (HO2.out.then_ hO)
   have HT:=hdQ ht
   clear hc hO ht
   go_wp2_with fail
   refine (Zaw (n:=14) _ HC3.out qo).mono ?_
   rintro e w4 ⟨x,rfl,x0,x1,hc,hO⟩
   have HC4:=hdQ hc
   have HO4:=hdQ (HO3.out.then_ hO)
   clear hc hO
   rcases (show x=0∨x=1∨x=2∨x=3∨x=4∨x=5∨x=6∨x=7∨x=8∨x=9∨x=10∨x=11∨x=12∨x=13 by omega) with rfl|rfl|rfl|rfl|rfl|rfl|rfl|rfl|rfl|rfl|rfl|rfl|rfl|rfl
   ·have s0:¬ 9223372036854775807<s.length+3:=by omega
    have s1:¬ 9223372036854775807<s.length+3+t.length:=qo
    go_wp2_with fail
    go_ret
    refine ⟨s++[32,43,32]++t, ?_,(TX.bin14 43 (by unfold OpT;simp) qd HS.out HT.out).mono qo qo qo,HC4.out,HO4.out⟩
    show Ending.returned (Value.string ((({ data:=s.toArray }:ByteArray)++{ data:=[32,43,32].toArray })++{ data:=t.toArray }))=_
    rw [Zad,Zad]
   ·have s0:¬ 9223372036854775807<s.length+3:=by omega
    have s1:¬ 9223372036854775807<s.length+3+t.length:=qo
    go_wp2_with fail
    go_ret
    refine ⟨s++[32,45,32]++t, ?_,(TX.bin14 45 (by unfold OpT;simp) qd HS.out HT.out).mono qo qo qo,HC4.out,HO4.out⟩
    show Ending.returned (Value.string ((({ data:=s.toArray }:ByteArray)++{ data:=[32,45,32].toArray })++{ data:=t.toArray }))=_
    rw [Zad,Zad]
   ·have s0:¬ 9223372036854775807<s.length+3:=by omega
    have s1:¬ 9223372036854775807<s.length+3+t.length:=qo
    go_wp2_with fail
    go_ret
    refine ⟨s++[32,42,32]++t, ?_,(TX.bin14 42 (by unfold OpT;simp) qd HS.out HT.out).mono qo qo qo,HC4.out,HO4.out⟩
    show Ending.returned (Value.string ((({ data:=s.toArray }:ByteArray)++{ data:=[32,42,32].toArray })++{ data:=t.toArray }))=_
    rw [Zad,Zad]
   ·have s0:¬ 9223372036854775807<s.length+3:=by omega
    have s1:¬ 9223372036854775807<s.length+3+t.length:=qo
    go_wp2_with fail
    go_ret
    refine ⟨s++[32,47,32]++t, ?_,(TX.bin14 47 (by unfold OpT;simp) qd HS.out HT.out).mono qo qo qo,HC4.out,HO4.out⟩
    show Ending.returned (Value.string ((({ data:=s.toArray }:ByteArray)++{ data:=[32,47,32].toArray })++{ data:=t.toArray }))=_
    rw [Zad,Zad]
   ·have s0:¬ 9223372036854775807<1+s.length:=by omega
    go_wp2_with fail
    go_ret
    refine ⟨[45]++s, ?_,(TX.neg HS.out).mono qo qo qo,HC4.out,HO4.out⟩
    show Ending.returned (Value.string (({ data:=[45].toArray }:ByteArray)++{ data:=s.toArray }))=_
    rw [Zad]
   ·have s0:¬ 9223372036854775807<4+s.length:=by omega
    have s1:¬ 9223372036854775807<4+s.length+2:=qo
    have s2:¬ 9223372036854775807<4+s.length+2+t.length:=qo
    have s3:¬ 9223372036854775807<4+s.length+2+t.length+1:=qo
    go_wp2_with fail
    go_ret
    refine ⟨[109,105,110,40]++s++[44,32]++t++[41], ?_,by simpa using (TX.call2 (x:=[109,105,110]) (m:=[44,32]) qd qs HS.out HT.out).mono (n':=2*W+2) (D':=2*(n+1)) (B':=2*B+14) qo qo (by simp<;>omega),HC4.out,HO4.out⟩
    show Ending.returned (Value.string ((((({ data:=[109,105,110,40].toArray }:ByteArray)++{ data:=s.toArray })++{ data:=[44,32].toArray })++{ data:=t.toArray })++{ data:=[41].toArray }))=_
    rw [Zad,Zad,Zad,Zad]
   ·have s0:¬ 9223372036854775807<5+s.length:=by omega
    have s1:¬ 9223372036854775807<5+s.length+2:=qo
    have s2:¬ 9223372036854775807<5+s.length+2+t.length:=qo
    have s3:¬ 9223372036854775807<5+s.length+2+t.length+1:=qo
    go_wp2_with fail
    go_ret
    refine ⟨[115,116,101,112,40]++s++[44,32]++t++[41], ?_,by simpa using (TX.call2 (x:=[115,116,101,112]) (m:=[44,32]) qd qs HS.out HT.out).mono (n':=2*W+2) (D':=2*(n+1)) (B':=2*B+14) qo qo (by simp<;>omega),HC4.out,HO4.out⟩
    show Ending.returned (Value.string ((((({ data:=[115,116,101,112,40].toArray }:ByteArray)++{ data:=s.toArray })++{ data:=[44,32].toArray })++{ data:=t.toArray })++{ data:=[41].toArray }))=_
    rw [Zad,Zad,Zad,Zad]
   ·have s0:¬ 9223372036854775807<6+s.length:=by omega
    have s1:¬ 9223372036854775807<6+s.length+2:=qo
    have s2:¬ 9223372036854775807<6+s.length+2+t.length:=qo
    have s3:¬ 9223372036854775807<6+s.length+2+t.length+1:=qo
    go_wp2_with fail
    go_ret
    refine ⟨[110,111,105,115,101,40]++s++[44,32]++t++[41], ?_,by simpa using (TX.call2 (x:=[110,111,105,115,101]) (m:=[44,32]) qd qs HS.out HT.out).mono (n':=2*W+2) (D':=2*(n+1)) (B':=2*B+14) qo qo (by simp<;>omega),HC4.out,HO4.out⟩
    show Ending.returned (Value.string ((((({ data:=[110,111,105,115,101,40].toArray }:ByteArray)++{ data:=s.toArray })++{ data:=[44,32].toArray })++{ data:=t.toArray })++{ data:=[41].toArray }))=_
    rw [Zad,Zad,Zad,Zad]
   ·have s0:¬ 9223372036854775807<6+s.length:=by omega
    have s1:¬ 9223372036854775807<6+s.length+7:=qo
    go_wp2_with fail
    go_ret
    refine ⟨[99,108,97,109,112,40]++s++[44,32,48,44,32,49,41], ?_,by simpa using (TX.call3s (x:=[99,108,97,109,112]) qd HS.out (TX.zero.mono (Nat.le_refl _) (Nat.zero_le _) (Nat.le_refl _)) (TX.one.mono (Nat.le_refl _) (Nat.zero_le _) (Nat.le_refl _))).mono (n':=2*W+2) (D':=2*(n+1)) (B':=2*B+14) qo qo (by simp<;>omega),HC4.out,HO4.out⟩
    show Ending.returned (Value.string ((({ data:=[99,108,97,109,112,40].toArray }:ByteArray)++{ data:=s.toArray })++{ data:=[44,32,48,44,32,49,41].toArray }))=_
    rw [Zad,Zad]
   ·have s0:¬ 9223372036854775807<4+s.length:=by omega
    have s1:¬ 9223372036854775807<4+s.length+2:=qo
    have s2:¬ 9223372036854775807<4+s.length+2+t.length:=qo
    have s3:¬ 9223372036854775807<4+s.length+2+t.length+4:=qo
    go_wp2_with fail
    go_ret
    refine ⟨[109,105,120,40]++s++[44,32]++t++[44,32,117,41], ?_,by simpa using (TX.call3s (x:=[109,105,120]) qd HS.out HT.out ((TX.name (s:=[117]) qd).mono (Nat.le_refl _) (Nat.zero_le _) (Nat.le_refl _))).mono (n':=2*W+2) (D':=2*(n+1)) (B':=2*B+14) qo qo (by simp<;>omega),HC4.out,HO4.out⟩
    show Ending.returned (Value.string ((((({ data:=[109,105,120,40].toArray }:ByteArray)++{ data:=s.toArray })++{ data:=[44,32].toArray })++{ data:=t.toArray })++{ data:=[44,32,117,41].toArray }))=_
    rw [Zad,Zad,Zad,Zad]
   ·have s0:¬ 9223372036854775807<3+s.length:=by omega
    have s1:¬ 9223372036854775807<3+s.length+1:=qo
    go_wp2_with fail
    go_ret
    refine ⟨[100,117,40]++s++[41], ?_,by simpa using (TX.call1 (x:=[100,117]) qd HS.out).mono (n':=2*W+2) (D':=2*(n+1)) (B':=2*B+14) qo qo (by simp<;>omega),HC4.out,HO4.out⟩
    show Ending.returned (Value.string ((({ data:=[100,117,40].toArray }:ByteArray)++{ data:=s.toArray })++{ data:=[41].toArray }))=_
    rw [Zad,Zad]
   ·have s0:¬ 9223372036854775807<3+s.length:=by omega
    have s1:¬ 9223372036854775807<3+s.length+1:=qo
    go_wp2_with fail
    go_ret
    refine ⟨[100,118,40]++s++[41], ?_,by simpa using (TX.call1 (x:=[100,118]) qd HS.out).mono (n':=2*W+2) (D':=2*(n+1)) (B':=2*B+14) qo qo (by simp<;>omega),HC4.out,HO4.out⟩
    show Ending.returned (Value.string ((({ data:=[100,118,40].toArray }:ByteArray)++{ data:=s.toArray })++{ data:=[41].toArray }))=_
    rw [Zad,Zad]
   ·have s0:¬ 9223372036854775807<4+s.length:=by omega
    have s1:¬ 9223372036854775807<4+s.length+2:=qo
    have s2:¬ 9223372036854775807<4+s.length+2+t.length:=qo
    have s3:¬ 9223372036854775807<4+s.length+2+t.length+1:=qo
    go_wp2_with fail
    go_ret
    refine ⟨[116,101,120,40]++s++[44,32]++t++[41], ?_,by simpa using (TX.call2 (x:=[116,101,120]) (m:=[44,32]) qd qs HS.out HT.out).mono (n':=2*W+2) (D':=2*(n+1)) (B':=2*B+14) qo qo (by simp<;>omega),HC4.out,HO4.out⟩
    show Ending.returned (Value.string ((((({ data:=[116,101,120,40].toArray }:ByteArray)++{ data:=s.toArray })++{ data:=[44,32].toArray })++{ data:=t.toArray })++{ data:=[41].toArray }))=_
    rw [Zad,Zad,Zad,Zad]
   ·have s0:¬ 9223372036854775807<10+s.length:=by omega
    have s1:¬ 9223372036854775807<10+s.length+2:=qo
    go_wp2_with fail
    go_ret
    refine ⟨[102,108,111,111,114,40,97,98,115,40]++s++[41,41], ?_,by simpa using (TX.call1 (x:=[102,108,111,111,114]) qd (TX.call1 (x:=[97,98,115]) qd HS.out)).mono (n':=2*W+2) (D':=2*(n+1)) (B':=2*B+14) qo qo (by simp<;>omega),HC4.out,HO4.out⟩
    show Ending.returned (Value.string ((({ data:=[102,108,111,111,114,40,97,98,115,40].toArray }:ByteArray)++{ data:=s.toArray })++{ data:=[41,41].toArray }))=_
    rw [Zad,Zad]
end
section
open Go.ChangeShapes Go.WideShapes Go.ChangeAt Go.RowKit
theorem Arg.bytes {H:Type} {enc:TypeId×Value->H} {W:World} {v:Value} (h:Arg enc W 36 v):∃ (A:OA) (c:Nat) (l:List Int),v=.slice A l.length c/\RS W 1 A l.length c (u8s l):=by
 have h1:=h.slice Tryz.underlying36
 obtain ⟨v',n,xs,hv,hr,hc⟩:=h1.slice Tryz.underlying36 1 kr qo
 obtain rfl:v=v':=List.head_eq_of_cons_eq hv
 have hl:=hr.1
 have:∃ l:List Int,xs=u8s l:=by
  have key:∀ u∈xs,∃ n,u=Value.int .u8 n:=by
   intro u hu
   obtain ⟨i,hi,rfl⟩:=List.getElem_of_mem hu
   obtain ⟨m,hm,hw⟩:=(hc i qo).int Tryz.underlying5
   rw [Nat.mul_one,List.drop_eq_getElem_cons hi,List.take_succ_cons] at hm
   injection hm with hm _
   exact ⟨m,hm⟩
  clear hl hc hr
  induction xs with
  | nil=>exact ⟨[],rfl⟩
  | cons u xs ih =>
   obtain ⟨l,rfl⟩:=ih (λu hu=>key u (by simp [hu]))
   obtain ⟨n,rfl⟩:=key u qs
   exact ⟨n::l,rfl⟩
 obtain ⟨l,rfl⟩:=this
 obtain rfl:n=l.length:=by simp at hl;omega
 have hr':=hr
 obtain ⟨_,A,c,rfl,_⟩:=hr
 exact ⟨A,c,l,rfl,hr'⟩
end
section
set_option maxRecDepth 20000
open Go.RowKit
theorem Zu2 {l:List Int} {x lo hi:Int} (h:Zga l lo hi=true) (h1:lo<=x) (h2:x<=hi):Zga (l++[x]) lo hi=true:=by
 unfold Zga at *
 rw [List.all_append,h]
 simp [Zbw h1 h2]
end
section
set_option maxRecDepth 100000
open Go.RowKit Go.Lib
theorem Zx1 {g c k b:Nat} {A:OA} {l:List Int} {xs:List Int} (w:World) (h:Cur 125 w g A c l) (hr:RS w 1 (some ⟨b,0,none⟩) xs.length k (ints xs)) (hx:1<=xs.length/\xs.length<=256) (hb:¬ b=g) :
  CL 103 #[.pointer (some ⟨g,0,none⟩),.slice (some ⟨b,0,none⟩) xs.length k] w λe w'=>∃ s,s∈xs/\e=.returned (.int .i64 s)/\Cur 125 w' g A c l/\Only w.heap.size [g] w w':=by
 obtain ⟨x1,x2⟩:=hx
 have HC:=hdQ h
 obtain ⟨h1,h2,h3⟩:=hr.open_
 obtain ⟨b',o',e,hbl,hcell⟩:=h3 qo
 injection e with e
 injection e with e1 e2
 subst e1;subst e2
 have HCELL:=hdQ hcell
 clear h hr h3 hcell
 go_enter Tryz.func103,Tryz.ntmps103
 go_wp2_with fail
 refine (Zaw (n:=xs.length) _ HC.out qo).mono ?_
 rintro e w1 ⟨x,rfl,y0,y1,hc,hO⟩
 obtain ⟨j,rfl⟩:∃ j:Nat,x=j:=⟨x.toNat,qo⟩
 have hj:j<xs.length:=qo
 have c0:w1.cell? ⟨b,j,none⟩=some (.int .i64 xs[j]):=by
  rw [(hO.cell b hbl (by simpa using hb)).1,<- Zd3 hj]
  have:=HCELL.out j qo
  simpa using this
 have HM:=hdQ (List.getElem_mem hj)
 have i0:(0:Int)<=j:=qo
 have i1:(j:Int)<xs.length:=qo
 have HCC:=hdQ hc
 have HO:=hdQ hO
 generalize xs[j]=u at *
 clear hc hO
 go_wp2
 go_ret
 exact ⟨_,HM.out,rfl,HCC.out,HO.out⟩
def DrawnTex (w:World) (g:Nat) (A:OA) (c:Nat) (l:List Int) (e:Ending) (w':World):Prop :=
 ∃ (lg:Int) (tx:List Int) (T:OA) (tc:Nat),e=.returned (Zdw lg (.slice T tx.length tc))/\Zax lg tx=true/\Zdb w' 1 T tx.length tc 3 (ints tx)/\(∀ x,x∈gOf T->w.heap.size<=x)/\Cur 125 w' g A c l/\Only w.heap.size [g] w w'
theorem Zya {g c:Nat} {A:OA} {l:List Int} (w:World) (h:Cur 125 w g A c l) :
  CL 146 #[.pointer (some ⟨g,0,none⟩)] w (DrawnTex w g A c l):=by
 have HC:=hdQ h
 have hg:=h.lt
 clear h
 go_enter Tryz.func146,Tryz.ntmps146
 go_wp2_with fail
 refine (Zaw (n:=4) _ (HC.out.alloc _) qo).mono ?_
 rintro e u2 ⟨a,rfl,a1,a2,hc,hO⟩
 have HC2:=hdQ hc
 have HO2:=hdQ hO
 have z2:=hO.size
 (try simp at z2)
 clear hc hO
 have q1:inB a 0 4=true:=Zbw qo qo
 obtain ⟨s1,s2,s3,s4⟩:=Zsq a
 have hp:IntKind.i64.wrap (Zbl a*Zbl a)=Zbl a*Zbl a:=IntWalk.i64_in _ qo
 have HRB:=qh (Own u2 w.heap.size 26 [.int .i64 0,.slice none 0 0]) (HO2.out.own (Own.new w _ #[_,_]) qs (by simp;omega))
 have HOW2:=qh (Only w.heap.size [g] w u2) (Only.trans (Only.alloc (Only.refl w.heap.size [g] w) (Nat.le_refl _) _) (HO2.out.mono qs (λx hx=>Or.inl hx)) (Nat.le_refl _) (λx hx=>hx))
 obtain ⟨M,hM⟩:=qv (u2.heap.size)
 have hgM:g<M:=qo
 have hwM:w.heap.size<M:=qo
 go_wp2_with fail
 go_quiet ((go_at_call 170;exact Zat (Zx4 q1 _)))
 obtain ⟨N,hN⟩:∃ N:Nat,Zbl a*Zbl a=N:=⟨(Zbl a*Zbl a).toNat,qo⟩
 have hN1:N<=256:=qo
 rw [hN] at hp ⊢
 go_wp2_with fail
 go_loopw [4] (λn_ wr=>∃ (m:Nat) (C:OA) (q:Nat) (px:List Int),m+px.length=N/\n_=.int .i64 m/\Zga px 0 256=true/\Own wr M 26 [.int .i64 a,.slice C px.length q]/\Own wr w.heap.size 26 [.int .i64 0,.slice none 0 0]/\Zaj wr (M+1) 3 1 C px.length q (ints px)/\Cur 125 wr g A c l/\Only M [g] u2 wr) (λn_ _=>(RowKit.intOf n_).toNat)
 case atStart=>exact ⟨N,none,0,[],qs,rfl,rfl,by rw [<- hM];exact Own.drewN (Own.new u2 _ #[_,_]) _,Own.drewN (HRB.out.alloc _) _,Zaj.nil _ _ _ _,(HC2.out.alloc _).drewN _,((Only.refl M [g] u2).alloc qo _).drewN _⟩
 case round =>
  obtain ⟨m,C,q,px,hmn,rfl,hal,ho,hrb,hgr,hc,hO⟩:=hrel
  have k0:=ho.cell 0
  have k1:=ho.cell 1
  have kf:=ho.frozen
  have hl:=ho.lt
  simp only [List.getElem?_cons_zero,List.getElem?_cons_succ] at k0 k1
  have hz:=hO.size
  have HRBr:=hdQ hrb
  have HOW:=hdQ ho
  have HG:=hdQ hgr
  have HCr:=hdQ hc
  have HO:=hdQ hO
  have HAL:=hdQ hal
  clear ho hgr hc hO hal hrb
  by_cases hlt:0<m
  ·have i1:(0:Int)<m:=by omega
   have hm1:IntKind.i64.wrap ((m:Int)-1)=((m-1:Nat):Int):=by rw [show (m:Int)-1=((m-1:Nat):Int) by omega];exact IntWalk.i64_in _ qo
   go_wp2_with fail
   refine Zbc (S:=(λw'=>w'.cell? ⟨M,1,none⟩=some (.slice C px.length q))) 10 kr (by (try dsimp only);go_simp) (λhHeld=>?_)
   refine tkM 0 ?_
   refine tkM 1 ?_
   refine tkM 2 ?_
   refine tkM 3 ?_
   refine Zaa (i:=4) rfl kr (λK4 hK4=>?_)
   go_simp
   refine (S_below4 (n:=257) _ (HCr.out.drew) qo).mono ?_
   rintro e x1 ⟨v,rfl,d1,d2,hcx,hOx⟩
   have hzx:=hOx.size
   (try simp at hzx)
   have hgx:Own x1 M 26 [.int .i64 a,.slice C px.length q]:=hOx.own (HOW.out.drew) hl (by simp;omega)
   have hgr1:Zaj x1 (M+1) 3 1 C px.length q (ints px):=Zaj.only HG.out.drew hOx (λx hx=>⟨HG.out.drew.lt x hx,by have:=HG.out.ge x hx;simp;omega⟩)
   have kx1:=hgx.cell 1
   simp only [List.getElem?_cons_zero,List.getElem?_cons_succ] at kx1
   have HX1:=hdQ hgx
   have HG1:=hdQ hgr1
   have HR1:=hdQ (hOx.own HRBr.out.drew (by simp;omega) (by simp;omega))
   have HC1x:=hdQ hcx
   have hlx:=hgx.lt
   have HOx:=qh (Only M [g] u2 x1) (Only.trans HO.out.drew hOx (by simp;omega) (λx hx=>hx))
   clear hgx hgr1 hcx hOx
   dsimp only
   refine hK4.out _ _ (λ_=>kx1) (λhHeld4=>?_)
   have hX4:=hHeld4 qd
   refine Zaa (i:=5) rfl kr (λK5 hK5=>?_)
   go_simp
   refine hK5.out _ _ (λ_=>by (try dsimp only);go_simp) (λhHeld5=>?_)
   have hX5:=hHeld5 qd
   refine Zaa (i:=6) rfl kr (λK6 hK6=>?_)
   go_simp
   refine (Zx1 (xs:=[0,256,v]) _ (HC1x.out.alloc _) (ltt 3) qs qo).mono ?_
   rintro e x2 ⟨u,hu,rfl,hcy,hOy⟩
   have hzy:=hOy.size
   (try simp at hzy)
   have hur:0<=u/\u<=256:=by
    simp only [List.mem_cons,List.not_mem_nil,or_false] at hu
    rcases hu with rfl|rfl|rfl<;>omega
   obtain ⟨ur1,ur2⟩:=hur
   have hgy:Own x2 M 26 [.int .i64 a,.slice C px.length q]:=hOy.own (HX1.out.alloc _) (by simp;omega) (by simp;omega)
   have ky1:=hgy.cell 1
   simp only [List.getElem?_cons_zero,List.getElem?_cons_succ] at ky1
   have HY1:=hdQ hgy
   have HG2:=qh (Zaj x2 (M+1) 3 1 C px.length q (ints px)) (Zaj.only (HG1.out.alloc _) hOy (λx hx=>⟨(HG1.out.alloc _).lt x hx,by have:=HG1.out.ge x hx;simp;omega⟩))
   have HR2:=hdQ (hOy.own (HR1.out.alloc _) (by simp;omega) (by simp;omega))
   have HC2x:=hdQ hcy
   have hly:=hgy.lt
   have HOy:=qh (Only M [g] u2 x2) (Only.trans (HOx.out.alloc qo _) hOy (by simp;omega) (λx hx=>hx))
   clear hgy hcy hOy hu
   dsimp only
   refine hK6.out _ _ (λ_=>ky1) (λhHeld6=>?_)
   have hX6:=hHeld6 qd
   refine Zaa (i:=7) rfl kr (λK7 hK7=>?_)
   go_simp
   have nMx:¬ M=x2.heap.size:=qo
   refine hK7.out _ _ (λ_=>by (try dsimp only);go_simp) (λhHeld7=>?_)
   have hX7:=hHeld7 qd
   refine Zaa (i:=8) rfl kr (λK8 hK8=>?_)
   (refine Zcs qr _ _ 24 qr (M+1) 3 (.int .i64 0) 1 8 Tryz.underlying24 T.infoInt rfl qd (xs:=ints px) qr ?_ (ys:=ints [u]) qr ?_ (Zc4 _) ?_ ?_ ?_ ?_;(exact (gwx HG2.out));(exact (ltt 1));(unfold maxLen;omega);(omega);(first|omega|(simp<;>omega));rintro A' c' w2 gA;have hgy:Own w2 M 26 [.int .i64 a,.slice C px.length q]:=Own.below (owx HY1.out) gA.2.1 (Nat.lt_succ_self _);have hgc:=hgy.cell 1;have hgf:=hgy.frozen 1;have hgs:=hgy.lt;have HO2':=hdQ hgy;have HG3:=hdQ gA.1;have HB3:=hdQ gA.2.1;clear gA hgy)
   refine hK8.out _ _ (λ_=>hgc) (λhHeld8=>?_)
   have hX8:=hHeld8 qd
   refine tkM 9 ?_
   refine Zaa (i:=10) rfl kr (λK10 hK10=>?_)
   go_simp
   refine hK10.out _ _ (λh=>absurd rfl h) (λhHeld10=>?_)
   refine Zbd kr ?_ _
   have HCy:=qh (Cur 125 w2 g A c l) (Cur.stepB (HC2x.out.alloc _) HB3.out qo)
   have HRy:=qh (Own w2 w.heap.size 26 [.int .i64 0,.slice none 0 0]) (Own.below (HR2.out.alloc _) HB3.out qo)
   have HOz:=qh (Only M [g] u2 w2) (Only.trans (HOy.out.alloc qo _) ((Only.of_below HB3.out [g]).mono qo (λx hx=>Or.inl hx)) (Nat.le_refl _) (λx hx=>hx))
   go_wp2_with fail
   go_roundw
   case rel=>exact ⟨m-1,A',c',px++[u],by simp;omega,qg,Zu2 HAL.out ur1 ur2,by have:=Own.set_ HO2'.out 1 (.slice A' (px.length+1) c');simpa using this,(HRy.out.far (p:=⟨M,1,none⟩) (by show w.heap.size≠M;omega) _),by have hg2:=HG3.out;rw [<- List.map_append] at hg2;simpa using hg2.far qs _,Cur.far HCy.out (by simpa using hgM) _,HOz.out.up (p:=⟨M,1,none⟩) (Nat.le_refl _) _⟩
   case measure=>exact qn
  ·obtain rfl:m=0:=by omega
   have i1:¬ (0:Int)<0:=qo
   have rb0:=HRBr.out.cell 0
   have rb1:=HRBr.out.cell 1
   have rbf:=HRBr.out.frozen
   have rbl:=HRBr.out.lt
   simp only [List.getElem?_cons_zero,List.getElem?_cons_succ] at rb0 rb1
   have hV:Zax a px=true:=by
    unfold Zax
    rw [q1,HAL.out]
    have:(px.length:Int)=Zbl a*Zbl a:=qo
    simp [this]
   have hnM:¬ M=w.heap.size:=qo
   go_wp2_with fail
   have HXF:=qh (Own ((wr.setCell ⟨w.heap.size,0,none⟩ (.int .i64 a)).setCell ⟨w.heap.size,1,none⟩ (.slice C px.length q)) w.heap.size 26 [.int .i64 a,.slice C px.length q]) ((HRBr.out.set_ 0 _).set_ 1 _)
   have y0:=HXF.out.cell 0
   have y1:=HXF.out.cell 1
   simp only [List.getElem?_cons_zero,List.getElem?_cons_succ] at y0 y1
   refine bodyPost_ret (v:=Zdw a (.slice C px.length q)) (by simp [results,Tryz.results146,go_sem, *]) rfl ?_
   refine ⟨a,px,C,q,rfl,hV, ?_,λx hx=>by have:=HG.out.ge x hx;omega,(HCr.out.far (p:=⟨w.heap.size,0,none⟩) (by show g<w.heap.size;omega) _).far (p:=⟨w.heap.size,1,none⟩) (by show g<w.heap.size;omega) _, ?_⟩
   ·have h0:=(HG.out.far (p:=⟨w.heap.size,0,none⟩) (by show w.heap.size<M+1;omega) (.int .i64 a))
    have h1:=(h0.far (p:=⟨w.heap.size,1,none⟩) (by show w.heap.size<M+1;omega) (.slice C px.length q))
    exact Zaj.ownS (base:=M+1) h1
   ·have h1:Only w.heap.size [g] w wr:=Only.trans HOW2.out (HO.out.mono qo (λx hx=>Or.inl hx)) (Nat.le_refl _) (λx hx=>hx)
    exact (h1.up (p:=⟨w.heap.size,0,none⟩) (Nat.le_refl _) _).up (p:=⟨w.heap.size,1,none⟩) (Nat.le_refl _) _
def VE (v:Zi8):Prop:=validV v.1 v.2.1 v.2.2=true
theorem Zfh {x y z:Int} (hx : -1000000<=x/\x<=1000000) (hy : -1000000<=y/\y<=1000000) (hz : -1000000<=z/\z<=1000000):validV x y z=true:=by
 unfold validV
 rw [cl_id hx,cl_id hy,cl_id hz];simp
theorem Zis {x y z:Int} (h:validV x y z=true):(-1000000<=x/\x<=1000000)/\(-1000000<=y/\y<=1000000)/\(-1000000<=z/\z<=1000000):=by
 unfold validV at h
 simp only [Bool.and_eq_true,decide_eq_true_eq] at h
 have a:=Ze4 x
 have b:=Ze4 y
 have c:=Ze4 z
 omega
theorem VE.zero:VE zV:=by unfold VE;decide
theorem Zsh (t:Int) : -9223372036854775808<=IntKind.i64.wrap t/\IntKind.i64.wrap t<=9223372036854775807:=by rw [IntKind.wrap_i64];omega
theorem S_AddV (a b c x y z:Int) (w:World) :
  CL 262 #[Zbi a b c,Zbi x y z] w λe w'=>∃ p q r,e=.returned (Zbi p q r)/\validV p q r=true/\Bw w w':=by
 have HV:=qh (∀ (a b c:Int) (wx:World),CL 218 #[Zbi a b c] wx λe w'=>∃ p q r,e=.returned (Zbi p q r)/\validV p q r=true/\Bw wx w') (λa b c wx=>(Zx9 a b c wx).mono (λe w' h=>⟨_,_,_,h.1,Zfh (Ze4 _) (Ze4 _) (Ze4 _),h.2⟩))
 go_enter Tryz.func262,Tryz.ntmps262
 go_wp2_with fail
 refine (HV.out _ _ _ _).mono ?_
 rintro e w1 ⟨p1,p2,p3,rfl,hv1,hb1⟩
 have hz1:=hb1.size
 (try simp at hz1)
 have HB1:=bh w hb1
 have HX1:=qh (Own w1 (w.heap.size+1) 40 [.int .i64 x,.int .i64 y,.int .i64 z]) (Own.step hb1 (Own.alloc (Own.at_new (cs := #[_,_,_]) qs) _))
 have HR1:=qh (Own w1 (w.heap.size+2) 40 [.int .i64 0,.int .i64 0,.int .i64 0]) (Own.step hb1 (Own.at_new (cs := #[_,_,_]) qs))
 have x0:=HX1.out.cell 0
 have x1:=HX1.out.cell 1
 have x2:=HX1.out.cell 2
 have xl:=HX1.out.lt
 have nx:¬ w.heap.size+1=w1.heap.size:=qo
 simp only [List.getElem?_cons_zero,List.getElem?_cons_succ] at x0 x1 x2
 clear hb1
 go_wp2_with fail
 refine (HV.out _ _ _ _).mono ?_
 rintro e w2 ⟨q1,q2,q3,rfl,hv2,hb2⟩
 have hz2:=hb2.size
 (try simp at hz2)
 have HB2:=bh w hb2
 have HP2:=qh (Own w2 w1.heap.size 40 [.int .i64 p1,.int .i64 p2,.int .i64 p3]) (Own.step hb2 (Own.new w1 _ #[_,_,_]))
 have HR2:=qh (Own w2 (w.heap.size+2) 40 [.int .i64 0,.int .i64 0,.int .i64 0]) (Own.step hb2 (HR1.out.alloc _))
 have y0:=HP2.out.cell 0
 have y1:=HP2.out.cell 1
 have y2:=HP2.out.cell 2
 have yl:=HP2.out.lt
 simp only [List.getElem?_cons_zero,List.getElem?_cons_succ] at y0 y1 y2
 have r1:=Zis hv1
 have r2:=Zis hv2
 have n1:¬ w1.heap.size=w2.heap.size:=qo
 have n2:¬ w2.heap.size=w1.heap.size:=qo
 clear hb2 x0 x1 x2 hv1 hv2
 go_wp2_with fail
 refine (HV.out _ _ _ _).mono ?_
 rintro e w3 ⟨s1,s2,s3,rfl,hv3,hb3⟩
 have hz3:=hb3.size
 (try simp at hz3)
 have HB3:=bh w hb3
 have HR3:=qh (Own w3 (w.heap.size+2) 40 [.int .i64 0,.int .i64 0,.int .i64 0]) (Own.step hb3 (HR2.out.alloc _))
 have z0:=HR3.out.cell 0
 have z1:=HR3.out.cell 1
 have z2:=HR3.out.cell 2
 have zf:=HR3.out.frozen
 have zl:=HR3.out.lt
 simp only [List.getElem?_cons_zero,List.getElem?_cons_succ] at z0 z1 z2
 clear hb3 y0 y1 y2
 go_wp2_with fail
 exact bodyPost_ret (v:=Zbi s1 s2 s3) (by simp [results,Tryz.results262,go_sem, *]) rfl ⟨s1,s2,s3,rfl,hv3,bll⟩
abbrev trI (v:Zi8):List Value:=[.int .i64 16,.int .i64 0,.int .i64 0,.int .i64 0,.int .i64 16,.int .i64 0,.int .i64 0,.int .i64 0,.int .i64 16,.int .i64 v.1,.int .i64 v.2.1,.int .i64 v.2.2]
theorem Zii (v:Zi8) (w:World) :
  CL 260 #[.agg ⟨trI v⟩] w λe w'=>∃ b,e=.returned (.bool b)/\Bw w w':=by
 obtain ⟨x,y,z⟩:=v
 have HI:=qh (∀ n:Int, -64<=n->n<=64->∀ wx,CL 119 #[.int .i64 n,.int .i64 (-64),.int .i64 64] wx λe w'=>e=.returned (.bool true)/\wx=w') (λn h1 h2 wx=>by have:=S_in n (-64) 64 wx;rwa [Zbw h1 h2] at this)
 have HV:=qh (∀ (wx:World),CR 164 #[Zbi x y z] wx (.bool (validV x y z))) (λwx=>Zji x y z wx)
 have ix0:∀ wx:World,(Instr.index 144 (.agg #[.int .i64 16,.int .i64 0,.int .i64 0,.int .i64 0,.int .i64 16,.int .i64 0,.int .i64 0,.int .i64 0,.int .i64 16]) (.int .i64 0)).run Tryz.prog wx=.ok (.int .i64 16) wx:=λwx=>by kernel_rfl
 have ix1:∀ wx:World,(Instr.index 144 (.agg #[.int .i64 16,.int .i64 0,.int .i64 0,.int .i64 0,.int .i64 16,.int .i64 0,.int .i64 0,.int .i64 0,.int .i64 16]) (.int .i64 1)).run Tryz.prog wx=.ok (.int .i64 0) wx:=λwx=>by kernel_rfl
 have ix2:∀ wx:World,(Instr.index 144 (.agg #[.int .i64 16,.int .i64 0,.int .i64 0,.int .i64 0,.int .i64 16,.int .i64 0,.int .i64 0,.int .i64 0,.int .i64 16]) (.int .i64 2)).run Tryz.prog wx=.ok (.int .i64 0) wx:=λwx=>by kernel_rfl
 have ix3:∀ wx:World,(Instr.index 144 (.agg #[.int .i64 16,.int .i64 0,.int .i64 0,.int .i64 0,.int .i64 16,.int .i64 0,.int .i64 0,.int .i64 0,.int .i64 16]) (.int .i64 3)).run Tryz.prog wx=.ok (.int .i64 0) wx:=λwx=>by kernel_rfl
 have ix4:∀ wx:World,(Instr.index 144 (.agg #[.int .i64 16,.int .i64 0,.int .i64 0,.int .i64 0,.int .i64 16,.int .i64 0,.int .i64 0,.int .i64 0,.int .i64 16]) (.int .i64 4)).run Tryz.prog wx=.ok (.int .i64 16) wx:=λwx=>by kernel_rfl
 have ix5:∀ wx:World,(Instr.index 144 (.agg #[.int .i64 16,.int .i64 0,.int .i64 0,.int .i64 0,.int .i64 16,.int .i64 0,.int .i64 0,.int .i64 0,.int .i64 16]) (.int .i64 5)).run Tryz.prog wx=.ok (.int .i64 0) wx:=λwx=>by kernel_rfl
 have ix6:∀ wx:World,(Instr.index 144 (.agg #[.int .i64 16,.int .i64 0,.int .i64 0,.int .i64 0,.int .i64 16,.int .i64 0,.int .i64 0,.int .i64 0,.int .i64 16]) (.int .i64 6)).run Tryz.prog wx=.ok (.int .i64 0) wx:=λwx=>by kernel_rfl
 have ix7:∀ wx:World,(Instr.index 144 (.agg #[.int .i64 16,.int .i64 0,.int .i64 0,.int .i64 0,.int .i64 16,.int .i64 0,.int .i64 0,.int .i64 0,.int .i64 16]) (.int .i64 7)).run Tryz.prog wx=.ok (.int .i64 0) wx:=λwx=>by kernel_rfl
 have ix8:∀ wx:World,(Instr.index 144 (.agg #[.int .i64 16,.int .i64 0,.int .i64 0,.int .i64 0,.int .i64 16,.int .i64 0,.int .i64 0,.int .i64 0,.int .i64 16]) (.int .i64 8)).run Tryz.prog wx=.ok (.int .i64 16) wx:=λwx=>by kernel_rfl
 go_enter Tryz.func260,Tryz.ntmps260
 go_wp2_with fail
 refine wp_loop_rounds 10 ?_
 iterate 10 (rw [rounds_succ];go_wp2_with (first|(go_at_call 119;(with_reducible refine (HI.out _ qd qd _).mono ?_);rintro e w' ⟨rfl,rfl⟩)|fail))
 refine (HV.out _).mono ?_
 rintro e w1 ⟨rfl,hb1⟩
 have HB1:=bh w hb1
 clear hb1
 go_wp2_with fail
 go_ret
 exact ⟨_,rfl,bll⟩
set_option maxHeartbeats 32000000 in
theorem S_Apply (o:Zi8) (a b c:Int) (w:World) (hv:validV a b c=true) :
  CL 217 #[.agg ⟨trI o⟩,Zbi a b c] w λe w'=>∃ p q r,e=.returned (Zbi p q r)/\validV p q r=true/\Bw w w':=by
 have HIV:=qh (∀ wx,CL 260 #[.agg ⟨trI o⟩] wx λe w'=>∃ b,e=.returned (.bool b)/\Bw wx w') (λwx=>Zii o wx)
 have HAD:=qh (∀ (a b c x y z:Int) (wx:World),CL 262 #[Zbi a b c,Zbi x y z] wx λe w'=>∃ p q r,e=.returned (Zbi p q r)/\validV p q r=true/\Bw wx w') (λa b c x y z wx=>S_AddV a b c x y z wx)
 have HLV:=qh (∀ (a b c:Int) (wx:World),CL 218 #[Zbi a b c] wx λe w'=>∃ p q r,e=.returned (Zbi p q r)/\validV p q r=true/\Bw wx w') (λa b c wx=>(Zx9 a b c wx).mono (λe w' h=>⟨_,_,_,h.1,Zfh (Ze4 _) (Ze4 _) (Ze4 _),h.2⟩))
 have HVA:=hdQ hv
 clear hv
 obtain ⟨ox,oy,oz⟩:=o
 unfold trI at *
 dsimp only at *
 go_enter Tryz.func217,Tryz.ntmps217
 go_wp2_with fail
 refine (HIV.out _).mono ?_
 rintro e w1 ⟨bo,rfl,hb1⟩
 have hz1:=hb1.size
 (try simp at hz1)
 have HB1:=bh w hb1
 have HT1:=qh (Own w1 w.heap.size 146 [.int .i64 16,.int .i64 0,.int .i64 0,.int .i64 0,.int .i64 16,.int .i64 0,.int .i64 0,.int .i64 0,.int .i64 16,.int .i64 ox,.int .i64 oy,.int .i64 oz]) (Own.step hb1 (Own.alloc (Own.alloc (Own.at_new (cs := #[_,_,_,_,_,_,_,_,_,_,_,_]) qs) _) _))
 have HX1:=qh (Own w1 (w.heap.size+1) 40 [.int .i64 a,.int .i64 b,.int .i64 c]) (Own.step hb1 (Own.alloc (Own.at_new (cs := #[_,_,_]) qs) _))
 have HR1:=qh (Own w1 (w.heap.size+2) 40 [.int .i64 0,.int .i64 0,.int .i64 0]) (Own.step hb1 (Own.at_new (cs := #[_,_,_]) qs))
 have x0:=HX1.out.cell 0
 have x1:=HX1.out.cell 1
 have x2:=HX1.out.cell 2
 have xl:=HX1.out.lt
 have z0:=HR1.out.cell 0
 have z1:=HR1.out.cell 1
 have z2:=HR1.out.cell 2
 have zf:=HR1.out.frozen
 have zl:=HR1.out.lt
 simp only [List.getElem?_cons_zero,List.getElem?_cons_succ] at x0 x1 x2 z0 z1 z2
 clear hb1
 cases bo with
 | false =>
  go_wp2_with fail
  exact bodyPost_ret (v:=Zbi a b c) (by simp [results,Tryz.results217,go_sem, *]) rfl ⟨a,b,c,rfl,HVA.out,bll⟩
 | true =>
  clear z0 z1 z2 zf zl
  go_wp2_with fail
  refine (HLV.out _ _ _ _).mono ?_
  rintro e w2 ⟨ya,yb,yc,rfl,hy,hb2⟩
  have hz2:=hb2.size
  (try simp at hz2)
  obtain ⟨⟨ya1,ya2⟩,⟨yb1,yb2⟩,yc1,yc2⟩:=Zis hy
  have HB2:=qh (Bw w w2) (Below.step hb2 HB1.out qo)
  obtain ⟨Y,hY⟩:∃ Y,Y=w2.heap.size:=⟨_,rfl⟩
  obtain ⟨w3,hw3⟩:∃ w3,w3=(w2.alloc (.cells #[.int .i64 ya,.int .i64 yb,.int .i64 yc] 40)).alloc (.cells #[.int .i64 0,.int .i64 0,.int .i64 0] 3):=⟨_,rfl⟩
  have HB3:=qh (Bw w w3) (by rw [hw3];exact (HB2.out.alloc qo _).alloc (by simp;omega) _)
  have HT3:=qh (Own w3 w.heap.size 146 [.int .i64 16,.int .i64 0,.int .i64 0,.int .i64 0,.int .i64 16,.int .i64 0,.int .i64 0,.int .i64 0,.int .i64 16,.int .i64 ox,.int .i64 oy,.int .i64 oz]) (by rw [hw3];exact Own.alloc (Own.alloc (Own.step hb2 HT1.out) _) _)
  have HR3:=qh (Own w3 (w.heap.size+2) 40 [.int .i64 0,.int .i64 0,.int .i64 0]) (by rw [hw3];exact Own.alloc (Own.alloc (Own.step hb2 HR1.out) _) _)
  have HY3:=qh (Own w3 Y 40 [.int .i64 ya,.int .i64 yb,.int .i64 yc]) (by rw [hw3,hY];exact Own.alloc (Own.new w2 _ #[_,_,_]) _)
  have HP3:=qh (Own w3 (Y+1) 3 [.int .i64 0,.int .i64 0,.int .i64 0]) (by rw [hw3,hY];exact Own.at_new (cs := #[_,_,_]) qs)
  have hyl:w.heap.size+2<Y:=qo
  have HAL:=qh ((w2.alloc (.cells #[.int .i64 ya,.int .i64 yb,.int .i64 yc] 40)).alloc (.cells #[.int .i64 0,.int .i64 0,.int .i64 0] 3)=w3) hw3.symm
  clear hb2 hw3 x0 x1 x2 xl hy
  go_wp2_with fail
  rw [HAL.out,<- hY]
  clear HAL hY
  have IX:=qh (∀ k:Nat,k<9->∀ wx:World,(Instr.indexAt 144 (.pointer (some ⟨w.heap.size,0,none⟩)) (.int .i64 (k:Int))).run Tryz.prog wx=.ok (.pointer (some ⟨w.heap.size,k,none⟩)) wx) (λk hk wx=>by
   have i0:(0:Int)<=k:=qo
   have i1:(k:Int)<9:=qo
   go_simp)
  have IP:=qh (∀ k:Nat,k<3->∀ wx:World,(Instr.indexAt 24 (.slice (some ⟨Y+1,0,none⟩) 3 3) (.int .i64 (k:Int))).run Tryz.prog wx=.ok (.pointer (some ⟨Y+1,k,none⟩)) wx) (λk hk wx=>by
   have i0:(0:Int)<=k:=qo
   have i1:(k:Int)<3:=qo
   go_simp)
  go_loopw [7,17] (λ_ i_ wr=>∃ (k:Nat),k<=3/\i_=.int .i64 k/\(∃ p0 p1 p2:Int,Own wr (Y+1) 3 [.int .i64 p0,.int .i64 p1,.int .i64 p2])/\Own wr w.heap.size 146 [.int .i64 16,.int .i64 0,.int .i64 0,.int .i64 0,.int .i64 16,.int .i64 0,.int .i64 0,.int .i64 0,.int .i64 16,.int .i64 ox,.int .i64 oy,.int .i64 oz]/\Own wr Y 40 [.int .i64 ya,.int .i64 yb,.int .i64 yc]/\Own wr (w.heap.size+2) 40 [.int .i64 0,.int .i64 0,.int .i64 0]/\Bw w wr) (λ_ i_ _=>3-(RowKit.intOf i_).toNat)
  case atStart=>exact ⟨0,Nat.zero_le _,rfl,⟨_,_,_,HP3.out⟩,HT3.out,HY3.out,HR3.out,HB3.out⟩
  case round =>
   obtain ⟨k,hk,rfl,⟨q0,q1,q2,hp⟩,ht,hy,hr,hb⟩:=hrel
   have HPr:=hdQ hp
   have HTr:=hdQ ht
   have HYr:=hdQ hy
   have HRr:=hdQ hr
   have HBr:=hdQ hb
   have hyl2:=hy.lt
   clear hp ht hy hr hb HP3 HT3 HY3 HR3 HB3
   by_cases hlt:k<3
   ·have i1:(k:Int)<3:=by omega
    obtain ⟨m0,m1,m2,t0,t1,t2⟩:∃ m0 m1 m2:Int,wr.cell? ⟨w.heap.size,3*k,none⟩=some (.int .i64 m0)/\wr.cell? ⟨w.heap.size,3*k+1,none⟩=some (.int .i64 m1)/\wr.cell? ⟨w.heap.size,3*k+2,none⟩=some (.int .i64 m2):=by
     rcases (show k=0∨k=1∨k=2 by omega) with rfl|rfl|rfl<;>exact ⟨_,_,_,HTr.out.cell _,HTr.out.cell _,HTr.out.cell _⟩
    obtain ⟨qk,p0⟩:∃ qk:Int,wr.cell? ⟨Y+1,k,none⟩=some (.int .i64 qk):=by
     rcases (show k=0∨k=1∨k=2 by omega) with rfl|rfl|rfl<;>exact ⟨_,HPr.out.cell _⟩
    have y0:=HYr.out.cell 0
    have y1:=HYr.out.cell 1
    have y2:=HYr.out.cell 2
    have pf:=HPr.out.frozen
    simp only [List.getElem?_cons_zero,List.getElem?_cons_succ] at y0 y1 y2
    have e0:IntKind.i64.wrap (3*(k:Int))=((3*k:Nat):Int):=by rw [show (3*(k:Int))=((3*k:Nat):Int) by simp];exact IntWalk.i64_in _ qo
    have e1:IntKind.i64.wrap (((3*k:Nat):Int)+1)=((3*k:Nat):Int)+1:=IntWalk.i64_in _ qo
    have e2:IntKind.i64.wrap (((3*k:Nat):Int)+2)=((3*k:Nat):Int)+2:=IntWalk.i64_in _ qo
    have ix0:=IX.out (3*k) qo
    have ix1:=IX.out (3*k+1) qo
    have ix2:=IX.out (3*k+2) qo
    rw [show ((3*k+1:Nat):Int)=((3*k:Nat):Int)+1 from rfl] at ix1
    rw [show ((3*k+2:Nat):Int)=((3*k:Nat):Int)+2 from rfl] at ix2
    have ip:=IP.out k hlt
    have HSET:=qh (∀ (wx:World) (u:Int),Own wx (Y+1) 3 [.int .i64 q0,.int .i64 q1,.int .i64 q2]->∃ a b c:Int,Own (wx.setCell ⟨Y+1,k,none⟩ (.int .i64 u)) (Y+1) 3 [.int .i64 a,.int .i64 b,.int .i64 c]) (λwx u h=>by
     have:=h.set_ k (.int .i64 u)
     rcases (show k=0∨k=1∨k=2 by omega) with rfl|rfl|rfl<;>exact ⟨_,_,_,this⟩)
    obtain ⟨K3,hK3⟩:∃ K3,K3=3*k:=⟨_,rfl⟩
    rw [<- hK3] at e0 e1 e2 ix0 ix1 ix2 t0 t1 t2
    clear hK3
    go_wp2_with fail
    go_region_held3 (λw'=>w'.cell? ⟨w.heap.size,K3,none⟩=some (.int .i64 m0)/\w'.cell? ⟨w.heap.size,K3+1,none⟩=some (.int .i64 m1)/\w'.cell? ⟨w.heap.size,K3+2,none⟩=some (.int .i64 m2)/\w'.cell? ⟨Y,0,none⟩=some (.int .i64 ya)/\w'.cell? ⟨Y,1,none⟩=some (.int .i64 yb)/\w'.cell? ⟨Y,2,none⟩=some (.int .i64 yc))
     (first|((try dsimp only);refine ⟨?_, ?_, ?_, ?_, ?_, ?_⟩<;>(go_simp;done))|go_keep)
     (first|(go_at_call 261;(with_reducible refine (Zu9 _ (by first|exact (Zsh _).1|omega) (by first|exact (Zsh _).2|omega)).mono ?_);rintro e w' ⟨rfl,rfl⟩)|fail)
    all_goals
     go_wp2_with fail
     go_roundw
     case rel=>exact ⟨k+1,qo,qg,HSET.out _ _ (owx HPr.out),(owx HTr.out),(owx HYr.out),(owx HRr.out),bll⟩
     case measure=>exact qn
   ·obtain rfl:k=3:=by omega
    have y0:=HPr.out.cell 0
    have y1:=HPr.out.cell 1
    have y2:=HPr.out.cell 2
    have o0:=HTr.out.cell 9
    have o1:=HTr.out.cell 10
    have o2:=HTr.out.cell 11
    simp only [List.getElem?_cons_zero,List.getElem?_cons_succ] at y0 y1 y2 o0 o1 o2
    have ip0:=IP.out 0 qo
    have ip1:=IP.out 1 qo
    have ip2:=IP.out 2 qo
    have z0:=HRr.out.cell 0
    have z1:=HRr.out.cell 1
    have z2:=HRr.out.cell 2
    have zf:=HRr.out.frozen
    have zl:=HRr.out.lt
    simp only [List.getElem?_cons_zero,List.getElem?_cons_succ] at z0 z1 z2
    go_wp2_with fail
    refine Zbc (S:=(λw'=>w'.cell? ⟨Y+1,0,none⟩=some (.int .i64 q0)/\w'.cell? ⟨Y+1,1,none⟩=some (.int .i64 q1)/\w'.cell? ⟨Y+1,2,none⟩=some (.int .i64 q2)/\w'.cell? ⟨w.heap.size,9,none⟩=some (.int .i64 ox)/\w'.cell? ⟨w.heap.size,10,none⟩=some (.int .i64 oy)/\w'.cell? ⟨w.heap.size,11,none⟩=some (.int .i64 oz))) 13 kr (by (try dsimp only);refine ⟨?_, ?_, ?_, ?_, ?_, ?_⟩<;>(go_simp;done)) (λhHeld=>?_)
    show Zar _ _ _ _ _ _ (13+1) _ _ _
    refine tkM 0 ?_
    show Zar _ _ _ _ _ _ (12+1) _ _ _
    refine tkM 1 ?_
    show Zar _ _ _ _ _ _ (11+1) _ _ _
    refine tkM 2 ?_
    show Zar _ _ _ _ _ _ (10+1) _ _ _
    refine tkM 3 ?_
    show Zar _ _ _ _ _ _ (9+1) _ _ _
    refine tkM 4 ?_
    show Zar _ _ _ _ _ _ (8+1) _ _ _
    refine tkM 5 ?_
    show Zar _ _ _ _ _ _ (7+1) _ _ _
    refine tkM 6 ?_
    show Zar _ _ _ _ _ _ (6+1) _ _ _
    refine tkM 7 ?_
    show Zar _ _ _ _ _ _ (5+1) _ _ _
    refine tkM 8 ?_
    show Zar _ _ _ _ _ _ (4+1) _ _ _
    refine tkM 9 ?_
    show Zar _ _ _ _ _ _ (3+1) _ _ _
    refine tkM 10 ?_
    show Zar _ _ _ _ _ _ (2+1) _ _ _
    refine tkM 11 ?_
    show Zar _ _ _ _ _ _ (1+1) _ _ _
    refine Zaa (i:=12) rfl kr (λK30 hK30=>?_)
    go_simp
    refine (HAD.out _ _ _ _ _ _ _).mono ?_
    rintro e w4 ⟨s0,s1,s2,rfl,hvs,hb4⟩
    have hz4:=hb4.size
    (try simp at hz4)
    have HB4:=bh w hb4
    have HR4:=qh (Own w4 (w.heap.size+2) 40 [.int .i64 0,.int .i64 0,.int .i64 0]) (Own.step hb4 (owx HRr.out))
    have HP4:=(Own.step hb4 (show Own wr.drew _ _ _ from HPr.out))
    have HT4:=(Own.step hb4 (show Own wr.drew _ _ _ from HTr.out))
    refine hK30.out _ _ (λ_=>⟨HP4.cell 0,HP4.cell 1,HP4.cell 2,HT4.cell 9,HT4.cell 10,HT4.cell 11⟩) (λhHeld30=>?_)
    clear hb4 HP4 HT4 hHeld hHeld30 y0 y1 y2 o0 o1 o2 z0 z1 z2 zf zl
    have z0:=HR4.out.cell 0
    have z1:=HR4.out.cell 1
    have z2:=HR4.out.cell 2
    have zf:=HR4.out.frozen
    have zl:=HR4.out.lt
    simp only [List.getElem?_cons_zero,List.getElem?_cons_succ] at z0 z1 z2
    refine Zaa (i:=13) rfl kr (λK32 hK32=>?_)
    go_simp
    refine hK32.out _ _ (λh=>absurd rfl h) (λhHeld32=>?_)
    refine Zbd kr ?_ _
    go_wp2_with fail
    exact bodyPost_ret (v:=Zbi s0 s1 s2) (by simp [results,Tryz.results217,go_sem, *]) rfl ⟨s0,s1,s2,rfl,hvs,bll⟩
theorem Zva (o:Zi8) (a b c:Int) (tb k:Nat) (w:World) (hr:RS w 12 (some ⟨tb,0,none⟩) 1 k (trI o)) (hv:validV a b c=true) :
  CL 162 #[.slice (some ⟨tb,0,none⟩) 1 k,Zbi a b c] w λe w'=>∃ p q r,e=.returned (Zbi p q r)/\validV p q r=true/\Bw w w':=by
 have HAP:=qh (∀ (wx:World),CL 217 #[.agg ⟨trI o⟩,Zbi a b c] wx λe w'=>∃ p q r,e=.returned (Zbi p q r)/\validV p q r=true/\Bw wx w') (λwx=>S_Apply o a b c wx hv)
 obtain ⟨h1,h2,h3⟩:=hr.open_
 obtain ⟨b',o',e,hbl,hcell⟩:=h3 qo
 injection e with e
 injection e with e1 e2
 subst e1;subst e2
 obtain ⟨ox,oy,oz⟩:=o
 have c0:=hcell 0 qo
 have c1:=hcell 1 qo
 have c2:=hcell 2 qo
 have c3:=hcell 3 qo
 have c4:=hcell 4 qo
 have c5:=hcell 5 qo
 have c6:=hcell 6 qo
 have c7:=hcell 7 qo
 have c8:=hcell 8 qo
 have c9:=hcell 9 qo
 have c10:=hcell 10 qo
 have c11:=hcell 11 qo
 simp only [Nat.zero_add,List.getElem?_cons_zero,List.getElem?_cons_succ] at c0 c1 c2 c3 c4 c5 c6 c7 c8 c9 c10 c11
 unfold trI at *
 dsimp only at *
 clear hcell hr h3
 have hne:¬ tb=w.heap.size:=qo
 have hne1:¬ tb=w.heap.size+1:=qo
 have hne2:¬ tb=w.heap.size+2:=qo
 go_enter Tryz.func162,Tryz.ntmps162
 go_wp2_with fail
 refine wp_loop_rounds 2 ?_
 rw [rounds_succ]
 go_wp2_with fail
 refine (HAP.out _).mono ?_
 rintro e w1 ⟨p,q,r,rfl,hv1,hb1⟩
 have hz1:=hb1.size
 (try simp at hz1)
 have HB1:=bh w hb1
 have HX1:=qh (Own w1 w.heap.size 40 [.int .i64 a,.int .i64 b,.int .i64 c]) (Own.step hb1 (Own.alloc (Own.alloc (Own.at_new (cs := #[_,_,_]) qs) _) _))
 have HR1:=qh (Own w1 (w.heap.size+1) 40 [.int .i64 0,.int .i64 0,.int .i64 0]) (Own.step hb1 (Own.alloc (Own.at_new (cs := #[_,_,_]) qs) _))
 have x0:=HX1.out.cell 0
 have x1:=HX1.out.cell 1
 have x2:=HX1.out.cell 2
 have xf:=HX1.out.frozen
 have xl:=HX1.out.lt
 have z0:=HR1.out.cell 0
 have z1:=HR1.out.cell 1
 have z2:=HR1.out.cell 2
 have zf:=HR1.out.frozen
 have zl:=HR1.out.lt
 simp only [List.getElem?_cons_zero,List.getElem?_cons_succ] at x0 x1 x2 z0 z1 z2
 clear hb1 c0 c1 c2 c3 c4 c5 c6 c7 c8 c9 c10 c11
 go_wp2_with fail
 rw [rounds_succ]
 go_wp2_with fail
 exact bodyPost_ret (v:=Zbi p q r) (by simp [results,Tryz.results162,go_sem, *]) rfl ⟨p,q,r,rfl,hv1,bll⟩
theorem Zn9 (a b c:Int) (w:World) :
  CL 106 #[Zbi a b c] w λe w'=>∃ o:Zi8,e=.returned (.agg ⟨trI o⟩)/\Bw w w':=by
 have HVV:=qh (∀ wx,CR 164 #[Zbi a b c] wx (.bool (validV a b c))) (λwx=>Zji a b c wx)
 have HID:=qh (∀ wx,CR 163 #[] wx (.agg #[.int .i64 16,.int .i64 0,.int .i64 0,.int .i64 0,.int .i64 16,.int .i64 0,.int .i64 0,.int .i64 0,.int .i64 16,.int .i64 0,.int .i64 0,.int .i64 0])) (λw=>by
  go_enter Tryz.func163,Tryz.ntmps163
  go_wp2_with fail
  exact bodyPost_ret (v:=.agg #[.int .i64 16,.int .i64 0,.int .i64 0,.int .i64 0,.int .i64 16,.int .i64 0,.int .i64 0,.int .i64 0,.int .i64 16,.int .i64 0,.int .i64 0,.int .i64 0]) (by simp [results,Tryz.results163,go_sem, *]) rfl ⟨rfl,bll⟩)
 generalize validV a b c=vb at *
 go_enter Tryz.func106,Tryz.ntmps106
 go_wp2_with fail
 refine (HID.out _).mono ?_
 rintro e w1 ⟨rfl,hb1⟩
 have hz1:=hb1.size
 (try simp at hz1)
 have HB1:=bh w hb1
 have HX1:=qh (Own w1 w.heap.size 40 [.int .i64 a,.int .i64 b,.int .i64 c]) (Own.step hb1 (Own.alloc (Own.at_new (cs := #[_,_,_]) qs) _))
 have HR1:=qh (Own w1 (w.heap.size+1) 146 [.int .i64 0,.int .i64 0,.int .i64 0,.int .i64 0,.int .i64 0,.int .i64 0,.int .i64 0,.int .i64 0,.int .i64 0,.int .i64 0,.int .i64 0,.int .i64 0]) (Own.step hb1 (Own.at_new (cs := #[_,_,_,_,_,_,_,_,_,_,_,_]) qs))
 have x0:=HX1.out.cell 0
 have x1:=HX1.out.cell 1
 have x2:=HX1.out.cell 2
 have xl:=HX1.out.lt
 have nx:¬ w.heap.size=w1.heap.size:=qo
 simp only [List.getElem?_cons_zero,List.getElem?_cons_succ] at x0 x1 x2
 clear hb1
 go_wp2_with fail
 refine (HVV.out _).mono ?_
 rintro e w2 ⟨rfl,hb2⟩
 have hz2:=hb2.size
 (try simp at hz2)
 have HB2:=bh w hb2
 have HX2:=hdQ (Own.step hb2 (HX1.out.alloc (.cells #[.int .i64 16,.int .i64 0,.int .i64 0,.int .i64 0,.int .i64 16,.int .i64 0,.int .i64 0,.int .i64 0,.int .i64 16,.int .i64 0,.int .i64 0,.int .i64 0] 146)))
 have HR2:=hdQ (Own.step hb2 (HR1.out.alloc (.cells #[.int .i64 16,.int .i64 0,.int .i64 0,.int .i64 0,.int .i64 16,.int .i64 0,.int .i64 0,.int .i64 0,.int .i64 16,.int .i64 0,.int .i64 0,.int .i64 0] 146)))
 have HT2:=qh (Own w2 w1.heap.size 146 [.int .i64 16,.int .i64 0,.int .i64 0,.int .i64 0,.int .i64 16,.int .i64 0,.int .i64 0,.int .i64 0,.int .i64 16,.int .i64 0,.int .i64 0,.int .i64 0]) (Own.step hb2 (Own.new w1 _ #[_,_,_,_,_,_,_,_,_,_,_,_]))
 clear x0 x1 x2 xl
 have x0:=HX2.out.cell 0
 have x1:=HX2.out.cell 1
 have x2:=HX2.out.cell 2
 have xl:=HX2.out.lt
 simp only [List.getElem?_cons_zero,List.getElem?_cons_succ] at x0 x1 x2
 have t:=HT2.out.cell
 have t0:=t 0
 have t1:=t 1
 have t2:=t 2
 have t3:=t 3
 have t4:=t 4
 have t5:=t 5
 have t6:=t 6
 have t7:=t 7
 have t8:=t 8
 have t9:=t 9
 have t10:=t 10
 have t11:=t 11
 have tf:=HT2.out.frozen
 have tl:=HT2.out.lt
 have r:=HR2.out.cell
 have r0:=r 0
 have r1:=r 1
 have r2:=r 2
 have r3:=r 3
 have r4:=r 4
 have r5:=r 5
 have r6:=r 6
 have r7:=r 7
 have r8:=r 8
 have r9:=r 9
 have r10:=r 10
 have r11:=r 11
 have rf:=HR2.out.frozen
 have rl:=HR2.out.lt
 have nr:¬ w.heap.size+1=w1.heap.size:=qo
 simp only [List.getElem?_cons_zero,List.getElem?_cons_succ] at t0 t1 t2 t3 t4 t5 t6 t7 t8 t9 t10 t11 r0 r1 r2 r3 r4 r5 r6 r7 r8 r9 r10 r11
 clear t r hb2
 cases vb with
 | false =>
  go_wp2_with fail
  exact bodyPost_ret (v:=.agg ⟨trI (0,0,0)⟩) (by simp [results,Tryz.results106,go_sem, *]) rfl ⟨(0,0,0),rfl,bll⟩
 | true =>
  go_wp2_with fail
  exact bodyPost_ret (v:=.agg ⟨trI (a,b,c)⟩) (by simp [results,Tryz.results106,go_sem, *]) rfl ⟨(a,b,c),rfl,bll⟩
abbrev vPt (a b c d:Zi8):Value:=.agg #[.int .i64 a.1,.int .i64 a.2.1,.int .i64 a.2.2,.int .i64 b.1,.int .i64 b.2.1,.int .i64 b.2.2,.int .i64 c.1,.int .i64 c.2.1,.int .i64 c.2.2,.int .i64 d.1,.int .i64 d.2.1,.int .i64 d.2.2]
theorem Zjp (o a b c d:Zi8) (tb k:Nat) (w:World) (hr:RS w 12 (some ⟨tb,0,none⟩) 1 k (trI o)) (ha:VE a) (hb:VE b) (hc:VE c) (hd:VE d) :
  CL 105 #[.slice (some ⟨tb,0,none⟩) 1 k,vPt a b c d] w λe w'=>∃ a' b' c' d':Zi8,e=.returned (vPt a' b' c' d')/\VE a'/\VE b'/\VE c'/\VE d'/\Bw w w':=by
 have HAA:=qh (∀ (x y z:Int) (wx:World),Bw w wx->validV x y z=true->CL 162 #[.slice (some ⟨tb,0,none⟩) 1 k,Zbi x y z] wx λe w'=>∃ p q r,e=.returned (Zbi p q r)/\validV p q r=true/\Bw wx w') (λx y z wx hbx hv=>Zva o x y z tb k wx (RS.step hbx hr) hv)
 have HVE:=hdQ (And.intro ha (And.intro hb (And.intro hc hd)))
 obtain ⟨a0,a1,a2⟩:=a
 obtain ⟨b0,b1,b2⟩:=b
 obtain ⟨c0,c1,c2⟩:=c
 obtain ⟨d0,d1,d2⟩:=d
 unfold VE at HVE
 clear hr ha hb hc hd
 unfold vPt
 dsimp only at *
 have ix0:∀ wx:World,(Instr.index 41 (.agg #[.int .i64 a0,.int .i64 a1,.int .i64 a2,.int .i64 b0,.int .i64 b1,.int .i64 b2,.int .i64 c0,.int .i64 c1,.int .i64 c2,.int .i64 d0,.int .i64 d1,.int .i64 d2]) (.int .i64 0)).run Tryz.prog wx=.ok (Zbi a0 a1 a2) wx:=λwx=>by kernel_rfl
 have ix1:∀ wx:World,(Instr.index 41 (.agg #[.int .i64 a0,.int .i64 a1,.int .i64 a2,.int .i64 b0,.int .i64 b1,.int .i64 b2,.int .i64 c0,.int .i64 c1,.int .i64 c2,.int .i64 d0,.int .i64 d1,.int .i64 d2]) (.int .i64 1)).run Tryz.prog wx=.ok (Zbi b0 b1 b2) wx:=λwx=>by kernel_rfl
 have ix2:∀ wx:World,(Instr.index 41 (.agg #[.int .i64 a0,.int .i64 a1,.int .i64 a2,.int .i64 b0,.int .i64 b1,.int .i64 b2,.int .i64 c0,.int .i64 c1,.int .i64 c2,.int .i64 d0,.int .i64 d1,.int .i64 d2]) (.int .i64 2)).run Tryz.prog wx=.ok (Zbi c0 c1 c2) wx:=λwx=>by kernel_rfl
 have ix3:∀ wx:World,(Instr.index 41 (.agg #[.int .i64 a0,.int .i64 a1,.int .i64 a2,.int .i64 b0,.int .i64 b1,.int .i64 b2,.int .i64 c0,.int .i64 c1,.int .i64 c2,.int .i64 d0,.int .i64 d1,.int .i64 d2]) (.int .i64 3)).run Tryz.prog wx=.ok (Zbi d0 d1 d2) wx:=λwx=>by kernel_rfl
 go_enter Tryz.func105,Tryz.ntmps105
 go_wp2_with fail
 refine wp_loop_rounds 5 ?_
 rw [rounds_succ]
 go_wp2_with fail
 refine (HAA.out _ _ _ _ bll (HVE.out.1)).mono ?_
 rintro e w1 ⟨p0,q0,r0,rfl,hv0,hb⟩
 have hz1:=hb.size
 (try simp at hz1)
 have HB1:=bh w hb
 have HR1:=qh (Own w1 (w.heap.size+1) 43 [.int .i64 0,.int .i64 0,.int .i64 0,.int .i64 0,.int .i64 0,.int .i64 0,.int .i64 0,.int .i64 0,.int .i64 0,.int .i64 0,.int .i64 0,.int .i64 0]) (Own.step hb (Own.alloc (Own.alloc (Own.at_new (cs := #[_,_,_,_,_,_,_,_,_,_,_,_]) qs) _) _))
 have HO1:=qh (Own w1 (w.heap.size+2) 43 [.int .i64 a0,.int .i64 a1,.int .i64 a2,.int .i64 b0,.int .i64 b1,.int .i64 b2,.int .i64 c0,.int .i64 c1,.int .i64 c2,.int .i64 d0,.int .i64 d1,.int .i64 d2]) (Own.step hb (Own.alloc (Own.at_new (cs := #[_,_,_,_,_,_,_,_,_,_,_,_]) qs) _))
 have o0:=HO1.out.cell 0
 have o1:=HO1.out.cell 1
 have o2:=HO1.out.cell 2
 have o3:=HO1.out.cell 3
 have o4:=HO1.out.cell 4
 have o5:=HO1.out.cell 5
 have o6:=HO1.out.cell 6
 have o7:=HO1.out.cell 7
 have o8:=HO1.out.cell 8
 have o9:=HO1.out.cell 9
 have o10:=HO1.out.cell 10
 have o11:=HO1.out.cell 11
 simp only [List.getElem?_cons_zero,List.getElem?_cons_succ] at o0 o1 o2 o3 o4 o5 o6 o7 o8 o9 o10 o11
 have of:=HO1.out.frozen
 have ol:=HO1.out.lt
 clear hb
 go_wp2_with fail
 rw [rounds_succ]
 go_wp2_with fail
 refine (HAA.out _ _ _ _ bll (HVE.out.2.1)).mono ?_
 rintro e w2 ⟨p1,q1,r1,rfl,hv1,hb⟩
 have hz2:=hb.size
 (try simp at hz2)
 have HB2:=bh w hb
 have HR2:=hdQ (Own.step hb (show Own _ (w.heap.size+1) 43 [.int .i64 0,.int .i64 0,.int .i64 0,.int .i64 0,.int .i64 0,.int .i64 0,.int .i64 0,.int .i64 0,.int .i64 0,.int .i64 0,.int .i64 0,.int .i64 0] from (owx HR1.out)))
 have HO2:=hdQ (Own.step hb (show Own _ (w.heap.size+2) 43 [.int .i64 p0,.int .i64 q0,.int .i64 r0,.int .i64 b0,.int .i64 b1,.int .i64 b2,.int .i64 c0,.int .i64 c1,.int .i64 c2,.int .i64 d0,.int .i64 d1,.int .i64 d2] from Own.alloc (Own.set_ (Own.set_ (Own.set_ HO1.out 0 _) 1 _) 2 _) _))
 clear o0 o1 o2 o3 o4 o5 o6 o7 o8 o9 o10 o11 of ol
 have o0:=HO2.out.cell 0
 have o1:=HO2.out.cell 1
 have o2:=HO2.out.cell 2
 have o3:=HO2.out.cell 3
 have o4:=HO2.out.cell 4
 have o5:=HO2.out.cell 5
 have o6:=HO2.out.cell 6
 have o7:=HO2.out.cell 7
 have o8:=HO2.out.cell 8
 have o9:=HO2.out.cell 9
 have o10:=HO2.out.cell 10
 have o11:=HO2.out.cell 11
 simp only [List.getElem?_cons_zero,List.getElem?_cons_succ] at o0 o1 o2 o3 o4 o5 o6 o7 o8 o9 o10 o11
 have of:=HO2.out.frozen
 have ol:=HO2.out.lt
 clear hb
 go_wp2_with fail
 rw [rounds_succ]
 go_wp2_with fail
 refine (HAA.out _ _ _ _ bll (HVE.out.2.2.1)).mono ?_
 rintro e w3 ⟨p2,q2,r2,rfl,hv2,hb⟩
 have hz3:=hb.size
 (try simp at hz3)
 have HB3:=bh w hb
 have HR3:=hdQ (Own.step hb (show Own _ (w.heap.size+1) 43 [.int .i64 0,.int .i64 0,.int .i64 0,.int .i64 0,.int .i64 0,.int .i64 0,.int .i64 0,.int .i64 0,.int .i64 0,.int .i64 0,.int .i64 0,.int .i64 0] from (owx HR2.out)))
 have HO3:=hdQ (Own.step hb (show Own _ (w.heap.size+2) 43 [.int .i64 p0,.int .i64 q0,.int .i64 r0,.int .i64 p1,.int .i64 q1,.int .i64 r1,.int .i64 c0,.int .i64 c1,.int .i64 c2,.int .i64 d0,.int .i64 d1,.int .i64 d2] from Own.alloc (Own.set_ (Own.set_ (Own.set_ HO2.out 3 _) 4 _) 5 _) _))
 clear o0 o1 o2 o3 o4 o5 o6 o7 o8 o9 o10 o11 of ol
 have o0:=HO3.out.cell 0
 have o1:=HO3.out.cell 1
 have o2:=HO3.out.cell 2
 have o3:=HO3.out.cell 3
 have o4:=HO3.out.cell 4
 have o5:=HO3.out.cell 5
 have o6:=HO3.out.cell 6
 have o7:=HO3.out.cell 7
 have o8:=HO3.out.cell 8
 have o9:=HO3.out.cell 9
 have o10:=HO3.out.cell 10
 have o11:=HO3.out.cell 11
 simp only [List.getElem?_cons_zero,List.getElem?_cons_succ] at o0 o1 o2 o3 o4 o5 o6 o7 o8 o9 o10 o11
 have of:=HO3.out.frozen
 have ol:=HO3.out.lt
 clear hb
 go_wp2_with fail
 rw [rounds_succ]
 go_wp2_with fail
 refine (HAA.out _ _ _ _ bll (HVE.out.2.2.2)).mono ?_
 rintro e w4 ⟨p3,q3,r3,rfl,hv3,hb⟩
 have hz4:=hb.size
 (try simp at hz4)
 have HB4:=bh w hb
 have HR4:=hdQ (Own.step hb (show Own _ (w.heap.size+1) 43 [.int .i64 0,.int .i64 0,.int .i64 0,.int .i64 0,.int .i64 0,.int .i64 0,.int .i64 0,.int .i64 0,.int .i64 0,.int .i64 0,.int .i64 0,.int .i64 0] from (owx HR3.out)))
 have HO4:=hdQ (Own.step hb (show Own _ (w.heap.size+2) 43 [.int .i64 p0,.int .i64 q0,.int .i64 r0,.int .i64 p1,.int .i64 q1,.int .i64 r1,.int .i64 p2,.int .i64 q2,.int .i64 r2,.int .i64 d0,.int .i64 d1,.int .i64 d2] from Own.alloc (Own.set_ (Own.set_ (Own.set_ HO3.out 6 _) 7 _) 8 _) _))
 clear o0 o1 o2 o3 o4 o5 o6 o7 o8 o9 o10 o11 of ol
 have o0:=HO4.out.cell 0
 have o1:=HO4.out.cell 1
 have o2:=HO4.out.cell 2
 have o3:=HO4.out.cell 3
 have o4:=HO4.out.cell 4
 have o5:=HO4.out.cell 5
 have o6:=HO4.out.cell 6
 have o7:=HO4.out.cell 7
 have o8:=HO4.out.cell 8
 have o9:=HO4.out.cell 9
 have o10:=HO4.out.cell 10
 have o11:=HO4.out.cell 11
 simp only [List.getElem?_cons_zero,List.getElem?_cons_succ] at o0 o1 o2 o3 o4 o5 o6 o7 o8 o9 o10 o11
 have of:=HO4.out.frozen
 have ol:=HO4.out.lt
 clear hb
 go_wp2_with fail
 rw [rounds_succ]
 have z0:=HR4.out.cell 0
 have z1:=HR4.out.cell 1
 have z2:=HR4.out.cell 2
 have z3:=HR4.out.cell 3
 have z4:=HR4.out.cell 4
 have z5:=HR4.out.cell 5
 have z6:=HR4.out.cell 6
 have z7:=HR4.out.cell 7
 have z8:=HR4.out.cell 8
 have z9:=HR4.out.cell 9
 have z10:=HR4.out.cell 10
 have z11:=HR4.out.cell 11
 simp only [List.getElem?_cons_zero,List.getElem?_cons_succ] at z0 z1 z2 z3 z4 z5 z6 z7 z8 z9 z10 z11
 have zf:=HR4.out.frozen
 have zl:=HR4.out.lt
 go_wp2_with fail
 exact bodyPost_ret (v:=vPt (p0,q0,r0) (p1,q1,r1) (p2,q2,r2) (p3,q3,r3)) (by simp [results,Tryz.results105,go_sem, *]) rfl ⟨(p0,q0,r0),(p1,q1,r1),(p2,q2,r2),(p3,q3,r3),rfl,hv0,hv1,hv2,hv3,bll⟩
def DrawnPt (w:World) (g:Nat) (A:OA) (c:Nat) (l:List Int) (e:Ending) (w':World):Prop :=
 ∃ a b c' d:Zi8,e=.returned (vPt a b c' d)/\VE a/\VE b/\VE c'/\VE d/\Cur 125 w' g A c l/\Only w.heap.size [g] w w'
theorem Zrw {g c:Nat} {A:OA} {l:List Int} (w:World) (h:Cur 125 w g A c l) :
  CL 101 #[.pointer (some ⟨g,0,none⟩)] w (DrawnPt w g A c l):=by
 have HC:=hdQ h
 have hg:=h.lt
 clear h
 go_enter Tryz.func101,Tryz.ntmps101
 go_wp2_with fail
 refine (Zaw (n:=160) _ ((HC.out.alloc _).alloc _) qo).mono ?_
 rintro e u1 ⟨x,rfl,x1,x2,hc,hO⟩
 have hz1:=hO.size
 (try simp at hz1)
 have HC1:=hdQ hc
 have HO1:=qh (Only w.heap.size [g] w u1) (Only.trans (((Only.refl w.heap.size [g] w).alloc (Nat.le_refl _) _).alloc qs _) (hO.mono (by simp;omega) (λx hx=>Or.inl hx)) (Nat.le_refl _) (λx hx=>hx))
 have HR1:=qh (Own u1 w.heap.size 43 [.int .i64 0,.int .i64 0,.int .i64 0,.int .i64 0,.int .i64 0,.int .i64 0,.int .i64 0,.int .i64 0,.int .i64 0,.int .i64 0,.int .i64 0,.int .i64 0]) (hO.own (Own.alloc (Own.new w _ #[_,_,_,_,_,_,_,_,_,_,_,_]) _) (by simp;omega) (by simp;omega))
 have HP1:=qh (Own u1 (w.heap.size+1) 43 [.int .i64 0,.int .i64 0,.int .i64 0,.int .i64 0,.int .i64 0,.int .i64 0,.int .i64 0,.int .i64 0,.int .i64 0,.int .i64 0,.int .i64 0,.int .i64 0]) (hO.own (Own.at_new (cs := #[_,_,_,_,_,_,_,_,_,_,_,_]) qs) qs (by simp;omega))
 have wx1:IntKind.i64.wrap (x-80)=x-80:=IntWalk.i64_in _ qo
 clear hc hO
 go_wp2_with fail
 refine (Zaw (n:=160) _ HC1.out qo).mono ?_
 rintro e u2 ⟨y,rfl,y1,y2,hc,hO⟩
 have hz2:=hO.size
 (try simp at hz2)
 have HC2:=hdQ hc
 have HO2:=qh (Only w.heap.size [g] w u2) (Only.trans HO1.out (hO.mono omm (λx hx=>Or.inl hx)) (Nat.le_refl _) (λx hx=>hx))
 have HR2:=qh (Own u2 w.heap.size 43 [.int .i64 0,.int .i64 0,.int .i64 0,.int .i64 0,.int .i64 0,.int .i64 0,.int .i64 0,.int .i64 0,.int .i64 0,.int .i64 0,.int .i64 0,.int .i64 0]) (hO.own HR1.out omm (by simp;omega))
 have HP2:=qh (Own u2 (w.heap.size+1) 43 [.int .i64 0,.int .i64 0,.int .i64 0,.int .i64 0,.int .i64 0,.int .i64 0,.int .i64 0,.int .i64 0,.int .i64 0,.int .i64 0,.int .i64 0,.int .i64 0]) (hO.own HP1.out omm (by simp;omega))
 have wy1:IntKind.i64.wrap (y-80)=y-80:=IntWalk.i64_in _ qo
 clear hc hO
 go_wp2_with fail
 refine (Zaw (n:=200) _ HC2.out qo).mono ?_
 rintro e u3 ⟨z,rfl,z1,z2,hc,hO⟩
 have hz3:=hO.size
 (try simp at hz3)
 have HC3:=hdQ hc
 have HO3:=qh (Only w.heap.size [g] w u3) (Only.trans HO2.out (hO.mono omm (λx hx=>Or.inl hx)) (Nat.le_refl _) (λx hx=>hx))
 have HR3:=qh (Own u3 w.heap.size 43 [.int .i64 0,.int .i64 0,.int .i64 0,.int .i64 0,.int .i64 0,.int .i64 0,.int .i64 0,.int .i64 0,.int .i64 0,.int .i64 0,.int .i64 0,.int .i64 0]) (hO.own HR2.out omm (by simp;omega))
 have HP3:=qh (Own u3 (w.heap.size+1) 43 [.int .i64 0,.int .i64 0,.int .i64 0,.int .i64 0,.int .i64 0,.int .i64 0,.int .i64 0,.int .i64 0,.int .i64 0,.int .i64 0,.int .i64 0,.int .i64 0]) (hO.own HP2.out omm (by simp;omega))
 have wz1:IntKind.i64.wrap (60+z)=60+z:=IntWalk.i64_in _ qo
 clear hc hO
 go_wp2_with fail
 refine wp_loop_rounds 5 ?_
 rw [rounds_succ]
 go_wp2_with fail
 refine (Zaw (n:=60) _ HC3.out qo).mono ?_
 rintro e u4 ⟨f0,rfl,f01,f02,hc,hO⟩
 have hz4:=hO.size
 (try simp at hz4)
 have HC4:=hdQ hc
 have HO4:=qh (Only w.heap.size [g] w u4) (Only.trans HO3.out (hO.mono omm (λx hx=>Or.inl hx)) (Nat.le_refl _) (λx hx=>hx))
 have HR4:=qh (Own u4 w.heap.size 43 [.int .i64 0,.int .i64 0,.int .i64 0,.int .i64 0,.int .i64 0,.int .i64 0,.int .i64 0,.int .i64 0,.int .i64 0,.int .i64 0,.int .i64 0,.int .i64 0]) (hO.own HR3.out omm (by simp;omega))
 have HP4:=qh (Own u4 (w.heap.size+1) 43 [.int .i64 0,.int .i64 0,.int .i64 0,.int .i64 0,.int .i64 0,.int .i64 0,.int .i64 0,.int .i64 0,.int .i64 0,.int .i64 0,.int .i64 0,.int .i64 0]) (hO.own HP3.out omm (by simp;omega))
 have wf0:IntKind.i64.wrap (20+f0)=20+f0:=IntWalk.i64_in _ qo
 clear hc hO
 go_wp2_with fail
 refine (Zaw (n:=60) _ HC4.out qo).mono ?_
 rintro e u5 ⟨h0,rfl,h01,h02,hc,hO⟩
 have hz5:=hO.size
 (try simp at hz5)
 have HC5:=hdQ hc
 have HO5:=qh (Only w.heap.size [g] w u5) (Only.trans HO4.out (hO.mono omm (λx hx=>Or.inl hx)) (Nat.le_refl _) (λx hx=>hx))
 have HR5:=qh (Own u5 w.heap.size 43 [.int .i64 0,.int .i64 0,.int .i64 0,.int .i64 0,.int .i64 0,.int .i64 0,.int .i64 0,.int .i64 0,.int .i64 0,.int .i64 0,.int .i64 0,.int .i64 0]) (hO.own HR4.out omm (by simp;omega))
 have HP5:=qh (Own u5 (w.heap.size+1) 43 [.int .i64 0,.int .i64 0,.int .i64 0,.int .i64 0,.int .i64 0,.int .i64 0,.int .i64 0,.int .i64 0,.int .i64 0,.int .i64 0,.int .i64 0,.int .i64 0]) (hO.own HP4.out omm (by simp;omega))
 have wh0:IntKind.i64.wrap (20+h0)=20+h0:=IntWalk.i64_in _ qo
 clear hc hO
 go_wp2_with fail
 refine (Zaw (n:=30) _ HC5.out qo).mono ?_
 rintro e u6 ⟨j0,rfl,j01,j02,hc,hO⟩
 have hz6:=hO.size
 (try simp at hz6)
 have HC6:=hdQ hc
 have HO6:=qh (Only w.heap.size [g] w u6) (Only.trans HO5.out (hO.mono omm (λx hx=>Or.inl hx)) (Nat.le_refl _) (λx hx=>hx))
 have HR6:=qh (Own u6 w.heap.size 43 [.int .i64 0,.int .i64 0,.int .i64 0,.int .i64 0,.int .i64 0,.int .i64 0,.int .i64 0,.int .i64 0,.int .i64 0,.int .i64 0,.int .i64 0,.int .i64 0]) (hO.own HR5.out omm (by simp;omega))
 have HP6:=qh (Own u6 (w.heap.size+1) 43 [.int .i64 0,.int .i64 0,.int .i64 0,.int .i64 0,.int .i64 0,.int .i64 0,.int .i64 0,.int .i64 0,.int .i64 0,.int .i64 0,.int .i64 0,.int .i64 0]) (hO.own HP5.out omm (by simp;omega))
 have vj0:IntKind.i64.wrap (60+z+j0)=60+z+j0:=IntWalk.i64_in _ qo
 clear hc hO
 have o0:=HP6.out.cell 0
 have o1:=HP6.out.cell 1
 have o2:=HP6.out.cell 2
 have o3:=HP6.out.cell 3
 have o4:=HP6.out.cell 4
 have o5:=HP6.out.cell 5
 have o6:=HP6.out.cell 6
 have o7:=HP6.out.cell 7
 have o8:=HP6.out.cell 8
 have o9:=HP6.out.cell 9
 have o10:=HP6.out.cell 10
 have o11:=HP6.out.cell 11
 simp only [List.getElem?_cons_zero,List.getElem?_cons_succ] at o0 o1 o2 o3 o4 o5 o6 o7 o8 o9 o10 o11
 have of:=HP6.out.frozen
 have ol:=HP6.out.lt
 go_wp2_with fail
 rw [rounds_succ]
 go_wp2_with fail
 refine (Zaw (n:=60) _ (Cur.far (Cur.far (Cur.far HC6.out (p:=⟨w.heap.size+1,0,none⟩) (by show g<w.heap.size+1;omega) _) (p:=⟨w.heap.size+1,1,none⟩) (by show g<w.heap.size+1;omega) _) (p:=⟨w.heap.size+1,2,none⟩) (by show g<w.heap.size+1;omega) _) qo).mono ?_
 rintro e u7 ⟨f1,rfl,f11,f12,hc,hO⟩
 have hz7:=hO.size
 (try simp at hz7)
 have HC7:=hdQ hc
 have HO7:=qh (Only w.heap.size [g] w u7) (Only.trans (Only.up (Only.up (Only.up HO6.out (p:=⟨w.heap.size+1,0,none⟩) (by show w.heap.size<=w.heap.size+1;omega) _) (p:=⟨w.heap.size+1,1,none⟩) (by show w.heap.size<=w.heap.size+1;omega) _) (p:=⟨w.heap.size+1,2,none⟩) (by show w.heap.size<=w.heap.size+1;omega) _) (hO.mono omm (λx hx=>Or.inl hx)) (Nat.le_refl _) (λx hx=>hx))
 have HR7:=qh (Own u7 w.heap.size 43 [.int .i64 0,.int .i64 0,.int .i64 0,.int .i64 0,.int .i64 0,.int .i64 0,.int .i64 0,.int .i64 0,.int .i64 0,.int .i64 0,.int .i64 0,.int .i64 0]) (hO.own (Own.far (Own.far (Own.far HR6.out (p:=⟨w.heap.size+1,0,none⟩) (by show w.heap.size≠w.heap.size+1;omega) _) (p:=⟨w.heap.size+1,1,none⟩) (by show w.heap.size≠w.heap.size+1;omega) _) (p:=⟨w.heap.size+1,2,none⟩) (by show w.heap.size≠w.heap.size+1;omega) _) omm (by simp;omega))
 have HP7:=qh (Own u7 (w.heap.size+1) 43 [.int .i64 (x-80),.int .i64 (y-80),.int .i64 (60+z+j0),.int .i64 0,.int .i64 0,.int .i64 0,.int .i64 0,.int .i64 0,.int .i64 0,.int .i64 0,.int .i64 0,.int .i64 0]) (hO.own (Own.set_ (Own.set_ (Own.set_ HP6.out 0 _) 1 _) 2 _) omm (by simp;omega))
 have wf1:IntKind.i64.wrap (20+f1)=20+f1:=IntWalk.i64_in _ qo
 have vf1:IntKind.i64.wrap (x-80+(20+f1))=x-80+(20+f1):=IntWalk.i64_in _ qo
 clear hc hO
 go_wp2_with fail
 refine (Zaw (n:=60) _ HC7.out qo).mono ?_
 rintro e u8 ⟨h1,rfl,h11,h12,hc,hO⟩
 have hz8:=hO.size
 (try simp at hz8)
 have HC8:=hdQ hc
 have HO8:=qh (Only w.heap.size [g] w u8) (Only.trans HO7.out (hO.mono omm (λx hx=>Or.inl hx)) (Nat.le_refl _) (λx hx=>hx))
 have HR8:=qh (Own u8 w.heap.size 43 [.int .i64 0,.int .i64 0,.int .i64 0,.int .i64 0,.int .i64 0,.int .i64 0,.int .i64 0,.int .i64 0,.int .i64 0,.int .i64 0,.int .i64 0,.int .i64 0]) (hO.own HR7.out omm (by simp;omega))
 have HP8:=qh (Own u8 (w.heap.size+1) 43 [.int .i64 (x-80),.int .i64 (y-80),.int .i64 (60+z+j0),.int .i64 0,.int .i64 0,.int .i64 0,.int .i64 0,.int .i64 0,.int .i64 0,.int .i64 0,.int .i64 0,.int .i64 0]) (hO.own HP7.out omm (by simp;omega))
 have wh1:IntKind.i64.wrap (20+h1)=20+h1:=IntWalk.i64_in _ qo
 clear hc hO
 go_wp2_with fail
 refine (Zaw (n:=30) _ HC8.out qo).mono ?_
 rintro e u9 ⟨j1,rfl,j11,j12,hc,hO⟩
 have hz9:=hO.size
 (try simp at hz9)
 have HC9:=hdQ hc
 have HO9:=qh (Only w.heap.size [g] w u9) (Only.trans HO8.out (hO.mono omm (λx hx=>Or.inl hx)) (Nat.le_refl _) (λx hx=>hx))
 have HR9:=qh (Own u9 w.heap.size 43 [.int .i64 0,.int .i64 0,.int .i64 0,.int .i64 0,.int .i64 0,.int .i64 0,.int .i64 0,.int .i64 0,.int .i64 0,.int .i64 0,.int .i64 0,.int .i64 0]) (hO.own HR8.out omm (by simp;omega))
 have HP9:=qh (Own u9 (w.heap.size+1) 43 [.int .i64 (x-80),.int .i64 (y-80),.int .i64 (60+z+j0),.int .i64 0,.int .i64 0,.int .i64 0,.int .i64 0,.int .i64 0,.int .i64 0,.int .i64 0,.int .i64 0,.int .i64 0]) (hO.own HP8.out omm (by simp;omega))
 have vj1:IntKind.i64.wrap (60+z+j1)=60+z+j1:=IntWalk.i64_in _ qo
 clear hc hO
 clear o0 o1 o2 o3 o4 o5 o6 o7 o8 o9 o10 o11 of ol
 have o0:=HP9.out.cell 0
 have o1:=HP9.out.cell 1
 have o2:=HP9.out.cell 2
 have o3:=HP9.out.cell 3
 have o4:=HP9.out.cell 4
 have o5:=HP9.out.cell 5
 have o6:=HP9.out.cell 6
 have o7:=HP9.out.cell 7
 have o8:=HP9.out.cell 8
 have o9:=HP9.out.cell 9
 have o10:=HP9.out.cell 10
 have o11:=HP9.out.cell 11
 simp only [List.getElem?_cons_zero,List.getElem?_cons_succ] at o0 o1 o2 o3 o4 o5 o6 o7 o8 o9 o10 o11
 have of:=HP9.out.frozen
 have ol:=HP9.out.lt
 go_wp2_with fail
 rw [rounds_succ]
 go_wp2_with fail
 refine (Zaw (n:=60) _ (Cur.far (Cur.far (Cur.far HC9.out (p:=⟨w.heap.size+1,3,none⟩) (by show g<w.heap.size+1;omega) _) (p:=⟨w.heap.size+1,4,none⟩) (by show g<w.heap.size+1;omega) _) (p:=⟨w.heap.size+1,5,none⟩) (by show g<w.heap.size+1;omega) _) qo).mono ?_
 rintro e u10 ⟨f2,rfl,f21,f22,hc,hO⟩
 have hz10:=hO.size
 (try simp at hz10)
 have HC10:=hdQ hc
 have HO10:=qh (Only w.heap.size [g] w u10) (Only.trans (Only.up (Only.up (Only.up HO9.out (p:=⟨w.heap.size+1,3,none⟩) (by show w.heap.size<=w.heap.size+1;omega) _) (p:=⟨w.heap.size+1,4,none⟩) (by show w.heap.size<=w.heap.size+1;omega) _) (p:=⟨w.heap.size+1,5,none⟩) (by show w.heap.size<=w.heap.size+1;omega) _) (hO.mono omm (λx hx=>Or.inl hx)) (Nat.le_refl _) (λx hx=>hx))
 have HR10:=qh (Own u10 w.heap.size 43 [.int .i64 0,.int .i64 0,.int .i64 0,.int .i64 0,.int .i64 0,.int .i64 0,.int .i64 0,.int .i64 0,.int .i64 0,.int .i64 0,.int .i64 0,.int .i64 0]) (hO.own (Own.far (Own.far (Own.far HR9.out (p:=⟨w.heap.size+1,3,none⟩) (by show w.heap.size≠w.heap.size+1;omega) _) (p:=⟨w.heap.size+1,4,none⟩) (by show w.heap.size≠w.heap.size+1;omega) _) (p:=⟨w.heap.size+1,5,none⟩) (by show w.heap.size≠w.heap.size+1;omega) _) omm (by simp;omega))
 have HP10:=qh (Own u10 (w.heap.size+1) 43 [.int .i64 (x-80),.int .i64 (y-80),.int .i64 (60+z+j0),.int .i64 (x-80+(20+f1)),.int .i64 (y-80),.int .i64 (60+z+j1),.int .i64 0,.int .i64 0,.int .i64 0,.int .i64 0,.int .i64 0,.int .i64 0]) (hO.own (Own.set_ (Own.set_ (Own.set_ HP9.out 3 _) 4 _) 5 _) omm (by simp;omega))
 have wf2:IntKind.i64.wrap (20+f2)=20+f2:=IntWalk.i64_in _ qo
 clear hc hO
 go_wp2_with fail
 refine (Zaw (n:=60) _ HC10.out qo).mono ?_
 rintro e u11 ⟨h2,rfl,h21,h22,hc,hO⟩
 have hz11:=hO.size
 (try simp at hz11)
 have HC11:=hdQ hc
 have HO11:=qh (Only w.heap.size [g] w u11) (Only.trans HO10.out (hO.mono omm (λx hx=>Or.inl hx)) (Nat.le_refl _) (λx hx=>hx))
 have HR11:=qh (Own u11 w.heap.size 43 [.int .i64 0,.int .i64 0,.int .i64 0,.int .i64 0,.int .i64 0,.int .i64 0,.int .i64 0,.int .i64 0,.int .i64 0,.int .i64 0,.int .i64 0,.int .i64 0]) (hO.own HR10.out omm (by simp;omega))
 have HP11:=qh (Own u11 (w.heap.size+1) 43 [.int .i64 (x-80),.int .i64 (y-80),.int .i64 (60+z+j0),.int .i64 (x-80+(20+f1)),.int .i64 (y-80),.int .i64 (60+z+j1),.int .i64 0,.int .i64 0,.int .i64 0,.int .i64 0,.int .i64 0,.int .i64 0]) (hO.own HP10.out omm (by simp;omega))
 have wh2:IntKind.i64.wrap (20+h2)=20+h2:=IntWalk.i64_in _ qo
 have vh2:IntKind.i64.wrap (y-80+(20+h2))=y-80+(20+h2):=IntWalk.i64_in _ qo
 clear hc hO
 go_wp2_with fail
 refine (Zaw (n:=30) _ HC11.out qo).mono ?_
 rintro e u12 ⟨j2,rfl,j21,j22,hc,hO⟩
 have hz12:=hO.size
 (try simp at hz12)
 have HC12:=hdQ hc
 have HO12:=qh (Only w.heap.size [g] w u12) (Only.trans HO11.out (hO.mono omm (λx hx=>Or.inl hx)) (Nat.le_refl _) (λx hx=>hx))
 have HR12:=qh (Own u12 w.heap.size 43 [.int .i64 0,.int .i64 0,.int .i64 0,.int .i64 0,.int .i64 0,.int .i64 0,.int .i64 0,.int .i64 0,.int .i64 0,.int .i64 0,.int .i64 0,.int .i64 0]) (hO.own HR11.out omm (by simp;omega))
 have HP12:=qh (Own u12 (w.heap.size+1) 43 [.int .i64 (x-80),.int .i64 (y-80),.int .i64 (60+z+j0),.int .i64 (x-80+(20+f1)),.int .i64 (y-80),.int .i64 (60+z+j1),.int .i64 0,.int .i64 0,.int .i64 0,.int .i64 0,.int .i64 0,.int .i64 0]) (hO.own HP11.out omm (by simp;omega))
 have vj2:IntKind.i64.wrap (60+z+j2)=60+z+j2:=IntWalk.i64_in _ qo
 clear hc hO
 clear o0 o1 o2 o3 o4 o5 o6 o7 o8 o9 o10 o11 of ol
 have o0:=HP12.out.cell 0
 have o1:=HP12.out.cell 1
 have o2:=HP12.out.cell 2
 have o3:=HP12.out.cell 3
 have o4:=HP12.out.cell 4
 have o5:=HP12.out.cell 5
 have o6:=HP12.out.cell 6
 have o7:=HP12.out.cell 7
 have o8:=HP12.out.cell 8
 have o9:=HP12.out.cell 9
 have o10:=HP12.out.cell 10
 have o11:=HP12.out.cell 11
 simp only [List.getElem?_cons_zero,List.getElem?_cons_succ] at o0 o1 o2 o3 o4 o5 o6 o7 o8 o9 o10 o11
 have of:=HP12.out.frozen
 have ol:=HP12.out.lt
 go_wp2_with fail
 rw [rounds_succ]
 go_wp2_with fail
 refine (Zaw (n:=60) _ (Cur.far (Cur.far (Cur.far HC12.out (p:=⟨w.heap.size+1,6,none⟩) (by show g<w.heap.size+1;omega) _) (p:=⟨w.heap.size+1,7,none⟩) (by show g<w.heap.size+1;omega) _) (p:=⟨w.heap.size+1,8,none⟩) (by show g<w.heap.size+1;omega) _) qo).mono ?_
 rintro e u13 ⟨f3,rfl,f31,f32,hc,hO⟩
 have hz13:=hO.size
 (try simp at hz13)
 have HC13:=hdQ hc
 have HO13:=qh (Only w.heap.size [g] w u13) (Only.trans (Only.up (Only.up (Only.up HO12.out (p:=⟨w.heap.size+1,6,none⟩) (by show w.heap.size<=w.heap.size+1;omega) _) (p:=⟨w.heap.size+1,7,none⟩) (by show w.heap.size<=w.heap.size+1;omega) _) (p:=⟨w.heap.size+1,8,none⟩) (by show w.heap.size<=w.heap.size+1;omega) _) (hO.mono omm (λx hx=>Or.inl hx)) (Nat.le_refl _) (λx hx=>hx))
 have HR13:=qh (Own u13 w.heap.size 43 [.int .i64 0,.int .i64 0,.int .i64 0,.int .i64 0,.int .i64 0,.int .i64 0,.int .i64 0,.int .i64 0,.int .i64 0,.int .i64 0,.int .i64 0,.int .i64 0]) (hO.own (Own.far (Own.far (Own.far HR12.out (p:=⟨w.heap.size+1,6,none⟩) (by show w.heap.size≠w.heap.size+1;omega) _) (p:=⟨w.heap.size+1,7,none⟩) (by show w.heap.size≠w.heap.size+1;omega) _) (p:=⟨w.heap.size+1,8,none⟩) (by show w.heap.size≠w.heap.size+1;omega) _) omm (by simp;omega))
 have HP13:=qh (Own u13 (w.heap.size+1) 43 [.int .i64 (x-80),.int .i64 (y-80),.int .i64 (60+z+j0),.int .i64 (x-80+(20+f1)),.int .i64 (y-80),.int .i64 (60+z+j1),.int .i64 (x-80),.int .i64 (y-80+(20+h2)),.int .i64 (60+z+j2),.int .i64 0,.int .i64 0,.int .i64 0]) (hO.own (Own.set_ (Own.set_ (Own.set_ HP12.out 6 _) 7 _) 8 _) omm (by simp;omega))
 have wf3:IntKind.i64.wrap (20+f3)=20+f3:=IntWalk.i64_in _ qo
 have vf3:IntKind.i64.wrap (x-80+(20+f3))=x-80+(20+f3):=IntWalk.i64_in _ qo
 clear hc hO
 go_wp2_with fail
 refine (Zaw (n:=60) _ HC13.out qo).mono ?_
 rintro e u14 ⟨h3,rfl,h31,h32,hc,hO⟩
 have hz14:=hO.size
 (try simp at hz14)
 have HC14:=hdQ hc
 have HO14:=qh (Only w.heap.size [g] w u14) (Only.trans HO13.out (hO.mono omm (λx hx=>Or.inl hx)) (Nat.le_refl _) (λx hx=>hx))
 have HR14:=qh (Own u14 w.heap.size 43 [.int .i64 0,.int .i64 0,.int .i64 0,.int .i64 0,.int .i64 0,.int .i64 0,.int .i64 0,.int .i64 0,.int .i64 0,.int .i64 0,.int .i64 0,.int .i64 0]) (hO.own HR13.out omm (by simp;omega))
 have HP14:=qh (Own u14 (w.heap.size+1) 43 [.int .i64 (x-80),.int .i64 (y-80),.int .i64 (60+z+j0),.int .i64 (x-80+(20+f1)),.int .i64 (y-80),.int .i64 (60+z+j1),.int .i64 (x-80),.int .i64 (y-80+(20+h2)),.int .i64 (60+z+j2),.int .i64 0,.int .i64 0,.int .i64 0]) (hO.own HP13.out omm (by simp;omega))
 have wh3:IntKind.i64.wrap (20+h3)=20+h3:=IntWalk.i64_in _ qo
 have vh3:IntKind.i64.wrap (y-80+(20+h3))=y-80+(20+h3):=IntWalk.i64_in _ qo
 clear hc hO
 go_wp2_with fail
 refine (Zaw (n:=30) _ HC14.out qo).mono ?_
 rintro e u15 ⟨j3,rfl,j31,j32,hc,hO⟩
 have hz15:=hO.size
 (try simp at hz15)
 have HC15:=hdQ hc
 have HO15:=qh (Only w.heap.size [g] w u15) (Only.trans HO14.out (hO.mono omm (λx hx=>Or.inl hx)) (Nat.le_refl _) (λx hx=>hx))
 have HR15:=qh (Own u15 w.heap.size 43 [.int .i64 0,.int .i64 0,.int .i64 0,.int .i64 0,.int .i64 0,.int .i64 0,.int .i64 0,.int .i64 0,.int .i64 0,.int .i64 0,.int .i64 0,.int .i64 0]) (hO.own HR14.out omm (by simp;omega))
 have HP15:=qh (Own u15 (w.heap.size+1) 43 [.int .i64 (x-80),.int .i64 (y-80),.int .i64 (60+z+j0),.int .i64 (x-80+(20+f1)),.int .i64 (y-80),.int .i64 (60+z+j1),.int .i64 (x-80),.int .i64 (y-80+(20+h2)),.int .i64 (60+z+j2),.int .i64 0,.int .i64 0,.int .i64 0]) (hO.own HP14.out omm (by simp;omega))
 have vj3:IntKind.i64.wrap (60+z+j3)=60+z+j3:=IntWalk.i64_in _ qo
 clear hc hO
 clear o0 o1 o2 o3 o4 o5 o6 o7 o8 o9 o10 o11 of ol
 have o0:=HP15.out.cell 0
 have o1:=HP15.out.cell 1
 have o2:=HP15.out.cell 2
 have o3:=HP15.out.cell 3
 have o4:=HP15.out.cell 4
 have o5:=HP15.out.cell 5
 have o6:=HP15.out.cell 6
 have o7:=HP15.out.cell 7
 have o8:=HP15.out.cell 8
 have o9:=HP15.out.cell 9
 have o10:=HP15.out.cell 10
 have o11:=HP15.out.cell 11
 simp only [List.getElem?_cons_zero,List.getElem?_cons_succ] at o0 o1 o2 o3 o4 o5 o6 o7 o8 o9 o10 o11
 have of:=HP15.out.frozen
 have ol:=HP15.out.lt
 go_wp2_with fail
 rw [rounds_succ]
 have z_0:=HR15.out.cell 0
 have z_1:=HR15.out.cell 1
 have z_2:=HR15.out.cell 2
 have z_3:=HR15.out.cell 3
 have z_4:=HR15.out.cell 4
 have z_5:=HR15.out.cell 5
 have z_6:=HR15.out.cell 6
 have z_7:=HR15.out.cell 7
 have z_8:=HR15.out.cell 8
 have z_9:=HR15.out.cell 9
 have z_10:=HR15.out.cell 10
 have z_11:=HR15.out.cell 11
 simp only [List.getElem?_cons_zero,List.getElem?_cons_succ] at z_0 z_1 z_2 z_3 z_4 z_5 z_6 z_7 z_8 z_9 z_10 z_11
 have zf:=HR15.out.frozen
 have zl:=HR15.out.lt
 skip
 go_wp2_with fail
 refine bodyPost_ret (v:=vPt (x-80,y-80,60+z+j0) (x-80+(20+f1),y-80,60+z+j1) (x-80,y-80+(20+h2),60+z+j2) (x-80+(20+f3),y-80+(20+h3),60+z+j3)) (by simp [results,Tryz.results101,go_sem, *]) rfl ?_
 exact ⟨(x-80,y-80,60+z+j0),(x-80+(20+f1),y-80,60+z+j1),(x-80,y-80+(20+h2),60+z+j2),(x-80+(20+f3),y-80+(20+h3),60+z+j3),rfl,Zfh (by dsimp only;omega) (by dsimp only;omega) (by dsimp only;omega),Zfh (by dsimp only;omega) (by dsimp only;omega) (by dsimp only;omega),Zfh (by dsimp only;omega) (by dsimp only;omega) (by dsimp only;omega),Zfh (by dsimp only;omega) (by dsimp only;omega) (by dsimp only;omega),(Cur.far (Cur.far (Cur.far (Cur.far (Cur.far (Cur.far (Cur.far (Cur.far (Cur.far (Cur.far (Cur.far (Cur.far (Cur.far (Cur.far (Cur.far HC15.out (p:=⟨w.heap.size+1,9,none⟩) (by show g<w.heap.size+1;omega) _) (p:=⟨w.heap.size+1,10,none⟩) (by show g<w.heap.size+1;omega) _) (p:=⟨w.heap.size+1,11,none⟩) (by show g<w.heap.size+1;omega) _) (p:=⟨w.heap.size,0,none⟩) (by show g<w.heap.size;omega) _) (p:=⟨w.heap.size,1,none⟩) (by show g<w.heap.size;omega) _) (p:=⟨w.heap.size,2,none⟩) (by show g<w.heap.size;omega) _) (p:=⟨w.heap.size,3,none⟩) (by show g<w.heap.size;omega) _) (p:=⟨w.heap.size,4,none⟩) (by show g<w.heap.size;omega) _) (p:=⟨w.heap.size,5,none⟩) (by show g<w.heap.size;omega) _) (p:=⟨w.heap.size,6,none⟩) (by show g<w.heap.size;omega) _) (p:=⟨w.heap.size,7,none⟩) (by show g<w.heap.size;omega) _) (p:=⟨w.heap.size,8,none⟩) (by show g<w.heap.size;omega) _) (p:=⟨w.heap.size,9,none⟩) (by show g<w.heap.size;omega) _) (p:=⟨w.heap.size,10,none⟩) (by show g<w.heap.size;omega) _) (p:=⟨w.heap.size,11,none⟩) (by show g<w.heap.size;omega) _),(Only.up (Only.up (Only.up (Only.up (Only.up (Only.up (Only.up (Only.up (Only.up (Only.up (Only.up (Only.up (Only.up (Only.up (Only.up HO15.out (p:=⟨w.heap.size+1,9,none⟩) (by show w.heap.size<=w.heap.size+1;omega) _) (p:=⟨w.heap.size+1,10,none⟩) (by show w.heap.size<=w.heap.size+1;omega) _) (p:=⟨w.heap.size+1,11,none⟩) (by show w.heap.size<=w.heap.size+1;omega) _) (p:=⟨w.heap.size,0,none⟩) (Nat.le_refl _) _) (p:=⟨w.heap.size,1,none⟩) (Nat.le_refl _) _) (p:=⟨w.heap.size,2,none⟩) (Nat.le_refl _) _) (p:=⟨w.heap.size,3,none⟩) (Nat.le_refl _) _) (p:=⟨w.heap.size,4,none⟩) (Nat.le_refl _) _) (p:=⟨w.heap.size,5,none⟩) (Nat.le_refl _) _) (p:=⟨w.heap.size,6,none⟩) (Nat.le_refl _) _) (p:=⟨w.heap.size,7,none⟩) (Nat.le_refl _) _) (p:=⟨w.heap.size,8,none⟩) (Nat.le_refl _) _) (p:=⟨w.heap.size,9,none⟩) (Nat.le_refl _) _) (p:=⟨w.heap.size,10,none⟩) (Nat.le_refl _) _) (p:=⟨w.heap.size,11,none⟩) (Nat.le_refl _) _)⟩
theorem Zmw {a b c d:Zi8} (ha:VE a) (hb:VE b) (hc:VE c) (hd:VE d):Zr0 (Zst a b c d)/\Zba (Zst a b c d)=true:=⟨⟨a,b,c,d,rfl⟩,Zos ha hb hc hd⟩
def Zyo (w:World) (g:Nat) (A:OA) (c:Nat) (l:List Int) (n:Int) (e:Ending) (w':World):Prop :=
 ∃ x:Zbt,e=.returned (.agg ⟨eSurf x⟩)/\Zch n x=true/\Zrr x/\Cur 125 w' g A c l/\Only w.heap.size [g] w w'
section
variable {P:Program} {ops:Array Oper} {Q:Exit->Act->World->Prop} {rest:List Nat} {o:Oper} {os:List Oper} {a:Act} {w w':World}
theorem Zbu {os:List Oper} (h:wpList P ops Q os a w):wpList P ops Q os a w:=h
theorem Zha {os:List Oper} (hg:o.guard=none) (t:TypeId) (i j k:Nat) (x y z:Operand) (ho:o.op=.build t #[(i,x),(j,y),(k,z)]) {v vx vy vz:Value} (hx:a.eval x=vx) (hy:a.eval y=vy) (hz:a.eval z=vz) (hr:(Instr.build t #[(i,vx),(j,vy),(k,vz)]).run P w=.ok v w') (h:wpList P ops Q os (a.put o.dst v) w'):wpList P ops Q (o::os) a w:=by
 refine wpList_plain hg λK hK=>?_
 unfold Oper.wp execOp
 simp only [ho,Sem.run_bind,Sem.run_pure,Result.andThen_ok,List.map_toArray,List.map_cons,List.map_nil,hx,hy,hz,hr]
 exact hK _ _ h
theorem Zqy {K:Act->World->Prop} {E:Prop} (hg:o.guard=none) (t:TypeId) (x y:Operand) (ho:o.op=.store t x y) {p v:Value} (hx:a.eval x=p) (hy:a.eval y=v) (hr:(Instr.storeAt t p v).run P w=.ok () w') (h:K (a.put o.dst (.tuple #[])) w'):if Region.wanted o (yielded ops a.tmps)=true then Oper.wp P o a w K Q else E:=by
 have hw:Region.wanted o (yielded ops a.tmps)=true:=by simp [Region.wanted,hg]
 rw [if_pos hw]
 unfold Oper.wp execOp
 simp only [ho,Sem.run_bind,Sem.run_pure,Result.andThen_ok,hx,hy,hr]
 exact h
end
theorem Zuy (p:Zau) (sh rt:Int) (w:World):(Instr.build 45 #[(0,.agg ⟨c12 p⟩),(2,.int .i64 sh),(3,.int .i64 rt)]).run Tryz.prog w=.ok (.agg ⟨c26 p zPt sh rt⟩) w:=kr
theorem one_tr (o:Zi8) (w:World):(Instr.buildSlice 148 1 #[(0,.agg ⟨trI o⟩)]).run Tryz.prog w=.ok (.slice (some ⟨w.heap.size,0,none⟩) 1 1) (w.alloc (.cells ⟨trI o⟩ 146)):=kr
set_option maxHeartbeats 32000000 in
theorem Zi4 {g c:Nat} {A:OA} {l:List Int} {n:Int} (w:World) (h:Cur 125 w g A c l) (hn:1<=n/\n<=256) :
  CL 47 #[.pointer (some ⟨g,0,none⟩),.int .i64 n] w (Zyo w g A c l n):=by
 obtain ⟨hn1,hn2⟩:=hn
 have HC:=hdQ h
 have hg:=h.lt
 clear h
 have HDP:=qh (∀ wx,Cur 125 wx g A c l->CL 101 #[.pointer (some ⟨g,0,none⟩)] wx λe w'=>∃ p:Zau,e=.returned (.agg ⟨c12 p⟩)/\(Zr0 p/\Zba p=true)/\Cur 125 w' g A c l/\Only wx.heap.size [g] wx w') (λwx hc=>(Zrw wx hc).mono (λe w' ⟨a,b,c',d,h1,h2,h3,h4,h5,h6,h7⟩=>⟨Zst a b c' d,h1,Zmw h2 h3 h4 h5,h6,h7⟩))
 have HTP:=qh (∀ (o:Zi8) (p:Zau) (tb k:Nat) wx,RS wx 12 (some ⟨tb,0,none⟩) 1 k (trI o)->(Zr0 p/\Zba p=true)->CL 105 #[.slice (some ⟨tb,0,none⟩) 1 k,.agg ⟨c12 p⟩] wx λe w'=>∃ q:Zau,e=.returned (.agg ⟨c12 q⟩)/\(Zr0 q/\Zba q=true)/\Bw wx w') (λo p tb k wx hr hp=>by
  obtain ⟨⟨a,b,c',d,rfl⟩,hv⟩:=hp
  unfold Zba at hv
  simp only [Bool.and_eq_true] at hv
  exact (Zjp o a b c' d tb k wx hr hv.1 hv.2.1 hv.2.2.1 hv.2.2.2).mono (λe w' ⟨a,b,c',d,h1,h2,h3,h4,h5,h6⟩=>⟨Zst a b c' d,h1,Zmw h2 h3 h4 h5,h6⟩))
 have hal:∀ wx:World,(Instr.alloc 45 true (.tuple #[])).run Tryz.prog wx=.ok (.pointer (some ⟨wx.heap.size,0,none⟩)) (wx.alloc (.cells ⟨z26⟩ 45)):=λwx=>by kernel_rfl
 obtain ⟨W0,hW0⟩:∃ W0,W0=w.alloc (.cells ⟨z26⟩ 45):=⟨_,rfl⟩
 have HC0:=qh (Cur 125 W0 g A c l) (by rw [hW0];exact HC.out.alloc _)
 have HY0:=qh (Own W0 w.heap.size 45 z26) (by rw [hW0];exact Own.new w _ _)
 have HO0:=qh (Only w.heap.size [g] w W0) (by rw [hW0];exact (Only.refl _ _ _).alloc (Nat.le_refl _) _)
 have hz0:W0.heap.size=w.heap.size+1:=by rw [hW0];simp
 have HAL0:=qh ((Instr.alloc 45 true (.tuple #[])).run Tryz.prog w=.ok (.pointer (some ⟨w.heap.size,0,none⟩)) W0) (by rw [hW0];exact hal w)
 clear hW0
 go_enter Tryz.func47,Tryz.ntmps47
 go_wp2_with ((with_reducible refine Zbu ?_);first|(refine Zah rfl 45 rfl HAL0.out ?_)|fail)
 (with_reducible refine (HDP.out _ HC0.out).mono ?_)
 rintro e u1 ⟨p,rfl,hp,hc,hO⟩
 have hz1:=hO.size
 have HP:=hdQ hp
 have HC1:=hdQ hc
 have HO1:=qh (Only w.heap.size [g] w u1) (Only.trans HO0.out (hO.mono qo (λx hx=>Or.inl hx)) (Nat.le_refl _) (λx hx=>hx))
 have HY1:=qh (Own u1 w.heap.size 45 z26) (hO.own HY0.out qo (by simp;omega))
 clear hp hc hO
 go_wp2_with fail
 (with_reducible refine (Zaw (n:=n) _ HC1.out ⟨hn1,hn2⟩).mono ?_)
 rintro e u2 ⟨sh,rfl,sh0,sh1,hc,hO⟩
 have hz2:=hO.size
 have HC2:=hdQ hc
 have HO2:=qh (Only w.heap.size [g] w u2) (Only.trans HO1.out (hO.mono qo (λx hx=>Or.inl hx)) (Nat.le_refl _) (λx hx=>hx))
 have HY2:=qh (Own u2 w.heap.size 45 z26) (hO.own HY1.out qo (by simp;omega))
 clear hc hO
 go_wp2_with fail
 refine (Zx1 (xs:=[1,2,2,4]) _ (HC2.out.alloc _) (ltt 4) qs qo).mono ?_
 rintro e u3 ⟨rt,hrt,rfl,hc,hO⟩
 have hz3:=hO.size
 (try simp at hz3)
 have HRT:=qh (Zq4 rt=true) (by
  simp only [List.mem_cons,List.not_mem_nil,or_false] at hrt
  rcases hrt with rfl|rfl|rfl|rfl<;>decide)
 have HC3:=hdQ hc
 have HO3:=qh (Only w.heap.size [g] w u3) (Only.trans (HO2.out.alloc qo _) (hO.mono (by simp;omega) (λx hx=>Or.inl hx)) (Nat.le_refl _) (λx hx=>hx))
 have HY3:=qh (Own u3 w.heap.size 45 z26) (hO.own (HY2.out.alloc _) (by simp;omega) (by simp;omega))
 clear hc hO hrt
 obtain ⟨X,hX⟩:∃ X,X=u3.heap.size:=⟨_,rfl⟩
 obtain ⟨u4,hst,hs,hbk,hs4,e1,e2,e3⟩:=Zap (P:=Tryz.prog) (T:=45) (zs:=c26 p zPt sh rt) (k:=0) (Own.new u3 45 ⟨z26⟩) (by rw [Zb4];exact Zcw) (by rw [Zb4];decide) qr
 (try simp at hs4)
 have hgX:g<X:=qo
 have hwX:w.heap.size<X:=qo
 have HX4:=qh (Own u4 X 45 (c26 p zPt sh rt)) (by rw [hX];have:=hs;rw [Zb4] at this;exact this)
 have HY4:=qh (Own u4 w.heap.size 45 z26) ((hbk _ qo).trans (HY3.out.alloc _))
 have HB4:=qh (Bw u3 u4) (((Below.refl _ _).alloc (Nat.le_refl _) _).trans ⟨e1,e2,e3,by simp;omega,λb h=>hbk b qo⟩)
 have HST4:=hdQ hst
 have HC4:=qh (Cur 125 u4 g A c l) (HC3.out.step HB4.out)
 have HO4:=qh (Only w.heap.size [g] w u4) (HO3.out.trans (Only.of_below HB4.out []) qo qs)
 clear hst hs hbk e1 e2 e3
 obtain ⟨u5,hst,hs,hbk,hs5,e1,e2,e3⟩:=Zap (P:=Tryz.prog) (T:=43) (zs:=c12 p) (k:=12) HX4.out (by rw [Zbs];kernel_rfl) (by rw [Zbs,Zb4];decide) qr
 have HST5:=hdQ hst
 have HX5:=qh (Own u5 X 45 (c26 p p sh rt)) (by have:=hs;rw [Zbs] at this;exact this)
 have HY5:=qh (Own u5 w.heap.size 45 z26) ((hbk _ qo).trans HY4.out)
 have HC5:=qh (Cur 125 u5 g A c l) (HC4.out.stepB (B:=X) ⟨e1,e2,e3,qo,λb h=>hbk b qo⟩ hgX)
 have HO5:=qh (Only w.heap.size [g] w u5) (HO4.out.trans (Only.of_below (B:=X) ⟨e1,e2,e3,qo,λb h=>hbk b qo⟩ []) qo qs)
 have HLP:=qh ((Instr.loadAt 43 (.pointer (some ⟨X,0,none⟩))).run Tryz.prog u4=.ok (.agg ⟨c12 p⟩) u4) (Zak (P:=Tryz.prog) Tryz.underlying43 rfl (by rw [Zbs];kernel_rfl) (λj v hv=>by rw [Nat.zero_add,HX4.out.cell];exact Zlx hv))
 clear hst hs hbk e1 e2 e3
 have HALX:=qh ((Instr.alloc 45 true (.tuple #[])).run Tryz.prog u3=.ok (.pointer (some ⟨X,0,none⟩)) (u3.alloc (.cells ⟨z26⟩ 45))) (by rw [hX];exact hal u3)
 rw [<- hX] at HST4
 clear hX
 go_wp2_with ((with_reducible refine Zbu ?_);first|(refine Zha rfl 45 0 2 3 (.tmp 7) (.tmp 10) (.tmp 13) rfl rfl rfl rfl (Zuy p sh rt _) ?_)|(refine Zah rfl 45 rfl HALX.out ?_)|(refine Zae rfl 45 (.tmp 5) (.tmp 14) rfl rfl rfl HST4.out ?_)|(refine Zal rfl 43 (.tmp 15) rfl rfl HLP.out ?_)|(refine Zae rfl 43 (.tmp 17) (.tmp 16) rfl rfl rfl HST5.out ?_)|fail)
 (with_reducible refine (Zk9 (n:=2) _ HC5.out qo).mono ?_)
 rintro e u6 ⟨b,rfl,hc,hO⟩
 have hz6:=hO.size
 have HC6:=hdQ hc
 have HO6:=qh (Only w.heap.size [g] w u6) (Only.trans HO5.out (hO.mono qo (λx hx=>Or.inl hx)) (Nat.le_refl _) (λx hx=>hx))
 have HX6:=qh (Own u6 X 45 (c26 p p sh rt)) (hO.own HX5.out HX5.out.lt (by simp;omega))
 have HY6:=qh (Own u6 w.heap.size 45 z26) (hO.own HY5.out HY5.out.lt (by simp;omega))
 clear hc hO HLP HST4 HST5 HALX hal
 have hX6l:=HX6.out.lt
 cases b with
 | false =>
  have HLD:=qh ((Instr.loadAt 45 (.pointer (some ⟨X,0,none⟩))).run Tryz.prog u6=.ok (.agg ⟨c26 p p sh rt⟩) u6) (Zak (P:=Tryz.prog) Tryz.underlying45 rfl (by rw [Zb4];exact Zcw) (λj v hv=>by rw [Nat.zero_add,HX6.out.cell];exact hv))
  obtain ⟨u7,hst,hs,hbk,hs7,e1,e2,e3⟩:=Zap (P:=Tryz.prog) (T:=45) (zs:=c26 p p sh rt) (k:=0) HY6.out (by rw [Zb4];exact Zcw) (by rw [Zb4];decide) qr
  have HST7:=hdQ hst
  have HR:=qh (u7.heap[w.heap.size]? = some (.cells ⟨c26 p p sh rt⟩ 45 (0,0))) (by have:=hs;unfold Own at this;rw [this];rw [Zb4];simp [z26])
  have HC7:=qh (Cur 125 u7 g A c l) (HC6.out.stepB (B:=w.heap.size) ⟨e1,e2,e3,qo,λb h=>hbk b qo⟩ hg)
  have HO7:=qh (Only w.heap.size [g] w u7) (HO6.out.trans (Only.of_below (B:=w.heap.size) ⟨e1,e2,e3,qo,λb h=>hbk b qo⟩ []) qo qs)
  clear hst hs hbk e1 e2 e3
  go_wp2_with ((with_reducible refine Zbu ?_);first|(refine Zal rfl 45 (.tmp 5) rfl rfl HLD.out ?_)|(refine Zae rfl 45 (.tmp 4) (.tmp 35) rfl rfl rfl HST7.out ?_)|fail)
  refine bodyPost_ret (v:=.agg ⟨c26 p p sh rt⟩) (results_cell_row Tryz.results47 _ _ w.heap.size _ _ (0,0) _ rfl HR.out Tryz.underlying45 rfl kr) rfl ?_
  refine ⟨(p,p,sh,rt),rfl, ?_,⟨HP.out.1,HP.out.1⟩,HC7.out,HO7.out⟩
  unfold Zch
  simp only [HP.out.2,HRT.out,Bool.true_and,Bool.and_true]
  rw [decide_eq_true (by omega:(0:Int)<=sh),decide_eq_true (by omega:sh<n)];rfl
 | true =>
  go_wp2_with fail
  refine Zbc (S:=(λw'=>∀ j v,(c12 p)[j]? = some v->w'.cell? ⟨X,j,none⟩=some v)) 15 kr (λj v hv=>(HX6.out.cell j).trans (Zlx hv)) (λhHeld=>?_)
  have HLP:=qh (∀ wx:World,(∀ j v,(c12 p)[j]? = some v->wx.cell? ⟨X,j,none⟩=some v)->(Instr.loadAt 43 (.pointer (some ⟨X,0,none⟩))).run Tryz.prog wx=.ok (.agg ⟨c12 p⟩) wx) (λwx hS=>Zak (P:=Tryz.prog) Tryz.underlying43 rfl (by rw [Zbs];kernel_rfl) (λj v hv=>by rw [Nat.zero_add];exact hS j v hv))
  show Zar _ _ _ _ _ _ (15+1) _ _ _
  refine tkM 0 ?_
  show Zar _ _ _ _ _ _ (14+1) _ _ _
  refine tkM 3 ?_
  show Zar _ _ _ _ _ _ (13+1) _ _ _
  refine tkM 6 ?_
  show Zar _ _ _ _ _ _ (12+1) _ _ _
  refine tkM 11 ?_
  show Zar _ _ _ _ _ _ (11+1) _ _ _
  refine Zj2 (i:=12) (v:=.agg ⟨c12 p⟩) rfl kr kr kr kr (λ_ _ _ h=>h) (Or.inl ⟨qr, ?_⟩) ‹_› ?_;focus (intro wq hSw;have hl:=HLP.out wq hSw;show (do let v <- Instr.loadAt 43 (.pointer (some ⟨X,0,none⟩));pure (Next.value v):Sem Next).run Tryz.prog wq=_;simp only [Sem.run_bind,hl,Result.andThen_ok,Sem.run_pure])
  show Zar _ _ _ _ _ _ (10+1) _ _ _
  refine Zaa (i:=1) rfl kr (λK1 hK1=>?_)
  go_simp
  refine (Zaw (n:=60) _ HC6.out.drew qo).mono ?_
  rintro e v1 ⟨ta,rfl,ta0,ta1,hc,hO⟩
  have hz101:=hO.size
  (try simp at hz101)
  have HC101:=hdQ hc
  have HO101:=qh (Only w.heap.size [g] w v1) (Only.trans HO6.out.drew (hO.mono omm (λx hx=>Or.inl hx)) (Nat.le_refl _) (λx hx=>hx))
  have HX101:=qh (Own v1 X 45 (c26 p p sh rt)) (hO.own HX6.out.drew omm (by simp;omega))
  have HY101:=qh (Own v1 w.heap.size 45 z26) (hO.own HY6.out.drew omm (by simp;omega))
  have hX101l:=HX101.out.lt
  clear hc hO
  refine hK1.out _ _ (λ_ j v hv=>(HX101.out.cell j).trans (Zlx hv)) (λhHeld1=>?_)
  have hS1:=hHeld1 qd
  clear hHeld
  show Zar _ _ _ _ _ _ (9+1) _ _ _
  refine tkM 2 ?_
  show Zar _ _ _ _ _ _ (8+1) _ _ _
  refine Zaa (i:=4) rfl kr (λK4 hK4=>?_)
  go_simp
  refine (Zaw (n:=60) _ HC101.out qo).mono ?_
  rintro e v4 ⟨tb,rfl,tb0,tb1,hc,hO⟩
  have hz104:=hO.size
  (try simp at hz104)
  have HC104:=hdQ hc
  have HO104:=qh (Only w.heap.size [g] w v4) (Only.trans HO101.out (hO.mono omm (λx hx=>Or.inl hx)) (Nat.le_refl _) (λx hx=>hx))
  have HX104:=qh (Own v4 X 45 (c26 p p sh rt)) (hO.own HX101.out omm (by simp;omega))
  have HY104:=qh (Own v4 w.heap.size 45 z26) (hO.own HY101.out omm (by simp;omega))
  have hX104l:=HX104.out.lt
  clear hc hO
  refine hK4.out _ _ (λ_ j v hv=>(HX104.out.cell j).trans (Zlx hv)) (λhHeld4=>?_)
  have hS4:=hHeld4 qd
  clear hS1
  show Zar _ _ _ _ _ _ (7+1) _ _ _
  refine tkM 5 ?_
  show Zar _ _ _ _ _ _ (6+1) _ _ _
  refine Zaa (i:=7) rfl kr (λK7 hK7=>?_)
  go_simp
  refine (Zaw (n:=30) _ HC104.out qo).mono ?_
  rintro e v7 ⟨tc,rfl,tc0,tc1,hc,hO⟩
  have hz107:=hO.size
  (try simp at hz107)
  have HC107:=hdQ hc
  have HO107:=qh (Only w.heap.size [g] w v7) (Only.trans HO104.out (hO.mono omm (λx hx=>Or.inl hx)) (Nat.le_refl _) (λx hx=>hx))
  have HX107:=qh (Own v7 X 45 (c26 p p sh rt)) (hO.own HX104.out omm (by simp;omega))
  have HY107:=qh (Own v7 w.heap.size 45 z26) (hO.own HY104.out omm (by simp;omega))
  have hX107l:=HX107.out.lt
  clear hc hO
  refine hK7.out _ _ (λ_ j v hv=>(HX107.out.cell j).trans (Zlx hv)) (λhHeld7=>?_)
  have hS7:=hHeld7 qd
  clear hS4
  show Zar _ _ _ _ _ _ (5+1) _ _ _
  refine tkM 8 ?_
  show Zar _ _ _ _ _ _ (4+1) _ _ _
  refine Zaa (i:=9) rfl kr (λK9 hK9=>?_)
  go_simp
  refine (Zn9 _ _ _ _).mono ?_
  rintro e x1 ⟨o,rfl,hb⟩
  have hzx:=hb.size
  have HC9:=hdQ (HC107.out.step hb)
  have HO9:=qh (Only w.heap.size [g] w x1) (HO107.out.trans (Only.of_below hb []) (by have:=HO107.out.size;omega) qs)
  have HX9:=qh (Own x1 X 45 (c26 p p sh rt)) (Own.step hb HX107.out)
  have HY9:=qh (Own x1 w.heap.size 45 z26) (Own.step hb HY107.out)
  have hX9l:=HX9.out.lt
  clear hb
  refine hK9.out _ _ (λ_ j v hv=>(HX9.out.cell j).trans (Zlx hv)) (λhHeld9=>?_)
  have hS9:=hHeld9 qd
  show Zar _ _ _ _ _ _ (3+1) _ _ _
  refine Zaa (i:=10) rfl kr (λK10 hK10=>?_)
  refine Zgf rfl _ _ rfl rfl (one_tr o _) ?_
  have HXA:=hdQ (HX9.out.alloc (.cells ⟨trI o⟩ 146))
  refine hK10.out _ _ (λ_ j v hv=>(HXA.out.cell j).trans (Zlx hv)) (λhHeld10=>?_)
  have hS10:=hHeld10 qd
  show Zar _ _ _ _ _ _ (2+1) _ _ _
  refine Zaa (i:=13) rfl kr (λK13 hK13=>?_)
  go_simp
  refine (HTP.out o p _ _ _ ((Own.new x1 146 ⟨trI o⟩).rs rfl qd) HP.out).mono ?_
  rintro e x2 ⟨q,rfl,hq,hb⟩
  have hzy:=hb.size
  (try simp at hzy)
  have HQ:=hdQ hq
  have HC13:=hdQ ((HC9.out.alloc _).step hb)
  have HO13:=qh (Only w.heap.size [g] w x2) ((HO9.out.alloc (by have:=HO9.out.size;omega) _).trans (Only.of_below hb []) (by simp;have:=HO9.out.size;omega) qs)
  have HX13:=qh (Own x2 X 45 (c26 p p sh rt)) (Own.step hb HXA.out)
  have HY13:=qh (Own x2 w.heap.size 45 z26) (Own.step hb (HY9.out.alloc _))
  clear hb hq
  refine hK13.out _ _ (λ_ j v hv=>(HX13.out.cell j).trans (Zlx hv)) (λhHeld13=>?_)
  have hX13S:=hHeld13 qd
  obtain ⟨x3,hst,hs,hbk,hs3,e1,e2,e3⟩:=Zap (P:=Tryz.prog) (T:=43) (zs:=c12 q) (k:=12) HX13.out (by rw [Zbs];kernel_rfl) (by rw [Zbs,Zb4];decide) qr
  have HST:=hdQ hst
  have HX14:=qh (Own x3 X 45 (c26 p q sh rt)) (by have:=hs;rw [Zbs] at this;exact this)
  have HY14:=qh (Own x3 w.heap.size 45 z26) ((hbk _ qo).trans HY13.out)
  have HC14:=qh (Cur 125 x3 g A c l) (HC13.out.stepB (B:=X) ⟨e1,e2,e3,qo,λb h=>hbk b qo⟩ hgX)
  have HO14:=qh (Only w.heap.size [g] w x3) (HO13.out.trans (Only.of_below (B:=X) ⟨e1,e2,e3,qo,λb h=>hbk b qo⟩ []) qo qs)
  clear hst hs hbk e1 e2 e3
  show Zar _ _ _ _ _ _ (1+1) _ _ _
  refine Zaa (i:=14) rfl kr (λK14 hK14=>?_)
  go_simp
  refine hK14.out _ _ (λ_=>hX13S) (λhHeld14=>?_)
  show Zar _ _ _ _ _ _ (0+1) _ _ _
  refine Zaa (i:=15) rfl kr (λK15 hK15=>?_)
  refine Zqy rfl 43 (.tmp 34) (.tmp 33) rfl rfl rfl HST.out ?_
  refine hK15.out _ _ (λh=>absurd rfl h) (λhHeld15=>?_)
  refine Zbd kr ?_ _
  have HLD:=qh ((Instr.loadAt 45 (.pointer (some ⟨X,0,none⟩))).run Tryz.prog x3=.ok (.agg ⟨c26 p q sh rt⟩) x3) (Zak (P:=Tryz.prog) Tryz.underlying45 rfl (by rw [Zb4];exact Zcw) (λj v hv=>by rw [Nat.zero_add,HX14.out.cell];exact hv))
  obtain ⟨x4,hst,hs,hbk,hs7,e1,e2,e3⟩:=Zap (P:=Tryz.prog) (T:=45) (zs:=c26 p q sh rt) (k:=0) HY14.out (by rw [Zb4];exact Zcw) (by rw [Zb4];decide) qr
  have HST7:=hdQ hst
  have HR:=qh (x4.heap[w.heap.size]? = some (.cells ⟨c26 p q sh rt⟩ 45 (0,0))) (by have:=hs;unfold Own at this;rw [this];rw [Zb4];simp [z26])
  have HC7:=qh (Cur 125 x4 g A c l) (HC14.out.stepB (B:=w.heap.size) ⟨e1,e2,e3,qo,λb h=>hbk b qo⟩ hg)
  have HO7:=qh (Only w.heap.size [g] w x4) (HO14.out.trans (Only.of_below (B:=w.heap.size) ⟨e1,e2,e3,qo,λb h=>hbk b qo⟩ []) qo qs)
  clear hst hs hbk e1 e2 e3
  go_wp2_with ((with_reducible refine Zbu ?_);first|(refine Zal rfl 45 (.tmp 5) rfl rfl HLD.out ?_)|(refine Zae rfl 45 (.tmp 4) (.tmp 35) rfl rfl rfl HST7.out ?_)|fail)
  refine bodyPost_ret (v:=.agg ⟨c26 p q sh rt⟩) (results_cell_row Tryz.results47 _ _ w.heap.size _ _ (0,0) _ rfl HR.out Tryz.underlying45 rfl kr) rfl ?_
  refine ⟨(p,q,sh,rt),rfl, ?_,⟨HP.out.1,HQ.out.1⟩,HC7.out,HO7.out⟩
  unfold Zch
  simp only [HP.out.2,HQ.out.2,HRT.out,Bool.true_and,Bool.and_true]
  rw [decide_eq_true (by omega:(0:Int)<=sh),decide_eq_true (by omega:sh<n)];rfl
end
end Go.Proofs.YticdknjoapdmeaaGreatDoor
