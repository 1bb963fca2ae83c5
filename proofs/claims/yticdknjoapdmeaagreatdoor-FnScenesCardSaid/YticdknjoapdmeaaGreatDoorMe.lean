/- Several texts in one: PSurf, CamW, PCam, ScR, ParA, PTex, ParN, Same, SameI, AddSf, AddSf2, AddSf3, ParS, PriS. -/
import Derived.Test.YticdknjoapdmeaaGreatDoorMa
import Derived.Test.YticdknjoapdmeaaGreatDoorMd
import Derived.Test.YticdknjoapdmeaaGreatDoorMc
import Derived.BigQuiet
import Derived.Deep.QuietTactic
import Derived.Deep.RegionHeld3
import Derived.StillTailTactics
import Derived.Recover
set_option linter.unusedVariables false
set_option linter.unusedSimpArgs false
set_option linter.unnecessarySimpa false
namespace Go.Proofs.YticdknjoapdmeaaGreatDoor
set_option maxHeartbeats 32000000
section
set_option maxRecDepth 100000
open Go.RowKit Go.Lib
theorem Zum {ws:List (List UInt8)} (h:ws.length≠10):parSurf ws=(zPt,zPt,0,0):=by
 unfold parSurf
 split
 ·simp at h
 ·rfl
theorem Zv8 {ws:List (List UInt8)} (h:ws.length=10):∃ a0 a1 a2 a3 a4 a5 a6 a7 a8 a9,ws=[a0,a1,a2,a3,a4,a5,a6,a7,a8,a9]:=by
 match ws,h with
 | [a0,a1,a2,a3,a4,a5,a6,a7,a8,a9],_=>exact ⟨a0,a1,a2,a3,a4,a5,a6,a7,a8,a9,rfl⟩
abbrev eSurf (x:Zbt):List Value:=c26 x.1 x.2.1 x.2.2.1 x.2.2.2
theorem Zcw:(Tryz.prog.info? 45).map (·.size)=some 26:=kr
theorem Zi6 (l:List UInt8) (w:World) (hlim:l.length<=1048576) (hn:(splitB 32 l).length≠10) :
  CR 74 #[str l] w ((.agg ⟨eSurf (parSurf (splitB 32 l))⟩)):=by
 rw [Zum hn]
 have HSP:=qh (∀ wx,CL 68 #[str l,.string ⟨#[32]⟩] wx (Zgq (splitB 32 l) wx)) (λwx=>Zfs 32 l wx hlim)
 generalize hW:splitB 32 l=ws at *
 have hne:((ws.length:Int) != 10)=true:=by simp;omega
 clear hW
 have hal:∀ wx:World,(Instr.alloc 45 true (.tuple #[])).run Tryz.prog wx=.ok (.pointer (some ⟨wx.heap.size,0,none⟩)) (wx.alloc (.cells ⟨z26⟩ 45)):=λwx=>by kernel_rfl
 go_enter Tryz.func74,Tryz.ntmps74
 go_wp2_with (first|(refine Zah rfl 45 rfl (hal _) ?_)|fail)
 refine (HSP.out _).mono ?_
 rintro e w1 ⟨A,c,rfl,hr,hge,hb1⟩
 have hz1:=hb1.size
 (try simp at hz1)
 have HX:=qh (Own w1 w.heap.size 45 z26) (Own.step hb1 (Own.new w _ _))
 have HB1:=bh w hb1
 obtain ⟨w2,hst,hs,hbk,hs2,e1,e2,e3⟩:=Zap (P:=Tryz.prog) (T:=45) (zs:=z26) (k:=0) HX.out Zcw qd qr
 have HST:=hdQ hst
 have HR:=qh (w2.heap[w.heap.size]? = some (.cells ⟨z26⟩ 45 (0,0))) hs
 have HB2:=qh (Bw w w2) (Below.trans HB1.out ⟨e1,e2,e3,qo,λb h=>hbk b qo⟩)
 clear hr hge hb1 hst hs hbk e1 e2 e3
 go_wp2_with (first|(refine Zae rfl 45 (.tmp 2) (.tmp 10) rfl rfl rfl HST.out ?_)|fail)
 exact bodyPost_ret (v:=.agg ⟨z26⟩) (results_cell_row Tryz.results74 _ _ w.heap.size _ _ (0,0) _ rfl HR.out Tryz.underlying45 rfl kr) rfl ⟨rfl,HB2.out⟩
theorem jlens {a0 a1 a2 a3 a4 a5 a6 a7 a8 a9:List UInt8} {n:Nat} (h:(join [a0,a1,a2,a3,a4,a5,a6,a7,a8,a9] [32]).length<=n):a0.length<=n/\a1.length<=n/\(join [a2,a3,a4,a5] [32]).length<=n/\(join [a6,a7,a8,a9] [32]).length<=n:=by
 simp [join,joinTail] at h ⊢
 omega
theorem Zik (l:List UInt8) (w:World) (hlim:l.length<=1048576) (he:Env w) (hn:(splitB 32 l).length=10) :
  CR 74 #[str l] w ((.agg ⟨eSurf (parSurf (splitB 32 l))⟩)):=by
 have HE:=hdQ he
 clear he
 have HSP:=qh (∀ wx,CL 68 #[str l,.string ⟨#[32]⟩] wx (Zgq (splitB 32 l) wx)) (λwx=>Zfs 32 l wx hlim)
 have hjl:(join (splitB 32 l) [32]).length<=1048576:=by rw [(Ziy 32 l).1];exact hlim
 generalize splitB 32 l=ws at *
 obtain ⟨a0,a1,a2,a3,a4,a5,a6,a7,a8,a9,rfl⟩:=Zv8 hn
 obtain ⟨jl0,jl1,jl2,jl6⟩:=jlens hjl
 have HPa0:=qh (∀ wx,Bw w wx->CR 72 #[str a0] wx (.tuple #[.int .i64 ((parseI a0).getD 0),.bool (parseI a0).isSome])) (λwx hb=>Zef a0 wx (Nat.le_trans jl0 qd) (HE.out.step hb))
 have HPa1:=qh (∀ wx,Bw w wx->CR 72 #[str a1] wx (.tuple #[.int .i64 ((parseI a1).getD 0),.bool (parseI a1).isSome])) (λwx hb=>Zef a1 wx (Nat.le_trans jl1 qd) (HE.out.step hb))
 have HJ2:=qh (∀ (wx:World) (A:OA) (c:Nat),RS wx 1 A 4 c (Zck [a2,a3,a4,a5])->CR 45 #[.slice A 4 c,.string ⟨#[32]⟩] wx (str (join [a2,a3,a4,a5] [32]))) (λwx A c h=>Zln wx h qs qs (Nat.le_trans jl2 qd))
 have HPP2:=qh (∀ wx,Bw w wx->CR 137 #[str (join [a2,a3,a4,a5] [32])] wx (.tuple #[.agg ⟨c12 ((parPt (join [a2,a3,a4,a5] [32])).getD zPt)⟩,.bool (parPt (join [a2,a3,a4,a5] [32])).isSome])) (λwx hb=>Zjl _ wx jl2 (HE.out.step hb))
 have HJ6:=qh (∀ (wx:World) (A:OA) (c:Nat),RS wx 1 A 4 c (Zck [a6,a7,a8,a9])->CR 45 #[.slice A 4 c,.string ⟨#[32]⟩] wx (str (join [a6,a7,a8,a9] [32]))) (λwx A c h=>Zln wx h qs qs (Nat.le_trans jl6 qd))
 have HPP6:=qh (∀ wx,Bw w wx->CR 137 #[str (join [a6,a7,a8,a9] [32])] wx (.tuple #[.agg ⟨c12 ((parPt (join [a6,a7,a8,a9] [32])).getD zPt)⟩,.bool (parPt (join [a6,a7,a8,a9] [32])).isSome])) (λwx hb=>Zjl _ wx jl6 (HE.out.step hb))
 rw [show parSurf [a0,a1,a2,a3,a4,a5,a6,a7,a8,a9]=((parPt (join [a2,a3,a4,a5] [32])).getD zPt,(parPt (join [a6,a7,a8,a9] [32])).getD zPt,(parseI a0).getD 0,(parseI a1).getD 0) from rfl]
 dsimp only [eSurf]
 generalize parPt (join [a2,a3,a4,a5] [32])=op at *
 generalize parPt (join [a6,a7,a8,a9] [32])=oq at *
 generalize parseI a0=os at *
 generalize parseI a1=ot at *
 generalize op.getD zPt=vp at *;generalize op.isSome=bp at *;generalize oq.getD zPt=vq at *;generalize oq.isSome=bq at *;generalize os.getD 0=vs at *;generalize os.isSome=bs at *;generalize ot.getD 0=vt at *;generalize ot.isSome=bt at *
 generalize join [a2,a3,a4,a5] [32]=j2 at *
 generalize join [a6,a7,a8,a9] [32]=j6 at *
 clear jl0 jl1 jl2 jl6 hjl
 have hal:∀ wx:World,(Instr.alloc 45 true (.tuple #[])).run Tryz.prog wx=.ok (.pointer (some ⟨wx.heap.size,0,none⟩)) (wx.alloc (.cells ⟨z26⟩ 45)):=λwx=>by kernel_rfl
 have hne:((10:Int) != 10)=false:=qd
 go_enter Tryz.func74,Tryz.ntmps74
 go_wp2_with (first|(refine Zah rfl 45 rfl (hal _) ?_)|fail)
 refine (HSP.out _).mono ?_
 rintro e w1 ⟨A,c,rfl,hr,hge,hb1⟩
 have hz1:=hb1.size
 (try simp at hz1)
 simp only [List.length_cons,List.length_nil,Nat.zero_add,Nat.reduceAdd] at hr ⊢
 obtain ⟨hnc,hcm,hop⟩:=hr.open_
 obtain ⟨b,o,rfl,hbl,hcell⟩:=hop qo
 unfold maxLen at hcm
 have hbw:w.heap.size<b:=by have:=hge b (by simp [gOf]);simp at this;omega
 have HX0:=qh (Own (w1.alloc (.cells ⟨z26⟩ 45)) w.heap.size 45 z26) (Own.alloc (Own.step hb1 (Own.new w _ _)) _)
 have HX:=qh (Own (w1.alloc (.cells ⟨z26⟩ 45)) w1.heap.size 45 z26) (Own.new w1 _ _)
 have HB1:=qh (Bw w (w1.alloc (.cells ⟨z26⟩ 45))) ((bst hb1).alloc qo _)
 have HR1:=qh (RS (w1.alloc (.cells ⟨z26⟩ 45)) 1 (some ⟨b,o,none⟩) 10 c (Zck [a0,a1,a2,a3,a4,a5,a6,a7,a8,a9])) (hr.alloc _)
 have hlx:w1.heap.size<(w1.alloc (.cells ⟨z26⟩ 45)).heap.size:=qs
 obtain ⟨w2,hst,hs,hbk,hs2,e1,e2,e3⟩:=Zap (P:=Tryz.prog) (T:=45) (zs:=z26) (k:=0) HX.out Zcw qd qr
 have HST:=hdQ hst
 have HXa:=qh (Own w2 w1.heap.size 45 z26) hs
 have HX0a:=qh (Own w2 w.heap.size 45 z26) ((hbk _ omm).trans HX0.out)
 have HB2:=qh (Bw w w2) (Below.trans HB1.out ⟨e1,e2,e3,qo,λb h=>hbk b omm⟩)
 have HR2:=qh (RS w2 1 (some ⟨b,o,none⟩) 10 c (Zck [a0,a1,a2,a3,a4,a5,a6,a7,a8,a9])) (HR1.out.keep qo (λ_ x hx hl=>hbk x (by simp [gOf] at hx;omega)))
 have hz2:w2.heap.size=(w1.alloc (.cells ⟨z26⟩ 45)).heap.size:=hs2
 (try simp at hz2)
 have q0:w2.cell? ⟨b,o,none⟩=some (str a0):=by
  have:=HR2.out.open_.2.2 qo
  obtain ⟨b',o',e,_,h⟩:=this
  obtain ⟨rfl,rfl⟩:b'=b/\o'=o:=by injection e with e;injection e with e1 e2;exact ⟨e1.symm,e2.symm⟩
  exact h 0 qo
 clear hst hs hbk hs2 e1 e2 e3 HX HX0 HR1 HB1 hr hge hb1 hop hcell
 go_wp2_with (first|(refine Zah rfl 45 rfl (hal _) ?_)|(refine Zae rfl 45 (.tmp 4) (.tmp 11) rfl rfl rfl HST.out ?_)|fail)
 refine (HPa0.out _ HB2.out).mono ?_
 rintro e w3 ⟨rfl,hb3⟩
 have hz3:=hb3.size
 have HXb:=qh (Own w3 w1.heap.size 45 z26) (Own.step hb3 HXa.out)
 have HX0b:=qh (Own (w3.setCell ⟨w1.heap.size,24,none⟩ (.int .i64 vs)) w.heap.size 45 z26) ((Own.step hb3 HX0a.out).far (p:=⟨w1.heap.size,24,none⟩) (by show w.heap.size≠w1.heap.size;omega) _)
 have x24:w3.cell? ⟨w1.heap.size,24,none⟩=some (.int .i64 0):=HXb.out.cell 24
 have f24:=HXb.out.frozen 24
 have l24:=HXb.out.lt
 have HXc:=qh (Own (w3.setCell ⟨w1.heap.size,24,none⟩ (.int .i64 vs)) w1.heap.size 45 (c26 zPt zPt vs 0)) (HXb.out.set_ 24 (.int .i64 vs))
 have HR3:=qh (RS (w3.setCell ⟨w1.heap.size,24,none⟩ (.int .i64 vs)) 1 (some ⟨b,o,none⟩) 10 c (Zck [a0,a1,a2,a3,a4,a5,a6,a7,a8,a9])) ((HR2.out.step hb3).setCell (p:=⟨w1.heap.size,24,none⟩) (by rintro ad ⟨⟩;show b≠w1.heap.size;omega) _)
 have HB3:=qh (Bw w (w3.setCell ⟨w1.heap.size,24,none⟩ (.int .i64 vs))) ((Below.step hb3 HB2.out HB2.out.size).setCell (p:=⟨w1.heap.size,24,none⟩) (by show w.heap.size<=w1.heap.size;omega) _)
 have q1:(w3.setCell ⟨w1.heap.size,24,none⟩ (.int .i64 vs)).cell? ⟨b,o+1,none⟩=some (str a1):=by
  have:=HR3.out.open_.2.2 qo
  obtain ⟨b',o',e,_,h⟩:=this
  obtain ⟨rfl,rfl⟩:b'=b/\o'=o:=by injection e with e;injection e with e1 e2;exact ⟨e1.symm,e2.symm⟩
  exact h 1 qo
 have nbx:¬ b=w1.heap.size:=qo
 clear hb3 HXa HX0a HR2
 go_wp2_with fail
 refine (HPa1.out _ HB3.out).mono ?_
 rintro e w4 ⟨rfl,hb4⟩
 have hz4:=hb4.size
 (try simp at hz4)
 have HXd:=qh (Own w4 w1.heap.size 45 (c26 zPt zPt vs 0)) (Own.step hb4 HXc.out)
 have HX0d:=qh (Own (w4.setCell ⟨w1.heap.size,25,none⟩ (.int .i64 vt)) w.heap.size 45 z26) ((Own.step hb4 HX0b.out).far (p:=⟨w1.heap.size,25,none⟩) (by show w.heap.size≠w1.heap.size;omega) _)
 have x25:w4.cell? ⟨w1.heap.size,25,none⟩=some (.int .i64 0):=HXd.out.cell 25
 have f25:=HXd.out.frozen 25
 have l25:=HXd.out.lt
 have HXe:=qh (Own (w4.setCell ⟨w1.heap.size,25,none⟩ (.int .i64 vt)) w1.heap.size 45 (c26 zPt zPt vs vt)) (HXd.out.set_ 25 (.int .i64 vt))
 have HR4:=qh (RS (w4.setCell ⟨w1.heap.size,25,none⟩ (.int .i64 vt)) 1 (some ⟨b,o,none⟩) 10 c (Zck [a0,a1,a2,a3,a4,a5,a6,a7,a8,a9])) ((HR3.out.step hb4).setCell (p:=⟨w1.heap.size,25,none⟩) (by rintro ad ⟨⟩;show b≠w1.heap.size;omega) _)
 have HB4:=qh (Bw w (w4.setCell ⟨w1.heap.size,25,none⟩ (.int .i64 vt))) ((Below.step hb4 HB3.out HB3.out.size).setCell (p:=⟨w1.heap.size,25,none⟩) (by show w.heap.size<=w1.heap.size;omega) _)
 have HS2:=qh (RS (w4.setCell ⟨w1.heap.size,25,none⟩ (.int .i64 vt)) 1 (some ⟨b,o+2,none⟩) 4 (c-2) (Zck [a2,a3,a4,a5])) (by have:=HR4.out.part rfl 2 6 (c-2) qo qo qo (by unfold maxLen;omega);exact this)
 clear hb4 HXb HXc HX0b HR3 x24 f24 q0 q1
 go_wp2_with fail
 refine (HJ2.out _ _ _ HS2.out).mono ?_
 rintro e w5 ⟨rfl,hb5⟩
 have hz5:=hb5.size
 (try simp at hz5)
 have HB5:=qh (Bw w w5) (Below.step hb5 HB4.out HB4.out.size)
 go_wp2_with fail
 refine (HPP2.out _ HB5.out).mono ?_
 rintro e w6 ⟨rfl,hb6⟩
 have hz6:=hb6.size
 obtain ⟨w7,hst,hs,hbk,hs2,e1,e2,e3⟩:=Zap (P:=Tryz.prog) (T:=43) (zs:=c12 vp) (k:=0) (Own.step hb6 (Own.step hb5 HXe.out)) (by rw [Zbs];kernel_rfl) (by rw [Zbs,Zb4];decide) qr
 have HST7:=hdQ hst
 have HXf:=qh (Own w7 w1.heap.size 45 (c26 vp zPt vs vt)) (by have:=hs;rw [Zbs] at this;exact this)
 have HX0f:=qh (Own w7 w.heap.size 45 z26) ((hbk _ qo).trans (Own.step hb6 (Own.step hb5 HX0d.out)))
 have HB7:=qh (Bw w w7) (Below.trans (Below.step hb6 HB5.out HB5.out.size) ⟨e1,e2,e3,qo,λb h=>hbk b qo⟩)
 have HR7:=qh (RS w7 1 (some ⟨b,o,none⟩) 10 c (Zck [a0,a1,a2,a3,a4,a5,a6,a7,a8,a9])) (((HR4.out.step hb5).step hb6).keep qo (λ_ x hx hl=>hbk x (by simp [gOf] at hx;omega)))
 have HS6:=qh (RS w7 1 (some ⟨b,o+6,none⟩) 4 (c-6) (Zck [a6,a7,a8,a9])) (by have:=HR7.out.part rfl 6 10 (c-6) qo qo qo (by unfold maxLen;omega);exact this)
 clear hst hs hbk e1 e2 e3 hb5 hb6 HXd HXe HX0d HR4 x25 f25
 go_wp2_with (first|(refine Zae rfl 43 (.tmp 35) (.tmp 33) rfl rfl rfl HST7.out ?_)|fail)
 refine (HJ6.out _ _ _ HS6.out).mono ?_
 rintro e w8 ⟨rfl,hb8⟩
 have hz8:=hb8.size
 have HB8:=qh (Bw w w8) (Below.step hb8 HB7.out HB7.out.size)
 go_wp2_with fail
 refine (HPP6.out _ HB8.out).mono ?_
 rintro e w9 ⟨rfl,hb9⟩
 have hz9:=hb9.size
 obtain ⟨wa,hst,hs,hbk,hs2,e1,e2,e3⟩:=Zap (P:=Tryz.prog) (T:=43) (zs:=c12 vq) (k:=12) (Own.step hb9 (Own.step hb8 HXf.out)) (by rw [Zbs];kernel_rfl) (by rw [Zbs,Zb4];decide) qr
 have HSTa:=hdQ hst
 have HXg:=qh (Own wa w1.heap.size 45 (c26 vp vq vs vt)) (by have:=hs;rw [Zbs] at this;exact this)
 have HX0g:=qh (Own wa w.heap.size 45 z26) ((hbk _ qo).trans (Own.step hb9 (Own.step hb8 HX0f.out)))
 have HBa:=qh (Bw w wa) (Below.trans (Below.step hb9 HB8.out HB8.out.size) ⟨e1,e2,e3,qo,λb h=>hbk b qo⟩)
 have HLD:=qh ((Instr.loadAt 45 (.pointer (some ⟨w1.heap.size,0,none⟩))).run Tryz.prog wa=.ok (.agg ⟨c26 vp vq vs vt⟩) wa) (Zak (P:=Tryz.prog) Tryz.underlying45 rfl (by rw [Zb4];kernel_rfl) (λj v hv=>by rw [Nat.zero_add,HXg.out.cell];exact hv))
 clear hst hs hbk e1 e2 e3 hb8 hb9
 obtain ⟨wb,hst,hs,hbk,hs2,e1,e2,e3⟩:=Zap (P:=Tryz.prog) (T:=45) (zs:=c26 vp vq vs vt) (k:=0) HX0g.out (by rw [Zb4];exact Zcw) (by rw [Zb4];decide) qr
 have HSTb:=hdQ hst
 have HR:=qh (wb.heap[w.heap.size]? = some (.cells ⟨c26 vp vq vs vt⟩ 45 (0,0))) (by have:=hs;unfold Own at this;rw [this];rw [Zb4];simp [z26])
 have HBb:=qh (Bw w wb) (Below.trans HBa.out ⟨e1,e2,e3,qo,λb h=>hbk b qo⟩)
 clear hst hs hbk e1 e2 e3
 go_wp2_with (first|(refine Zae rfl 43 (.tmp 43) (.tmp 41) rfl rfl rfl HSTa.out ?_)|(refine Zal rfl 45 (.tmp 4) rfl rfl HLD.out ?_)|(refine Zae rfl 45 (.tmp 2) (.tmp 44) rfl rfl rfl HSTb.out ?_)|fail)
 exact bodyPost_ret (v:=.agg ⟨c26 vp vq vs vt⟩) (results_cell_row Tryz.results74 _ _ w.heap.size _ _ (0,0) _ rfl HR.out Tryz.underlying45 rfl kr) rfl ⟨rfl,HBb.out⟩
theorem Zl3 (l:List UInt8) (w:World) (hlim:l.length<=1048576) (he:Env w) :
  CR 74 #[str l] w ((.agg ⟨eSurf (parSurf (splitB 32 l))⟩)):=by
 by_cases h:(splitB 32 l).length=10
 ·exact Zik l w hlim he h
 ·exact Zi6 l w hlim h
theorem Zxq {a b c d:Int} {z:Int} {f g:Int} (h:Za4 a b c d f g=true) (hz:z=0∨z=1):∀ u∈[a,b,c,d,z,f,g],Zca u:=by
 obtain ⟨h1,h2,h3,h4,h5,h6⟩:=Znc h
 intro u hu
 simp only [List.mem_cons,List.not_mem_nil,or_false] at hu
 unfold Zca
 rcases hu with rfl|rfl|rfl|rfl|rfl|rfl|rfl<;>omega
theorem tex_num {log:Int} {l:List Int} (h:Zax log l=true):∀ u∈l,Zca u:=by
 have h4:=(Zge h).2.2.2
 unfold Zga at h4
 rw [List.all_eq_true] at h4
 intro u hu
 have:=Za6 (h4 u hu)
 unfold Zca;omega
theorem Zhz (a b c d f g:Int) (w:World) (hv:Za4 a b c d f g=true) (ht:Tab w) :
  CR 40 #[Zb2 a b c d true f g] w ((str (Zn6 a b c d true f g))):=by
 have HV:=qh (∀ wx,CR 75 #[Zb2 a b c d true f g] wx (.bool true)) (λwx=>by have:=Zdn (a:=a) (b:=b) (c:=c) (d:=d) (e:=true) (f:=f) (g:=g) wx;rw [hv] at this;exact this)
 have HF:=qh (∀ (wx:World) (A:OA),RS wx 1 A 7 7 (ints [a,b,c,d,1,f,g])->Bw w wx->CR 91 #[.slice A 7 7] wx (str (Zn6 a b c d true f g))) (λwx A h hbx=>Zfa (l:=[a,b,c,d,1,f,g]) wx h (Zxq hv qs) qs qs (ht.step hbx))
 clear hv ht
 go_enter Tryz.func40,Tryz.ntmps40
 go_wp2_with (first|(go_at_call 75;refine (HV.out _).mono ?_;rintro e w1 ⟨rfl,hb1⟩;have hz1:=hb1.size;(try simp at hz1);have c0:=λo=>hb1.cell (p:=⟨w.heap.size,o,none⟩) omm;have HB1:=bh w hb1;clear hb1)|fail)
 refine (HF.out _ _ ?_ bll).mono ?_
 ·exact Own.rs (n:=7) (size:=1) (by first|exact Own.new _ _ #[_,_,_,_,_,_,_]|exact Own.at_new (cs := #[_,_,_,_,_,_,_]) rfl) rfl qd
 rintro e w' ⟨rfl,hb⟩
 have hz:=hb.size
 (try simp at hz)
 go_wp2_with fail
 go_ret
 exact ⟨rfl,bll⟩
theorem Zg9 (a b c d f g:Int) (w:World) (hv:Za4 a b c d f g=true) (ht:Tab w) :
  CR 40 #[Zb2 a b c d false f g] w ((str (Zn6 a b c d false f g))):=by
 have HV:=qh (∀ wx,CR 75 #[Zb2 a b c d false f g] wx (.bool true)) (λwx=>by have:=Zdn (a:=a) (b:=b) (c:=c) (d:=d) (e:=false) (f:=f) (g:=g) wx;rw [hv] at this;exact this)
 have HF:=qh (∀ (wx:World) (A:OA),RS wx 1 A 7 7 (ints [a,b,c,d,0,f,g])->Bw w wx->CR 91 #[.slice A 7 7] wx (str (Zn6 a b c d false f g))) (λwx A h hbx=>Zfa (l:=[a,b,c,d,0,f,g]) wx h (Zxq hv qs) qs qs (ht.step hbx))
 clear hv ht
 go_enter Tryz.func40,Tryz.ntmps40
 go_wp2_with (first|(go_at_call 75;refine (HV.out _).mono ?_;rintro e w1 ⟨rfl,hb1⟩;have hz1:=hb1.size;(try simp at hz1);have c0:=λo=>hb1.cell (p:=⟨w.heap.size,o,none⟩) omm;have HB1:=bh w hb1;clear hb1)|fail)
 refine (HF.out _ _ ?_ bll).mono ?_
 ·exact Own.rs (n:=7) (size:=1) (by first|exact Own.new _ _ #[_,_,_,_,_,_,_]|exact Own.at_new (cs := #[_,_,_,_,_,_,_]) rfl) rfl qd
 rintro e w' ⟨rfl,hb⟩
 have hz:=hb.size
 (try simp at hz)
 go_wp2_with fail
 go_ret
 exact ⟨rfl,bll⟩
theorem Zhg (a b c d:Int) (e:Bool) (f g:Int) (w:World) (hv:Za4 a b c d f g=true) (ht:Tab w) :
  CL 40 #[Zb2 a b c d e f g] w λe' w'=>e'=.returned (str (Zn6 a b c d e f g))/\Bw w w':=by
 cases e
 ·exact Zg9 a b c d f g w hv ht
 ·exact Zhz a b c d f g w hv ht
theorem Zlo {log:Int} {A:OA} {c:Nat} {l:List Int} (w:World) (h:RS w 1 A l.length c (ints l)) (ht:Tab w) :
  CR 41 #[Zdw log (.slice A l.length c)] w ((str (if Zax log l then Zvw log l else []))):=by
 have HV:=qh (∀ b,Zax log l=b->∀ wx,Bw w wx->CR 76 #[Zdw log (.slice A l.length c)] wx (.bool b)) (λb hb wx hbx=>by subst hb;exact Zc6 wx (RS.step hbx h))
 cases hv:Zax log l with
 | false =>
  clear ht h
  go_enter Tryz.func41,Tryz.ntmps41
  go_wp2_with (first|(go_at_call 76;refine (HV.out _ hv _ bll).mono ?_;rintro e w1 ⟨rfl,hb1⟩;have HB1:=bh w hb1;clear hb1)|fail)
  go_ret
  exact ⟨rfl,bll⟩
 | true =>
  have HN:=qh (∀ wx:World,Bw w wx->CR 42 #[.int .i64 log] wx (str (fmtI log))) (λwx hbx=>Zdv log wx (ht.step hbx))
  have HF:=qh (∀ wx:World,Bw w wx->CR 91 #[.slice A l.length c] wx (str (fmtL l))) (λwx hbx=>Zfa (l:=l) wx (RS.step hbx h) (tex_num hv) (by have:=Zge hv;omega) (by have:=Zge hv;omega) (ht.step hbx))
  have HL1:=hdQ (Zc5 log)
  have HL2:=hdQ (Zie l)
  have HL3:=hdQ (Zge hv).2.2.1
  have sl1:¬ 9223372036854775807<(fmtI log).length+1:=by have:=HL1.out;omega
  have sl2:¬ 9223372036854775807<(fmtI log).length+1+(fmtL l).length:=by have:=HL1.out;have:=HL2.out;have:=HL3.out;omega
  have HT:=qh (Zvw log l=fmtI log++[58]++fmtL l) rfl
  clear h
  generalize fmtI log=X at *
  generalize fmtL l=Y at *
  go_enter Tryz.func41,Tryz.ntmps41
  go_wp2_with (first|(go_at_call 76;refine (HV.out _ hv _ bll).mono ?_;rintro e w1 ⟨rfl,hb1⟩;have hz1:=hb1.size;(try simp at hz1);have c0:=λo=>hb1.cell (p:=⟨w.heap.size,o,none⟩) omm;have HB1:=bh w hb1;clear hb1)|fail)
  go_region_held3 (λw'=>w'.cell? ⟨w.heap.size,0,none⟩=some (.int .i64 log)/\w'.cell? ⟨w.heap.size,1,none⟩=some (.slice A l.length c))
   (first|go_keep|((try dsimp only);refine ⟨?_, ?_⟩<;>(go_simp;done)))
   (first|(go_at_call 42;(with_reducible refine (HN.out _ bll).mono ?_);rintro e wA ⟨rfl,hbA⟩;have hzA:=hbA.size;(try simp at hzA);(refine Zan hbA (w.heap.size) ?_ ?_;(first|omega|(simp<;>omega));intro n0 nf0 nz0))|(go_at_call 91;(with_reducible refine (HF.out _ bll).mono ?_);rintro e wB ⟨rfl,hbB⟩;have hzB:=hbB.size;(try simp at hzB);(refine Zan hbB (w.heap.size) ?_ ?_;(first|omega|(simp<;>omega));intro m0 mf0 mz0))|fail)
  all_goals
   go_wp2_with fail
   go_ret
   refine ⟨?_,bll⟩
   first
    | (try rw [if_pos rfl]);rw [HT.out];show Ending.returned (Value.string ((({ data:=X.toArray }:ByteArray)++{ data:=[58].toArray })++{ data:=Y.toArray }))=_;rw [Zad,Zad]
    | fail
def zCam:ECam:=(0,0,0,0,false,0,0)
abbrev vC (v:ECam):Value:=Zb2 v.1 v.2.1 v.2.2.1 v.2.2.2.1 v.2.2.2.2.1 v.2.2.2.2.2.1 v.2.2.2.2.2.2
def outC (r:Option ECam):Value:=.tuple #[vC (r.getD zCam),.bool r.isSome]
theorem Zra {l:List UInt8} (h:Zbm l=none):parCam l=none:=by unfold parCam;rw [h]
theorem Zuq {l:List UInt8} {ls:List Int} (h:Zbm l=some ls) (hl:ls.length≠7):parCam l=none:=by
 unfold parCam;rw [h]
 match ls,hl with
 | [],_=>rfl
 | [_],_=>rfl
 | [_,_],_=>rfl
 | [_,_,_],_=>rfl
 | [_,_,_,_],_=>rfl
 | [_,_,_,_,_],_=>rfl
 | [_,_,_,_,_,_],_=>rfl
 | [a,b,c,d,e,f,g],hl=>exact absurd rfl hl
 | _::_::_::_::_::_::_::_::_,_=>rfl
theorem seven_of {ls:List Int} (h:ls.length=7):∃ a b c d e f g,ls=[a,b,c,d,e,f,g]:=by
 match ls,h with
 | [a,b,c,d,e,f,g],_=>exact ⟨a,b,c,d,e,f,g,rfl⟩
section
variable {l:List UInt8} {a b c d e f g:Int}
theorem Zw3 (h:Zbm l=some [a,b,c,d,e,f,g]) (hv:Za4 a b c d f g=true) (ht:Zn6 a b c d (e==1) f g=l):parCam l=some (a,b,c,d,e==1,f,g):=by unfold parCam;rw [h];simp only [hv,ht,decide_true,Bool.and_self,if_true]
theorem Zur (h:Zbm l=some [a,b,c,d,e,f,g]) (hv:Za4 a b c d f g=false):parCam l=none:=by unfold parCam;rw [h];simp [hv]
theorem Zpj (h:Zbm l=some [a,b,c,d,e,f,g]) (ht:Zn6 a b c d (e==1) f g≠l):parCam l=none:=by unfold parCam;rw [h];simp [ht]
end
theorem Zin (a b c d:Int) (e:Bool) (f g:Int) (w:World) (hv:Za4 a b c d f g=false) :
  CL 40 #[Zb2 a b c d e f g] w λe' w'=>e'=.returned (str [])/\Bw w w':=by
 have HV:=qh (∀ wx,CR 75 #[Zb2 a b c d e f g] wx (.bool false)) (λwx=>by have:=Zdn (a:=a) (b:=b) (c:=c) (d:=d) (e:=e) (f:=f) (g:=g) wx;rw [hv] at this;exact this)
 clear hv
 go_enter Tryz.func40,Tryz.ntmps40
 go_wp2_with (first|(go_at_call 75;refine (HV.out _).mono ?_;rintro e w1 ⟨rfl,hb1⟩;have HB1:=bh w hb1;clear hb1)|fail)
 go_ret
 exact ⟨rfl,bll⟩
theorem Zoj (l:List UInt8) (w:World) (hlim:l.length<=1048576) (he:Env w) :
  CR 70 #[str l] w ((outC (parCam l))):=by
 have HPI:=qh (∀ wx,Bw w wx->CL 132 #[str l] wx (OutPL (Zbm l) wx)) (λwx hb=>Zhy l wx hlim (he.step hb))
 cases hp:Zbm l with
 | none =>
  have HPV:=hdQ (Zra hp)
  rw [hp] at HPI
  clear hp
  go_enter Tryz.func70,Tryz.ntmps70
  go_wp2_with fail
  refine (HPI.out _ bll).mono ?_
  rintro e w1 ⟨A,cc,rfl,ho,hge,hb1⟩
  (try simp only [Option.getD_some] at ho)
  have hz1:=hb1.size
  (try simp at hz1)
  have HX1:=qh (Own w1 w.heap.size 23 [.int .i64 0,.int .i64 0,.int .i64 0,.int .i64 0,.bool false,.int .i64 0,.int .i64 0]) (Own.step hb1 (Own.new w _ #[_,_,_,_,_,_,_]))
  have HB1:=bh w hb1
  have x0:=HX1.out.cell 0
  have x1:=HX1.out.cell 1
  have x2:=HX1.out.cell 2
  have x3:=HX1.out.cell 3
  have x4:=HX1.out.cell 4
  have x5:=HX1.out.cell 5
  have x6:=HX1.out.cell 6
  have xf:=HX1.out.frozen
  (try dsimp only [List.getElem?_cons_succ,List.getElem?_cons_zero] at x0 x1 x2 x3 x4 x5 x6)
  clear ho hge hb1
  go_wp2_with fail
  exact bodyPost_ret (v:=.tuple #[.agg #[.int .i64 0,.int .i64 0,.int .i64 0,.int .i64 0,.bool false,.int .i64 0,.int .i64 0],.bool false]) (by simp [results,Tryz.results70,go_sem, *]) rfl ⟨by first|(rw [HPV.out];done)|(rw [HPV.out];rfl),bll⟩
 | some ls =>
  rw [hp] at HPI
  by_cases h3:ls.length=7
  ·obtain ⟨a,b,c,d,e0,f,g,rfl⟩:=seven_of h3
   clear h3
   have hnl:l≠[]:=Zs3 hp
   have HFC:=qh (∃ T:List UInt8,(∀ wx,Bw w wx->CR 40 #[Zb2 a b c d (e0==1) f g] wx (str T))/\((T=l/\parCam l=some (a,b,c,d,e0==1,f,g))∨(T≠l/\parCam l=none))) (by
    cases hv:Za4 a b c d f g with
    | true =>
     refine ⟨Zn6 a b c d (e0==1) f g,λwx hb=>Zhg a b c d (e0==1) f g wx hv (he.tab.step hb), ?_⟩
     by_cases ht:Zn6 a b c d (e0==1) f g=l
     ·exact .inl ⟨ht,Zw3 hp hv ht⟩
     ·exact .inr ⟨ht,Zpj hp ht⟩
    | false=>exact ⟨[],λwx hb=>Zin a b c d (e0==1) f g wx hv,.inr ⟨λe=>hnl e.symm,Zur hp hv⟩⟩)
   obtain ⟨T,hfc,hT⟩:=HFC.out
   have HFV:=hdQ hfc
   clear HFC hfc hp hnl
   generalize hE:(e0==1)=E at *
   rcases hT with ⟨hT,hq⟩|⟨hT,hq⟩
   ·have HPV:=hdQ hq
    clear hq
    subst hT
    have hnl:(T != T)=false:=qs
    go_enter Tryz.func70,Tryz.ntmps70
    go_wp2_with fail
    refine (HPI.out _ bll).mono ?_
    rintro e w1 ⟨A,cc,rfl,ho,hge,hb1⟩
    (try simp only [Option.getD_some] at ho)
    obtain ⟨hlc,hcm,hop⟩:=ho.rs.open_
    unfold maxLen at hcm
    obtain ⟨bk,o,rfl,hbl,hcell⟩:=hop qs
    have c0:w1.cell? ⟨bk,o,none⟩=some (.int .i64 a):=by have:=hcell 0 qs;simpa using this
    have c1:w1.cell? ⟨bk,o+1,none⟩=some (.int .i64 b):=by have:=hcell 1 qs;simpa using this
    have c2:w1.cell? ⟨bk,o+2,none⟩=some (.int .i64 c):=by have:=hcell 2 qs;simpa using this
    have c3:w1.cell? ⟨bk,o+3,none⟩=some (.int .i64 d):=by have:=hcell 3 qs;simpa using this
    have c4:w1.cell? ⟨bk,o+4,none⟩=some (.int .i64 e0):=by have:=hcell 4 qs;simpa using this
    have c5:w1.cell? ⟨bk,o+5,none⟩=some (.int .i64 f):=by have:=hcell 5 qs;simpa using this
    have c6:w1.cell? ⟨bk,o+6,none⟩=some (.int .i64 g):=by have:=hcell 6 qs;simpa using this
    have hz1:=hb1.size
    (try simp at hz1)
    have HX1:=qh (Own w1 w.heap.size 23 [.int .i64 0,.int .i64 0,.int .i64 0,.int .i64 0,.bool false,.int .i64 0,.int .i64 0]) (Own.step hb1 (Own.new w _ #[_,_,_,_,_,_,_]))
    have HB1:=bh w hb1
    have nb:¬ bk=w1.heap.size:=qo
    clear ho hge hb1 hop hcell hlc
    go_wp2_with fail
    go_region_held3 (λw'=>w'.cell? ⟨bk,o,none⟩=some (.int .i64 a)/\w'.cell? ⟨bk,o+1,none⟩=some (.int .i64 b)/\w'.cell? ⟨bk,o+2,none⟩=some (.int .i64 c)/\w'.cell? ⟨bk,o+3,none⟩=some (.int .i64 d)/\w'.cell? ⟨bk,o+4,none⟩=some (.int .i64 e0)/\w'.cell? ⟨bk,o+5,none⟩=some (.int .i64 f)/\w'.cell? ⟨bk,o+6,none⟩=some (.int .i64 g))
     (first|((try dsimp only);refine ⟨?_, ?_, ?_, ?_, ?_, ?_, ?_⟩<;>(go_simp;done))|go_keep)
     (fail)
    all_goals
     go_wp2_with fail
     refine (HFV.out _ bll).mono ?_
     rintro e w2 ⟨rfl,hb2⟩
     have hz2:=hb2.size
     (try simp at hz2)
     have HB2:=bh w hb2
     have HX2:=qh (Own w2 w.heap.size 23 [.int .i64 0,.int .i64 0,.int .i64 0,.int .i64 0,.bool false,.int .i64 0,.int .i64 0]) (Own.step hb2 (owx HX1.out))
     have y0:=λo=>hb2.cell (p:=⟨w1.heap.size,o,none⟩) omm
     have x0:=HX2.out.cell 0
     have x1:=HX2.out.cell 1
     have x2:=HX2.out.cell 2
     have x3:=HX2.out.cell 3
     have x4:=HX2.out.cell 4
     have x5:=HX2.out.cell 5
     have x6:=HX2.out.cell 6
     have xf:=HX2.out.frozen
     (try dsimp only [List.getElem?_cons_succ,List.getElem?_cons_zero] at x0 x1 x2 x3 x4 x5 x6)
     have nx:¬ w.heap.size=w1.heap.size:=qo
     have lx:w1.heap.size<w2.heap.size:=qo
     clear hb2
     go_wp2_with fail
     exact bodyPost_ret (v:=.tuple #[Zb2 a b c d E f g,.bool true]) (by simp [results,Tryz.results70,go_sem, *]) rfl ⟨by first|(rw [HPV.out];done)|(rw [HPV.out];rfl),bll⟩
   ·have HPV:=hdQ hq
    clear hq
    have hnl:(T==l)=false:=by simpa using hT
    go_enter Tryz.func70,Tryz.ntmps70
    go_wp2_with fail
    refine (HPI.out _ bll).mono ?_
    rintro e w1 ⟨A,cc,rfl,ho,hge,hb1⟩
    (try simp only [Option.getD_some] at ho)
    obtain ⟨hlc,hcm,hop⟩:=ho.rs.open_
    unfold maxLen at hcm
    obtain ⟨bk,o,rfl,hbl,hcell⟩:=hop qs
    have c0:w1.cell? ⟨bk,o,none⟩=some (.int .i64 a):=by have:=hcell 0 qs;simpa using this
    have c1:w1.cell? ⟨bk,o+1,none⟩=some (.int .i64 b):=by have:=hcell 1 qs;simpa using this
    have c2:w1.cell? ⟨bk,o+2,none⟩=some (.int .i64 c):=by have:=hcell 2 qs;simpa using this
    have c3:w1.cell? ⟨bk,o+3,none⟩=some (.int .i64 d):=by have:=hcell 3 qs;simpa using this
    have c4:w1.cell? ⟨bk,o+4,none⟩=some (.int .i64 e0):=by have:=hcell 4 qs;simpa using this
    have c5:w1.cell? ⟨bk,o+5,none⟩=some (.int .i64 f):=by have:=hcell 5 qs;simpa using this
    have c6:w1.cell? ⟨bk,o+6,none⟩=some (.int .i64 g):=by have:=hcell 6 qs;simpa using this
    have hz1:=hb1.size
    (try simp at hz1)
    have HX1:=qh (Own w1 w.heap.size 23 [.int .i64 0,.int .i64 0,.int .i64 0,.int .i64 0,.bool false,.int .i64 0,.int .i64 0]) (Own.step hb1 (Own.new w _ #[_,_,_,_,_,_,_]))
    have HB1:=bh w hb1
    have nb:¬ bk=w1.heap.size:=qo
    clear ho hge hb1 hop hcell hlc
    go_wp2_with fail
    go_region_held3 (λw'=>w'.cell? ⟨bk,o,none⟩=some (.int .i64 a)/\w'.cell? ⟨bk,o+1,none⟩=some (.int .i64 b)/\w'.cell? ⟨bk,o+2,none⟩=some (.int .i64 c)/\w'.cell? ⟨bk,o+3,none⟩=some (.int .i64 d)/\w'.cell? ⟨bk,o+4,none⟩=some (.int .i64 e0)/\w'.cell? ⟨bk,o+5,none⟩=some (.int .i64 f)/\w'.cell? ⟨bk,o+6,none⟩=some (.int .i64 g))
     (first|((try dsimp only);refine ⟨?_, ?_, ?_, ?_, ?_, ?_, ?_⟩<;>(go_simp;done))|go_keep)
     (fail)
    all_goals
     go_wp2_with fail
     refine (HFV.out _ bll).mono ?_
     rintro e w2 ⟨rfl,hb2⟩
     have hz2:=hb2.size
     (try simp at hz2)
     have HB2:=bh w hb2
     have HX2:=qh (Own w2 w.heap.size 23 [.int .i64 0,.int .i64 0,.int .i64 0,.int .i64 0,.bool false,.int .i64 0,.int .i64 0]) (Own.step hb2 (owx HX1.out))
     have y0:=λo=>hb2.cell (p:=⟨w1.heap.size,o,none⟩) omm
     have x0:=HX2.out.cell 0
     have x1:=HX2.out.cell 1
     have x2:=HX2.out.cell 2
     have x3:=HX2.out.cell 3
     have x4:=HX2.out.cell 4
     have x5:=HX2.out.cell 5
     have x6:=HX2.out.cell 6
     have xf:=HX2.out.frozen
     (try dsimp only [List.getElem?_cons_succ,List.getElem?_cons_zero] at x0 x1 x2 x3 x4 x5 x6)
     have nx:¬ w.heap.size=w1.heap.size:=qo
     have lx:w1.heap.size<w2.heap.size:=qo
     clear hb2
     go_wp2_with fail
     exact bodyPost_ret (v:=.tuple #[.agg #[.int .i64 0,.int .i64 0,.int .i64 0,.int .i64 0,.bool false,.int .i64 0,.int .i64 0],.bool false]) (by simp [results,Tryz.results70,go_sem, *]) rfl ⟨by first|(rw [HPV.out];done)|(rw [HPV.out];rfl),bll⟩
  ·have HPV:=hdQ (Zuq hp h3)
   have hne:((ls.length:Int) != 7)=true:=by simp;omega
   clear hp
   go_enter Tryz.func70,Tryz.ntmps70
   go_wp2_with fail
   refine (HPI.out _ bll).mono ?_
   rintro e w1 ⟨A,cc,rfl,ho,hge,hb1⟩
   (try simp only [Option.getD_some] at ho)
   have hz1:=hb1.size
   (try simp at hz1)
   have HX1:=qh (Own w1 w.heap.size 23 [.int .i64 0,.int .i64 0,.int .i64 0,.int .i64 0,.bool false,.int .i64 0,.int .i64 0]) (Own.step hb1 (Own.new w _ #[_,_,_,_,_,_,_]))
   have HB1:=bh w hb1
   have x0:=HX1.out.cell 0
   have x1:=HX1.out.cell 1
   have x2:=HX1.out.cell 2
   have x3:=HX1.out.cell 3
   have x4:=HX1.out.cell 4
   have x5:=HX1.out.cell 5
   have x6:=HX1.out.cell 6
   have xf:=HX1.out.frozen
   (try dsimp only [List.getElem?_cons_succ,List.getElem?_cons_zero] at x0 x1 x2 x3 x4 x5 x6)
   clear ho hge hb1
   go_wp2_with fail
   exact bodyPost_ret (v:=.tuple #[.agg #[.int .i64 0,.int .i64 0,.int .i64 0,.int .i64 0,.bool false,.int .i64 0,.int .i64 0],.bool false]) (by simp [results,Tryz.results70,go_sem, *]) rfl ⟨by first|(rw [HPV.out];done)|(rw [HPV.out];rfl),bll⟩
def Zcz (l:List Zbt):List Value:=l.flatMap eSurf
theorem Zb7 (x:Zbt):(eSurf x).length=26:=Zb4 _ _ _ _
theorem Zke:∀ l:List Zbt,(Zcz l).length=l.length*26
 | []=>rfl
 | x::l=>by
  have:=Zke l
  unfold Zcz at this ⊢
  rw [List.flatMap_cons,List.length_append,Zb7,this,List.length_cons];omega
theorem Zmm (l:List Zbt) (x:Zbt):Zcz (l++[x])=Zcz l++eSurf x:=by unfold Zcz;rw [List.flatMap_append];simp
theorem Znp:∀ (l:List Zbt) (i:Nat) (h:i<l.length),((Zcz l).drop (i*26)).take 26=eSurf l[i]
 | x::l,0,h=>by
  unfold Zcz
  rw [List.flatMap_cons,Nat.zero_mul,List.drop_zero]
  exact List.take_left' (Zb7 x)
 | x::l,i+1,h=>by
  have:=Znp l i (by simpa using h)
  unfold Zcz at this ⊢
  rw [List.flatMap_cons,show (i+1)*26=26+i*26 by omega,<- List.drop_drop,List.drop_left' (Zb7 x),this]
  rfl
theorem Zgo (x:Zbt):∀ u∈eSurf x,u.oneCell'=true:=by
 intro u hu
 have:(eSurf x).all (·.oneCell')=true:=rfl
 exact List.all_eq_true.1 this u hu
structure OnlyAt (X:Nat) (w w':World):Prop where
 blk:∀ b,b≠X->w'.heap[b]? = w.heap[b]?
 size:w'.heap.size=w.heap.size
 os:w'.os=w.os
 tape:w'.tape=w.tape
 output:w'.output=w.output
theorem OnlyAt.below {X B:Nat} {w0 w w':World} (h:OnlyAt X w w') (hB:B<=X) (hb:Below B w0 w):Below B w0 w':=Below.trans hb ⟨h.os,h.tape,h.output,by rw [h.size];exact Nat.le_refl _,λb hb'=>h.blk b qo⟩
theorem OnlyAt.setCell (w:World) (X o:Nat) (u:Value):OnlyAt X w (w.setCell ⟨X,o,none⟩ u):=by
 have hb:=(Below.refl 0 w).setCell (p:=⟨X,o,none⟩) (Nat.zero_le _) u
 exact ⟨λb hb=>Below.heap_setCell w ⟨X,o,none⟩ u b hb,qs,hb.os,hb.tape,hb.output⟩
structure SceneR (w:World) (base:Nat) (Z:List Nat) (s:EScene) (T:OA) (tc:Nat) (P:OA) (pc:Nat) (Q:OA) (qc:Nat):Prop where
 tex:Zdb w 1 T s.tex.length tc 3 (ints s.tex)
 texb:∀ y,y∈gOf T->base<=y/\y∉gOf Q/\y∉Z
 ss:Zaj w base 45 26 Q s.ss.length qc (Zcz s.ss)
 ssz:∀ y,y∈gOf Q->y∉Z
 ps:Zci w base (Z++(gOf T++gOf Q)) P pc s.ps
theorem SceneR.nil (w:World) (base:Nat) (Z:List Nat) (s:EScene) (h1:s.tex=[]) (h2:s.ps=[]) (h3:s.ss=[]):SceneR w base Z s none 0 none 0 none 0 :=
 ⟨by rw [h1];exact Zdb.none_ _ _ _,λy hy=>(by cases hy),by rw [h3];exact Zaj.nil _ _ _ _,λy hy=>(by cases hy),by rw [h2];exact Zci.nil _ _ _⟩
theorem SceneR.same {w:World} {base:Nat} {Z:List Nat} {s s':EScene} {T P Q:OA} {tc pc qc:Nat} (h:SceneR w base Z s T tc P pc Q qc) (h1:s'.tex=s.tex) (h2:s'.ps=s.ps) (h3:s'.ss=s.ss):SceneR w base Z s' T tc P pc Q qc :=
 ⟨by rw [h1];exact h.tex,h.texb,by rw [h3];exact h.ss,h.ssz,by rw [h2];exact h.ps⟩
theorem SceneR.keep {w w':World} {base:Nat} {Z:List Nat} {s:EScene} {T P Q:OA} {tc pc qc:Nat} (h:SceneR w base Z s T tc P pc Q qc) (hz:w.heap.size<=w'.heap.size) (hk:∀ x,base<=x->x<w.heap.size->x∉Z->w'.heap[x]? = w.heap[x]?):SceneR w' base Z s T tc P pc Q qc :=
 ⟨h.tex.keep (λx hx hl=>hk x (h.texb x hx).1 hl (h.texb x hx).2.2),h.texb,h.ss.keep (λx hx=>hk x (h.ss.ge x hx) (h.ss.lt x hx) (h.ssz x hx)),h.ssz,h.ps.keep hz (λx a b c=>hk x a b (λq=>c (List.mem_append.2 (.inl q))))⟩
theorem SceneR.step {w w':World} {base:Nat} {Z:List Nat} {s:EScene} {T P Q:OA} {tc pc qc:Nat} (hb:Bw w w') (h:SceneR w base Z s T tc P pc Q qc):SceneR w' base Z s T tc P pc Q qc:=h.keep hb.size (λx _ hl _=>hb.block x hl)
theorem SceneR.at_ {w w':World} {base X:Nat} {s:EScene} {T P Q:OA} {tc pc qc:Nat} (h:SceneR w base [X] s T tc P pc Q qc) (hk:OnlyAt X w w'):SceneR w' base [X] s T tc P pc Q qc:=h.keep (by rw [hk.size];exact Nat.le_refl _) (λx _ _ hx=>hk.blk x (by simpa using hx))
theorem Zci.move {w w':World} {base:Nat} {X Y:List Nat} {P:OA} {pc:Nat} {ps:List Zag} (h:Zci w base X P pc ps) (hz:w.heap.size<=w'.heap.size) (hk:∀ x,base<=x->x<w.heap.size->x∉X->w'.heap[x]? = w.heap[x]?) (hY:∀ y,y∈Y->y∈X∨w.heap.size<=y):Zci w' base Y P pc ps:=by
 obtain ⟨cs,lo,hi,h1,h2,h3,h4,h5⟩:=h
 refine ⟨cs,lo,hi,h1.keep (λx hx=>hk x (h1.ge x hx) (h1.lt x hx) (λq=>h5 x q hx)),λi hi'=>(h2 i hi').keep hz (λx a b=>?_),h3,λx hx i hi'=>?_,λx hx hP=>?_⟩
 ·have q:=h2 i hi'
  have b0:=q.b0
  have b2:=q.b2
  refine hk x qo qo (λhX=>?_)
  have:=h4 x (by simp [hX]) i hi'
  omega
 ·rcases List.mem_append.1 hx with hx|hx
  ·exact h4 x (by simp [hx]) i hi'
  ·rcases hY x hx with q|q
   ·exact h4 x (by simp [q]) i hi'
   ·have:=(h2 i hi').b2;omega
 ·rcases hY x hx with q|q
  ·exact h5 x q hP
  ·have:=h1.lt x hP;omega
theorem SceneR.setTex {w w':World} {base:Nat} {Z:List Nat} {s:EScene} {T P Q A:OA} {tc pc qc c:Nat} (h:SceneR w base Z s T tc P pc Q qc) (hb:Bw w w') (hZ:∀ z,z∈Z->z<w.heap.size) (hbw:base<=w.heap.size) {l:List Int} (lg:Int) (hA:Zdb w' 1 A l.length c 3 (ints l)) (hg:∀ x,x∈gOf A->w.heap.size<=x) :
  SceneR w' base Z { s with log:=lg,tex:=l } A c P pc Q qc:=by
 have hs:=h.step hb
 refine ⟨hA,λy hy=>⟨Nat.le_trans hbw (hg y hy),λq=>?_,λq=>?_⟩,hs.ss,hs.ssz,h.ps.move hb.size (λx _ hl _=>hb.block x hl) (λy hy=>?_)⟩
 ·have:=h.ss.lt y q;have:=hg y hy;omega
 ·have:=hZ y q;have:=hg y hy;omega
 ·simp only [List.mem_append] at hy ⊢
  rcases hy with q|q|q
  ·exact .inl (.inl q)
  ·exact .inr (hg y q)
  ·exact .inl (.inr (.inr q))
theorem SceneR.surf {w w':World} {base:Nat} {Z:List Nat} {s:EScene} {T P Q Q':OA} {tc pc qc c':Nat} (h:SceneR w base Z s T tc P pc Q qc) (hZ:∀ z,z∈Z->z<w.heap.size) {x:Zbt}
  (ap:Za8 w base 45 26 Q s.ss.length (Zcz s.ss++eSurf x) Q' (s.ss.length+1) c' w'):SceneR w' base Z { s with ss:=s.ss++[x] } T tc P pc Q' c':=by
 have hsz:=ap.2.2.2.1
 have hblk:∀ y,y<w.heap.size->y∉gOf Q->w'.heap[y]? = w.heap[y]? := λy hy hN=>ap.2.2.1.block y hy (by cases Q<;>simp_all [gOf])
 have hQ':∀ y,y∈gOf Q'->y∈gOf Q∨y=w.heap.size:=λy hy=>by
  rcases ap.2.2.2.2 with e|e
  ·rw [e] at hy;exact .inl hy
  ·rw [e] at hy;right;simpa using hy
 refine ⟨h.tex.keep (λy hy hl=>hblk y hl (h.texb y hy).2.1),λy hy=>⟨(h.texb y hy).1,λq=>?_,(h.texb y hy).2.2⟩, ?_,λy hy q=>?_,h.ps.move hsz (λy _ hl hy=>hblk y hl (λq=>hy (by simp [q]))) (λy hy=>?_)⟩
 ·rcases hQ' y q with q|q
  ·exact (h.texb y hy).2.1 q
  ·have:=h.tex.lt y hy;omega
 ·show Zaj w' base 45 26 Q' (s.ss++[x]).length c' (Zcz (s.ss++[x]))
  rw [Zmm,List.length_append];exact ap.1
 ·rcases hQ' y hy with r|r
  ·exact h.ssz y r q
  ·have:=hZ y q;omega
 ·simp only [List.mem_append] at hy ⊢
  rcases hy with q|q|q
  ·exact .inl (.inl q)
  ·exact .inl (.inr (.inl q))
  ·rcases hQ' y q with r|r
   ·exact .inl (.inr (.inr r))
   ·exact .inr qo
theorem SceneR.prog {u v w w':World} {base:Nat} {Z:List Nat} {s:EScene} {T P P' Q:OA} {tc pc qc c':Nat} (h:SceneR u base Z s T tc P pc Q qc) (hZ:∀ z,z∈Z->z<u.heap.size) {p:Zag} {NA AA:OA} {nc ac:Nat} {cs:List Value} {lo hi:Nat->Nat}
  (h1:Zaj u base 62 2 P s.ps.length pc cs) (h2:∀ (i:Nat) (h:i<s.ps.length),ProgAtM u base cs i s.ps[i] (lo i) (hi i)) (h3:∀ i j,i<j->j<s.ps.length->hi i<=lo j) (h4:∀ x,x∈gOf P++(Z++(gOf T++gOf Q))->∀ i,i<s.ps.length->x<lo i∨hi i<=x) (h5:∀ x,x∈Z++(gOf T++gOf Q)->x∉gOf P)
  (hbu:base<=u.heap.size) (hb:Bw u v) (hpm:Zcb v u.heap.size NA nc p.1 AA ac p.2) (hvw:Bw v w)
  (ap:Za8 w base 62 2 P s.ps.length (cs++[.slice NA p.1.length nc,.slice AA p.2.length ac]) P' (s.ps.length+1) c' w'):SceneR w' base Z { s with ps:=s.ps++[p] } T tc P' c' Q qc:=by
 have hsz:=ap.2.2.2.1
 have huv:=hb.size
 have hvz:=hvw.size
 have hblk:∀ y,y<u.heap.size->y∉gOf P->w'.heap[y]? = u.heap[y]? := λy hy hN=>(ap.2.2.1.block y qo (by cases P<;>simp_all [gOf])).trans ((hvw.block y qo).trans (hb.block y hy))
 refine ⟨h.tex.keep (λy hy hl=>hblk y hl (h5 y (by simp [hy]))),h.texb,h.ss.keep (λy hy=>hblk y (h.ss.lt y hy) (h5 y (by simp [hy]))),h.ssz,Zci.snoc h1 h2 h3 h4 h5 (λy hy=>?_) hbu hb hpm hvw ap⟩
 simp only [List.mem_append] at hy
 rcases hy with q|q|q
 ·exact hZ y q
 ·exact h.tex.lt y q
 ·exact h.ss.lt y q
theorem SceneR.lift {w:World} {base:Nat} {Z:List Nat} {s:EScene} {T P Q:OA} {tc pc qc:Nat} (h:SceneR w base Z s T tc P pc Q qc) (hB:∀ p∈s.ps,Zws p):SceneL 0 w s T tc P pc Q qc :=
 ⟨h.tex.rs,λ_ _=>Nat.zero_le _,h.ps.rowL hB,⟨Q,qc,Zcz s.ss,rfl,h.ss.rs,λ_ _=>Nat.zero_le _,λi hi=>by show ((Zcz s.ss).drop (i*26)).take 26=_;rw [Znp _ i hi]⟩⟩
theorem SceneR.fewer {w:World} {base:Nat} {Z:List Nat} {s:EScene} {T P Q:OA} {tc pc qc:Nat} (h:SceneR w base Z s T tc P pc Q qc):SceneR w base [] s T tc P pc Q qc :=
 ⟨h.tex,λy hy=>⟨(h.texb y hy).1,(h.texb y hy).2.1,qs⟩,h.ss,λy hy=>by simp,h.ps.move (Nat.le_refl _) (λ_ _ _ _=>rfl) (λy hy=>.inl (by simp only [List.nil_append,List.mem_append] at hy ⊢;exact .inr hy))⟩
def Zdf (w:World) (base X:Nat) (s:EScene):Prop :=
 ∃ (T:OA) (tc:Nat) (P:OA) (pc:Nat) (Q:OA) (qc:Nat),base<=X/\Own w X 30 (cS s T tc P pc Q qc)/\SceneR w base [X] s T tc P pc Q qc
theorem Zdf.step {w w':World} {base X:Nat} {s:EScene} (hb:Bw w w') (h:Zdf w base X s):Zdf w' base X s:=by
 obtain ⟨T,tc,P,pc,Q,qc,h0,h1,h2⟩:=h
 exact ⟨T,tc,P,pc,Q,qc,h0,Own.step hb h1,h2.step hb⟩
theorem cS_camP (o:Option ECam) (s:EScene) (T:OA) (tc:Nat) (P:OA) (pc:Nat) (Q:OA) (qc:Nat):cCam (setCam s o)++(cS s T tc P pc Q qc).drop 7=cS (setCam s o) T tc P pc Q qc:=by
 cases o with
 | none=>rfl
 | some c=>obtain ⟨a,b,c,d,e,f,g⟩:=c;rfl
theorem cCam_set (s:EScene) (o:Option ECam):vC (o.getD zCam)=.agg ⟨cCam (setCam s o)⟩:=by
 cases o with
 | none=>rfl
 | some c=>obtain ⟨a,b,c,d,e,f,g⟩:=c;rfl
theorem Zhj (s:EScene) (o:Option ECam):(setCam s o).tex=s.tex/\(setCam s o).ps=s.ps/\(setCam s o).ss=s.ss:=by
 cases o with
 | none=>exact ⟨rfl,rfl,rfl⟩
 | some c=>obtain ⟨a,b,c,d,e,f,g⟩:=c;exact ⟨rfl,rfl,rfl⟩
theorem Zkb (s:EScene) (o:Option (Int×List Int)):setTex s o={ s with log:=(o.getD (0,[])).1,tex:=(o.getD (0,[])).2 }:=by
 cases o with
 | none=>rfl
 | some c=>rfl
theorem cS_ps (s:EScene) (p:Zag) (T:OA) (tc:Nat) (P:OA) (pc:Nat) (Q:OA) (qc:Nat) (P':OA) (c':Nat):(cS s T tc P pc Q qc).set 9 (.slice P' (s.ps.length+1) c')=cS { s with ps:=s.ps++[p] } T tc P' c' Q qc:=by
 unfold cS Zxr
 simp
theorem cS_ss (s:EScene) (x:Zbt) (T:OA) (tc:Nat) (P:OA) (pc:Nat) (Q:OA) (qc:Nat) (Q':OA) (c':Nat):(cS s T tc P pc Q qc).set 10 (.slice Q' (s.ss.length+1) c')=cS { s with ss:=s.ss++[x] } T tc P pc Q' c':=by
 unfold cS Zxr
 simp
theorem Znr (A:OA) (n c:Nat) (B:OA) (m d:Nat):∀ u∈[Value.slice A n c,.slice B m d],u.oneCell'=true:=by
 intro u hu
 simp only [List.mem_cons,List.not_mem_nil,or_false] at hu
 rcases hu with rfl|rfl<;>rfl
theorem T.infoProgA:(Tryz.prog.info? 62).map (λi=>(i.zero,i.size,i.bytes))=some (some (.agg #[.slice none 0 0,.slice none 0 0]),2,48):=kr
section
variable {P:Program} {w w':World} {ops:Array Oper} {rest:List Oper} {o:Oper} {a:Act} {K:Act->World->Prop} {Q:Exit->Act->World->Prop} {E:Prop}
theorem Zgf (hg:o.guard=none) (t:TypeId) (x:Operand) (ho:o.op=.buildSlice t 1 #[(0,x)]) {v r:Value} (hx:a.eval x=v) (hr:(Instr.buildSlice t 1 #[(0,v)]).run P w=.ok r w') (h:K (a.put o.dst r) w'):if Region.wanted o (yielded ops a.tmps)=true then Oper.wp P o a w K Q else E:=by
 have hw:Region.wanted o (yielded ops a.tmps)=true:=by simp [Region.wanted,hg]
 rw [if_pos hw]
 unfold Oper.wp execOp
 simp only [ho,Sem.run_bind,Sem.run_pure,Result.andThen_ok,List.map_toArray,List.map_cons,List.map_nil,hx,hr]
 exact h
end
theorem Zjw (x:Zbt) (w:World):(Instr.buildSlice 28 1 #[(0,.agg ⟨eSurf x⟩)]).run Tryz.prog w=.ok (.slice (some ⟨w.heap.size,0,none⟩) 1 1) (w.alloc (.cells ⟨eSurf x⟩ 45)):=kr
end
section
def Small (ns:List Zac):Prop:=∀ x,x∈ns->x.2.2.2.length<=3
def okM:PM->Prop
 | .args _ l=>l.length<=3
 | _=>True
theorem Zed {T:List Zam} {n:Zac} {a a1:Nat} {ns n1:List Zac} {v:Int} (hs:Small ns) (hn:n.2.2.2.length<=3) (h:emit T n a ns=.ok v a1 n1):Small n1:=by
 obtain ⟨_,_,rfl,_⟩:=Zhs h
 intro x hx
 rcases List.mem_append.1 hx with q|q
 ·exact hs x q
 ·rw [List.mem_singleton.1 q];exact hn
theorem Zwq {T:List Zam}:∀ (n:Nat) (m:PM) (d a:Nat) (ns:List Zac),Small ns->okM m->∀ v a1 n1,prs T n m d a ns=.ok v a1 n1->Small n1:=by
 intro n
 induction n with
 | zero=>intro m d a ns _ _ v a1 n1 h;simp [prs] at h
 | succ n ih =>
  intro m d a ns hs hm v a1 n1 h
  match m with
  | .bin add =>
   rw [prs] at h
   cases hr:prs T n (opd add) d a ns with
   | out=>rw [hr] at h;cases h
   | bad o=>rw [hr] at h;cases h
   | ok v2 a2 n2 =>
    rw [hr] at h
    have h2:=ih _ _ _ _ hs (by cases add<;>trivial) _ _ _ hr
    exact ih _ _ _ _ h2 (by exact trivial) _ _ _ h
  | .loop add v0 =>
   rw [prs] at h
   split at h
   ·injection h with _ _ h;subst h;exact hs
   ·cases hr:prs T n (opd add) d (a+1) ns with
    | out=>rw [hr] at h;cases h
    | bad o=>rw [hr] at h;cases h
    | ok b a2 n2 =>
     rw [hr] at h
     have h2:=ih _ _ _ _ hs (by cases add<;>trivial) _ _ _ hr
     dsimp only at h
     cases he:emit T (opS add (pk T a),[],0,[v0,b]) a2 n2 with
     | out=>rw [he] at h;cases h
     | bad o=>rw [he] at h;cases h
     | ok u a3 n3 =>
      rw [he] at h
      exact ih _ _ _ _ (Zed h2 qs he) (by exact trivial) _ _ _ h
  | .fac =>
   rw [prs] at h
   split at h
   ·cases h
   split at h
   ·cases hr:prs T n .fac (d+1) (a+1) ns with
    | out=>rw [hr] at h;cases h
    | bad o=>rw [hr] at h;cases h
    | ok v2 a2 n2 =>
     rw [hr] at h
     exact Zed (ih _ _ _ _ hs (by exact trivial) _ _ _ hr) qs h
   split at h
   ·cases hr:prs T n (.bin true) (d+1) (a+1) ns with
    | out=>rw [hr] at h;cases h
    | bad o=>rw [hr] at h;cases h
    | ok v2 a2 n2 =>
     rw [hr] at h
     dsimp only at h
     split at h
     ·injection h with _ _ h;subst h;exact ih _ _ _ _ hs (by exact trivial) _ _ _ hr
     ·cases h
   split at h
   ·exact Zed hs qs h
   split at h
   ·split at h
    ·exact ih _ _ _ _ hs (by simp [okM]) _ _ _ h
    ·exact Zed hs qs h
   ·cases h
  | .args name l =>
   have hl:l.length<=3:=hm
   rw [prs] at h
   split at h
   ·exact Zed hs qs h
   split at h
   ·cases h
   ·rename_i h3
    cases hr:prs T n (.bin true) d a ns with
    | out=>rw [hr] at h;cases h
    | bad o=>rw [hr] at h;cases h
    | ok v2 a2 n2 =>
     rw [hr] at h
     dsimp only at h
     have h2:=ih _ _ _ _ hs (by exact trivial) _ _ _ hr
     have hl2:(l++[v2]).length<=3:=by simp;omega
     split at h
     ·exact ih _ _ _ _ h2 (by exact hl2) _ _ _ h
     split at h
     ·exact Zed h2 hl2 h
     ·cases h
theorem Zxv {T:List Zam} {N:Nat}:∀ (n a:Nat) (ns:List Zac) (l:List Zab) (p:Zag),Small ns->asg T N n a ns l=some (.ok p)->Small p.1:=by
 intro n
 induction n with
 | zero=>intro a ns l p _ h;simp [asg] at h
 | succ n ih =>
  intro a ns l p hs h
  rw [asg] at h
  split at h
  ·injection h with h;injection h with h;subst h;exact hs
  split at h
  ·injection h with h;cases h
  split at h
  ·injection h with h;cases h
  cases hr:prs T N (.bin true) 1 (a+2) ns with
  | out=>rw [hr] at h;cases h
  | bad o=>rw [hr] at h;injection h with h;cases h
  | ok v a1 n1 =>
   rw [hr] at h
   dsimp only at h
   split at h
   ·exact ih _ _ _ _ (Zwq _ _ _ _ _ hs (by exact trivial) _ _ _ hr) h
   ·injection h with h;cases h
theorem Zup (src:List UInt8):Small (parF src).1.1:=by
 unfold parF
 cases toksF src with
 | error o=>intro x hx;simp at hx
 | ok T =>
  show Small (Zpi T).1.1
  unfold Zpi
  cases h:asg T (Zc1 T) (T.length+1) 0 [] [] with
  | none=>intro x hx;simp at hx
  | some r =>
   cases r with
   | error o=>intro x hx;simp at hx
   | ok p=>exact Zxv _ _ _ _ _ (λx hx=>by simp at hx) h
set_option maxRecDepth 100000
open Go.RowKit Go.Lib
def Zjj (r:Option (Int×List Int)) (w:World) (e:Ending) (w':World):Prop :=
 ∃ A c,e=.returned (.tuple #[.agg #[.int .i64 (r.getD (0,[])).1,.slice A (r.getD (0,[])).2.length c],.bool r.isSome])/\Zdb w' 1 A (r.getD (0,[])).2.length c 3 (ints (r.getD (0,[])).2)/\(∀ x,x∈gOf A->w.heap.size<=x)/\Bw w w'
theorem Zjj.none_ {w w':World} (hb:Bw w w'):Zjj none w (.returned (.tuple #[.agg #[.int .i64 0,.slice none 0 0],.bool false])) w' :=
 ⟨none,0,rfl,Zdb.none_ _ _ _,λx hx=>absurd hx (by simp [gOf]),hb⟩
theorem Zul {l:List UInt8} (h:parseI (cut l [58]).1=none):parTex l=none:=by unfold parTex;rw [h]
theorem Zuk {l:List UInt8} (h:Zbm (cut l [58]).2.1=none):parTex l=none:=by
 unfold parTex;rw [h];split
 ·rename_i h2;cases h2
 ·rfl
theorem Zuj {l:List UInt8} {log:Int} {tex:List Int} (h1:parseI (cut l [58]).1=some log) (h2:Zbm (cut l [58]).2.1=some tex):parTex l=if Zax log tex then some (log,tex) else none:=by
 unfold parTex;rw [h1,h2]
theorem Ze3 (l:List UInt8) (c:UInt8):(cut l [c]).1.length<=l.length/\(cut l [c]).2.1.length<=l.length:=by
 rcases cut_split c l with ⟨_,_,h⟩|⟨u,v,_,h1,_,h⟩
 ·rw [h];simp
 ·rw [h,h1];simp;omega
theorem Zlq (l:List UInt8) (c:UInt8) (wx:World) (hlim:l.length<=1048576) (he:Env wx):CL 69 #[str l,.string ⟨#[c]⟩] wx λe w'=>e=.returned (.tuple #[str (cut l [c]).1,str (cut l [c]).2.1,.bool (cut l [c]).2.2])/\Bw wx w':=by
 obtain ⟨m,hm⟩:=he.mlen
 have h0:=Tryz.strings_Cut ⟨l.toArray⟩ ⟨#[c]⟩ m wx (by show l.length<_;omega) hm
 refine h0.mono λe w' ⟨h1,n,h2⟩=>⟨h1, ?_⟩
 subst h2
 exact Zcp (Below.refl _ _) n
set_option maxHeartbeats 8000000 in
theorem Zl5 (l:List UInt8) (w:World) (hlim:l.length<=1048576) (he:Env w) :
  CL 71 #[str l] w (Zjj (parTex l) w):=by
 have HE:=hdQ he
 have hls:=Ze3 l 58
 have HCT:=qh (∀ wx,Bw w wx->CR 69 #[str l,.string ⟨#[58]⟩] wx (.tuple #[str (cut l [58]).1,str (cut l [58]).2.1,.bool (cut l [58]).2.2])) (λwx hb=>Zlq l 58 wx hlim (HE.out.step hb))
 have H1:=qh (∀ wx,Bw w wx->CR 72 #[str (cut l [58]).1] wx (.tuple #[.int .i64 ((parseI (cut l [58]).1).getD 0),.bool (parseI (cut l [58]).1).isSome])) (λwx hb=>Zef _ wx qo (HE.out.step hb))
 have H2:=qh (∀ wx,Bw w wx->CL 132 #[str (cut l [58]).2.1] wx (OutPL (Zbm (cut l [58]).2.1) wx)) (λwx hb=>Zhy _ wx qo (HE.out.step hb))
 have HN1:=hdQ (@Zul l)
 have HN2:=hdQ (@Zuk l)
 have HY:=qh (∀ (log:Int) (tex:List Int),parseI (cut l [58]).1=some log->Zbm (cut l [58]).2.1=some tex->parTex l=if Zax log tex then some (log,tex) else none) (λlog tex h1 h2=>Zuj h1 h2)
 clear he hls
 generalize (cut l [58]).1=u at *
 generalize (cut l [58]).2.1=v at *
 generalize (cut l [58]).2.2=bb at *
 cases hr1:parseI u with
 | none =>
  have HPV:=hdQ (HN1.out hr1)
  rw [hr1] at H1
  simp only [Option.getD_none,Option.isSome_none] at H1
  clear HN1 HN2 HY hr1
  go_enter Tryz.func71,Tryz.ntmps71
  go_wp2_with fail
  refine (HCT.out _ bll).mono ?_
  rintro e w1 ⟨rfl,hb1⟩
  have hz1:=hb1.size
  (try simp at hz1)
  have HX1:=qh (Own w1 w.heap.size 26 [.int .i64 0,.slice none 0 0]) (Own.step hb1 (Own.new w _ #[_,_]))
  have HB1:=bh w hb1
  clear hb1
  go_wp2_with fail
  refine (H1.out _ HB1.out).mono ?_
  rintro e w2 ⟨rfl,hb2⟩
  have hz2:=hb2.size
  have HX2:=hdQ (Own.step hb2 HX1.out)
  have HB2:=qh (Bw w w2) (Below.step hb2 HB1.out HB1.out.size)
  clear hb2
  go_wp2_with fail
  refine (H2.out _ HB2.out).mono ?_
  rintro e w3 ⟨A,c,rfl,ho,hge,hb3⟩
  (try simp only [Option.getD_some,Option.isSome_some,Option.getD_none,Option.isSome_none] at ho)
  (try simp only [Option.getD_some,Option.isSome_some,Option.getD_none,Option.isSome_none])
  have hz3:=hb3.size
  have HX3:=hdQ (Own.step hb3 HX2.out)
  have HB3:=qh (Bw w w3) (Below.step hb3 HB2.out HB2.out.size)
  have HO:=hdQ ho
  have HGE:=qh (∀ x,x∈gOf A->w.heap.size+1<=x) (λx hx=>by have:=hge x hx;omega)
  have x0:=HX3.out.cell 0
  have x1:=HX3.out.cell 1
  have xf:=HX3.out.frozen
  have xl:=HX3.out.lt
  have nx:¬ w.heap.size=w3.heap.size:=qo
  (try dsimp only [List.getElem?_cons_succ,List.getElem?_cons_zero] at x0 x1)
  clear hb3 ho hge
  go_wp2_with fail
  rw [HPV.out]
  exact bodyPost_ret (v:=.tuple #[.agg #[.int .i64 0,.slice none 0 0],.bool false]) (by simp [results,Tryz.results71,go_sem, *]) rfl (Zjj.none_ bll)
 | some log =>
  rw [hr1] at H1
  simp only [Option.getD_some,Option.isSome_some] at H1
  cases hr2:Zbm v with
  | none =>
   have HPV:=hdQ (HN2.out hr2)
   rw [hr2] at H2
   clear HN1 HN2 HY hr1 hr2
   go_enter Tryz.func71,Tryz.ntmps71
   go_wp2_with fail
   refine (HCT.out _ bll).mono ?_
   rintro e w1 ⟨rfl,hb1⟩
   have hz1:=hb1.size
   (try simp at hz1)
   have HX1:=qh (Own w1 w.heap.size 26 [.int .i64 0,.slice none 0 0]) (Own.step hb1 (Own.new w _ #[_,_]))
   have HB1:=bh w hb1
   clear hb1
   go_wp2_with fail
   refine (H1.out _ HB1.out).mono ?_
   rintro e w2 ⟨rfl,hb2⟩
   have hz2:=hb2.size
   have HX2:=hdQ (Own.step hb2 HX1.out)
   have HB2:=qh (Bw w w2) (Below.step hb2 HB1.out HB1.out.size)
   clear hb2
   go_wp2_with fail
   refine (H2.out _ HB2.out).mono ?_
   rintro e w3 ⟨A,c,rfl,ho,hge,hb3⟩
   (try simp only [Option.getD_some,Option.isSome_some,Option.getD_none,Option.isSome_none] at ho)
   (try simp only [Option.getD_some,Option.isSome_some,Option.getD_none,Option.isSome_none])
   have hz3:=hb3.size
   have HX3:=hdQ (Own.step hb3 HX2.out)
   have HB3:=qh (Bw w w3) (Below.step hb3 HB2.out HB2.out.size)
   have HO:=hdQ ho
   have HGE:=qh (∀ x,x∈gOf A->w.heap.size+1<=x) (λx hx=>by have:=hge x hx;omega)
   have x0:=HX3.out.cell 0
   have x1:=HX3.out.cell 1
   have xf:=HX3.out.frozen
   have xl:=HX3.out.lt
   have nx:¬ w.heap.size=w3.heap.size:=qo
   (try dsimp only [List.getElem?_cons_succ,List.getElem?_cons_zero] at x0 x1)
   clear hb3 ho hge
   go_wp2_with fail
   rw [HPV.out]
   exact bodyPost_ret (v:=.tuple #[.agg #[.int .i64 0,.slice none 0 0],.bool false]) (by simp [results,Tryz.results71,go_sem, *]) rfl (Zjj.none_ bll)
  | some tex =>
   have hy:=HY.out log tex hr1 hr2
   rw [hr2] at H2
   clear HN1 HN2 HY hr1 hr2
   cases hv:Zax log tex with
   | false =>
    rw [hv] at hy
    simp only [if_true,Bool.false_eq_true,if_false] at hy
    have HPV:=hdQ hy
    clear hy
    go_enter Tryz.func71,Tryz.ntmps71
    go_wp2_with fail
    refine (HCT.out _ bll).mono ?_
    rintro e w1 ⟨rfl,hb1⟩
    have hz1:=hb1.size
    (try simp at hz1)
    have HX1:=qh (Own w1 w.heap.size 26 [.int .i64 0,.slice none 0 0]) (Own.step hb1 (Own.new w _ #[_,_]))
    have HB1:=bh w hb1
    clear hb1
    go_wp2_with fail
    refine (H1.out _ HB1.out).mono ?_
    rintro e w2 ⟨rfl,hb2⟩
    have hz2:=hb2.size
    have HX2:=hdQ (Own.step hb2 HX1.out)
    have HB2:=qh (Bw w w2) (Below.step hb2 HB1.out HB1.out.size)
    clear hb2
    go_wp2_with fail
    refine (H2.out _ HB2.out).mono ?_
    rintro e w3 ⟨A,c,rfl,ho,hge,hb3⟩
    (try simp only [Option.getD_some,Option.isSome_some,Option.getD_none,Option.isSome_none] at ho)
    (try simp only [Option.getD_some,Option.isSome_some,Option.getD_none,Option.isSome_none])
    have hz3:=hb3.size
    have HX3:=hdQ (Own.step hb3 HX2.out)
    have HB3:=qh (Bw w w3) (Below.step hb3 HB2.out HB2.out.size)
    have HO:=hdQ ho
    have HGE:=qh (∀ x,x∈gOf A->w.heap.size+1<=x) (λx hx=>by have:=hge x hx;omega)
    have x0:=HX3.out.cell 0
    have x1:=HX3.out.cell 1
    have xf:=HX3.out.frozen
    have xl:=HX3.out.lt
    have nx:¬ w.heap.size=w3.heap.size:=qo
    (try dsimp only [List.getElem?_cons_succ,List.getElem?_cons_zero] at x0 x1)
    clear hb3 ho hge
    clear x0 x1 xf
    have HIV:=qh (∀ wx,Bw w3 wx->CR 76 #[Zdw log (.slice A tex.length c)] wx (.bool false)) (λwx hb=>by have:=Zc6 (log:=log) wx (RS.step hb HO.out.rs);rw [hv] at this;exact this)
    go_wp2_with (first|(go_at_call 76;(with_reducible refine (HIV.out _ bll).mono ?_);rintro e w4 ⟨rfl,hb4⟩;have hz4:=hb4.size;(try simp at hz4);have HX4:=qh (Own w4 w.heap.size 26 [.int .i64 0,.slice none 0 0]) (Own.step hb4 (owx HX3.out));have HB4:=bh w hb4;have x0:=HX4.out.cell 0;have x1:=HX4.out.cell 1;have xf:=HX4.out.frozen;(try dsimp only [List.getElem?_cons_succ,List.getElem?_cons_zero] at x0 x1))|fail)
    rw [HPV.out]
    exact bodyPost_ret (v:=.tuple #[.agg #[.int .i64 0,.slice none 0 0],.bool false]) (by simp [results,Tryz.results71,go_sem, *]) rfl (Zjj.none_ bll)
   | true =>
    rw [hv] at hy
    simp only [if_true,Bool.false_eq_true,if_false] at hy
    have HPV:=hdQ hy
    clear hy
    go_enter Tryz.func71,Tryz.ntmps71
    go_wp2_with fail
    refine (HCT.out _ bll).mono ?_
    rintro e w1 ⟨rfl,hb1⟩
    have hz1:=hb1.size
    (try simp at hz1)
    have HX1:=qh (Own w1 w.heap.size 26 [.int .i64 0,.slice none 0 0]) (Own.step hb1 (Own.new w _ #[_,_]))
    have HB1:=bh w hb1
    clear hb1
    go_wp2_with fail
    refine (H1.out _ HB1.out).mono ?_
    rintro e w2 ⟨rfl,hb2⟩
    have hz2:=hb2.size
    have HX2:=hdQ (Own.step hb2 HX1.out)
    have HB2:=qh (Bw w w2) (Below.step hb2 HB1.out HB1.out.size)
    clear hb2
    go_wp2_with fail
    refine (H2.out _ HB2.out).mono ?_
    rintro e w3 ⟨A,c,rfl,ho,hge,hb3⟩
    (try simp only [Option.getD_some,Option.isSome_some,Option.getD_none,Option.isSome_none] at ho)
    (try simp only [Option.getD_some,Option.isSome_some,Option.getD_none,Option.isSome_none])
    have hz3:=hb3.size
    have HX3:=hdQ (Own.step hb3 HX2.out)
    have HB3:=qh (Bw w w3) (Below.step hb3 HB2.out HB2.out.size)
    have HO:=hdQ ho
    have HGE:=qh (∀ x,x∈gOf A->w.heap.size+1<=x) (λx hx=>by have:=hge x hx;omega)
    have x0:=HX3.out.cell 0
    have x1:=HX3.out.cell 1
    have xf:=HX3.out.frozen
    have xl:=HX3.out.lt
    have nx:¬ w.heap.size=w3.heap.size:=qo
    (try dsimp only [List.getElem?_cons_succ,List.getElem?_cons_zero] at x0 x1)
    clear hb3 ho hge
    clear x0 x1 xf
    have HIV:=qh (∀ wx,Bw w3 wx->CR 76 #[Zdw log (.slice A tex.length c)] wx (.bool true)) (λwx hb=>by have:=Zc6 (log:=log) wx (RS.step hb HO.out.rs);rw [hv] at this;exact this)
    go_wp2_with (first|(go_at_call 76;(with_reducible refine (HIV.out _ bll).mono ?_);rintro e w4 ⟨rfl,hb4⟩;have hz4:=hb4.size;(try simp at hz4);have HX4:=qh (Own w4 w.heap.size 26 [.int .i64 0,.slice none 0 0]) (Own.step hb4 (owx HX3.out));have HO4:=qh (Zdb w4 1 A tex.length c 3 (ints tex)) (Zdb.step (bst hb4) HO.out);have HB4:=bh w hb4;have x0:=HX4.out.cell 0;have x1:=HX4.out.cell 1;have xf:=HX4.out.frozen;have k0:=λo=>hb4.cell (p:=⟨w3.heap.size,o,none⟩) omm;have nx:¬ w.heap.size=w3.heap.size:=qo;(try dsimp only [List.getElem?_cons_succ,List.getElem?_cons_zero] at x0 x1))|fail)
    rw [HPV.out]
    exact bodyPost_ret (v:=.tuple #[.agg #[.int .i64 log,.slice A tex.length c],.bool true]) (by simp [results,Tryz.results71,go_sem, *]) rfl ⟨A,c,rfl,(by (repeat ((with_reducible refine Zdb.far ?_ ?_ _);rotate_left;(intro x hx;have:=HGE.out x hx;simp;omega)));exact HO4.out),(λx hx=>by have:=HGE.out x hx;omega),bll⟩
set_option maxRecDepth 512
def NmN (N:Nat) (ns:List Zac):Prop:=∀ x,x∈ns->x.2.1.length<=N
def TxN (N:Nat) (T:List Zam):Prop:=∀ i,(tx T i).length<=N
def okNm (N:Nat):PM->Prop
 | .args name _=>name.length<=N
 | _=>True
theorem Zi3 {N:Nat} {T:List Zam} {n:Zac} {a a1:Nat} {ns n1:List Zac} {v:Int} (hs:NmN N ns) (hn:n.2.1.length<=N) (h:emit T n a ns=.ok v a1 n1):NmN N n1:=by
 obtain ⟨_,_,rfl,_⟩:=Zhs h
 intro x hx
 rcases List.mem_append.1 hx with q|q
 ·exact hs x q
 ·rw [List.mem_singleton.1 q];exact hn
theorem prs_nm {N:Nat} {T:List Zam} (hT:TxN N T):∀ (n:Nat) (m:PM) (d a:Nat) (ns:List Zac),NmN N ns->okNm N m->∀ v a1 n1,prs T n m d a ns=.ok v a1 n1->NmN N n1:=by
 intro n
 induction n with
 | zero=>intro m d a ns _ _ v a1 n1 h;simp [prs] at h
 | succ n ih =>
  intro m d a ns hs hm v a1 n1 h
  match m with
  | .bin add =>
   rw [prs] at h
   cases hr:prs T n (opd add) d a ns with
   | out=>rw [hr] at h;cases h
   | bad o=>rw [hr] at h;cases h
   | ok v2 a2 n2 =>
    rw [hr] at h
    have h2:=ih _ _ _ _ hs (by cases add<;>trivial) _ _ _ hr
    exact ih _ _ _ _ h2 (by exact trivial) _ _ _ h
  | .loop add v0 =>
   rw [prs] at h
   split at h
   ·injection h with _ _ h;subst h;exact hs
   ·cases hr:prs T n (opd add) d (a+1) ns with
    | out=>rw [hr] at h;cases h
    | bad o=>rw [hr] at h;cases h
    | ok b a2 n2 =>
     rw [hr] at h
     have h2:=ih _ _ _ _ hs (by cases add<;>trivial) _ _ _ hr
     dsimp only at h
     cases he:emit T (opS add (pk T a),[],0,[v0,b]) a2 n2 with
     | out=>rw [he] at h;cases h
     | bad o=>rw [he] at h;cases h
     | ok u a3 n3 =>
      rw [he] at h
      exact ih _ _ _ _ (Zi3 h2 qs he) (by exact trivial) _ _ _ h
  | .fac =>
   rw [prs] at h
   split at h
   ·cases h
   split at h
   ·cases hr:prs T n .fac (d+1) (a+1) ns with
    | out=>rw [hr] at h;cases h
    | bad o=>rw [hr] at h;cases h
    | ok v2 a2 n2 =>
     rw [hr] at h
     exact Zi3 (ih _ _ _ _ hs (by exact trivial) _ _ _ hr) qs h
   split at h
   ·cases hr:prs T n (.bin true) (d+1) (a+1) ns with
    | out=>rw [hr] at h;cases h
    | bad o=>rw [hr] at h;cases h
    | ok v2 a2 n2 =>
     rw [hr] at h
     dsimp only at h
     split at h
     ·injection h with _ _ h;subst h;exact ih _ _ _ _ hs (by exact trivial) _ _ _ hr
     ·cases h
   split at h
   ·exact Zi3 hs qs h
   split at h
   ·split at h
    ·exact ih _ _ _ _ hs (by exact hT _) _ _ _ h
    ·exact Zi3 hs (by exact hT _) h
   ·cases h
  | .args name l =>
   have hl:name.length<=N:=hm
   rw [prs] at h
   split at h
   ·exact Zi3 hs hl h
   split at h
   ·cases h
   ·rename_i h3
    cases hr:prs T n (.bin true) d a ns with
    | out=>rw [hr] at h;cases h
    | bad o=>rw [hr] at h;cases h
    | ok v2 a2 n2 =>
     rw [hr] at h
     dsimp only at h
     have h2:=ih _ _ _ _ hs (by exact trivial) _ _ _ hr
     split at h
     ·exact ih _ _ _ _ h2 (by exact hl) _ _ _ h
     split at h
     ·exact Zi3 h2 hl h
     ·cases h
theorem asg_nm {M:Nat} {T:List Zam} (hT:TxN M T) {N:Nat}:∀ (n a:Nat) (ns:List Zac) (l:List Zab) (p:Zag),NmN M ns->(∀ x,x∈l->x.1.length<=M)->asg T N n a ns l=some (.ok p)->NmN M p.1/\∀ x,x∈p.2->x.1.length<=M:=by
 intro n
 induction n with
 | zero=>intro a ns l p _ _ h;simp [asg] at h
 | succ n ih =>
  intro a ns l p hs hl h
  rw [asg] at h
  split at h
  ·injection h with h;injection h with h;subst h;exact ⟨hs,hl⟩
  split at h
  ·injection h with h;cases h
  split at h
  ·injection h with h;cases h
  cases hr:prs T N (.bin true) 1 (a+2) ns with
  | out=>rw [hr] at h;cases h
  | bad o=>rw [hr] at h;injection h with h;cases h
  | ok v a1 n1 =>
   rw [hr] at h
   dsimp only at h
   split at h
   ·exact ih _ _ _ _ (prs_nm hT _ _ _ _ _ hs (by exact trivial) _ _ _ hr) (λx hx=>by
     rcases List.mem_append.1 hx with q|q
     ·exact hl x q
     ·rw [List.mem_singleton.1 q];exact hT _) h
   ·injection h with h;cases h
theorem tokz_nm {src:List UInt8}:∀ (n a:Nat) (l r:List Zam),(∀ x,x∈l->x.2.1.length<=src.length)->tokz src n a l=.ok r->∀ x,x∈r->x.2.1.length<=src.length:=by
 intro n
 induction n with
 | zero=>intro a l r hl h;rw [tokz] at h;injection h with h;subst h;exact hl
 | succ n ih =>
  intro a l r hl h
  rw [tokz] at h
  split at h
  ·injection h with h;subst h;exact hl
  ·split at h
   ·exact ih _ _ _ hl h
   ·split at h
    ·cases h
    ·exact ih _ _ _ (λx hx=>by
      rcases List.mem_append.1 hx with q|q
      ·exact hl x q
      ·rw [List.mem_singleton.1 q]
       simp only [List.length_take,List.length_drop]
       omega) h
theorem toks_tx {N:Nat} {T:List Zam} (h:∀ x,x∈T->x.2.1.length<=N):TxN N T:=by
 intro i
 unfold tx tk
 rcases Nat.lt_or_ge i T.length with hi|hi
 ·rw [List.getD_eq_getElem?_getD,List.getElem?_eq_getElem hi]
  exact h _ (List.getElem_mem hi)
 ·rw [List.getD_eq_getElem?_getD,List.getElem?_eq_none hi]
  simp
theorem Zw1 (src:List UInt8):NmN src.length (parF src).1.1/\∀ x,x∈(parF src).1.2->x.1.length<=src.length:=by
 unfold parF
 cases hk:toksF src with
 | error o=>exact ⟨λx hx=>by simp at hx,λx hx=>by simp at hx⟩
 | ok T =>
  have hT:TxN src.length T:=by
   unfold toksF at hk
   split at hk
   ·cases hk
   ·cases hz:tokz src (src.length+1) 0 [] with
    | error o=>rw [hz] at hk;cases hk
    | ok r =>
     rw [hz] at hk
     obtain rfl:r++[(0,[],0,(src.length:Int))]=T:=by injection hk
     refine toks_tx (λx hx=>?_)
     rcases List.mem_append.1 hx with q|q
     ·exact tokz_nm _ _ _ _ (λx hx=>by cases hx) hz x q
     ·rw [List.mem_singleton.1 q];simp
  show NmN src.length (Zpi T).1.1/\∀ x,x∈(Zpi T).1.2->x.1.length<=src.length
  unfold Zpi
  cases h:asg T (Zc1 T) (T.length+1) 0 [] [] with
  | none=>exact ⟨λx hx=>by simp at hx,λx hx=>by simp at hx⟩
  | some r =>
   cases r with
   | error o=>exact ⟨λx hx=>by simp at hx,λx hx=>by simp at hx⟩
   | ok p=>exact asg_nm hT _ _ _ _ _ (λx hx=>by simp at hx) (λx hx=>by simp at hx) h
def ProgN (p:Zag):Prop:=NmN 1048576 p.1/\(∀ x,x∈p.2->x.1.length<=1048576)/\Small p.1
theorem Zw2 {src:List UInt8} (h:src.length<=1048576):ProgN (parF src).1:=⟨λx hx=>Nat.le_trans ((Zw1 src).1 x hx) h,λx hx=>Nat.le_trans ((Zw1 src).2 x hx) h,Zup src⟩
theorem Zci.prB {w:World} {base:Nat} {X:List Nat} {P:OA} {pc:Nat} {ps:List Zag} (h:Zci w base X P pc ps) (hN:∀ p∈ps,ProgN p):∀ p∈ps,Zws p:=by
 obtain ⟨cs,lo,hi,h1,h2,_⟩:=h
 intro p hp
 obtain ⟨i,hi',rfl⟩:=List.getElem_of_mem hp
 obtain ⟨NA,nc,AA,ac,_,_,hpm,_⟩:=(h2 i hi').ex
 have hn:=hN _ (List.getElem_mem hi')
 have h60:=hpm.2.2.2.1
 have hal:=hpm.2.2.2.2
 exact ⟨⟨qo,λy hy=>⟨hn.1 y hy,by have:=hn.2.2 y hy;omega⟩⟩,⟨hal,λy hy=>hn.2.1 y hy⟩⟩
def Zdp (s:EScene):Prop:=∀ p∈s.ps,ProgN p
theorem Zdp.setCam {s:EScene} (h:Zdp s) (o:Option ECam):Zdp (setCam s o):=by unfold Zdp;rw [(Zhj s o).2.1];exact h
theorem Zdp.snoc {s:EScene} (h:Zdp s) {src:List UInt8} (hs:src.length<=1048576):Zdp { s with ps:=s.ps++[(parF src).1] }:=λp hp=>by
 rcases List.mem_append.1 hp with q|q
 ·exact h p q
 ·rw [List.mem_singleton.1 q];exact Zw2 hs
theorem Zdp.updI {s:EScene} (h:Zdp s) {l:List UInt8} (hl:l.length<=1048576):Zdp (updI s l):=by
 have hc:=(Ze3 l 32).2
 unfold Go.Proofs.YticdknjoapdmeaaGreatDoor.updI
 dsimp only
 split
 ·exact h.setCam _
 split
 ·rw [Zkb];exact h
 split
 ·exact h
 split
 ·exact h.snoc qo
 split
 ·exact h
 ·exact h
theorem Zt7 (s:EScene) (o:Option ECam):(setCam s o).ps.length=s.ps.length/\(setCam s o).ss.length=s.ss.length:=by
 obtain ⟨_,h1,h2⟩:=Zhj s o
 rw [h1,h2];exact ⟨rfl,rfl⟩
theorem updI_len (s:EScene) (l:List UInt8):(updI s l).ps.length<=s.ps.length+1/\(updI s l).ss.length<=s.ss.length+1:=by
 unfold updI
 dsimp only
 split
 ·have:=Zt7 s (parCam (cut l [32]).2.1);omega
 split
 ·rw [Zkb];constructor<;>simp
 split
 ·constructor<;>simp
 split
 ·constructor<;>simp
 split
 ·constructor<;>simp
 ·constructor<;>omega
def toI (ls:List (List UInt8)) (k:Nat):EScene:=(ls.take k).foldl updI zScene
theorem Zng {ls:List (List UInt8)} {k:Nat} (h:k<ls.length):toI ls (k+1)=updI (toI ls k) ls[k]:=by
 unfold toI
 rw [List.take_succ_eq_append_getElem h,List.foldl_append];rfl
theorem Zv7 (ls:List (List UInt8)):∀ k,k<=ls.length->(toI ls k).ps.length<=k/\(toI ls k).ss.length<=k
 | 0,_=>⟨Nat.le_refl _,Nat.le_refl _⟩
 | k+1,h=>by
  rw [Zng h]
  have h1:=Zv7 ls k qo
  have h2:=updI_len (toI ls k) ls[k]
  omega
theorem toI_N {ls:List (List UInt8)} (hl:∀ l∈ls,l.length<=1048576):∀ k,k<=ls.length->Zdp (toI ls k)
 | 0,_=>λp hp=>by cases hp
 | k+1,h=>by
  rw [Zng h]
  exact (toI_N hl k qo).updI (hl _ (List.getElem_mem h))
theorem Zus {t:List UInt8}:(∀ l∈linesT t,l.length<=t.length)/\(linesT t).length<=t.length+1:=by
 have h1:∀ l∈splitB 10 t,l.length<=t.length:=λl h=>Zgx h
 have h2:(splitB 10 t).length<=t.length+1:=Zeb 10 t
 unfold linesT
 split
 ·exact ⟨λl hl=>h1 l (List.dropLast_subset _ hl),by rw [List.length_dropLast];omega⟩
 ·exact ⟨h1,h2⟩
theorem pI_to (t:List UInt8):pI t=toI (linesT t) (linesT t).length:=by unfold pI toI;rw [List.take_length]
end
section
open Go.RowKit
set_option maxHeartbeats 400000 in
theorem Zm8 {A A':OA} {c c':Nat} {l m:List Int} (w:World) (h:RS w 1 A l.length c (ints l)) (h':RS w 1 A' m.length c' (ints m)) :
  CR 111 #[.slice A l.length c,.slice A' m.length c'] w ((.bool (decide (l=m)))):=by
 obtain ⟨hn,hc,hr⟩:=h.open_
 obtain ⟨hn',hc',hr'⟩:=h'.open_
 unfold maxLen at hc hc'
 clear h h'
 by_cases hlen:l.length=m.length
 case neg =>
  have e1:decide (l=m)=false:=by simp;intro e;exact hlen (by rw [e])
  have e2:((l.length:Int) != (m.length:Int))=true:=by simp;omega
  have HE:=hdQ e1
  clear e1 hr hr'
  go_enter Tryz.func111,Tryz.ntmps111
  go_wp2
  go_ret
  exact ⟨Zaf HE.out.symm,Below.refl _ _⟩
 case pos =>
  have e2:((l.length:Int) != (m.length:Int))=false:=by simp;omega
  have HL:=hdQ hlen
  have HR:=hdQ hr
  have HR':=hdQ hr'
  have hB0:=Below.refl w.heap.size w
  clear hlen hr hr'
  go_enter Tryz.func111,Tryz.ntmps111
  go_wp2
  go_loopw [5,13] (λ_ i wr=>∃ k:Nat,k<=l.length/\i=.int .i64 k/\Zjh l m k/\Bw w wr) (λ_ i _=>l.length-(intOf i).toNat)
  case atStart=>exact ⟨0,Nat.zero_le _,rfl,rfl,hB0⟩
  case round =>
   obtain ⟨k,hk,rfl,hst,hb⟩:=hrel
   have HB:=hdQ hb
   clear hb hB0
   by_cases hlt:k<l.length
   ·have hltm:k<m.length:=by have:=HL.out;omega
    obtain ⟨b,o,rfl,hbh,hcell⟩:=HR.out qo
    obtain ⟨b',o',rfl,hbh',hcell'⟩:=HR'.out qo
    have c1:wr.cell? ⟨b,o+k,none⟩=some (.int .i64 l[k]):=by
     rw [(bcell HB.out).1 _ _ qo,hcell k qo,Zd3 hlt]
    have c2:wr.cell? ⟨b',o'+k,none⟩=some (.int .i64 m[k]):=by
     rw [(bcell HB.out).1 _ _ qo,hcell' k qo,Zd3 hltm]
    clear hcell hcell'
    have b0:(0:Int)<=k:=qo
    have b1:(k:Int)<l.length:=qo
    have b2:(k:Int)<m.length:=qo
    by_cases he:l[k]=m[k]
    ·have ht:(l[k] != m[k])=false:=by simp [he]
     have HE:=hdQ he
     clear he
     go_wp2
     go_quiet (fail)
     go_wp2
     go_roundw
     case rel=>exact ⟨k+1,qo,qg,hst.succ hlt hltm HE.out,Zcp HB.out _⟩
     case measure=>simp [intOf];omega
    ·have ht:(l[k] != m[k])=true:=by simp [he]
     have hf:decide (l=m)=false:=by simp;intro e;subst e;exact he rfl
     have HF:=hdQ hf
     clear he hf
     go_wp2
     go_quiet (fail)
     go_wp2
     go_ret
     exact ⟨Zaf HF.out.symm,Zcp HB.out _⟩
   ·have hf:decide (l=m)=true:=by
     simp
     obtain rfl:k=l.length:=qo
     exact hst.whole HL.out
    have HF:=hdQ hf
    clear hf
    go_wp2
    go_ret
    exact ⟨Zaf HF.out.symm,HB.out⟩
end
section
set_option maxRecDepth 100000
open Go.RowKit Go.Lib
theorem Zcb.in_ {w:World} {base:Nat} {NA:OA} {nc:Nat} {ns:List Zac} {AA:OA} {ac:Nat} {as_:List Zab} (h:Zcb w base NA nc ns AA ac as_) (hn:∀ x∈ns,x.2.1.length<=maxLen) (ha:∀ x∈as_,x.1.length<=maxLen):Zcd w NA nc AA ac (ns,as_):=by
 obtain ⟨h1,⟨cs,hg,hc,hp⟩,h3,h4,h5⟩:=h
 obtain ⟨g1,g2,g3⟩:=hg.rs.open_
 obtain ⟨f1,f2,f3⟩:=h1.rs.open_
 refine ⟨⟨g1,g2,λi hi=>?_⟩,⟨f1,f2,λi hi=>?_⟩⟩
 ·obtain ⟨b,o,hA,hb,hcell⟩:=g3 (Nat.zero_lt_of_lt hi)
  obtain ⟨A,c,e,hr,_⟩:=hc i hi
  have hl:cs.length=ns.length*4:=hg.len
  have hle:(i+1)*4<=ns.length*4:=Nat.mul_le_mul_right _ hi
  have key:∀ j,j<4->w.cell? ⟨b,o+i*4+j,none⟩=((cs.drop (i*4)).take 4)[j]? := λj hj=>by
   rw [Nat.add_assoc,hcell _ qo,List.getElem?_take_of_lt hj,List.getElem?_drop]
  rw [e] at key
  refine ⟨b,o,A,c,hA,hb,hn _ (List.getElem_mem hi),hr.rs, ?_, ?_, ?_, ?_⟩
  ·have:=key 0 qo;simpa using this
  ·have:=key 1 qo;simpa using this
  ·have:=key 2 qo;simpa using this
  ·have:=key 3 qo;simpa using this
 ·obtain ⟨b,o,hA,hb,hcell⟩:=f3 (Nat.zero_lt_of_lt hi)
  obtain ⟨q0,q1⟩:=Zq5 hi
  refine ⟨b,o,hA,hb,ha _ (List.getElem_mem hi), ?_, ?_⟩
  ·rw [hcell _ (by have:(i+1)*2<=as_.length*2:=Nat.mul_le_mul_right _ hi;omega),q0]
  ·rw [Nat.add_assoc,hcell _ (by have:(i+1)*2<=as_.length*2:=Nat.mul_le_mul_right _ hi;omega),q1]
theorem Zvf {A A2:OA} {c c2:Nat} {op num:Int} {name:List UInt8} {l:List Int} (w:World) (h:RS w 1 A l.length c (ints l)) (h2:RS w 1 A2 l.length c2 (ints l)) :
  CR 113 #[.agg #[.int .i64 op,str name,.int .i64 num,.slice A l.length c],.agg #[.int .i64 op,str name,.int .i64 num,.slice A2 l.length c2]] w ((.bool true)):=by
 have HC:=qh (∀ wx,Bw w wx->CR 111 #[.slice A l.length c,.slice A2 l.length c2] wx (.bool true)) (λwx hb=>by have:=Zm8 wx (RS.step hb h) (RS.step hb h2);simpa using this)
 clear h h2
 go_enter Tryz.func113,Tryz.ntmps113
 go_wp2_with (first|(go_at_call 111;(with_reducible refine (HC.out _ bll).mono ?_);rintro e w' ⟨rfl,hb⟩)|fail)
 go_ret
 exact ⟨rfl,bll⟩
theorem Zr3 {A A2:OA} {c c2:Nat} {l:List Zac} (w:World) (h:Zf3 w A c l) (h2:Zf3 w A2 c2 l) :
  CR 112 #[.slice A l.length c,.slice A2 l.length c2,.func (.func 113) #[] #[]] w ((.bool true)):=by
 have H:=hdQ h
 have H2:=hdQ h2
 have hc:=h.2.1
 have hl:=h.1
 unfold maxLen at hc
 have e2:((l.length:Int) != (l.length:Int))=false:=qs
 clear h h2
 go_enter Tryz.func112,Tryz.ntmps112
 go_wp2_with fail
 go_loopw [17] (λi wr=>∃ k:Nat,k<=l.length/\i=.int .i64 k/\Bw w wr) (λi _=>l.length-(RowKit.intOf i).toNat)
 case atStart=>exact ⟨0,Nat.zero_le _,rfl,Below.refl _ _⟩
 case round =>
  obtain ⟨k,hk,rfl,hb⟩:=hrel
  obtain ⟨wo,rfl⟩:=qe wr
  have HB:=hdQ hb
  have hz:=hb.size
  by_cases hlt:k<l.length
  ·obtain ⟨b,o,A',c',rfl,hbl,_,hr,x0,x1,x2,x3⟩:=(H.out.step hb).2.2 k hlt
   obtain ⟨b2,o2,A2',c2',rfl,hbl2,_,hr2,y0,y1,y2,y3⟩:=(H2.out.step hb).2.2 k hlt
   obtain ⟨⟨op,name,num,args⟩,hx⟩:∃ x,l[k]=x:=⟨_,rfl⟩
   rw [hx] at hr hr2 x0 x1 x2 x3 y0 y1 y2 y3
   (try dsimp only at hr hr2 x0 x1 x2 x3 y0 y1 y2 y3)
   have HC:=qh (∀ wx,Bw wo wx->CR 113 #[.agg #[.int .i64 op,str name,.int .i64 num,.slice A' args.length c'],.agg #[.int .i64 op,str name,.int .i64 num,.slice A2' args.length c2']] wx (.bool true)) (λwx hb=>Zvf wx (RS.step hb hr) (RS.step hb hr2))
   have i0:(0:Int)<=k:=qo
   have i1:(k:Int)<l.length:=qo
   have n1:¬ b2=wo.heap.size:=qo
   have n2:¬ b=wo.heap.size:=qo
   clear hr hr2 hb hx
   go_wp2_with (first|(go_at_call 113;(with_reducible refine (HC.out _ bll).mono ?_);rintro e w' ⟨rfl,hb⟩)|fail)
   go_roundw
   case rel=>exact ⟨k+1,qo,qg,bll⟩
   case measure=>exact qn
  ·obtain rfl:k=l.length:=by omega
   clear hb
   go_wp2_with fail
   go_ret
   exact ⟨rfl,HB.out⟩
theorem Zoc {A A2:OA} {c c2:Nat} {l:List Zab} (w:World) (h:Zc3 w A c l) (h2:Zc3 w A2 c2 l) :
  CR 114 #[.slice A l.length c,.slice A2 l.length c2] w ((.bool true)):=by
 have H:=hdQ h
 have H2:=hdQ h2
 have hc:=h.2.1
 have hl:=h.1
 unfold maxLen at hc
 have e2:((l.length:Int) != (l.length:Int))=false:=qs
 clear h h2
 go_enter Tryz.func114,Tryz.ntmps114
 go_wp2_with fail
 go_loopw [5,13] (λ_ i wr=>∃ k:Nat,k<=l.length/\i=.int .i64 k/\Bw w wr) (λ_ i _=>l.length-(RowKit.intOf i).toNat)
 case atStart=>exact ⟨0,Nat.zero_le _,rfl,Below.refl _ _⟩
 case round =>
  obtain ⟨k,hk,rfl,hb⟩:=hrel
  have HB:=hdQ hb
  have hz:=hb.size
  by_cases hlt:k<l.length
  ·obtain ⟨b,o,rfl,hbl,_,x0,x1⟩:=(H.out.step hb).2.2 k hlt
   obtain ⟨b2,o2,rfl,hbl2,_,y0,y1⟩:=(H2.out.step hb).2.2 k hlt
   obtain ⟨⟨name,num⟩,hx⟩:∃ x,l[k]=x:=⟨_,rfl⟩
   rw [hx] at x0 x1 y0 y1
   (try dsimp only at x0 x1 y0 y1)
   have i0:(0:Int)<=k:=qo
   have i1:(k:Int)<l.length:=qo
   clear hb hx
   go_wp2_with fail
   go_quiet (fail)
   go_wp2_with fail
   go_roundw
   case rel=>exact ⟨k+1,qo,qg,bll⟩
   case measure=>exact qn
  ·obtain rfl:k=l.length:=by omega
   clear hb
   go_wp2_with fail
   go_ret
   exact ⟨rfl,HB.out⟩
theorem Zoi {A A2 B B2:OA} {c c2 d d2:Nat} {p:Zag} (w:World) (h:Zcd w A c A2 c2 p) (h2:Zcd w B d B2 d2 p) :
  CR 52 #[Zbz A p.1.length c A2 p.2.length c2,Zbz B p.1.length d B2 p.2.length d2] w ((.bool true)):=by
 have HN:=qh (∀ wx,Bw w wx->CR 112 #[.slice A p.1.length c,.slice B p.1.length d,.func (.func 113) #[] #[]] wx (.bool true)) (λwx hb=>Zr3 wx (h.1.step hb) (h2.1.step hb))
 have HA:=qh (∀ wx,Bw w wx->CR 114 #[.slice A2 p.2.length c2,.slice B2 p.2.length d2] wx (.bool true)) (λwx hb=>Zoc wx (h.2.step hb) (h2.2.step hb))
 clear h h2
 go_enter Tryz.func52,Tryz.ntmps52
 go_wp2_with (first|(go_at_call 112;(with_reducible refine (HN.out _ bll).mono ?_);rintro e w' ⟨rfl,hb⟩;have hz:=hb.size;(try simp at hz);obtain ⟨c0,f0,z0⟩:=bxx hb (w.heap.size);obtain ⟨c1,f1,z1⟩:=bxx hb (w.heap.size+1))|(go_at_call 114;(with_reducible refine (HA.out _ bll).mono ?_);rintro e w' ⟨rfl,hb⟩)|fail)
 go_ret
 exact ⟨rfl,bll⟩
theorem Zvs {A:OA} {c:Nat} {l:List Zab} (w:World) (hs:l.length<=1048576) (h:RS w 2 A l.length c (Zjb l)) :
  CL 165 #[.slice A l.length c] w λe w'=>∃ B d,e=.returned (.slice B l.length d)/\Zaj w' w.heap.size 106 2 B l.length d (Zjb l)/\Bw w w':=by
 have H0:=hdQ h
 have heq:=λ(wx:World)=>Lib.run_eql_slice_nil (P:=Tryz.prog) wx 60 106 A l.length c 0 0 Tryz.underlying60
 rcases A with _|a
 ·have h0:l.length=0:=by
   rcases Nat.eq_zero_or_pos l.length with h0|h0
   ·exact h0
   ·obtain ⟨b,o,hA,_⟩:=h.open_.2.2 h0;cases hA
  obtain rfl:l=[]:=List.eq_nil_of_length_eq_zero h0
  clear h h0
  simp only [List.length_nil,Option.isNone_none] at heq
  go_enter Tryz.func165,Tryz.ntmps165
  go_wp2
  go_ret
  exact ⟨none,0,rfl,Zaj.nil _ _ _ _,bll⟩
 ·clear h
  have HR:=hdQ (RS.alloc H0.out (.cells #[] 106))
  have HG:Hid (Zaj (w.alloc (.cells #[] 106)) w.heap.size 106 2 (some ⟨w.heap.size,0,none⟩) 0 0 []):=Zaj.lit w #[] 0 rfl (Nat.le_refl _) (Nat.zero_le _)
  go_enter Tryz.func165,Tryz.ntmps165
  go_wp2_with (at_builtin;refine wpA (w.heap.size) Tryz.underlying60 T.infoAss ([]) (Zjb l) (Znq _) ?_ ?_ ?_;exact (gwx HG.out);exact HR.out;rintro A' c' w2 gA;have HA:=hdQ gA;clear gA)
  go_ret
  have g:=HA.out
  have g1:=g.1
  simp only [List.nil_append,Nat.zero_add] at g1 ⊢
  exact ⟨_,_,rfl,g1,Below.trans bll g.2.1⟩
theorem Zse {A:OA} {c:Nat} {l:List Zbt} (w:World) (hs:l.length<=1048576) (h:RS w 26 A l.length c (Zcz l)) :
  CL 110 #[.slice A l.length c] w λe w'=>∃ B d,e=.returned (.slice B l.length d)/\Zaj w' w.heap.size 45 26 B l.length d (Zcz l)/\Bw w w':=by
 have H0:=hdQ h
 have heq:=λ(wx:World)=>Lib.run_eql_slice_nil (P:=Tryz.prog) wx 28 45 A l.length c 0 0 Tryz.underlying28
 rcases A with _|a
 ·have h0:l.length=0:=by
   rcases Nat.eq_zero_or_pos l.length with h0|h0
   ·exact h0
   ·obtain ⟨b,o,hA,_⟩:=h.open_.2.2 h0;cases hA
  obtain rfl:l=[]:=List.eq_nil_of_length_eq_zero h0
  clear h h0
  simp only [List.length_nil,Option.isNone_none] at heq
  go_enter Tryz.func110,Tryz.ntmps110
  go_wp2
  go_ret
  exact ⟨none,0,rfl,Zaj.nil _ _ _ _,bll⟩
 ·clear h
  have HR:=hdQ (RS.alloc H0.out (.cells #[] 45))
  have HG:Hid (Zaj (w.alloc (.cells #[] 45)) w.heap.size 45 26 (some ⟨w.heap.size,0,none⟩) 0 0 []):=Zaj.lit w #[] 0 rfl (Nat.le_refl _) (Nat.zero_le _)
  have rSurf_one:∀ u∈Zcz l,u.oneCell'=true:=λu hu=>by
   obtain ⟨x,_,hx⟩:=List.mem_flatMap.1 hu
   exact Zgo x u hx
  obtain ⟨xs,hxs⟩:=qv (Zcz l)
  rw [hxs] at rSurf_one HR ⊢
  go_enter Tryz.func110,Tryz.ntmps110
  go_wp2_with (at_builtin;refine Zmb qr _ _ 28 qr (w.heap.size) 45 (.agg ⟨z26⟩) 26 208 Tryz.underlying28 T.infoSurf3 rfl qd (xs:=[]) qr ?_ (ys:=xs) qr ?_ rSurf_one ?_ ?_ ?_ ?_;(exact (gwx HG.out));(exact HR.out);(unfold maxLen;omega);(omega);(first|omega|(simp<;>omega));rintro A' c' w2 gA;have HA:=hdQ gA;clear gA)
  go_ret
  have g:=HA.out
  have g1:=g.1
  simp only [List.nil_append,Nat.zero_add] at g1 ⊢
  exact ⟨_,_,rfl,g1,Below.trans bll g.2.1⟩
def Zye (p:Zag) (w:World) (e:Ending) (w':World):Prop :=
 ∃ (NB AB:OA) (nb ab b:Nat),e=.returned (Zbz NB p.1.length nb AB p.2.length ab)/\w.heap.size<=b/\b<=w'.heap.size/\Zcb w' b NB nb p.1 AB ab p.2/\Bw w w'
set_option maxHeartbeats 32000000 in
theorem Zof {NA AA:OA} {nc ac:Nat} {p:Zag} (w:World) (h:Zcd w NA nc AA ac p) (ha:RS w 2 AA p.2.length ac (Zjb p.2)) (hn:p.1.length<=60) (hm:p.2.length<=1048576) (hsm:∀ x∈p.1,x.2.2.2.length<=1048576) :
  CL 109 #[Zbz NA p.1.length nc AA p.2.length ac] w (Zye p w):=by
 have H:=hdQ h
 have HA:=hdQ ha
 have HSM:=hdQ hsm
 have HCI:Hid (∀ {A:OA} {c:Nat} {l:List Int} (wx:World),l.length<=1048576->RS wx 1 A l.length c (ints l)->CL 108 #[.slice A l.length c] wx (Zhw 3 1 l.length (ints l) wx)):=hdQ (λwx h1 h2=>Zm9 wx h1 h2)
 have hcap:=h.1.2.1
 have hcl:=h.1.1
 unfold maxLen at hcap
 clear h ha hsm
 go_enter Tryz.func109,Tryz.ntmps109
 go_wp2_with fail
 refine (Zvs _ hm ((HA.out.alloc _).alloc _)).mono ?_
 rintro e u1 ⟨AB,ab,rfl,hga,hb1⟩
 have hz1:=hb1.size
 (try simp at hz1)
 have HGA:=hdQ hga
 have HB1:=bh w hb1
 have HP1:=qh (Own u1 w.heap.size 62 [.slice NA p.1.length nc,.slice AA p.2.length ac]) (Own.step hb1 (Own.alloc (Own.new w _ #[_,_]) _))
 have HR1:=qh (Own u1 (w.heap.size+1) 62 [.slice none 0 0,.slice none 0 0]) (Own.step hb1 (Own.at_new (cs := #[_,_]) qs))
 have y0:=HP1.out.cell 0
 have yl:=HP1.out.lt
 have ny:¬ w.heap.size=u1.heap.size:=qo
 simp only [List.getElem?_cons_zero,List.getElem?_cons_succ] at y0
 obtain ⟨X,hX⟩:∃ X,X=u1.heap.size:=⟨_,rfl⟩
 have hXw:w.heap.size+2<=X:=qo
 obtain ⟨B0,hB0⟩:∃ B0,B0=w.heap.size+2:=⟨_,rfl⟩
 have HX2:=qh (Own (u1.alloc (.cells #[.slice none 0 0,.slice AB p.2.length ab] 62)) X 62 [.slice none 0 0,.slice AB p.2.length ab]) (by rw [hX];exact Own.new u1 _ #[_,_])
 have HM2:=qh (PMem (u1.alloc (.cells #[.slice none 0 0,.slice AB p.2.length ab] 62)) X B0 none 0 [] AB ab p.2 (List.range B0) none 0 []) (by
  have hga':Zaj u1 B0 106 2 AB p.2.length ab (Zjb p.2):=hga.mono (by simp;omega)
  refine ⟨⟨rfl,none,0,rfl,Nat.le_refl _,Nat.zero_le _,λh=>absurd h qd⟩,hga'.alloc _,⟨[],Zaj.nil _ _ _ _,Zb9.nil _ _ _,Zfb.nil _⟩,(by simp [gOf]),(by simp [gOf]),λx hx=>⟨?_, ?_⟩, ?_, ?_,(by simp [gOf]),λx hx=>⟨?_, ?_⟩,qs⟩
  ·have:=hga'.lt x hx;omega
  ·have:=hga'.ge x hx;simp;omega
  ·simp;omega
  ·simp;omega
  ·simp at hx ⊢;omega
  ·simp at hx;omega)
 have HB2:=qh (Bw w (u1.alloc (.cells #[.slice none 0 0,.slice AB p.2.length ab] 62))) (HB1.out.alloc qo _)
 have HR2:=hdQ (HR1.out.alloc (.cells #[.slice none 0 0,.slice AB p.2.length ab] 62))
 clear hga hb1 HGA HA
 rw [show u1.heap.size=X from hX.symm] at ny
 go_wp2_with fail
 try rw [<- hX]
 clear hX HP1 HR1 HB1 y0 yl ny
 go_loopw [13] (λi_ wr=>∃ (k:Nat) (NB:OA) (nb:Nat),k<=p.1.length/\i_=.int .i64 k/\PMem wr X B0 none 0 [] AB ab p.2 (List.range B0) NB nb (p.1.take k)/\Own wr X 62 [.slice NB k nb,.slice AB p.2.length ab]/\Own wr (w.heap.size+1) 62 [.slice none 0 0,.slice none 0 0]/\Bw w wr) (λi_ _=>p.1.length-(RowKit.intOf i_).toNat)
 case atStart=>exact ⟨0,none,0,Nat.zero_le _,rfl,HM2.out,HX2.out,HR2.out,HB2.out⟩
 case round =>
  obtain ⟨k,NB,nb,hk,rfl,hpm,hx,hr,hb⟩:=hrel
  have HM:=hdQ hpm
  have HX:=hdQ hx
  have HR:=hdQ hr
  have HB:=hdQ hb
  have hxl:=hx.lt
  have hz:=hb.size
  clear hpm hx hr hb HM2 HX2 HR2 HB2
  by_cases hlt:k<p.1.length
  ·obtain ⟨b,o,A,c,rfl,hbl,hnm,hr1,x0,x1,x2,x3⟩:=(H.out.step HB.out).1.2.2 k hlt
   have hsl:=HSM.out _ (List.getElem_mem hlt)
   have HTK:=qh (p.1.take (k+1)=p.1.take k++[p.1[k]]) (List.take_succ_eq_append_getElem hlt)
   obtain ⟨⟨op,name,num,args⟩,hxx⟩:∃ x,p.1[k]=x:=⟨_,rfl⟩
   rw [hxx] at hr1 hnm hsl x0 x1 x2 x3 HTK
   (try dsimp only at hr1 hnm hsl x0 x1 x2 x3)
   have HR1:=hdQ (hr1.alloc (.cells #[.int .i64 op,str name,.int .i64 num,.slice A args.length c] 155))
   have i0:(0:Int)<=k:=qo
   have i1:(k:Int)<p.1.length:=qo
   have hne:¬ b=wr.heap.size:=qo
   clear hr1 hxx
   go_wp2_with fail
   refine (HCI.out _ hsl HR1.out).mono ?_
   rintro e w5 ⟨A',c',rfl,hown,hge,hb5⟩
   have hz5:=hb5.size
   (try simp at hz5)
   have HOW:=hdQ hown
   have HGE:=qh (∀ x,x∈gOf A'->wr.heap.size+1<=x) (λx hx=>by have:=hge x hx;simpa using this)
   have HV5:=qh (Own w5 wr.heap.size 155 [.int .i64 op,str name,.int .i64 num,.slice A args.length c]) (Own.step hb5 (Own.new wr _ #[_,_,_,_]))
   have HX5:=hdQ (Own.step hb5 (HX.out.alloc (.cells #[.int .i64 op,str name,.int .i64 num,.slice A args.length c] 155)))
   have HR5:=hdQ (Own.step hb5 (HR.out.alloc (.cells #[.int .i64 op,str name,.int .i64 num,.slice A args.length c] 155)))
   have HB5:=bh wr hb5
   obtain ⟨V,hV⟩:∃ V,V=wr.heap.size:=⟨_,rfl⟩
   rw [<- hV] at HV5
   obtain ⟨w6,hw6⟩:∃ w6,w6=w5.setCell ⟨V,3,none⟩ (.slice A' args.length c'):=⟨_,rfl⟩
   have HV6:=qh (Own w6 V 155 [.int .i64 op,str name,.int .i64 num,.slice A' args.length c']) (by rw [hw6];exact HV5.out.set_ 3 _)
   have HX6:=qh (Own w6 X 62 [.slice NB k nb,.slice AB p.2.length ab]) (by rw [hw6];exact HX5.out.far (p:=⟨V,3,none⟩) (by show X≠V;omega) _)
   have HR6:=qh (Own w6 (w.heap.size+1) 62 [.slice none 0 0,.slice none 0 0]) (by rw [hw6];exact HR5.out.far (p:=⟨V,3,none⟩) (by show w.heap.size+1≠V;omega) _)
   have HB6:=qh (Bw wr w6) (by rw [hw6];exact HB5.out.setCell (p:=⟨V,3,none⟩) (by show wr.heap.size<=V;omega) _)
   have hz6:w6.heap.size=w5.heap.size:=by rw [hw6];simp [World.setCell]
   have HO6:=qh (Zdb w6 1 A' args.length c' 3 (ints args)) (by
    rw [hw6]
    exact hown.keep (λx hx _=>Below.heap_setCell _ ⟨V,3,none⟩ _ x (by have:=HGE.out x hx;show x≠V;omega)))
   have HM6:=qh (PMem w6 X B0 none 0 [] AB ab p.2 (gOf A'++List.range B0) NB nb (p.1.take k)) (HM.out.own HB6.out (λy hy=>by
    rcases List.mem_append.1 hy with hy|hy
    ·exact ⟨by have:=hown.lt y hy;omega,.inr (by have:=HGE.out y hy;omega)⟩
    ·exact ⟨by have:=(HM.out.xlt y hy).1;omega,.inl hy⟩))
   obtain ⟨cs,hg,hn',hp'⟩:=HM6.out.nod
   have HG:=hdQ hg
   have HN:=hdQ hn'
   have HPP:=hdQ hp'
   have htl:(p.1.take k).length=k:=by rw [List.length_take];omega
   rw [htl] at HG HPP
   have v0:=HV5.out.cell 0
   have v1:=HV5.out.cell 1
   have v2:=HV5.out.cell 2
   have v3:=HV5.out.cell 3
   have vf:=HV5.out.frozen
   have vl:=HV5.out.lt
   have s0:=HX5.out.cell 0
   have sf:=HX5.out.frozen
   have sl_:=HX5.out.lt
   have nVX:¬ V=X:=qo
   have nXV:¬ X=V:=qo
   have hk60:k<60:=qo
   have hXN:X∉gOf NB:=λq=>(HM6.out.apN X q).1 rfl
   have hB0w:B0<=w6.heap.size:=qo
   simp only [List.getElem?_cons_zero,List.getElem?_cons_succ] at v0 v1 v2 v3 s0
   rw [show wr.heap.size=V from hV.symm]
   have hzV:V<w6.heap.size:=qo
   have HW6:=hdQ hw6
   have hzw6:wr.heap.size<w6.heap.size:=qo
   clear hown hge hb5 hg hn' hp' x0 x1 x2 x3 hV hw6
   go_wp2_with (first|(at_builtin;rw [<- HW6.out];refine wpA (B0) Tryz.underlying59 T.infoNode (cs) ([.int .i64 op,str name,.int .i64 num,.slice A' args.length c']) (Znu _ _ _ _) ?_ ?_ ?_;exact (gwx HG.out);exact (Zaj.rs (base:=0) (n:=1) (c:=1) (Zaj.lit_at qo qr (Nat.zero_le _) (by unfold maxLen;omega)));rintro P7 k7 x7 gA7;have HAP:=hdQ gA7;have hsa:=gA7.2.2.2.1;(try simp at hsa);have ho7:Own x7 X 62 [.slice NB k nb,.slice AB p.2.length ab]:=(gA7.2.2.1.block X (by simp;omega) (by cases NB<;>simp_all [gOf])).trans (Own.alloc HX6.out _);have HO7:=hdQ ho7;have m0:=ho7.cell 0;have mf:=ho7.frozen;have ml:=ho7.lt;simp only [List.getElem?_cons_zero] at m0;clear gA7 ho7)|fail)
   obtain ⟨g1,g2,g3⟩:=PMem.put (op:=op) (num:=num) (name:=name) (args:=args) (A:=A') (c:=c') HM6.out (by rw [htl];omega) ((Below.refl _ _).alloc (Nat.le_refl _) (.cells #[.int .i64 op,str name,.int .i64 num,.slice A' args.length c'] 155)) (by rw [htl];exact HG.out) HN.out (by rw [htl];exact HPP.out) HO6.out (λy hy=>by have:=HGE.out y hy;simp;omega) (by rw [htl];exact HAP.out)
   have HMF:=qh (PMem (x7.setCell ⟨X,0,none⟩ (.slice P7 (k+1) k7)) X B0 none 0 [] AB ab p.2 (List.range B0) P7 k7 (p.1.take (k+1))) (by rw [HTK.out];exact g1.set_ 0 _)
   have HXF:=qh (Own (x7.setCell ⟨X,0,none⟩ (.slice P7 (k+1) k7)) X 62 [.slice P7 (k+1) k7,.slice AB p.2.length ab]) (HO7.out.set_ 0 _)
   have HRF:=qh (Own (x7.setCell ⟨X,0,none⟩ (.slice P7 (k+1) k7)) (w.heap.size+1) 62 [.slice none 0 0,.slice none 0 0]) ((Own.below (HR6.out.alloc _) HAP.out.2.1 qo).far (p:=⟨X,0,none⟩) (by show w.heap.size+1≠X;omega) _)
   have HBF:=qh (Bw w (x7.setCell ⟨X,0,none⟩ (.slice P7 (k+1) k7))) ((Below.trans ((Below.trans HB.out (HB6.out.mono hz)).alloc qo _) (HAP.out.2.1.mono qo)).setCell (p:=⟨X,0,none⟩) (by show w.heap.size<=X;omega) _)
   clear g1 g2 g3
   go_roundw
   case rel=>exact ⟨k+1,P7,k7,qo,qg,HMF.out,HXF.out,HRF.out,HBF.out⟩
   case measure=>exact qn
  ·obtain rfl:k=p.1.length:=by omega
   have s0:=HX.out.cell 0
   have s1:=HX.out.cell 1
   have r0:=HR.out.cell 0
   have r1:=HR.out.cell 1
   have rf:=HR.out.frozen
   have rl:=HR.out.lt
   have nr:¬ X=w.heap.size+1:=qo
   simp only [List.getElem?_cons_zero,List.getElem?_cons_succ] at s0 s1 r0 r1
   have HMM:=qh (Zcb wr B0 NB nb p.1 AB ab p.2) (by have:=HM.out.progM hm;rwa [List.take_length] at this)
   go_wp2_with fail
   have HXF:=qh (Own ((wr.setCell ⟨w.heap.size+1,0,none⟩ (.slice NB p.1.length nb)).setCell ⟨w.heap.size+1,1,none⟩ (.slice AB p.2.length ab)) (w.heap.size+1) 62 [.slice NB p.1.length nb,.slice AB p.2.length ab]) ((HR.out.set_ 0 _).set_ 1 _)
   have q0:=HXF.out.cell 0
   have q1:=HXF.out.cell 1
   simp only [List.getElem?_cons_zero,List.getElem?_cons_succ] at q0 q1
   refine bodyPost_ret (v:=Zbz NB p.1.length nb AB p.2.length ab) (by simp [results,Tryz.results109,go_sem, *]) rfl ?_
   exact ⟨NB,AB,nb,ab,B0,rfl,qo,by simp;omega,HMM.out.keep (λq hq _=>(Below.heap_setCell _ ⟨w.heap.size+1,1,none⟩ _ q (by show q≠w.heap.size+1;omega)).trans (Below.heap_setCell _ ⟨w.heap.size+1,0,none⟩ _ q (by show q≠w.heap.size+1;omega))),(HB.out.setCell (p:=⟨w.heap.size+1,0,none⟩) (by show w.heap.size<=w.heap.size+1;omega) _).setCell (p:=⟨w.heap.size+1,1,none⟩) (by show w.heap.size<=w.heap.size+1;omega) _⟩
section
variable {P:Program} {w w':World} {ops:Array Oper} {o:Oper} {a:Act} {Q:Exit->Act->World->Prop}
theorem Zdc {os:List Oper} (h:wpList P ops Q os a w):wpList P ops Q os a w:=h
theorem Zgc {os:List Oper} (hg:o.guard=none) (t:TypeId) (x:Operand) (ho:o.op=.box t x) {p v:Value} (hx:a.eval x=p) (hr:(Instr.box t p).run P w=.ok v w') (h:wpList P ops Q os (a.put o.dst v) w'):wpList P ops Q (o::os) a w:=by
 refine wpList_plain hg λK hK=>?_
 unfold Oper.wp execOp
 simp only [ho,Sem.run_bind,Sem.run_pure,Result.andThen_ok,hx,hr]
 exact hK _ _ h
end
theorem SceneR.setSurf {w w':World} {base:Nat} {Z:List Nat} {s:EScene} {T P Q A:OA} {tc pc qc c:Nat} (h:SceneR w base Z s T tc P pc Q qc) (hb:Bw w w') (hZ:∀ z,z∈Z->z<w.heap.size) (hbw:base<=w.heap.size) {l:List Zbt} (hA:Zaj w' w.heap.size 45 26 A l.length c (Zcz l)) :
  SceneR w' base Z { s with ss:=l } T tc P pc A c:=by
 have hs:=h.step hb
 refine ⟨hs.tex,λy hy=>⟨(h.texb y hy).1,λq=>?_,(h.texb y hy).2.2⟩,hA.mono hbw,λy hy q=>?_,h.ps.move hb.size (λx _ hl _=>hb.block x hl) (λy hy=>?_)⟩
 ·have:=hA.ge y q;have:=h.tex.lt y hy;omega
 ·have:=hA.ge y hy;have:=hZ y q;omega
 ·simp only [List.mem_append] at hy ⊢
  rcases hy with q|q|q
  ·exact .inl (.inl q)
  ·exact .inl (.inr (.inl q))
  ·exact .inr (hA.ge y q)
theorem Zcd.drew {w:World} {NA AA:OA} {nc ac:Nat} {p:Zag} (h:Zcd w NA nc AA ac p):Zcd w.drew NA nc AA ac p:=h
theorem Zub {w:World} {base:Nat} {P:OA} {n pc:Nat} {cs:List Value} (h:Zaj w base 62 2 P n pc cs) {k:Nat} (hk:k<n) {u v:Value} (h0:cs[k*2]? = some u) (h1:cs[k*2+1]? = some v) :
  ∃ b o,P=some ⟨b,o,none⟩/\b<w.heap.size/\w.cell? ⟨b,o+k*2,none⟩=some u/\w.cell? ⟨b,o+k*2+1,none⟩=some v:=by
 obtain ⟨g1,g2,g3⟩:=h.rs.open_
 obtain ⟨b,o,hA,hb,hc⟩:=g3 qo
 have:(k+1)*2<=n*2:=Nat.mul_le_mul_right _ hk
 exact ⟨b,o,hA,hb,by rw [hc _ qo,h0],by rw [Nat.add_assoc,hc _ qo,h1]⟩
set_option maxHeartbeats 64000000 in
theorem Zr8 {s:EScene} {TX P Q:OA} {tc pc qc base:Nat} (w:World) (h:SceneR w base [] s TX tc P pc Q qc) (hN:Zdp s) (h1:s.tex.length<=1048576) (h2:s.ps.length<=1000000) (h3:s.ss.length<=1000000) :
  CL 49 #[.agg ⟨cS s TX tc P pc Q qc⟩] w λe w'=>∃ X b,e=.returned (.pointer (some ⟨X,0,none⟩))/\w.heap.size<=b/\b<=w'.heap.size/\w.heap.size<=X/\(∃ (T':OA) (t':Nat) (P':OA) (p':Nat) (Q':OA) (q':Nat),Own w' X 30 (cS s T' t' P' p' Q' q')/\SceneR w' b [X] s T' t' P' p' Q' q')/\Bw w w':=by
 have HS:=hdQ h
 have HN:=hdQ hN
 have HTR:=hdQ h.tex.rs
 clear h hN
 have hal:∀ wx:World,(Instr.alloc 30 true (.tuple #[])).run Tryz.prog wx=.ok (.pointer (some ⟨wx.heap.size,0,none⟩)) (wx.alloc (.cells ⟨zS⟩ 30)):=λwx=>by kernel_rfl
 have hbx:∀ wx:World,(Instr.box 30 (.agg ⟨cS s TX tc P pc Q qc⟩)).run Tryz.prog wx=.ok (.pointer (some ⟨wx.heap.size,0,none⟩)) (wx.alloc (.cells ⟨cS s TX tc P pc Q qc⟩ 30)):=λwx=>by kernel_rfl
 obtain ⟨E,hE⟩:∃ E,E=cS s TX tc P pc Q qc:=⟨_,rfl⟩
 have hEl:E.length=12:=by rw [hE];rfl
 have hE1:E.all (·.oneCell')=true:=by rw [hE];rfl
 have HE8:=qh (E[8]? = some (.slice TX s.tex.length tc)) (by rw [hE];rfl)
 have HE9:=qh (E[9]? = some (.slice P s.ps.length pc)) (by rw [hE];rfl)
 have HE10:=qh (E[10]? = some (.slice Q s.ss.length qc)) (by rw [hE];rfl)
 have HEF:=qh (∀ (T':OA) (t':Nat) (P':OA) (p':Nat) (Q':OA) (q':Nat),((E.set 8 (.slice T' s.tex.length t')).set 9 (.slice P' s.ps.length p')).set 10 (.slice Q' s.ss.length q')=cS s T' t' P' p' Q' q') (λ_ _ _ _ _ _=>by rw [hE];rfl)
 rw [<- hE] at hbx ⊢
 clear hE
 obtain ⟨W1,hW1⟩:∃ W1,W1=w.alloc (.cells ⟨E⟩ 30):=⟨_,rfl⟩
 have HBX:=qh ((Instr.box 30 (.agg ⟨E⟩)).run Tryz.prog w=.ok (.pointer (some ⟨w.heap.size,0,none⟩)) W1) (by rw [hW1];exact hbx w)
 have HY1:=qh (Own W1 w.heap.size 30 E) (by rw [hW1];exact Own.new w _ _)
 have HB1:=qh (Bw w W1) (by rw [hW1];exact (Below.refl _ _).alloc (Nat.le_refl _) _)
 have hz1:W1.heap.size=w.heap.size+1:=by rw [hW1];simp
 clear hW1 hbx
 obtain ⟨X,hX⟩:∃ X,X=W1.heap.size:=⟨_,rfl⟩
 have HLD:=qh ((Instr.loadAt 30 (.pointer (some ⟨w.heap.size,0,none⟩))).run Tryz.prog W1=.ok (.agg ⟨E⟩) W1) (Zak (P:=Tryz.prog) Tryz.underlying30 rfl (by rw [hEl];exact Za2) (λj v hv=>by rw [Nat.zero_add,HY1.out.cell];exact hv))
 obtain ⟨w2,hst,hs,hbk,hs2,e1,e2,e3⟩:=Zap (P:=Tryz.prog) (T:=30) (zs:=E) (k:=0) (Own.new W1 30 ⟨zS⟩) (by rw [hEl];exact Za2) (by rw [hEl];show 12<=12;omega) hE1
 (try simp at hs2)
 have HX2:=qh (Own w2 X 30 E) (by rw [hX];have:=hs;rw [hEl] at this;simpa [zS] using this)
 have HY2:=qh (Own w2 w.heap.size 30 E) ((hbk _ qo).trans (HY1.out.alloc _))
 have HB2:=qh (Bw w w2) (HB1.out.trans ((((Below.refl W1.heap.size W1).alloc (Nat.le_refl _) _).trans ⟨e1,e2,e3,by simp;omega,λb h=>hbk b qo⟩).mono qo))
 have HST:=qh ((Instr.storeAt 30 (.pointer (some ⟨X,0,none⟩)) (.agg ⟨E⟩)).run Tryz.prog (W1.alloc (.cells ⟨zS⟩ 30))=.ok () w2) (by rw [hX];exact hst)
 have HALX:=qh ((Instr.alloc 30 true (.tuple #[])).run Tryz.prog W1=.ok (.pointer (some ⟨X,0,none⟩)) (W1.alloc (.cells ⟨zS⟩ 30))) (by rw [hX];exact hal W1)
 have hXw:X=w.heap.size+1:=qo
 have HXW:=hdQ hXw
 have hXl:w.heap.size<X:=qo
 have hz2:w2.heap.size=w.heap.size+2:=qo
 have HTX:=qh (RS w2 1 TX s.tex.length tc (ints s.tex)) (RS.step HB2.out HTR.out)
 have HCI:Hid (∀ {A:OA} {c:Nat} {l:List Int} (wx:World),l.length<=1048576->RS wx 1 A l.length c (ints l)->CL 108 #[.slice A l.length c] wx (Zhw 3 1 l.length (ints l) wx)):=hdQ (λwx h1 h2=>Zm9 wx h1 h2)
 have y8:w2.cell? ⟨w.heap.size,8,none⟩=some (.slice TX s.tex.length tc):=(HY2.out.cell 8).trans HE8.out
 have yl:=HY2.out.lt
 clear hst hs hbk e1 e2 e3 hX hXw hal hz1 hs2
 go_enter Tryz.func49,Tryz.ntmps49
 go_wp2_with ((with_reducible refine Zdc ?_);first|(refine Zgc rfl 30 (.tmp 0) rfl rfl HBX.out ?_)|(refine Zal rfl 30 (.tmp 1) rfl rfl HLD.out ?_)|(refine Zah rfl 30 rfl HALX.out ?_)|(refine Zae rfl 30 (.tmp 3) (.tmp 6) rfl rfl rfl HST.out ?_)|fail)
 clear HBX HLD HALX HST
 refine (HCI.out _ h1 HTX.out).mono ?_
 rintro e w3 ⟨T',t',rfl,hown,hge,hb3⟩
 have hz3:=hb3.size
 have HTO:=hdQ hown
 have HTG:=hdQ hge
 have HX3:=hdQ (Own.step hb3 HX2.out)
 have HY3:=hdQ (Own.step hb3 HY2.out)
 have HB3:=qh (Bw w w3) (Below.step hb3 HB2.out qo)
 have f8:w3.cell? ⟨X,8,none⟩=some (.slice TX s.tex.length tc):=(HX3.out.cell 8).trans HE8.out
 have f9:w3.cell? ⟨X,9,none⟩=some (.slice P s.ps.length pc):=(HX3.out.cell 9).trans HE9.out
 have ff:=HX3.out.frozen
 have fl:=HX3.out.lt
 have y9:w3.cell? ⟨w.heap.size,9,none⟩=some (.slice P s.ps.length pc):=(HY3.out.cell 9).trans HE9.out
 have nXy:¬ w.heap.size=X:=qo
 have nyX:¬ X=w.heap.size:=qo
 clear hown hge hb3 y8 yl
 obtain ⟨w4,hw4⟩:∃ w4,w4=(w3.setCell ⟨X,8,none⟩ (.slice T' s.tex.length t')).setCell ⟨X,9,none⟩ (.slice none 0 0):=⟨_,rfl⟩
 have HX4:=qh (Own w4 X 30 ((E.set 8 (.slice T' s.tex.length t')).set 9 (.slice none 0 0))) (by rw [hw4];exact (HX3.out.set_ 8 _).set_ 9 _)
 have HY4:=qh (Own w4 w.heap.size 30 E) (by rw [hw4];exact (HY3.out.far (p:=⟨X,8,none⟩) (by show w.heap.size≠X;omega) _).far (p:=⟨X,9,none⟩) (by show w.heap.size≠X;omega) _)
 have HB4:=qh (Bw w w4) (by rw [hw4];exact (HB3.out.setCell (p:=⟨X,8,none⟩) (by show w.heap.size<=X;omega) _).setCell (p:=⟨X,9,none⟩) (by show w.heap.size<=X;omega) _)
 have hz4:w4.heap.size=w3.heap.size:=by rw [hw4];simp [World.setCell]
 obtain ⟨B,hB⟩:∃ B,B=w.heap.size+2:=⟨_,rfl⟩
 have HS4:=qh (SceneR w4 B [X] { s with ps:=[],ss:=[] } T' t' none 0 none 0) (by
  have hT4:Zdb w4 1 T' s.tex.length t' 3 (ints s.tex):=by
   rw [hw4]
   exact (HTO.out.keep (λy hy _=>Below.heap_setCell _ ⟨X,8,none⟩ _ y (by have:=HTG.out y hy;show y≠X;have:=HXW.out;omega))).keep (λy hy _=>Below.heap_setCell _ ⟨X,9,none⟩ _ y (by have:=HTG.out y hy;show y≠X;have:=HXW.out;omega))
  refine ⟨hT4,λy hy=>⟨by have:=HTG.out y hy;omega,(by simp [gOf]), ?_⟩,Zaj.nil _ _ _ _,(by simp [gOf]),Zci.nil _ _ _⟩
  have:=HTG.out y hy
  have:=HXW.out
  simp;omega)
 have HW4:=hdQ hw4
 have HBz:=qh (B<=w4.heap.size) qo
 clear hw4
 go_wp2_with fail
 rw [<- HW4.out]
 clear f8 f9 ff fl y9 HW4 HX3 HY3 HX2 HY2 HB3 HB2
 go_loopw [17] (λi_ wr=>∃ (k:Nat) (ls:List Zag) (P':OA) (p':Nat),ls.length=k/\ls=s.ps.take k/\k<=s.ps.length/\i_=.int .i64 k/\Own wr X 30 ((E.set 8 (.slice T' s.tex.length t')).set 9 (.slice P' k p'))/\SceneR wr B [X] { s with ps:=ls,ss:=[] } T' t' P' p' none 0/\Own wr w.heap.size 30 E/\Bw w wr/\B<=wr.heap.size) (λi_ _=>s.ps.length-(RowKit.intOf i_).toNat)
 case atStart=>exact ⟨0,[],none,0,rfl,rfl,Nat.zero_le _,rfl,HX4.out,HS4.out,HY4.out,HB4.out,HBz.out⟩
 case round =>
  obtain ⟨k,ls,P',p',rfl,hls,hk,rfl,hx,hsr,hy,hb,hBz⟩:=hrel
  have HX:=hdQ hx
  have HSr:=hdQ hsr
  have HY:=hdQ hy
  have HB:=hdQ hb
  have HLS:=hdQ hls
  have hxl:=hx.lt
  have hz:=hb.size
  clear hx hsr hy hb hls HX4 HS4 HY4 HB4 HBz
  by_cases hlt:ls.length<s.ps.length
  ·obtain ⟨p,hp⟩:=qv (s.ps[ls.length])
   have HPQ:=hdQ hp
   have hpn:=HN.out p (by rw [<- hp];exact List.getElem_mem hlt)
   obtain ⟨cs,lo,hi,g1,g2,_⟩:=(HS.out.step HB.out).ps
   obtain ⟨NA,nc,AA,ac,c0,c1,hpm,_⟩:=(g2 ls.length hlt).ex
   rw [hp] at c0 c1 hpm
   obtain ⟨b,o,rfl,hbl,x0,x1⟩:=Zub g1 hlt c0 c1
   have hp60:=hpm.2.2.2.1
   have hpal:=hpm.2.2.2.2
   have HPS:=qh (∀ x∈p.1,x.2.2.2.length<=1048576) (λy hy=>by have:=hpn.2.2 y hy;omega)
   obtain ⟨W,hW⟩:∃ W,W=wr.alloc (.cells #[.slice NA p.1.length nc,.slice AA p.2.length ac] 62):=⟨_,rfl⟩
   have HWB:=qh (Bw wr W.drew) (by rw [hW];exact ((Below.refl _ _).alloc (Nat.le_refl _) _).drew)
   have HPI:=qh (Zcd W.drew NA nc AA ac p) (((hpm.in_ (λy hy=>by have:=hpn.1 y hy;unfold maxLen;omega) (λy hy=>by have:=hpn.2.1 y hy;unfold maxLen;omega)):Zcd wr NA nc AA ac p).step HWB.out)
   have HRA:=qh (RS W.drew 2 AA p.2.length ac (Zjb p.2)) (RS.step HWB.out hpm.1.rs)
   have HOV:=qh (Own W.drew wr.heap.size 62 [.slice NA p.1.length nc,.slice AA p.2.length ac]) (by rw [hW];exact (Own.new wr _ #[_,_]).drew)
   have HXW_:=qh (Own W.drew X 30 ((E.set 8 (.slice T' s.tex.length t')).set 9 (.slice P' ls.length p'))) (HX.out.step HWB.out)
   have HYW:=qh (Own W.drew w.heap.size 30 E) (HY.out.step HWB.out)
   have HSW:=qh (SceneR W.drew B [X] { s with ps:=ls,ss:=[] } T' t' P' p' none 0) (HSr.out.step HWB.out)
   have HCP:=qh (CL 109 #[Zbz NA p.1.length nc AA p.2.length ac] W.drew (Zye p W.drew)) (Zof _ HPI.out HRA.out hp60 hpal HPS.out)
   have hzW:W.heap.size=wr.heap.size+1:=by rw [hW];simp
   have i0:(0:Int)<=ls.length:=qo
   have i1:(ls.length:Int)<s.ps.length:=qo
   have HK9:=qh (((E.set 8 (.slice T' s.tex.length t')).set 9 (.slice P' ls.length p'))[9]? = some (.slice P' ls.length p')) (by
    rw [List.getElem?_set_self (by rw [List.length_set];omega)])
   have HW:=hdQ hW
   have hbne:¬ b=wr.heap.size:=qo
   clear hpn g1 g2 c0 c1 hpm hp hW
   go_wp2_with fail
   rw [<- HW.out]
   have k9:W.drew.cell? ⟨X,9,none⟩=some (.slice P' ls.length p'):=(HXW_.out.cell 9).trans HK9.out
   have v0:W.drew.cell? ⟨wr.heap.size,0,none⟩=some (.slice NA p.1.length nc):=HOV.out.cell 0
   have v1:W.drew.cell? ⟨wr.heap.size,1,none⟩=some (.slice AA p.2.length ac):=HOV.out.cell 1
   refine Zbc (S:=(λw'=>w'.cell? ⟨X,9,none⟩=some (.slice P' ls.length p')/\w'.cell? ⟨wr.heap.size,0,none⟩=some (.slice NA p.1.length nc)/\w'.cell? ⟨wr.heap.size,1,none⟩=some (.slice AA p.2.length ac))) 7 kr ⟨k9,v0,v1⟩ (λhHeld=>?_)
   refine tkM 0 ?_
   refine tkM 1 ?_
   refine tkM 2 ?_
   refine Zaa (i:=3) rfl kr (λK3 hK3=>?_)
   go_simp
   refine HCP.out.mono ?_
   rintro e v ⟨NB,AB,nb,ab,bb,rfl,hb1,hb2,hpm,hbv⟩
   have hzv:=hbv.size
   (try simp at hzv hb1)
   have HPM:=hdQ (hpm.mono (b:=W.drew.heap.size) (by simpa using hb1))
   have HBV:=hdQ hbv
   have HXv:=qh (Own v X 30 ((E.set 8 (.slice T' s.tex.length t')).set 9 (.slice P' ls.length p'))) (HXW_.out.step hbv)
   have HYv:=qh (Own v w.heap.size 30 E) (HYW.out.step hbv)
   have HVv:=qh (Own v wr.heap.size 62 [.slice NA p.1.length nc,.slice AA p.2.length ac]) (HOV.out.step hbv)
   have kv9:v.cell? ⟨X,9,none⟩=some (.slice P' ls.length p'):=(HXv.out.cell 9).trans HK9.out
   have kv0:v.cell? ⟨wr.heap.size,0,none⟩=some (.slice NA p.1.length nc):=HVv.out.cell 0
   have kv1:v.cell? ⟨wr.heap.size,1,none⟩=some (.slice AA p.2.length ac):=HVv.out.cell 1
   have hXv:=HXv.out.lt
   have hVv:=HVv.out.lt
   clear hpm hbv
   obtain ⟨cs',lo',hi',g1,g2,g3,g4,g5⟩:=HSW.out.ps
   have HC1:=hdQ g1
   have HC2:=hdQ g2
   have HC3:=hdQ g3
   have HC4:=hdQ g4
   have HC5:=hdQ g5
   have hXP:X∉gOf P':=g5 X qs
   have hVP:wr.heap.size∉gOf P':=λq=>by have:=HSr.out.ps;obtain ⟨_,_,_,q1,_⟩:=this;have:=q1.lt _ q;omega
   have HGV:=qh (Zaj v B 62 2 P' ls.length p' cs') (Zaj.step HBV.out g1)
   clear g1 g2 g3 g4 g5
   refine hK3.out _ _ (λ_=>⟨kv9,kv0,kv1⟩) (λhHeld3=>?_)
   have hS3:=hHeld3 qd
   clear hHeld
   refine Zaa (i:=4) rfl kr (λK4 hK4=>?_)
   go_simp
   refine hK4.out _ _ (λ_=>(by (try dsimp only);refine ⟨?_, ?_, ?_⟩<;>(go_simp;done))) (λhHeld4=>?_)
   have hS4:=hHeld4 qd
   have HV4:=qh (Bw v (v.alloc (.cells #[.slice NB p.1.length nb,.slice AB p.2.length ab] 62))) ((Below.refl _ _).alloc (Nat.le_refl _) _)
   have HGW:=qh (Zaj (v.alloc (.cells #[.slice NB p.1.length nb,.slice AB p.2.length ab] 62)) B 62 2 P' ls.length p' cs') (HGV.out.alloc _)
   have HBX4:=qh (Own (v.alloc (.cells #[.slice NB p.1.length nb,.slice AB p.2.length ab] 62)) v.heap.size 62 [.slice NB p.1.length nb,.slice AB p.2.length ab]) (Own.new v _ #[_,_])
   refine Zaa (i:=5) rfl kr (λK5 hK5=>?_)
   (refine Zcs qr _ _ 27 qr (B) 62 (.agg #[.slice none 0 0,.slice none 0 0]) 2 48 Tryz.underlying27 T.infoProgA rfl qd (xs:=cs') qr ?_ (ys:=[.slice NB p.1.length nb,.slice AB p.2.length ab]) qr ?_ (Znr _ _ _ _ _ _) ?_ ?_ ?_ ?_;(exact (gwx HGW.out));(exact (ltt 1));(unfold maxLen;omega);(omega);(first|omega|(simp<;>omega));rintro P7 k7 x7 gA7)
   have hsa:=gA7.2.2.2.1
   (try simp at hsa)
   have HSR7:=qh (SceneR x7 B [X] { s with ps:=ls++[p],ss:=[] } T' t' P7 k7 none 0) (HSW.out.prog (by intro z hz;simp at hz;subst hz;simp;omega) HC1.out HC2.out HC3.out HC4.out HC5.out (by simp;omega) HBV.out HPM.out HV4.out gA7)
   have ho7:Own x7 X 30 ((E.set 8 (.slice T' s.tex.length t')).set 9 (.slice P' ls.length p')):=(gA7.2.2.1.block X (by simp;omega) (by cases P'<;>simp_all [gOf])).trans (Own.alloc HXv.out _)
   have hv7:Own x7 wr.heap.size 62 [.slice NA p.1.length nc,.slice AA p.2.length ac]:=(gA7.2.2.1.block wr.heap.size (by simp;omega) (by cases P'<;>simp_all [gOf])).trans (Own.alloc HVv.out _)
   have HO7:=hdQ ho7
   have HB7:=hdQ gA7.2.1
   have k97:x7.cell? ⟨X,9,none⟩=some (.slice P' ls.length p'):=(ho7.cell 9).trans HK9.out
   have kv07:x7.cell? ⟨wr.heap.size,0,none⟩=some (.slice NA p.1.length nc):=hv7.cell 0
   have kv17:x7.cell? ⟨wr.heap.size,1,none⟩=some (.slice AA p.2.length ac):=hv7.cell 1
   have kf:=ho7.frozen 9
   have kl:=ho7.lt
   clear gA7 ho7 hv7
   refine hK5.out _ _ (λ_=>⟨k97,kv07,kv17⟩) (λhHeld5=>?_)
   have hS5:=hHeld5 qd
   refine tkM 6 ?_
   refine Zaa (i:=7) rfl kr (λK7 hK7=>?_)
   go_simp
   refine hK7.out _ _ (λh=>absurd rfl h) (λhHeld7=>?_)
   refine Zbd kr ?_ _
   have HOF:=qh (Own (x7.setCell ⟨X,9,none⟩ (.slice P7 (ls.length+1) k7)) X 30 ((E.set 8 (.slice T' s.tex.length t')).set 9 (.slice P7 (ls.length+1) k7))) (by have:=HO7.out.set_ 9 (.slice P7 (ls.length+1) k7);rwa [List.set_set] at this)
   have HSF:=qh (SceneR (x7.setCell ⟨X,9,none⟩ (.slice P7 (ls.length+1) k7)) B [X] { s with ps:=ls++[p],ss:=[] } T' t' P7 k7 none 0) (HSR7.out.at_ (OnlyAt.setCell _ _ _ _))
   have HYF:=qh (Own (x7.setCell ⟨X,9,none⟩ (.slice P7 (ls.length+1) k7)) w.heap.size 30 E) ((Own.below (HYv.out.alloc _) HB7.out qo).far (p:=⟨X,9,none⟩) (by show w.heap.size≠X;omega) _)
   have HBF:=qh (Bw w (x7.setCell ⟨X,9,none⟩ (.slice P7 (ls.length+1) k7))) (((Below.trans (Below.trans (Below.trans HB.out (HWB.out.mono hz)) (HBV.out.mono (by simp;omega))) ((HV4.out.mono qo).trans (HB7.out.mono qo))).setCell (p:=⟨X,9,none⟩) (by show w.heap.size<=X;omega) _))
   have HZF:=qh (B<=(x7.setCell ⟨X,9,none⟩ (.slice P7 (ls.length+1) k7)).heap.size) (by simp;omega)
   have HLF:=qh (ls++[p]=s.ps.take (ls.length+1)) (by rw [List.take_succ_eq_append_getElem hlt,HPQ.out,<- HLS.out])
   clear hS3 hS4 hS5
   go_wp2_with fail
   go_roundw
   case rel=>exact ⟨ls.length+1,ls++[p],P7,k7,qs,HLF.out,qo,qg,HOF.out,HSF.out,HYF.out,HBF.out,HZF.out⟩
   case measure=>exact qn
  ·have hle:ls.length=s.ps.length:=by omega
   have HLE:=qh (ls=s.ps) (by have:=HLS.out;rw [hle,List.take_length] at this;exact this)
   have i1:¬ (ls.length:Int)<s.ps.length:=qo
   have y10:wr.cell? ⟨w.heap.size,10,none⟩=some (.slice Q s.ss.length qc):=(HY.out.cell 10).trans HE10.out
   have yl:=HY.out.lt
   have HRS:=qh (RS wr 26 Q s.ss.length qc (Zcz s.ss)) (HS.out.step HB.out).ss.rs
   have HCS:=qh (CL 110 #[.slice Q s.ss.length qc] wr λe w'=>∃ B d,e=.returned (.slice B s.ss.length d)/\Zaj w' wr.heap.size 45 26 B s.ss.length d (Zcz s.ss)/\Bw wr w') (Zse wr qo HRS.out)
   rw [hle] at HX
   clear hle
   go_wp2_with fail
   refine HCS.out.mono ?_
   rintro e v ⟨Q',q',rfl,hgr,hbv⟩
   have hzv:=hbv.size
   have HGR:=hdQ hgr
   have HBV:=hdQ hbv
   have HXv:=hdQ (Own.step hbv HX.out)
   have HSv:=qh (SceneR v B [X] { s with ps:=ls,ss:=s.ss } T' t' P' p' Q' q') (SceneR.setSurf HSr.out hbv (by intro z hz;simp at hz;subst hz;omega) hBz hgr)
   have xf:=HXv.out.frozen
   have xl:=HXv.out.lt
   have HFX:=qh (Own (v.setCell ⟨X,10,none⟩ (.slice Q' s.ss.length q')) X 30 (cS s T' t' P' p' Q' q')) (by rw [<- HEF.out];exact HXv.out.set_ 10 _)
   have HFS:=qh (SceneR (v.setCell ⟨X,10,none⟩ (.slice Q' s.ss.length q')) B [X] s T' t' P' p' Q' q') (by
    have:=HSv.out.at_ (OnlyAt.setCell v X 10 (.slice Q' s.ss.length q'))
    rw [HLE.out] at this
    exact this)
   have HFB:=qh (Bw w (v.setCell ⟨X,10,none⟩ (.slice Q' s.ss.length q'))) ((Below.trans HB.out (HBV.out.mono hz)).setCell (p:=⟨X,10,none⟩) (by show w.heap.size<=X;omega) _)
   have x10:(v.cell? ⟨X,10,none⟩).isSome=true:=by rw [HXv.out.cell,List.getElem?_set_ne qo,List.getElem?_set_ne qo,HE10.out];rfl
   obtain ⟨z10,hz10⟩:=Option.isSome_iff_exists.1 x10
   clear hgr hbv x10
   go_wp2_with fail
   go_ret
   exact ⟨X,B,rfl,qo,by simp;omega,qo,⟨T',t',P',p',Q',q',HFX.out,HFS.out⟩,HFB.out⟩
def Za1 (w:World) (B base:Nat) (TA:OA) (tc:Nat) (Ts:List Zam) (AA:OA) (ac:Nat) (as_:List Zab) (X:List Nat) (a:Nat) (NA:OA) (nc:Nat) (ns:List Zac) (bad:Int):Prop :=
 Own w B 99 [.slice TA Ts.length tc,.int .i64 a,.slice NA ns.length nc,.slice AA as_.length ac,.int .i64 bad]/\PMem w B base TA tc Ts AA ac as_ X NA nc ns
def PGo (B base:Nat) (TA:OA) (tc:Nat) (Ts:List Zam) (AA:OA) (ac:Nat) (as_:List Zab) (X:List Nat) (NA:OA) (r:PR) (w:World) (e:Ending) (w':World):Prop :=
 match r with
 | .ok v a ns=>∃ NA' nc',e=.returned (.int .i64 v)/\Za1 w' B base TA tc Ts AA ac as_ X a NA' nc' ns (-1)/\Only w.heap.size (B::gOf NA) w w'/\(∀ x,x∈gOf NA'->x∈gOf NA∨w.heap.size<=x)
 | .bad o=>∃ (r:Int) (c0 c1 c2 c3:Value),e=.returned (.int .i64 r)/\Own w' B 99 [c0,c1,c2,c3,.int .i64 o]/\0<=o/\Only w.heap.size (B::gOf NA) w w'
 | .out=>False
section
variable {w w':World} {B base:Nat} {TA:OA} {tc:Nat} {Ts:List Zam} {AA:OA} {ac:Nat} {as_:List Zab} {X:List Nat} {NA:OA} {nc:Nat} {ns:List Zac} {a:Nat} {bad:Int}
theorem Za1.step (hb:Bw w w') (h:Za1 w B base TA tc Ts AA ac as_ X a NA nc ns bad):Za1 w' B base TA tc Ts AA ac as_ X a NA nc ns bad:=⟨h.1.step hb,h.2.step hb⟩
theorem Za1.alloc (h:Za1 w B base TA tc Ts AA ac as_ X a NA nc ns bad) (o:Obj):Za1 (w.alloc o) B base TA tc Ts AA ac as_ X a NA nc ns bad:=h.step ((Below.refl _ _).alloc (Nat.le_refl _) o)
theorem Za1.drew (h:Za1 w B base TA tc Ts AA ac as_ X a NA nc ns bad):Za1 w.drew B base TA tc Ts AA ac as_ X a NA nc ns bad:=⟨h.1.drew,h.2.drew⟩
theorem Za1.drewN (h:Za1 w B base TA tc Ts AA ac as_ X a NA nc ns bad) (n:Nat):Za1 (w.drewN n) B base TA tc Ts AA ac as_ X a NA nc ns bad:=⟨h.1.drewN n,h.2.keep (Nat.le_refl _) (λ_ _ _=>rfl)⟩
theorem Za1.setAt (h:Za1 w B base TA tc Ts AA ac as_ X a NA nc ns bad) (a':Nat):Za1 (w.setCell ⟨B,1,none⟩ (.int .i64 a')) B base TA tc Ts AA ac as_ X a' NA nc ns bad:=⟨h.1.set_ 1 _,h.2.set_ 1 _⟩
theorem Za1.setBad (h:Za1 w B base TA tc Ts AA ac as_ X a NA nc ns bad) (b':Int):Za1 (w.setCell ⟨B,4,none⟩ (.int .i64 b')) B base TA tc Ts AA ac as_ X a NA nc ns b':=⟨h.1.set_ 4 _,h.2.set_ 4 _⟩
theorem Za1.cells (h:Za1 w B base TA tc Ts AA ac as_ X a NA nc ns bad):B<w.heap.size/\w.cell? ⟨B,0,none⟩=some (.slice TA Ts.length tc)/\w.cell? ⟨B,1,none⟩=some (.int .i64 a)/\w.cell? ⟨B,2,none⟩=some (.slice NA ns.length nc)/\w.cell? ⟨B,3,none⟩=some (.slice AA as_.length ac)/\w.cell? ⟨B,4,none⟩=some (.int .i64 bad)/\∀ o,w.frozen? ⟨B,o,none⟩=false :=
 ⟨h.1.lt,h.1.cell 0,h.1.cell 1,h.1.cell 2,h.1.cell 3,h.1.cell 4,h.1.frozen⟩
end
theorem Zdl {B base:Nat} {TA:OA} {tc:Nat} {Ts:List Zam} {AA:OA} {ac:Nat} {as_:List Zab} {X:List Nat} {NA:OA} {nc:Nat} {ns:List Zac} {a:Nat} {bad:Int} (w:World)
  (h:Za1 w B base TA tc Ts AA ac as_ X a NA nc ns bad) (ha:a<Ts.length) :
  CR 121 #[.pointer (some ⟨B,0,none⟩)] w ((str (pk Ts a))):=by
 obtain ⟨hB,h0,h1,_,_,_,_⟩:=h.cells
 obtain ⟨ht1,ht2,b,o,rfl,hb,hbB,t0,t1,t2,t3⟩:=h.2.tokAt ha
 unfold maxLen at ht2
 have ha':(a:Int)<Ts.length:=qo
 have hpk:=qh (pk Ts a=if kd Ts a=3 then tx Ts a else []) rfl
 generalize kd Ts a=k at *
 generalize tx Ts a=x at *
 generalize nm Ts a=n at *
 generalize of_ Ts a=f at *
 clear h
 by_cases hk:k=3
 ·subst hk
  have HP:=qh (pk Ts a=x) (by rw [hpk.out,if_pos rfl])
  go_enter Tryz.func121,Tryz.ntmps121
  go_wp2_with fail
  go_region_held3 (λw'=>w'.cell? ⟨B,0,none⟩=some (.slice (some ⟨b,o,none⟩) Ts.length tc)/\w'.cell? ⟨B,1,none⟩=some (.int .i64 a)/\w'.cell? ⟨b,o+a*4,none⟩=some (.int .i64 3)/\w'.cell? ⟨b,o+a*4+1,none⟩=some (str x)/\w'.cell? ⟨b,o+a*4+2,none⟩=some (.int .i64 n)/\w'.cell? ⟨b,o+a*4+3,none⟩=some (.int .i64 f))
   (first|((try dsimp only);refine ⟨?_, ?_, ?_, ?_, ?_, ?_⟩<;>(go_simp;done))|go_keep)
   (fail)
  all_goals
   go_wp2_with fail
   go_ret
   rw [HP.out]
   exact ⟨rfl,bll⟩
 ·have HP:=qh (pk Ts a=[]) (by rw [hpk.out,if_neg hk])
  have hk':(k==3)=false:=by simpa using hk
  go_enter Tryz.func121,Tryz.ntmps121
  go_wp2_with fail
  go_region_held3 (λw'=>w'.cell? ⟨B,0,none⟩=some (.slice (some ⟨b,o,none⟩) Ts.length tc)/\w'.cell? ⟨B,1,none⟩=some (.int .i64 a)/\w'.cell? ⟨b,o+a*4,none⟩=some (.int .i64 k)/\w'.cell? ⟨b,o+a*4+1,none⟩=some (str x)/\w'.cell? ⟨b,o+a*4+2,none⟩=some (.int .i64 n)/\w'.cell? ⟨b,o+a*4+3,none⟩=some (.int .i64 f))
   (first|((try dsimp only);refine ⟨?_, ?_, ?_, ?_, ?_, ?_⟩<;>(go_simp;done))|go_keep)
   (fail)
  all_goals
   go_wp2_with fail
   go_ret
   rw [HP.out]
   exact ⟨rfl,bll⟩
theorem Zcr {B base:Nat} {TA:OA} {tc:Nat} {Ts:List Zam} {AA:OA} {ac:Nat} {as_:List Zab} {X:List Nat} {NA:OA} {nc:Nat} {ns:List Zac} {a:Nat} (w:World)
  (h:Za1 w B base TA tc Ts AA ac as_ X a NA nc ns (-1)) (ha:a<Ts.length) :
  CL 60 #[.pointer (some ⟨B,0,none⟩)] w λe w'=>e=.returned (.int .i64 0)/\w'=(w.setCell ⟨B,4,none⟩ (.int .i64 (of_ Ts a))).drew:=by
 obtain ⟨hB,h0,h1,_,_,h4,hf⟩:=h.cells
 obtain ⟨ht1,ht2,b,o,rfl,hb,hbB,t0,t1,t2,t3⟩:=h.2.tokAt ha
 unfold maxLen at ht2
 have ha':(a:Int)<Ts.length:=qo
 generalize of_ Ts a=f at *
 clear h
 go_enter Tryz.func60,Tryz.ntmps60
 go_wp2_with fail
 go_still_tail 14,kr
 go_wp2_with fail
 go_ret
 exact ⟨rfl,rfl⟩
theorem S_l13Op (x:List UInt8) (add:Bool) (w:World):CL 175 #[str x,.bool add] w λe w'=>e=.returned (.int .i64 (opS add x))/\w=w':=by
 cases add with
 | true =>
  by_cases h1:x=[43]
  ·subst h1
   go_enter Tryz.func175,Tryz.ntmps175
   go_wp2_with fail
   go_ret
   exact ⟨rfl,rfl⟩
  ·by_cases h2:x=[45]
   ·subst h2
    go_enter Tryz.func175,Tryz.ntmps175
    go_wp2_with fail
    go_ret
    exact ⟨rfl,rfl⟩
   ·have e1:(x==[43])=false:=by simpa using h1
    have e2:(x==[45])=false:=by simpa using h2
    have HO:=qh (opS true x=0) (by simp [opS,h1,h2])
    clear h1 h2
    go_enter Tryz.func175,Tryz.ntmps175
    go_wp2_with fail
    go_ret
    rw [HO.out]
    exact ⟨rfl,rfl⟩
 | false =>
  by_cases h1:x=[42]
  ·subst h1
   go_enter Tryz.func175,Tryz.ntmps175
   go_wp2_with fail
   go_ret
   exact ⟨rfl,rfl⟩
  ·by_cases h2:x=[47]
   ·subst h2
    go_enter Tryz.func175,Tryz.ntmps175
    go_wp2_with fail
    go_ret
    exact ⟨rfl,rfl⟩
   ·have e1:(x==[42])=false:=by simpa using h1
    have e2:(x==[47])=false:=by simpa using h2
    have HO:=qh (opS false x=0) (by simp [opS,h1,h2])
    clear h1 h2
    go_enter Tryz.func175,Tryz.ntmps175
    go_wp2_with fail
    go_ret
    rw [HO.out]
    exact ⟨rfl,rfl⟩
def Zyd (B base:Nat) (TA:OA) (tc:Nat) (Ts:List Zam) (AA:OA) (ac:Nat) (as_:List Zab) (X:List Nat) (a:Nat) (NA:OA) (nc:Nat) (ns:List Zac) (ok:Bool) (w:World) (e:Ending) (w':World):Prop :=
 e=.returned (.bool ok)/\Only w.heap.size [B] w w'/\(ok=true->Za1 w' B base TA tc Ts AA ac as_ X (a+1) NA nc ns (-1))/\(ok=false->∃ c0 c1 c2 c3:Value,Own w' B 99 [c0,c1,c2,c3,.int .i64 (of_ Ts a)])
theorem Zf2 {B base:Nat} {TA:OA} {tc:Nat} {Ts:List Zam} {AA:OA} {ac:Nat} {as_:List Zab} {X:List Nat} {NA:OA} {nc:Nat} {ns:List Zac} {a:Nat} (x:List UInt8) (w:World)
  (h:Za1 w B base TA tc Ts AA ac as_ X a NA nc ns (-1)) (ha:a<Ts.length) (hs:Ts.length<=1048576) :
  CL 61 #[.pointer (some ⟨B,0,none⟩),str x] w (Zyd B base TA tc Ts AA ac as_ X a NA nc ns (decide (pk Ts a=x)) w):=by
 have H:=hdQ h
 obtain ⟨hB,h0,h1,_,_,h4,hf⟩:=h.cells
 have HPK:=qh (CR 121 #[.pointer (some ⟨B,0,none⟩)] w (str (pk Ts a))) (Zdl w h ha)
 have HFL:=qh (∀ wx,Bw w wx->CL 60 #[.pointer (some ⟨B,0,none⟩)] wx λe w'=>e=.returned (.int .i64 0)/\w'=(wx.setCell ⟨B,4,none⟩ (.int .i64 (of_ Ts a))).drew) (λwx hb=>Zcr wx (H.out.step hb) ha)
 clear h
 obtain ⟨y,hy⟩:=qv (pk Ts a)
 rw [hy] at HPK ⊢
 clear hy
 by_cases hx:y=x
 ·subst hx
  have hd:=qh (decide (y=y)=true) qs
  have e1:(y==y)=true:=qs
  have e2:(y != y)=false:=qs
  go_enter Tryz.func61,Tryz.ntmps61
  go_wp2_with (first|(go_at_call 121;refine HPK.out.mono ?_;rintro e w1 ⟨rfl,hb1⟩;have HS1:=hdQ (H.out.step hb1);have HO1:=qh (Only w.heap.size [B] w w1) (Only.of_below hb1 _);have hB1:B<w1.heap.size:=HS1.out.1.lt;have g1:=HS1.out.1.cell 1;have gf:=HS1.out.1.frozen;(try dsimp only [List.getElem?_cons_succ,List.getElem?_cons_zero] at g1);clear hb1)|fail)
  go_ret
  rw [hd.out]
  refine ⟨rfl,HO1.out.setCell qs _,λ_=>?_,λe=>by cases e⟩
  have:=HS1.out.setAt (a+1)
  simpa using this
 ·have hd:=qh (decide (y=x)=false) (by simp [hx])
  have e1:(y==x)=false:=by simpa using hx
  have e2:(y != x)=true:=by simpa using hx
  go_enter Tryz.func61,Tryz.ntmps61
  go_wp2_with (first|(go_at_call 121;refine HPK.out.mono ?_;rintro e w1 ⟨rfl,hb1⟩;have HB1:=hdQ hb1;have HS1:=hdQ (H.out.step hb1);have HO1:=qh (Only w.heap.size [B] w w1) (Only.of_below hb1 _);clear hb1)|(go_at_call 60;refine (HFL.out _ HB1.out).mono ?_;rintro e w2 ⟨rfl,rfl⟩)|fail)
  go_ret
  rw [hd.out]
  refine ⟨rfl,(HO1.out.setCell qs _).drew,(λe=>by cases e),λ_=>⟨_,_,_,_,(HS1.out.setBad _).1.drew⟩⟩
theorem Zgp {B base:Nat} {TA:OA} {tc:Nat} {Ts:List Zam} {AA:OA} {ac:Nat} {as_:List Zab} {X:List Nat} {NA:OA} {nc:Nat} {ns:List Zac} {a:Nat} {op num:Int} {name:List UInt8} {args:List Int} {A:OA} {c:Nat} (w:World)
  (h:Za1 w B base TA tc Ts AA ac as_ (gOf A++X) a NA nc ns (-1)) (ha0:0<a) (ha:a<Ts.length) (hs:Ts.length<=1048576) (hT:∀ i,0<=of_ Ts i)
  (hr:Zdb w 1 A args.length c 3 (ints args)) (hap:∀ y,y∈gOf A->y∉X) :
  CL 176 #[.pointer (some ⟨B,0,none⟩),Zhn op name num (.slice A args.length c)] w (PGo B base TA tc Ts AA ac as_ X NA (emit Ts (op,name,num,args) a ns) w):=by
 have H:=hdQ h
 have HR:=hdQ hr
 have HAP:=hdQ hap
 obtain ⟨hB,h0,h1,h2,h3,h4,hf⟩:=h.cells
 have hbase:=h.2.low
 obtain ⟨a',rfl⟩:∃ a',a=a'+1:=⟨a-1,qo⟩
 have HFL:=qh (∀ wx,Za1 wx B base TA tc Ts AA ac as_ (gOf A++X) a' NA nc ns (-1)->CL 60 #[.pointer (some ⟨B,0,none⟩)] wx λe w'=>e=.returned (.int .i64 0)/\w'=(wx.setCell ⟨B,4,none⟩ (.int .i64 (of_ Ts a'))).drew) (λwx hx=>Zcr wx hx qo)
 have hBw:¬ B=w.heap.size:=qo
 have hBw':¬ w.heap.size=B:=qo
 clear h hr hap
 by_cases h60:ns.length=60
 ·have HE:=qh (emit Ts (op,name,num,args) (a'+1) ns=.bad (of_ Ts a')) (by unfold emit;rw [if_pos h60];rfl)
  have HT:=hdQ (hT a')
  have h60':(ns.length:Int)=60:=qo
  have e60:((ns.length:Int)==60)=true:=by simpa using h60'
  have HA:=qh (∀ o,Za1 ((w.setCell ⟨B,1,none⟩ (.int .i64 (a':Int))).alloc o) B base TA tc Ts AA ac as_ (gOf A++X) a' NA nc ns (-1)) (λo=>(H.out.setAt a').step ((Below.refl _ _).alloc (Nat.le_refl _) o))
  clear hT h60' h60
  go_enter Tryz.func176,Tryz.ntmps176
  go_wp2_with (first|(go_at_call 60;refine (HFL.out _ (HA.out _)).mono ?_;rintro e w2 ⟨rfl,rfl⟩)|fail)
  go_ret
  rw [HE.out]
  exact ⟨0,_,_,_,_,rfl,(Za1.drew (Za1.alloc ((H.out.setAt a').setBad _) _)).1,HT.out,(Only.al (((Only.refl _ _ _).setCell qs _).setCell qs _) qs _).drew⟩
 ·have HE:=qh (emit Ts (op,name,num,args) (a'+1) ns=.ok ns.length (a'+1) (ns++[(op,name,num,args)])) (by unfold emit;rw [if_neg h60])
  have e60:((ns.length:Int)==60)=false:=by rw [beq_eq_false_iff_ne];omega
  obtain ⟨cs,hg,hn,hpc⟩:=H.out.2.nod
  have HPC:=hdQ hpc
  have HG:=hdQ hg
  have HN:=hdQ hn
  have HLT:=qh (ns.length<60) (by have:=H.out.2.cap;omega)
  have hns:=H.out.2.cap
  clear hg hn hT h60 hpc
  go_enter Tryz.func176,Tryz.ntmps176
  go_wp2_with fail
  refine Zbc (S:=(λw'=>w'.cell? ⟨B,2,none⟩=some (.slice NA ns.length nc)/\w'.frozen? ⟨B,2,none⟩=false/\w'.cell? ⟨w.heap.size,0,none⟩=some (.int .i64 op)/\w'.cell? ⟨w.heap.size,1,none⟩=some (str name)/\w'.cell? ⟨w.heap.size,2,none⟩=some (.int .i64 num)/\w'.cell? ⟨w.heap.size,3,none⟩=some (.slice A args.length c))) 12 kr (by (try dsimp only);refine ⟨?_, ?_, ?_, ?_, ?_, ?_⟩<;>(go_simp;done)) (λhHeld=>?_)
  refine tkM 0 ?_
  refine tkM 1 ?_
  refine tkM 2 ?_
  refine tkM 3 ?_
  refine tkM 4 ?_
  refine tkM 5 ?_
  refine tkM 6 ?_
  refine Zaa (i:=7) rfl kr (λK7 hK7=>?_)
  go_simp
  refine hK7.out _ _ (λ_=>by (try dsimp only);refine ⟨?_, ?_, ?_, ?_, ?_, ?_⟩<;>(go_simp;done)) (λhHeld7=>?_)
  have hX7:=hHeld7 qd
  refine Zaa (i:=8) rfl kr (λK8 hK8=>?_)
  (refine Zcs qr _ _ 59 qr (base) 155 (.agg #[.int .i64 0,.string ByteArray.empty,.int .i64 0,.slice none 0 0]) 4 56 Tryz.underlying59 T.infoNode rfl qd (xs:=cs) qr ?_ (ys:=[.int .i64 op,str name,.int .i64 num,.slice A args.length c]) qr ?_ (Znu _ _ _ _) ?_ ?_ ?_ ?_;(exact (gwx HG.out));(exact (ltt 1));(unfold maxLen;omega);(omega);(first|omega|(simp<;>omega));rintro A' c' w2 gA)
  have hsa:=gA.2.2.2.1
  (try simp at hsa)
  have hem:=PMem.put H.out.2 HLT.out bll HG.out HN.out HPC.out HR.out HAP.out gA
  have hbx2:Box w2 w.heap.size [.int .i64 op,str name,.int .i64 num,.slice A args.length c]:=by
   have hfa:=(Za8.far gA (b:=w.heap.size) (by simp;try omega) (λe=>by have:=HG.out.lt _ e;omega)).1
   refine Box.mk4 qo ?_ ?_ ?_ ?_<;>(rw [hfa];go_simp;done)
  have ho2:Own w2 B 99 [.slice TA Ts.length tc,.int .i64 ((a'+1:Nat):Int),.slice NA ns.length nc,.slice AA as_.length ac,.int .i64 (-1)]:=hem.2.1.own H.out.1 hB (λhN=>(H.out.2.apN B hN).1 rfl)
  have HO2:=hdQ ho2
  have HE2:=hdQ hem
  have k2:=ho2.cell 2
  have kf:=ho2.frozen 2
  (try dsimp only [List.getElem?_cons_succ,List.getElem?_cons_zero] at k2)
  obtain ⟨zb2,e0,e1,e2,e3⟩:=hbx2.open4
  have hBw2:B<w2.heap.size:=qo
  clear gA hem ho2 hbx2
  refine hK8.out _ _ (λ_=>by (try dsimp only);refine ⟨?_, ?_, ?_, ?_, ?_, ?_⟩<;>(go_simp;done)) (λhHeld8=>?_)
  have hX8:=hHeld8 qd
  refine Zaa (i:=9) rfl kr (λK9 hK9=>?_)
  go_simp
  refine hK9.out _ _ (λ_=>hX8) (λhHeld9=>?_)
  have hX9:=hHeld9 qd
  refine Zaa (i:=10) rfl kr (λK10 hK10=>?_)
  go_simp
  refine hK10.out _ _ (λ_=>hX9) (λhHeld10=>?_)
  have hX10:=hHeld10 qd
  refine Zaa (i:=11) rfl kr (λK11 hK11=>?_)
  go_simp
  refine hK11.out _ _ (λ_=>hX10) (λhHeld11=>?_)
  have hX11:=hHeld11 qd
  refine Zaa (i:=12) rfl kr (λK12 hK12=>?_)
  go_simp
  refine hK12.out _ _ (λh=>absurd rfl h) (λhHeld12=>?_)
  refine Zbd kr ?_ _
  have hst:Za1 (w2.setCell ⟨B,2,none⟩ (.slice A' (ns.length+1) c')) B base TA tc Ts AA ac as_ X (a'+1) A' c' (ns++[(op,name,num,args)]) (-1):=⟨by have:=HO2.out.set_ 2 (.slice A' (ns.length+1) c');simpa using this,HE2.out.1.set_ 2 _⟩
  have HST:=hdQ hst
  have HON:=qh (Only w.heap.size (B::gOf NA) w (w2.setCell ⟨B,2,none⟩ (.slice A' (ns.length+1) c'))) (Only.setCell (HE2.out.2.1.mono' (λx hx=>by simp [hx])) qs _)
  have m2:=hst.cells.2.2.2.1
  have mB:=hst.cells.1
  have hl:(ns++[(op,name,num,args)]).length=ns.length+1:=qs
  rw [hl] at m2
  generalize w2.setCell ⟨B,2,none⟩ (.slice A' (ns.length+1) c')=w3 at *
  clear hst hX8 hX9 hX10 hX11 hHeld k2 kf e0 e1 e2 e3 hl
  go_wp2_with fail
  go_ret
  rw [HE.out]
  exact ⟨_,_,rfl,HST.out,HON.out,HE2.out.2.2⟩
def Zbh (w:World) (B base:Nat) (TA:OA) (tc:Nat) (Ts:List Zam) (AA:OA) (ac:Nat) (as_:List Zab) (X:List Nat) (a:Nat) (dp:Int) (NA:OA) (nc:Nat) (ns:List Zac):Prop :=
 Own w B 174 [.slice TA Ts.length tc,.int .i64 a,.int .i64 dp,.slice NA ns.length nc,.slice AA as_.length ac]/\PMem w B base TA tc Ts AA ac as_ X NA nc ns
abbrev rej (o:Int):List PanicEntry:=[{ v:=.iface 170 (.agg #[.int .i64 o]),recovered:=false }]
def Zvx (w:World) (B:Nat):Prop:=∃ (c0 c1 c3 c4:Value) (dp:Int),Own w B 174 [c0,c1,.int .i64 dp,c3,c4]
def IGo (B base:Nat) (TA:OA) (tc:Nat) (Ts:List Zam) (AA:OA) (ac:Nat) (as_:List Zab) (X:List Nat) (dp:Int) (NA:OA) (r:PR) (w:World) (e:Ending) (w':World):Prop :=
 match r with
 | .ok v a ns=>∃ NA' nc',e=.returned (.int .i64 v)/\Zbh w' B base TA tc Ts AA ac as_ X a dp NA' nc' ns/\Only w.heap.size (B::gOf NA) w w'/\(∀ x,x∈gOf NA'->x∈gOf NA∨w.heap.size<=x)
 | .bad o=>e=.panicked (rej o)/\Zvx w' B/\Only w.heap.size (B::gOf NA) w w'
 | .out=>False
abbrev tkV (T:List Zam) (a:Nat):Value:=.agg #[.int .i64 (kd T a),str (tx T a),.int .i64 (nm T a),.int .i64 (of_ T a)]
section
variable {w w':World} {B base:Nat} {TA:OA} {tc:Nat} {Ts:List Zam} {AA:OA} {ac:Nat} {as_:List Zab} {X:List Nat} {NA:OA} {nc:Nat} {ns:List Zac} {a:Nat} {dp:Int}
theorem Zbh.step (hb:Bw w w') (h:Zbh w B base TA tc Ts AA ac as_ X a dp NA nc ns):Zbh w' B base TA tc Ts AA ac as_ X a dp NA nc ns:=⟨h.1.step hb,h.2.step hb⟩
theorem Zbh.alloc (h:Zbh w B base TA tc Ts AA ac as_ X a dp NA nc ns) (o:Obj):Zbh (w.alloc o) B base TA tc Ts AA ac as_ X a dp NA nc ns:=h.step ((Below.refl _ _).alloc (Nat.le_refl _) o)
theorem Zbh.drew (h:Zbh w B base TA tc Ts AA ac as_ X a dp NA nc ns):Zbh w.drew B base TA tc Ts AA ac as_ X a dp NA nc ns:=⟨h.1.drew,h.2.drew⟩
theorem Zbh.setAt (h:Zbh w B base TA tc Ts AA ac as_ X a dp NA nc ns) (a':Nat):Zbh (w.setCell ⟨B,1,none⟩ (.int .i64 a')) B base TA tc Ts AA ac as_ X a' dp NA nc ns:=⟨h.1.set_ 1 _,h.2.set_ 1 _⟩
theorem Zbh.setDp (h:Zbh w B base TA tc Ts AA ac as_ X a dp NA nc ns) (d:Int):Zbh (w.setCell ⟨B,2,none⟩ (.int .i64 d)) B base TA tc Ts AA ac as_ X a d NA nc ns:=⟨h.1.set_ 2 _,h.2.set_ 2 _⟩
theorem Zbh.cells (h:Zbh w B base TA tc Ts AA ac as_ X a dp NA nc ns):B<w.heap.size/\w.cell? ⟨B,0,none⟩=some (.slice TA Ts.length tc)/\w.cell? ⟨B,1,none⟩=some (.int .i64 a)/\w.cell? ⟨B,2,none⟩=some (.int .i64 dp)/\w.cell? ⟨B,3,none⟩=some (.slice NA ns.length nc)/\w.cell? ⟨B,4,none⟩=some (.slice AA as_.length ac)/\∀ o,w.frozen? ⟨B,o,none⟩=false :=
 ⟨h.1.lt,h.1.cell 0,h.1.cell 1,h.1.cell 2,h.1.cell 3,h.1.cell 4,h.1.frozen⟩
theorem Zbh.only {a':Nat} {d':Int} (h:Zbh w B base TA tc Ts AA ac as_ X a dp NA nc ns) (hO:Only w.heap.size [B] w w') (ho:Own w' B 174 [.slice TA Ts.length tc,.int .i64 a',.int .i64 d',.slice NA ns.length nc,.slice AA as_.length ac]):Zbh w' B base TA tc Ts AA ac as_ X a' d' NA nc ns :=
 ⟨ho,h.2.keep hO.size (λx hx hl=>hO.block x hl (by simpa using hx))⟩
theorem Only.up2 {B:Nat} {G:List Nat} {a w:World} (h:Only B G a w) {p:Addr} (hp:B<=p.block) (u:Value):Only B G a (w.setCell p u) :=
 ⟨h.os,h.tape,h.output,by simpa [World.setCell] using h.size,λi hi hn=>(Below.heap_setCell w p u i qo).trans (h.block i hi hn)⟩
theorem Zbh.ownD (h:Zbh w B base TA tc Ts AA ac as_ X a dp NA nc ns):Zvx w B:=⟨_,_,_,_,_,h.1⟩
theorem Zvx.step (hb:Bw w w') (h:Zvx w B):Zvx w' B:=by obtain ⟨c0,c1,c3,c4,d,h⟩:=h;exact ⟨c0,c1,c3,c4,d,h.step hb⟩
theorem Zvx.drew (h:Zvx w B):Zvx w.drew B:=by obtain ⟨c0,c1,c3,c4,d,h⟩:=h;exact ⟨c0,c1,c3,c4,d,h.drew⟩
end
theorem Zoe {B base:Nat} {TA:OA} {tc:Nat} {Ts:List Zam} {AA:OA} {ac:Nat} {as_:List Zab} {X:List Nat} {NA:OA} {nc:Nat} {ns:List Zac} {a:Nat} {dp:Int} (w:World)
  (h:Zbh w B base TA tc Ts AA ac as_ X a dp NA nc ns) (ha:a<Ts.length) :
  CR 192 #[.pointer (some ⟨B,0,none⟩)] w ((tkV Ts a)):=by
 obtain ⟨hB,h0,h1,_,_,_,_⟩:=h.cells
 obtain ⟨ht1,ht2,b,o,rfl,hb,hbB,t0,t1,t2,t3⟩:=h.2.tokAt ha
 unfold maxLen at ht2
 have ha':(a:Int)<Ts.length:=qo
 show Calls _ _ _ _ λe w'=>e=.returned (.agg #[.int .i64 (kd Ts a),str (tx Ts a),.int .i64 (nm Ts a),.int .i64 (of_ Ts a)])/\_
 generalize kd Ts a=k at *
 generalize tx Ts a=x at *
 generalize nm Ts a=n at *
 generalize of_ Ts a=f at *
 clear h
 obtain ⟨u,hu⟩:=qv (w.alloc (.cells #[.int .i64 0,.string ⟨#[]⟩,.int .i64 0,.int .i64 0] 101))
 have q0:u.cell? ⟨B,0,none⟩=some (.slice (some ⟨b,o,none⟩) Ts.length tc):=by rw [<- hu,World.cell?_alloc_lt _ _ ⟨B,0,none⟩ hB];exact h0
 have q1:u.cell? ⟨B,1,none⟩=some (.int .i64 a):=by rw [<- hu,World.cell?_alloc_lt _ _ ⟨B,1,none⟩ hB];exact h1
 have r0:u.cell? ⟨b,o+a*4,none⟩=some (.int .i64 k):=by rw [<- hu,World.cell?_alloc_lt _ _ ⟨b,_,none⟩ hb];exact t0
 have r1:u.cell? ⟨b,o+a*4+1,none⟩=some (str x):=by rw [<- hu,World.cell?_alloc_lt _ _ ⟨b,_,none⟩ hb];exact t1
 have r2:u.cell? ⟨b,o+a*4+2,none⟩=some (.int .i64 n):=by rw [<- hu,World.cell?_alloc_lt _ _ ⟨b,_,none⟩ hb];exact t2
 have r3:u.cell? ⟨b,o+a*4+3,none⟩=some (.int .i64 f):=by rw [<- hu,World.cell?_alloc_lt _ _ ⟨b,_,none⟩ hb];exact t3
 have hob:Own u w.heap.size 101 [.int .i64 0,.string ⟨#[]⟩,.int .i64 0,.int .i64 0]:=by rw [<- hu];exact Own.new w 101 #[_,_,_,_]
 have b0:=hob.cell 0
 have b1:=hob.cell 1
 have b2:=hob.cell 2
 have b3:=hob.cell 3
 have bf:=hob.frozen
 have bz:=hob.lt
 (try dsimp only [List.getElem?_cons_succ,List.getElem?_cons_zero] at b0 b1 b2 b3)
 have HU:=hdQ hu
 have HBu:=qh (Bw w u) (by rw [<- hu];exact bll)
 clear hob t0 t1 t2 t3 h0 h1
 go_enter Tryz.func192,Tryz.ntmps192
 go_wp2_with fail
 clear hu
 go_still_tail 10,kr
 go_wp2_with fail
 refine bodyPost_ret (v:=.agg #[.int .i64 k,str x,.int .i64 n,.int .i64 f]) (by simp [results,Tryz.results192,go_sem, *]) rfl ⟨rfl,bll⟩
theorem Zqk {B base:Nat} {TA:OA} {tc:Nat} {Ts:List Zam} {AA:OA} {ac:Nat} {as_:List Zab} {X:List Nat} {NA:OA} {nc:Nat} {ns:List Zac} {a:Nat} {dp:Int} (w:World)
  (h:Zbh w B base TA tc Ts AA ac as_ X a dp NA nc ns) (ha:a<Ts.length) (hs:Ts.length<=1048576) (hk:kd Ts a≠0) :
  CL 193 #[.pointer (some ⟨B,0,none⟩)] w λe w'=>e=.returned (tkV Ts a)/\Zbh w' B base TA tc Ts AA ac as_ X (a+1) dp NA nc ns/\Only w.heap.size [B] w w':=by
 have H:=hdQ h
 have hB:=h.cells.1
 have HN:=qh (∀ wx,Zbh wx B base TA tc Ts AA ac as_ X a dp NA nc ns->CR 192 #[.pointer (some ⟨B,0,none⟩)] wx (.agg #[.int .i64 (kd Ts a),str (tx Ts a),.int .i64 (nm Ts a),.int .i64 (of_ Ts a)])) (λwx hx=>Zoe wx hx ha)
 have hk':(kd Ts a==0)=false:=beq_eq_false_iff_ne.2 hk
 show Calls _ _ _ _ λe w'=>e=.returned (.agg #[.int .i64 (kd Ts a),str (tx Ts a),.int .i64 (nm Ts a),.int .i64 (of_ Ts a)])/\_
 generalize kd Ts a=k at *
 generalize tx Ts a=x at *
 generalize nm Ts a=n at *
 generalize of_ Ts a=f at *
 clear h
 go_enter Tryz.func193,Tryz.ntmps193
 go_wp2_with fail
 refine (HN.out _ (H.out.alloc _)).mono ?_
 rintro e u1 ⟨rfl,hb1⟩
 have hz1:=hb1.size
 (try simp at hz1)
 have HS1:=hdQ ((H.out.alloc _).step hb1)
 have HO1:=qh (Only w.heap.size [B] w u1) (Only.of_below (bst hb1) _)
 have hob:Own u1 w.heap.size 101 [.int .i64 0,.string ⟨#[]⟩,.int .i64 0,.int .i64 0]:=Own.step hb1 (Own.new w 101 #[_,_,_,_])
 have HOB:=hdQ hob
 have b0:=hob.cell 0
 have b1:=hob.cell 1
 have b2:=hob.cell 2
 have b3:=hob.cell 3
 have bf:=hob.frozen
 have bz:=hob.lt
 (try dsimp only [List.getElem?_cons_succ,List.getElem?_cons_zero] at b0 b1 b2 b3)
 have g1:=HS1.out.cells.2.2.1
 have gf:=HS1.out.cells.2.2.2.2.2.2
 have gB:=HS1.out.cells.1
 have hA:Own (u1.setCell ⟨B,1,none⟩ (.int .i64 ((a:Int)+1))) B 174 [.slice TA Ts.length tc,.int .i64 ((a+1:Nat):Int),.int .i64 dp,.slice NA ns.length nc,.slice AA as_.length ac]:=by have:=(HS1.out.setAt (a+1)).1;simpa using this
 have HA:=hdQ hA
 have hBw:¬ B=w.heap.size:=qo
 have hBw2:¬ w.heap.size=B:=qo
 clear hb1 hob hA
 go_wp2_with fail
 refine bodyPost_ret (v:=.agg #[.int .i64 k,str x,.int .i64 n,.int .i64 f]) (by simp [results,Tryz.results193,go_sem, *]) rfl ⟨rfl,H.out.only ?_ ?_, ?_⟩
 ·exact (by repeat (first|(with_reducible exact HO1.out)|((with_reducible refine Only.up2 ?_ ?_ _);rotate_left;(focus (first|omega|(simp;omega)|(simp;done))))|((with_reducible refine Only.setCell ?_ ?_ _);rotate_left;(focus (simp;done)))|((with_reducible refine Only.al ?_ ?_ _);rotate_left;(focus (first|omega|(simp;omega)|(simp;done))))|(with_reducible refine Only.drew ?_)|(with_reducible refine Only.drewN ?_ _)))
 ·exact (owx HA.out)
 ·exact (by repeat (first|(with_reducible exact HO1.out)|((with_reducible refine Only.up2 ?_ ?_ _);rotate_left;(focus (first|omega|(simp;omega)|(simp;done))))|((with_reducible refine Only.setCell ?_ ?_ _);rotate_left;(focus (simp;done)))|((with_reducible refine Only.al ?_ ?_ _);rotate_left;(focus (first|omega|(simp;omega)|(simp;done))))|(with_reducible refine Only.drew ?_)|(with_reducible refine Only.drewN ?_ _)))
theorem Ze8 (p:Value) (k n o:Int) (x:List UInt8) (w:World) :
  CL 194 #[p,.agg #[.int .i64 k,str x,.int .i64 n,.int .i64 o]] w λe w'=>e=.panicked (rej o)/\Bw w w':=by
 go_enter Tryz.func194,Tryz.ntmps194
 go_wp2_with fail
 exact ⟨rfl,rfl,bll⟩
theorem I_is {B base:Nat} {TA:OA} {tc:Nat} {Ts:List Zam} {AA:OA} {ac:Nat} {as_:List Zab} {X:List Nat} {NA:OA} {nc:Nat} {ns:List Zac} {a:Nat} {dp:Int} (x:List UInt8) (w:World)
  (h:Zbh w B base TA tc Ts AA ac as_ X a dp NA nc ns) (ha:a<Ts.length) (hx:x≠[]) :
  CR 245 #[.pointer (some ⟨B,0,none⟩),str x] w ((.bool (decide (pk Ts a=x)))):=by
 have HN:=qh (CR 192 #[.pointer (some ⟨B,0,none⟩)] w (.agg #[.int .i64 (kd Ts a),str (tx Ts a),.int .i64 (nm Ts a),.int .i64 (of_ Ts a)])) (Zoe w h ha)
 have hB:=h.cells.1
 have hd:decide (pk Ts a=x)=(kd Ts a==3&&tx Ts a==x):=by
  unfold pk
  by_cases h3:kd Ts a=3
  ·rw [if_pos h3,h3]
   by_cases h4:tx Ts a=x<;>simp [h4]
  ·rw [if_neg h3]
   have:(kd Ts a==3)=false:=beq_eq_false_iff_ne.2 h3
   rw [this];simp;exact λe=>hx e
 rw [hd]
 generalize kd Ts a=k at *
 generalize tx Ts a=y at *
 generalize nm Ts a=n at *
 generalize of_ Ts a=f at *
 have HHd:=hdQ hd
 clear h hd
 cases h3:(k==3) with
 | true =>
  obtain rfl:k=3:=by simpa using h3
  clear h3
  cases h4:(y==x) with
  | true =>
   go_enter Tryz.func245,Tryz.ntmps245
   go_wp2_with (first|(go_at_call 192;refine HN.out.mono ?_;rintro e u1 ⟨rfl,hb1⟩;have hz1:=hb1.size;have HB1:=hdQ hb1;clear hb1)|fail)
   go_ret
   exact ⟨rfl,bll⟩
  | false =>
   go_enter Tryz.func245,Tryz.ntmps245
   go_wp2_with (first|(go_at_call 192;refine HN.out.mono ?_;rintro e u1 ⟨rfl,hb1⟩;have hz1:=hb1.size;have HB1:=hdQ hb1;clear hb1)|fail)
   go_ret
   exact ⟨rfl,bll⟩
 | false =>
  go_enter Tryz.func245,Tryz.ntmps245
  go_wp2_with (first|(go_at_call 192;refine HN.out.mono ?_;rintro e u1 ⟨rfl,hb1⟩;have hz1:=hb1.size;have HB1:=hdQ hb1;clear hb1)|fail)
  go_ret
  exact ⟨rfl,bll⟩
def Zsd (B base:Nat) (TA:OA) (tc:Nat) (Ts:List Zam) (AA:OA) (ac:Nat) (as_:List Zab) (X:List Nat) (a:Nat) (dp:Int) (NA:OA) (nc:Nat) (ns:List Zac) (ok:Bool) (w:World) (e:Ending) (w':World):Prop :=
 Only w.heap.size [B] w w'/\(match ok with
 | true=>e=.returned (.tuple #[])/\Zbh w' B base TA tc Ts AA ac as_ X (a+1) dp NA nc ns
 | false=>e=.panicked (rej (of_ Ts a))/\Zvx w' B)
theorem Zuc {T:List Zam} {a:Nat} {x:List UInt8} (h:pk T a=x) (hx:x≠[]):kd T a≠0:=by
 unfold pk at h
 split at h
 ·rename_i h3;rw [h3];decide
 ·exact absurd h.symm hx
theorem Zjk {B base:Nat} {TA:OA} {tc:Nat} {Ts:List Zam} {AA:OA} {ac:Nat} {as_:List Zab} {X:List Nat} {NA:OA} {nc:Nat} {ns:List Zac} {a:Nat} {dp:Int} (x:List UInt8) (w:World)
  (h:Zbh w B base TA tc Ts AA ac as_ X a dp NA nc ns) (ha:a<Ts.length) (hs:Ts.length<=1048576) (hx:x≠[]) :
  CL 195 #[.pointer (some ⟨B,0,none⟩),str x] w (Zsd B base TA tc Ts AA ac as_ X a dp NA nc ns (decide (pk Ts a=x)) w):=by
 have H:=hdQ h
 have HIS:=hdQ (I_is x w h ha hx)
 clear h
 by_cases hp:pk Ts a=x
 ·rw [show decide (pk Ts a=x)=true by simp [hp]] at HIS ⊢
  have HNX:=qh (∀ wx,Bw w wx->CL 193 #[.pointer (some ⟨B,0,none⟩)] wx λe w'=>∃ v,e=.returned v/\Zbh w' B base TA tc Ts AA ac as_ X (a+1) dp NA nc ns/\Only wx.heap.size [B] wx w') (λwx hb=>(Zqk wx (H.out.step hb) ha hs (Zuc hp hx)).mono (λe w' q=>⟨_,q⟩))
  clear hp
  go_enter Tryz.func195,Tryz.ntmps195
  go_wp2_with (first|(go_at_call 245;refine HIS.out.mono ?_;rintro e u1 ⟨rfl,hb1⟩;have HB1:=hdQ hb1;clear hb1)|(go_at_call 193;refine (HNX.out _ HB1.out).mono ?_;rintro e u2 ⟨v,rfl,hs2,hO2⟩;have HS2:=hdQ hs2;have HO2:=qh (Only w.heap.size [B] w u2) ((Only.of_below HB1.out _).sub hO2 HB1.out.size (λx hx=>.inl hx));clear hs2 hO2)|fail)
  refine bodyPost_end (results_none rfl _ _ _) rfl ⟨HO2.out,rfl,HS2.out⟩
 ·rw [show decide (pk Ts a=x)=false by simp [hp]] at HIS ⊢
  have HN:=qh (∀ wx,Bw w wx->CR 192 #[.pointer (some ⟨B,0,none⟩)] wx (.agg #[.int .i64 (kd Ts a),str (tx Ts a),.int .i64 (nm Ts a),.int .i64 (of_ Ts a)])) (λwx hb=>Zoe wx (H.out.step hb) ha)
  generalize kd Ts a=k at *
  generalize tx Ts a=y at *
  generalize nm Ts a=n at *
  generalize hf:of_ Ts a=f at *
  have HF:=hdQ hf
  clear hp hf
  go_enter Tryz.func195,Tryz.ntmps195
  go_wp2_with (first|(go_at_call 245;refine HIS.out.mono ?_;rintro e u1 ⟨rfl,hb1⟩;have HB1:=hdQ hb1;clear hb1)|(go_at_call 192;refine (HN.out _ HB1.out).mono ?_;rintro e u2 ⟨rfl,hb2⟩;have HB2:=qh (Bw w u2) (Below.step hb2 HB1.out HB1.out.size);clear hb2)|(go_at_call 194;refine (Ze8 _ _ _ _ _ _).mono ?_;rintro e u3 ⟨rfl,hb3⟩;have HB3:=qh (Bw w u3) (Below.step hb3 HB2.out HB2.out.size);clear hb3)|fail)
  exact ⟨rfl,Only.of_below HB3.out _,by rw [HF.out],(H.out.ownD).step HB3.out⟩
theorem Zvn {B base:Nat} {TA:OA} {tc:Nat} {Ts:List Zam} {AA:OA} {ac:Nat} {as_:List Zab} {X:List Nat} {NA:OA} {nc:Nat} {ns:List Zac} {a:Nat} {dp:Int} {op num:Int} {name:List UInt8} {args:List Int} {A:OA} {c:Nat} (w:World)
  (h:Zbh w B base TA tc Ts AA ac as_ (gOf A++X) a dp NA nc ns) (ha0:0<a) (ha:a<Ts.length) (hs:Ts.length<=1048576)
  (hr:Zdb w 1 A args.length c 3 (ints args)) (hap:∀ y,y∈gOf A->y∉X) :
  CL 274 #[.pointer (some ⟨B,0,none⟩),Zhn op name num (.slice A args.length c)] w (IGo B base TA tc Ts AA ac as_ X dp NA (emit Ts (op,name,num,args) a ns) w):=by
 have H:=hdQ h
 have HR:=hdQ hr
 have HAP:=hdQ hap
 obtain ⟨hB,h0,h1,h2,h3,h4,hf⟩:=h.cells
 have hbase:=h.2.low
 obtain ⟨a',rfl⟩:∃ a',a=a'+1:=⟨a-1,qo⟩
 have hBw:¬ B=w.heap.size:=qo
 have hBw':¬ w.heap.size=B:=qo
 clear hr hap
 by_cases h60:ns.length=60
 ·have HE:=qh (emit Ts (op,name,num,args) (a'+1) ns=.bad (of_ Ts a')) (by unfold emit;rw [if_pos h60];rfl)
  have h60':(ns.length:Int)=60:=qo
  have e60:((ns.length:Int)==60)=true:=by simpa using h60'
  obtain ⟨ht1,ht2,b,o,rfl,hb,hbB,t0,t1,t2,t3⟩:=h.2.tokAt (a:=a') qo
  unfold maxLen at ht2
  have ha':(a':Int)<Ts.length:=qo
  generalize kd Ts a'=k at *
  generalize tx Ts a'=x at *
  generalize nm Ts a'=n at *
  generalize hof:of_ Ts a'=f at *
  have hw1:IntKind.i64.wrap (a':Int)=a':=IntWalk.i64_in _ qo
  have hw2:IntKind.i64.wrap ((a':Int)+1-1)=a':=by rw [show (a':Int)+1-1=a' by omega];exact hw1
  clear h h60' h60 hof
  go_enter Tryz.func274,Tryz.ntmps274
  go_wp2_with fail
  refine wp_region_held_drew (S:=(λw'=>w'.cell? ⟨B,0,none⟩=some (.slice (some ⟨b,o,none⟩) Ts.length tc)/\w'.cell? ⟨B,1,none⟩=some (.int .i64 ((a':Int)+1))/\w'.cell? ⟨b,o+a'*4,none⟩=some (.int .i64 k)/\w'.cell? ⟨b,o+a'*4+1,none⟩=some (str x)/\w'.cell? ⟨b,o+a'*4+2,none⟩=some (.int .i64 n)/\w'.cell? ⟨b,o+a'*4+3,none⟩=some (.int .i64 f))) kr (by (try dsimp only);refine ⟨?_, ?_, ?_, ?_, ?_, ?_⟩<;>(go_simp;done)) (λhHeld=>?_)
  refine tkH 0 ?_;(try simp only [LO,Act.put])
  refine tkH 1 ?_;(try simp only [LO,Act.put])
  refine tkH 2 ?_;(try simp only [LO,Act.put])
  refine tkH 3 ?_;(try simp only [LO,Act.put])
  refine tkH 4 ?_;(try simp only [LO,Act.put])
  refine tkH 5 ?_;(try simp only [LO,Act.put])
  refine tkH 6 ?_;(try simp only [LO,Act.put])
  refine tkH 7 ?_;(try simp only [LO,Act.put])
  refine tkH 8 ?_;(try simp only [LO,Act.put])
  refine tkH 9 ?_;(try simp only [LO,Act.put])
  refine tkH 10 ?_;(try simp only [LO,Act.put])
  refine tkH 11 ?_;(try simp only [LO,Act.put])
  refine wpAnyH_ready (rs:=[12]) kr qs ?_
  refine AllReadyH.cons rfl (λK hK=>?_) AllReadyH.nil
  go_simp
  (with_reducible refine (Ze8 _ _ _ _ _ _).mono ?_)
  rintro e u3 ⟨rfl,hb3⟩
  have hz3:=hb3.size
  have HB3:=bh w hb3
  refine ⟨rfl, ?_⟩
  rw [HE.out]
  exact ⟨rfl,(H.out.ownD).step HB3.out,Only.of_below HB3.out _⟩
 ·have HE:=qh (emit Ts (op,name,num,args) (a'+1) ns=.ok ns.length (a'+1) (ns++[(op,name,num,args)])) (by unfold emit;rw [if_neg h60])
  have e60:((ns.length:Int)==60)=false:=by rw [beq_eq_false_iff_ne];omega
  obtain ⟨cs,hg,hn,hpc⟩:=H.out.2.nod
  have HPC:=hdQ hpc
  have HG:=hdQ hg
  have HN:=hdQ hn
  have HLT:=qh (ns.length<60) (by have:=H.out.2.cap;omega)
  have hns:=H.out.2.cap
  clear hg hn h60 hpc h
  go_enter Tryz.func274,Tryz.ntmps274
  go_wp2_with fail
  refine Zbc (S:=(λw'=>w'.cell? ⟨B,3,none⟩=some (.slice NA ns.length nc)/\w'.frozen? ⟨B,3,none⟩=false/\w'.cell? ⟨w.heap.size,0,none⟩=some (.int .i64 op)/\w'.cell? ⟨w.heap.size,1,none⟩=some (str name)/\w'.cell? ⟨w.heap.size,2,none⟩=some (.int .i64 num)/\w'.cell? ⟨w.heap.size,3,none⟩=some (.slice A args.length c))) 12 kr (by (try dsimp only);refine ⟨?_, ?_, ?_, ?_, ?_, ?_⟩<;>(go_simp;done)) (λhHeld=>?_)
  refine tkM 0 ?_
  refine tkM 1 ?_
  refine tkM 2 ?_
  refine tkM 3 ?_
  refine tkM 4 ?_
  refine tkM 5 ?_
  refine tkM 6 ?_
  refine Zaa (i:=7) rfl kr (λK7 hK7=>?_)
  go_simp
  refine hK7.out _ _ (λ_=>by (try dsimp only);refine ⟨?_, ?_, ?_, ?_, ?_, ?_⟩<;>(go_simp;done)) (λhHeld7=>?_)
  have hX7:=hHeld7 qd
  refine Zaa (i:=8) rfl kr (λK8 hK8=>?_)
  (refine Zcs qr _ _ 59 qr (base) 155 (.agg #[.int .i64 0,.string ByteArray.empty,.int .i64 0,.slice none 0 0]) 4 56 Tryz.underlying59 T.infoNode rfl qd (xs:=cs) qr ?_ (ys:=[.int .i64 op,str name,.int .i64 num,.slice A args.length c]) qr ?_ (Znu _ _ _ _) ?_ ?_ ?_ ?_;(exact (gwx HG.out));(exact (ltt 1));(unfold maxLen;omega);(omega);(first|omega|(simp<;>omega));rintro A' c' w2 gA)
  have hsa:=gA.2.2.2.1
  (try simp at hsa)
  have hem:=PMem.put H.out.2 HLT.out bll HG.out HN.out HPC.out HR.out HAP.out gA
  have hbx2:Box w2 w.heap.size [.int .i64 op,str name,.int .i64 num,.slice A args.length c]:=by
   have hfa:=(Za8.far gA (b:=w.heap.size) (by simp;try omega) (λe=>by have:=HG.out.lt _ e;omega)).1
   refine Box.mk4 qo ?_ ?_ ?_ ?_<;>(rw [hfa];go_simp;done)
  have ho2:Own w2 B 174 [.slice TA Ts.length tc,.int .i64 ((a'+1:Nat):Int),.int .i64 dp,.slice NA ns.length nc,.slice AA as_.length ac]:=hem.2.1.own H.out.1 hB (λhN=>(H.out.2.apN B hN).1 rfl)
  have HO2:=hdQ ho2
  have HE2:=hdQ hem
  have k2:=ho2.cell 3
  have kf:=ho2.frozen 3
  (try dsimp only [List.getElem?_cons_succ,List.getElem?_cons_zero] at k2)
  obtain ⟨zb2,e0,e1,e2,e3⟩:=hbx2.open4
  have hBw2:B<w2.heap.size:=qo
  clear gA hem ho2 hbx2
  refine hK8.out _ _ (λ_=>by (try dsimp only);refine ⟨?_, ?_, ?_, ?_, ?_, ?_⟩<;>(go_simp;done)) (λhHeld8=>?_)
  have hX8:=hHeld8 qd
  refine Zaa (i:=9) rfl kr (λK9 hK9=>?_)
  go_simp
  refine hK9.out _ _ (λ_=>hX8) (λhHeld9=>?_)
  have hX9:=hHeld9 qd
  refine Zaa (i:=10) rfl kr (λK10 hK10=>?_)
  go_simp
  refine hK10.out _ _ (λ_=>hX9) (λhHeld10=>?_)
  have hX10:=hHeld10 qd
  refine Zaa (i:=11) rfl kr (λK11 hK11=>?_)
  go_simp
  refine hK11.out _ _ (λ_=>hX10) (λhHeld11=>?_)
  have hX11:=hHeld11 qd
  refine Zaa (i:=12) rfl kr (λK12 hK12=>?_)
  go_simp
  refine hK12.out _ _ (λh=>absurd rfl h) (λhHeld12=>?_)
  refine Zbd kr ?_ _
  have hst:Zbh (w2.setCell ⟨B,3,none⟩ (.slice A' (ns.length+1) c')) B base TA tc Ts AA ac as_ X (a'+1) dp A' c' (ns++[(op,name,num,args)]):=⟨by have:=HO2.out.set_ 3 (.slice A' (ns.length+1) c');simpa using this,HE2.out.1.set_ 3 _⟩
  have HST:=hdQ hst
  have HON:=qh (Only w.heap.size (B::gOf NA) w (w2.setCell ⟨B,3,none⟩ (.slice A' (ns.length+1) c'))) (Only.setCell (HE2.out.2.1.mono' (λx hx=>by simp [hx])) qs _)
  have m2:=hst.cells.2.2.2.2.1
  have mB:=hst.cells.1
  have hl:(ns++[(op,name,num,args)]).length=ns.length+1:=qs
  rw [hl] at m2
  generalize w2.setCell ⟨B,3,none⟩ (.slice A' (ns.length+1) c')=w3 at *
  clear hst hX8 hX9 hX10 hX11 hHeld k2 kf e0 e1 e2 e3 hl
  go_wp2_with fail
  go_ret
  rw [HE.out]
  exact ⟨_,_,rfl,HST.out,HON.out,HE2.out.2.2⟩
end
end Go.Proofs.YticdknjoapdmeaaGreatDoor
