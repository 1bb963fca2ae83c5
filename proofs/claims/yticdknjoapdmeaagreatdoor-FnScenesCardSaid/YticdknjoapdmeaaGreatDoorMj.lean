/- Several texts in one: PScnI, GramT, GramV, GramD, GramX, GramY, ScY, AddSf4, SameScn, SameScn2, SurfAt0. -/
import Derived.Test.YticdknjoapdmeaaGreatDoorMa
import Derived.Test.YticdknjoapdmeaaGreatDoorMh
import Derived.Test.YticdknjoapdmeaaGreatDoorMe
import Derived.Test.YticdknjoapdmeaaGreatDoorMi
import Derived.Test.YticdknjoapdmeaaGreatDoorMc
import Derived.Test.YticdknjoapdmeaaGreatDoorMd
import Derived.DeepKeys
import Derived.Deep.RegionHeld3
set_option linter.unusedVariables false
set_option linter.unusedSimpArgs false
set_option linter.unnecessarySimpa false
namespace Go.Proofs.YticdknjoapdmeaaGreatDoor
set_option maxHeartbeats 32000000
section
set_option maxRecDepth 100000
open Go.RowKit Go.Lib
def Ze7 (s:EScene) (ok:Bool) (w:World) (e:Ending) (w':World):Prop :=
 ∃ (TX:OA) (tc:Nat) (P:OA) (pc:Nat) (Q:OA) (qc b:Nat),e=.returned (.tuple #[.agg ⟨cS s TX tc P pc Q qc⟩,.bool ok])/\w.heap.size<=b/\b<=w'.heap.size/\SceneR w' b [] s TX tc P pc Q qc/\Bw w w'
theorem Ze7.zero {w w':World} (hb:Bw w w'):Ze7 zScene false w (.returned (.tuple #[.agg ⟨zS⟩,.bool false])) w':=⟨none,0,none,0,none,0,w.heap.size,rfl,Nat.le_refl _,hb.size,SceneR.nil _ _ _ _ rfl rfl rfl,hb⟩
theorem Zil (t:List UInt8) (w:World) (hl:t.length<=1048576) (he:Env w) (hT:Zna w) (hn:(linesT t).length<=11) :
  CL 6 #[str t] w (Ze7 (if Zbb (pI t)&&decide (Zb0 (pI t)=t) then pI t else zScene) (Zbb (pI t)&&decide (Zb0 (pI t)=t)) w):=by
 have HE:=hdQ he
 have HET:=hdQ hT
 have HSL:=qh (∀ wx,CL 25 #[str t] wx (Zgq (linesT t) wx)) (λwx=>Zqn t wx hl)
 rw [pI_to]
 have HLL:=qh (∀ l∈linesT t,l.length<=1048576) (λl h=>Nat.le_trans (Zus.1 l h) hl)
 generalize linesT t=ls at *
 have hng:¬ (11:Int)<(ls.length:Int):=qo
 have hTN:=hdQ (λk=>toI_N (ls:=ls) HLL.out k)
 have hTL:=hdQ (λk=>Zv7 ls k)
 have H0:toI ls 0=zScene:=rfl
 clear he hT
 generalize hBS:(Zbb (toI ls ls.length)&&decide (Zb0 (toI ls ls.length)=t))=BS
 generalize hRS:(if BS=true then toI ls ls.length else zScene)=RS_
 have HBS:=hdQ hBS
 have HRS:=hdQ hRS
 clear hBS hRS
 have hal:∀ wx:World,(Instr.alloc 30 true (.tuple #[])).run Tryz.prog wx=.ok (.pointer (some ⟨wx.heap.size,0,none⟩)) (wx.alloc (.cells ⟨zS⟩ 30)):=λwx=>by kernel_rfl
 go_enter Tryz.func6,Tryz.ntmps6
 go_wp2_with (first|(refine Zah rfl 30 rfl (hal _) ?_)|fail)
 refine (HSL.out _).mono ?_
 rintro e w1 ⟨A,c,rfl,hr,hge,hb1⟩
 have hz1:=hb1.size
 (try simp at hz1)
 have HO1:=qh (Own w1 w.heap.size 30 zS) (Own.step hb1 (Own.new w _ _))
 have HB1:=bh w hb1
 have HR1:=hdQ hr
 have HE1:=hdQ (HE.out.step HB1.out)
 have HET1:=hdQ (HET.out.step HB1.out)
 have HXn:=qh (Own (w1.alloc (.cells ⟨zS⟩ 30)) w1.heap.size 30 zS) (Own.new w1 _ _)
 obtain ⟨w2,hst,hs,hbk,hs2,e1,e2,e3⟩:=Zap (P:=Tryz.prog) (T:=30) (zs:=zS) (k:=0) HXn.out Za2 (by show 12<=12;omega) qr
 have HST:=hdQ hst
 have HB2:=qh (Bw w1 w2) (Below.trans ((Below.refl w1.heap.size w1).alloc (Nat.le_refl _) _) ⟨e1,e2,e3,qo,λb h=>hbk b qo⟩)
 have HS2:=qh (Zdf w2 w1.heap.size w1.heap.size (toI ls 0)) ⟨none,0,none,0,none,0,Nat.le_refl _,hs,SceneR.nil _ _ _ _ rfl rfl rfl⟩
 have hz2:w1.heap.size<w2.heap.size:=by rw [hs2];simp
 clear hr hge hb1 hst hs hbk hs2 e1 e2 e3 HXn H0
 go_wp2_with (first|(refine Zah rfl 30 rfl (hal _) ?_)|(refine Zae rfl 30 (.tmp 5) (.tmp 14) rfl rfl rfl HST.out ?_)|fail)
 clear hal
 go_loopw [7,17] (λ_ i_ wr=>∃ k:Nat,k<=ls.length/\i_=.int .i64 k/\Zdf wr w1.heap.size w1.heap.size (toI ls k)/\Bw w1 wr) (λ_ i_ _=>ls.length-(RowKit.intOf i_).toNat)
 case atStart=>exact ⟨0,Nat.zero_le _,rfl,HS2.out,HB2.out⟩
 case round =>
  obtain ⟨k,hk,rfl,hsm,hb⟩:=hrel
  have hz:=hb.size
  have HS:=hdQ hsm
  have HB:=hdQ hb
  have HR:=hdQ (HR1.out.step hb)
  clear hsm hb
  by_cases hlt:k<ls.length
  ·obtain ⟨b,o,rfl,hbl,hcell⟩:=HR.out.open_.2.2 qo
   have c0:wr.cell? ⟨b,o+k,none⟩=some (str ls[k]):=by rw [hcell k qo,Zit hlt]
   have i0:(0:Int)<=k:=qo
   have i1:(k:Int)<ls.length:=qo
   have hcl:=HR.out.open_
   have hkl:=(hTL.out k hk)
   have HRL:=qh (CL 26 #[.pointer (some ⟨w1.heap.size,0,none⟩),str ls[k]] wr λe w'=>e=.returned (.tuple #[])/\Zdf w' w1.heap.size w1.heap.size (updI (toI ls k) ls[k])/\Bw w1 w') (Zvg ls[k] (HLL.out _ (List.getElem_mem hlt)) HE1.out HET1.out HB.out HS.out qo qo)
   rw [<- Zng hlt] at HRL
   clear hcell hcl hkl
   generalize ls[k]=u at *
   go_wp2_with fail
   refine HRL.out.mono ?_
   rintro e w3 ⟨rfl,hsm,hb3⟩
   have HS3:=hdQ hsm
   have HB3:=hdQ hb3
   clear hsm hb3
   go_wp2_with fail
   go_roundw
   case rel=>exact ⟨k+1,qo,qg,HS3.out,HB3.out⟩
   case measure=>exact qn
  ·obtain rfl:k=ls.length:=by omega
   have HN:=hdQ (hTN.out ls.length (Nat.le_refl _))
   have hng2:¬ (ls.length:Int)<(ls.length:Int):=qo
   clear hTN hTL HR1
   generalize toI ls ls.length=s at *
   obtain ⟨TX,tc,P,pc,Q,qc,hX,ho,hsr⟩:=HS.out
   have HO:=hdQ ho
   have HSR:=hdQ hsr
   have HSI:=qh (∀ wx,Bw wr wx->SceneIn wx s TX tc P pc Q qc) (λwx hbx=>by
    have h1:=hsr.step hbx
    have hB:=h1.ps.prB HN.out
    have hL:=h1.lift hB
    exact ⟨hL.tex,hL.ps.progs hB,hL.ss.surfs⟩)
   have HIV:=qh (∀ wx,Bw wr wx->CR 27 #[Zj3 s TX tc P pc Q qc] wx (.bool (Zbb s))) (λwx hbx=>Zff wx (HSI.out wx hbx))
   have HFS:=qh (∀ wx,Bw wr wx->CR 11 #[Zj3 s TX tc P pc Q qc] wx (str (Zb0 s))) (λwx hbx=>Zim wx (HSI.out wx hbx) ((HE1.out.step (Below.step hbx HB.out hz)).tab) ((HE1.out.step (Below.step hbx HB.out hz)).mlen))
   have HR0:=qh (Own wr w.heap.size 30 zS) (HO1.out.below HB.out qo)
   have x0:wr.cell? ⟨w1.heap.size,0,none⟩=some (.int .i64 s.a):=HO.out.cell 0
   have x1:wr.cell? ⟨w1.heap.size,1,none⟩=some (.int .i64 s.b):=HO.out.cell 1
   have x2:wr.cell? ⟨w1.heap.size,2,none⟩=some (.int .i64 s.c):=HO.out.cell 2
   have x3:wr.cell? ⟨w1.heap.size,3,none⟩=some (.int .i64 s.d):=HO.out.cell 3
   have x4:wr.cell? ⟨w1.heap.size,4,none⟩=some (.bool s.e):=HO.out.cell 4
   have x5:wr.cell? ⟨w1.heap.size,5,none⟩=some (.int .i64 s.f):=HO.out.cell 5
   have x6:wr.cell? ⟨w1.heap.size,6,none⟩=some (.int .i64 s.g):=HO.out.cell 6
   have x7:wr.cell? ⟨w1.heap.size,7,none⟩=some (.int .i64 s.log):=HO.out.cell 7
   have x8:wr.cell? ⟨w1.heap.size,8,none⟩=some (.slice TX s.tex.length tc):=HO.out.cell 8
   have x9:wr.cell? ⟨w1.heap.size,9,none⟩=some (.slice P s.ps.length pc):=HO.out.cell 9
   have x10:wr.cell? ⟨w1.heap.size,10,none⟩=some (.slice Q s.ss.length qc):=HO.out.cell 10
   have x11:wr.cell? ⟨w1.heap.size,11,none⟩=some (.int .i64 s.side):=HO.out.cell 11
   clear ho hsr HS
   cases hok:Zbb s with
   | false =>
    rw [hok] at HIV
    go_wp2_with fail
    refine (HIV.out _ (Below.refl _ _)).mono ?_
    rintro e w3 ⟨rfl,hb3⟩
    have hz3:=hb3.size
    have HQ0:=qh (Own w3 w.heap.size 30 zS) (Own.step hb3 HR0.out)
    obtain ⟨w4,hst,hs,hbk,hs4,e1,e2,e3⟩:=Zap (P:=Tryz.prog) (T:=30) (zs:=zS) (k:=0) HQ0.out Za2 (by show 12<=12;omega) qr
    have HST4:=hdQ hst
    have HB4:=qh (Bw w w4) (Below.trans (Below.trans HB1.out ((Below.step hb3 HB.out hz).mono qo)) ⟨e1,e2,e3,qo,λb h=>hbk b qo⟩)
    have HO4:=qh (Own w4 w.heap.size 30 zS) hs
    have y0:w4.cell? ⟨w.heap.size,0,none⟩=some (.int .i64 0):=HO4.out.cell 0
    have y1:w4.cell? ⟨w.heap.size,1,none⟩=some (.int .i64 0):=HO4.out.cell 1
    have y2:w4.cell? ⟨w.heap.size,2,none⟩=some (.int .i64 0):=HO4.out.cell 2
    have y3:w4.cell? ⟨w.heap.size,3,none⟩=some (.int .i64 0):=HO4.out.cell 3
    have y4:w4.cell? ⟨w.heap.size,4,none⟩=some (.bool false):=HO4.out.cell 4
    have y5:w4.cell? ⟨w.heap.size,5,none⟩=some (.int .i64 0):=HO4.out.cell 5
    have y6:w4.cell? ⟨w.heap.size,6,none⟩=some (.int .i64 0):=HO4.out.cell 6
    have y7:w4.cell? ⟨w.heap.size,7,none⟩=some (.int .i64 0):=HO4.out.cell 7
    have y8:w4.cell? ⟨w.heap.size,8,none⟩=some (.slice none 0 0):=HO4.out.cell 8
    have y9:w4.cell? ⟨w.heap.size,9,none⟩=some (.slice none 0 0):=HO4.out.cell 9
    have y10:w4.cell? ⟨w.heap.size,10,none⟩=some (.slice none 0 0):=HO4.out.cell 10
    have y11:w4.cell? ⟨w.heap.size,11,none⟩=some (.int .i64 0):=HO4.out.cell 11
    have yf:=HO4.out.frozen
    have yl:=HO4.out.lt
    clear hb3 hst hs hbk hs4 e1 e2 e3
    go_wp2_with (first|(refine Zae rfl 30 (.tmp 2) (.tmp 33) rfl rfl rfl HST4.out ?_)|fail)
    obtain ⟨rfl,rfl⟩:BS=false/\RS_=zScene:=by
     have h1:=HBS.out
     rw [hok,Bool.false_and] at h1
     subst h1
     exact ⟨rfl,by rw [<- HRS.out];rfl⟩
    exact bodyPost_ret (v:=.tuple #[.agg ⟨zS⟩,.bool false]) (by simp [results,Tryz.results6,go_sem, *];rfl) rfl (Ze7.zero HB4.out)
   | true =>
    rw [hok] at HIV
    go_wp2_with fail
    refine (HIV.out _ (Below.refl _ _)).mono ?_
    rintro e w3 ⟨rfl,hb3⟩
    have hz3:=hb3.size
    have HB3:=hdQ hb3
    have HO3:=qh (Own w3 w1.heap.size 30 (cS s TX tc P pc Q qc)) (Own.step hb3 HO.out)
    have y0:w3.cell? ⟨w1.heap.size,0,none⟩=some (.int .i64 s.a):=HO3.out.cell 0
    have y1:w3.cell? ⟨w1.heap.size,1,none⟩=some (.int .i64 s.b):=HO3.out.cell 1
    have y2:w3.cell? ⟨w1.heap.size,2,none⟩=some (.int .i64 s.c):=HO3.out.cell 2
    have y3:w3.cell? ⟨w1.heap.size,3,none⟩=some (.int .i64 s.d):=HO3.out.cell 3
    have y4:w3.cell? ⟨w1.heap.size,4,none⟩=some (.bool s.e):=HO3.out.cell 4
    have y5:w3.cell? ⟨w1.heap.size,5,none⟩=some (.int .i64 s.f):=HO3.out.cell 5
    have y6:w3.cell? ⟨w1.heap.size,6,none⟩=some (.int .i64 s.g):=HO3.out.cell 6
    have y7:w3.cell? ⟨w1.heap.size,7,none⟩=some (.int .i64 s.log):=HO3.out.cell 7
    have y8:w3.cell? ⟨w1.heap.size,8,none⟩=some (.slice TX s.tex.length tc):=HO3.out.cell 8
    have y9:w3.cell? ⟨w1.heap.size,9,none⟩=some (.slice P s.ps.length pc):=HO3.out.cell 9
    have y10:w3.cell? ⟨w1.heap.size,10,none⟩=some (.slice Q s.ss.length qc):=HO3.out.cell 10
    have y11:w3.cell? ⟨w1.heap.size,11,none⟩=some (.int .i64 s.side):=HO3.out.cell 11
    clear hb3
    go_wp2_with fail
    refine (HFS.out _ HB3.out).mono ?_
    rintro e w4 ⟨rfl,hb4⟩
    have hz4:=hb4.size
    have HO4:=qh (Own w4 w1.heap.size 30 (cS s TX tc P pc Q qc)) (Own.step hb4 HO3.out)
    have HQ4:=qh (Own w4 w.heap.size 30 zS) (Own.step hb4 (Own.step HB3.out HR0.out))
    have HB4:=qh (Bw w1 w4) (Below.step hb4 (Below.step HB3.out HB.out hz) qo)
    have HS4:=qh (SceneR w4 w1.heap.size [w1.heap.size] s TX tc P pc Q qc) ((HSR.out.step HB3.out).step hb4)
    clear hb4
    by_cases heq:Zb0 s=t
    ·have hne:(Zb0 s != t)=false:=by simpa using heq
     obtain ⟨w5,hst,hs,hbk,hs5,e1,e2,e3⟩:=Zap (P:=Tryz.prog) (T:=30) (zs:=cS s TX tc P pc Q qc) (k:=0) HQ4.out Za2 (by show 12<=12;omega) qr
     have HST5:=hdQ hst
     have HLD:=qh ((Instr.loadAt 30 (.pointer (some ⟨w1.heap.size,0,none⟩))).run Tryz.prog w4=.ok (.agg ⟨cS s TX tc P pc Q qc⟩) w4) (Zak (P:=Tryz.prog) Tryz.underlying30 rfl Za2 (λj v hv=>by rw [Nat.zero_add,HO4.out.cell];exact hv))
     have HB5:=qh (Bw w w5) (Below.trans (Below.trans HB1.out (HB4.out.mono qo)) ⟨e1,e2,e3,qo,λb h=>hbk b qo⟩)
     have HO5:=qh (Own w5 w.heap.size 30 (cS s TX tc P pc Q qc)) hs
     have HS5:=qh (SceneR w5 w1.heap.size [] s TX tc P pc Q qc) (HS4.out.fewer.keep qo (λx hx _ _=>hbk x qo))
     have hz5:w1.heap.size<=w5.heap.size:=qo
     have z0:w5.cell? ⟨w.heap.size,0,none⟩=some (.int .i64 s.a):=HO5.out.cell 0
     have z1:w5.cell? ⟨w.heap.size,1,none⟩=some (.int .i64 s.b):=HO5.out.cell 1
     have z2:w5.cell? ⟨w.heap.size,2,none⟩=some (.int .i64 s.c):=HO5.out.cell 2
     have z3:w5.cell? ⟨w.heap.size,3,none⟩=some (.int .i64 s.d):=HO5.out.cell 3
     have z4:w5.cell? ⟨w.heap.size,4,none⟩=some (.bool s.e):=HO5.out.cell 4
     have z5:w5.cell? ⟨w.heap.size,5,none⟩=some (.int .i64 s.f):=HO5.out.cell 5
     have z6:w5.cell? ⟨w.heap.size,6,none⟩=some (.int .i64 s.g):=HO5.out.cell 6
     have z7:w5.cell? ⟨w.heap.size,7,none⟩=some (.int .i64 s.log):=HO5.out.cell 7
     have z8:w5.cell? ⟨w.heap.size,8,none⟩=some (.slice TX s.tex.length tc):=HO5.out.cell 8
     have z9:w5.cell? ⟨w.heap.size,9,none⟩=some (.slice P s.ps.length pc):=HO5.out.cell 9
     have z10:w5.cell? ⟨w.heap.size,10,none⟩=some (.slice Q s.ss.length qc):=HO5.out.cell 10
     have z11:w5.cell? ⟨w.heap.size,11,none⟩=some (.int .i64 s.side):=HO5.out.cell 11
     have zf:=HO5.out.frozen
     have zl:=HO5.out.lt
     clear hst hs hbk hs5 e1 e2 e3
     go_wp2_with (first|(refine Zal rfl 30 (.tmp 5) rfl rfl HLD.out ?_)|(refine Zae rfl 30 (.tmp 2) (.tmp 34) rfl rfl rfl HST5.out ?_)|fail)
     obtain ⟨rfl,rfl⟩:BS=true/\s=RS_:=by
      have h1:=HBS.out
      rw [hok,show (true&&decide (Zb0 s=t))=true by simp [heq]] at h1
      subst h1
      exact ⟨rfl,HRS.out⟩
     exact bodyPost_ret (v:=.tuple #[.agg ⟨cS s TX tc P pc Q qc⟩,.bool true]) (by simp [results,Tryz.results6,go_sem, *];rfl) rfl ⟨TX,tc,P,pc,Q,qc,w1.heap.size,rfl,qo,hz5,HS5.out,HB5.out⟩
    ·have hne:(Zb0 s==t)=false:=by simpa using heq
     obtain ⟨w5,hst,hs,hbk,hs5,e1,e2,e3⟩:=Zap (P:=Tryz.prog) (T:=30) (zs:=zS) (k:=0) HQ4.out Za2 (by show 12<=12;omega) qr
     have HST5:=hdQ hst
     have HB5:=qh (Bw w w5) (Below.trans (Below.trans HB1.out (HB4.out.mono qo)) ⟨e1,e2,e3,qo,λb h=>hbk b qo⟩)
     have HO5:=qh (Own w5 w.heap.size 30 zS) hs
     have z0:w5.cell? ⟨w.heap.size,0,none⟩=some (.int .i64 0):=HO5.out.cell 0
     have z1:w5.cell? ⟨w.heap.size,1,none⟩=some (.int .i64 0):=HO5.out.cell 1
     have z2:w5.cell? ⟨w.heap.size,2,none⟩=some (.int .i64 0):=HO5.out.cell 2
     have z3:w5.cell? ⟨w.heap.size,3,none⟩=some (.int .i64 0):=HO5.out.cell 3
     have z4:w5.cell? ⟨w.heap.size,4,none⟩=some (.bool false):=HO5.out.cell 4
     have z5:w5.cell? ⟨w.heap.size,5,none⟩=some (.int .i64 0):=HO5.out.cell 5
     have z6:w5.cell? ⟨w.heap.size,6,none⟩=some (.int .i64 0):=HO5.out.cell 6
     have z7:w5.cell? ⟨w.heap.size,7,none⟩=some (.int .i64 0):=HO5.out.cell 7
     have z8:w5.cell? ⟨w.heap.size,8,none⟩=some (.slice none 0 0):=HO5.out.cell 8
     have z9:w5.cell? ⟨w.heap.size,9,none⟩=some (.slice none 0 0):=HO5.out.cell 9
     have z10:w5.cell? ⟨w.heap.size,10,none⟩=some (.slice none 0 0):=HO5.out.cell 10
     have z11:w5.cell? ⟨w.heap.size,11,none⟩=some (.int .i64 0):=HO5.out.cell 11
     have zf:=HO5.out.frozen
     have zl:=HO5.out.lt
     clear hst hs hbk hs5 e1 e2 e3
     go_wp2_with (first|(refine Zae rfl 30 (.tmp 2) (.tmp 33) rfl rfl rfl HST5.out ?_)|fail)
     obtain ⟨rfl,rfl⟩:BS=false/\RS_=zScene:=by
      have h1:=HBS.out
      rw [hok,show (true&&decide (Zb0 s=t))=false by simp [heq]] at h1
      subst h1
      exact ⟨rfl,by rw [<- HRS.out];rfl⟩
     exact bodyPost_ret (v:=.tuple #[.agg ⟨zS⟩,.bool false]) (by simp [results,Tryz.results6,go_sem, *];rfl) rfl (Ze7.zero HB5.out)
set_option maxRecDepth 512
inductive ET where
 | num (n:Nat)
 | name (x:List UInt8)
 | neg (t:ET)
 | bin (op:Nat) (a b:ET)
 | call0 (x:List UInt8)
 | call1 (x:List UInt8) (a:ET)
 | call2 (x:List UInt8) (a b:ET)
 | call3 (x:List UInt8) (a b c:ET)
namespace ET
def size:ET->Nat
 | num _|name _|call0 _=>1
 | neg t=>t.size+1
 | bin _ a b=>a.size+b.size+1
 | call1 _ a=>a.size+1
 | call2 _ a b=>a.size+b.size+1
 | call3 _ a b c=>a.size+b.size+c.size+1
def nodes:ET->Nat->List Zac
 | num n,s=>[(1,[],(n:Int),[])]
 | name x,s=>[(2,x,0,[])]
 | neg t,s=>t.nodes s++[(3,[],0,[((s+t.size-1:Nat):Int)])]
 | bin op a b,s=>a.nodes s++b.nodes (s+a.size)++[(4+(op:Int),[],0,[((s+a.size-1:Nat):Int),((s+a.size+b.size-1:Nat):Int)])]
 | call0 x,s=>[(8,x,0,[])]
 | call1 x a,s=>a.nodes s++[(8,x,0,[((s+a.size-1:Nat):Int)])]
 | call2 x a b,s=>a.nodes s++b.nodes (s+a.size)++[(8,x,0,[((s+a.size-1:Nat):Int),((s+a.size+b.size-1:Nat):Int)])]
 | call3 x a b c,s=>a.nodes s++b.nodes (s+a.size)++c.nodes (s+a.size+b.size)++[(8,x,0,[((s+a.size-1:Nat):Int),((s+a.size+b.size-1:Nat):Int),((s+a.size+b.size+c.size-1:Nat):Int)])]
def sym (op:Nat):UInt8:=if op=0 then 43 else if op=1 then 45 else if op=2 then 42 else 47
def text:ET->List UInt8
 | num n=>numF n
 | name x=>x
 | neg t=>[40,45]++t.text++[41]
 | bin op a b=>[40]++a.text++[32]++[sym op]++[32]++b.text++[41]
 | call0 x=>x++[40]++[41]
 | call1 x a=>x++[40]++a.text++[41]
 | call2 x a b=>x++[40]++a.text++[44,32]++b.text++[41]
 | call3 x a b c=>x++[40]++a.text++[44,32]++b.text++[44,32]++c.text++[41]
def toks:ET->List TK
 | num n=>[(1,numF n,(n:Int))]
 | name x=>[(2,x,0)]
 | neg t=>(3,[40],0)::(3,[45],0)::(t.toks++[(3,[41],0)])
 | bin op a b=>(3,[40],0)::(a.toks++(3,[sym op],0)::(b.toks++[(3,[41],0)]))
 | call0 x=>[(2,x,0),(3,[40],0),(3,[41],0)]
 | call1 x a=>(2,x,0)::(3,[40],0)::(a.toks++[(3,[41],0)])
 | call2 x a b=>(2,x,0)::(3,[40],0)::(a.toks++(3,[44],0)::(b.toks++[(3,[41],0)]))
 | call3 x a b c=>(2,x,0)::(3,[40],0)::(a.toks++(3,[44],0)::(b.toks++(3,[44],0)::(c.toks++[(3,[41],0)])))
def ok:ET->Prop
 | num n=>n<=2559999
 | name x=>Zai x=true
 | neg t=>t.ok
 | bin op a b=>op<4/\a.ok/\b.ok
 | call0 x=>Zai x=true
 | call1 x a=>Zai x=true/\a.ok
 | call2 x a b=>Zai x=true/\a.ok/\b.ok
 | call3 x a b c=>Zai x=true/\a.ok/\b.ok/\c.ok
theorem size_pos (t:ET):0<t.size:=by cases t<;>simp [size]
theorem nodes_len (t:ET):∀ s,(t.nodes s).length=t.size:=by
 induction t with
 | num n|name x|call0 x=>intro s;rfl
 | neg t ih|call1 x t ih=>intro s;simp [nodes,size,ih]
 | bin op a b iha ihb|call2 x a b iha ihb=>intro s;simp [nodes,size,iha,ihb];omega
 | call3 x a b c iha ihb ihc=>intro s;simp [nodes,size,iha,ihb,ihc];omega
end ET
theorem Zn5 (u:Nat):decDigits u=if u<10 then [UInt8.ofNat (48+u)] else decDigits (u / 10)++[UInt8.ofNat (48+u % 10)]:=by
 rw [decDigits];split<;>rfl
theorem Zmp {d:Nat} (h:d<10):(UInt8.ofNat (48+d)).toNat=48+d:=by
 rw [UInt8.toNat_ofNat']
 omega
theorem Znd (u:Nat):Zgu (decDigits u)=u:=by
 induction u using Nat.strongRecOn with
 | ind u ih =>
  rw [Zn5]
  split
  ·rename_i h
   show 10*0+((UInt8.ofNat (48+u)).toNat-48)=u
   rw [Zmp h];omega
  ·rename_i h
   unfold Zgu
   rw [Zot,Zmp (Nat.mod_lt _ qo)]
   have:=ih (u / 10) qo
   unfold Zgu at this
   rw [this];omega
theorem DG.of_all {l m:List UInt8} (h:∀ b∈l,48<=b.toNat/\b.toNat<=57):DG (l++m) l.length:=λj hj =>
 ⟨l[j],by rw [List.getElem?_append_left hj,List.getElem?_eq_getElem hj],(Zcu _).2 (h _ (List.getElem_mem hj))⟩
theorem DG.span_safe {l m:List UInt8} (h:∀ b∈l,48<=b.toNat/\b.toNat<=57) (hm:∀ b,m.head? = some b->isDg b=false):Zav isDg (l++m)=l.length :=
 Zes (DG.of_all h) (λb hb=>hm b (by rw [List.getElem?_append_right (Nat.le_refl _),Nat.sub_self] at hb;rw [List.head?_eq_getElem?];exact hb))
theorem Zu4.dg {l:List UInt8} (h:Zu4 l):∀ b,l.head? = some b->isDg b=false:=λb hb=>by
 have:=(h b hb).1
 unfold Zuu at this
 simp only [Bool.or_eq_false_iff] at this
 exact this.2
theorem Zxi {r:Nat} {b:UInt8} (h:b∈Zg7 r):48<=b.toNat/\b.toNat<=57:=by
 unfold Zg7 at h
 rcases List.mem_append.1 h with h|h
 ·rw [List.eq_of_mem_replicate h];decide
 ·exact Zbx h
theorem Ztv (k:Nat) (l:List UInt8):valN (List.replicate k 48++l) 0=valN l 0:=by
 induction k with
 | zero=>rfl
 | succ k ih=>exact ih
theorem Zv1 (r:Nat):Zgu (Zg7 r)=Zd5 r:=by
 unfold Zg7 Zgu
 rw [Ztv]
 exact Znd _
theorem Zrz.numF {n:Nat} (h:n<=2559999):Zrz (numF n) n:=by
 intro l hs
 have hw:n / 256<10 ^ 4:=qo
 have hd:=Za7 4 (n / 256) qo hw
 have e1:((n:Int) / 256).toNat=n / 256:=qo
 have e2:((n:Int) % 256).toNat=n % 256:=qo
 unfold Go.Proofs.YticdknjoapdmeaaGreatDoor.numF
 rw [if_pos qo,e1,e2]
 by_cases h0:(n:Int) % 256=0
 ·rw [if_pos h0]
  have hsp:Zav isDg (decDigits (n / 256)++l)=(decDigits (n / 256)).length:=DG.span_safe (λb hb=>Zbx hb) hs.dg
  rw [Zfm hsp qo (λhc=>by
   rw [List.getElem?_append_right (Nat.le_refl _),Nat.sub_self,<- List.head?_eq_getElem?] at hc
   exact (hs 46 hc).2 rfl),List.take_left,Znd]
  rw [show n / 256*256=n by omega]
 ·rw [if_neg h0]
  have hr:n % 256<256:=Nat.mod_lt _ qo
  have hfl:=Zku hr
  have hfr:=Zel (n % 256)
  have hsp:Zav isDg (decDigits (n / 256)++(46::Zg7 (n % 256)++l))=(decDigits (n / 256)).length:=DG.span_safe (λb hb=>Zbx hb) (λb hb=>by simp at hb;subst hb;decide)
  have hsp2:Zav isDg (Zg7 (n % 256)++l)=(Zg7 (n % 256)).length:=DG.span_safe (λb hb=>Zxi hb) hs.dg
  have hdrop:(decDigits (n / 256)++(46::Zg7 (n % 256)++l)).drop ((decDigits (n / 256)).length+1)=Zg7 (n % 256)++l:=by
   rw [<- List.drop_drop,List.drop_left];rfl
  rw [List.append_assoc,Zfn (p:=(Zg7 (n % 256)).length) hsp qo (by rw [List.getElem?_append_right (Nat.le_refl _),Nat.sub_self];rfl) (by rw [hdrop];exact hsp2) qo,hdrop,List.take_left,List.take_left,Znd,Zv1,hfl]
  have hok:=Ziz hr
  unfold Zey at hok
  simp only [Bool.and_eq_true,decide_eq_true_eq] at hok
  unfold Zd5
  rw [hok.2]
  simp only [List.length_append,List.length_cons,Option.some.injEq,Prod.mk.injEq]
  omega
theorem Zw9 {n:Nat} (h:n<=2559999):∃ b r,numF n=b::r/\isDg b=true:=by
 have hne:=Ze2 ((n:Int) / 256).toNat
 match hd:decDigits ((n:Int) / 256).toNat,hne with
 | b::r,_ =>
  have hb:isDg b=true:=(Zcu b).2 (Zbx (u:=((n:Int) / 256).toNat) (by rw [hd];simp))
  unfold Go.Proofs.YticdknjoapdmeaaGreatDoor.numF
  rw [if_pos qo]
  split
  ·exact ⟨b,r,hd,hb⟩
  ·exact ⟨b,_,by rw [hd];rfl,hb⟩
theorem Zw8 {n:Nat} (h:n<=2559999):(numF n).length<=8:=by
 have hd:=Za7 4 ((n:Int) / 256).toNat qo qo
 have hr:((n:Int) % 256).toNat<256:=qo
 have hfl:=Zku hr
 have hfr:=Zel ((n:Int) % 256).toNat
 unfold Go.Proofs.YticdknjoapdmeaaGreatDoor.numF
 rw [if_pos qo]
 split
 ·omega
 ·rw [List.length_append,List.length_cons];omega
theorem Zdr {x:List UInt8} (h:Zai x=true):0<x.length/\x.length<=8/\(∀ b∈x,Zuu b=true)/\(∀ b,x.head? = some b->isLt b=true):=by
 unfold Zai at h
 simp only [Bool.and_eq_true,decide_eq_true_eq] at h
 obtain ⟨h1,h2,h3⟩:=h
 unfold Zd4 at h1
 rw [List.take_length,List.all_eq_true] at h1
 have hb:∀ b,Zhq b=isLt b:=λb=>by
  unfold Zhq
  cases hl:isLt b with
  | true=>exact decide_eq_true ((Zg2 b).1 hl)
  | false=>exact decide_eq_false (λhc=>by rw [(Zg2 b).2 hc] at hl;cases hl)
 have hdg:∀ b,Zk0 b=isDg b:=λb=>by
  unfold Zk0
  cases hl:isDg b with
  | true=>exact decide_eq_true ((Zcu b).1 hl)
  | false=>exact decide_eq_false (λhc=>by rw [(Zcu b).2 hc] at hl;cases hl)
 refine ⟨qo,h3,λb hm=>?_,λb hm=>?_⟩
 ·obtain ⟨i,hi,rfl⟩:=List.getElem_of_mem hm
  have:=h1 (x[i],i) (List.mk_mem_zipIdx_iff_getElem?.2 (List.getElem?_eq_getElem hi))
  simp only [hb,hdg,Bool.or_eq_true,Bool.and_eq_true] at this
  unfold Zuu
  rcases this with h|⟨h,_⟩<;>simp [h]
 ·have:=h1 (b,0) (List.mk_mem_zipIdx_iff_getElem?.2 (by rw [<- List.head?_eq_getElem?];exact hm))
  simpa [hb] using this
theorem LX.ident {x l:List UInt8} {ts:List TK} (h:LX l ts) (hs:Zu4 l) (hx:Zai x=true):LX (x++l) ((2,x,0)::ts):=h.name hs (Zdr hx)
namespace ET
theorem lex {t:ET} (ht:t.ok):∀ {l:List UInt8} {ts:List TK},LX l ts->Zu4 l->LX (t.text++l) (t.toks++ts):=by
 induction t with
 | num n=>intro l ts h hs;exact h.num hs (Zrz.numF ht) (Zw9 ht)
 | name x=>intro l ts h hs;exact h.ident hs ht
 | neg t ih =>
  intro l ts h hs
  have:=(ih ht (h.sym (b:=41)) (.cons)).sym (b:=45) |>.sym (b:=40)
  simpa [text,toks] using this
 | bin op a b iha ihb =>
  intro l ts h hs
  obtain ⟨ho,ha,hb⟩:=ht
  have h1:=(ihb hb (h.sym (b:=41)) (.cons)).sp (b:=32) qd
  have h2:LX (sym op::32::(b.text++41::l)) ((3,[sym op],0)::(b.toks++(3,[41],0)::ts)):=h1.sym (by unfold sym;rcases (show op=0∨op=1∨op=2∨op=3 by omega) with rfl|rfl|rfl|rfl<;>decide)
  have h3:=(iha ha (h2.sp (b:=32) qd) .cons).sym (b:=40)
  simpa [text,toks] using h3
 | call0 x =>
  intro l ts h hs
  have:=((h.sym (b:=41)).sym (b:=40)).ident .cons ht
  simpa [text,toks] using this
 | call1 x a ih =>
  intro l ts h hs
  have:=((ih ht.2 (h.sym (b:=41)) .cons).sym (b:=40)).ident .cons ht.1
  simpa [text,toks] using this
 | call2 x a b iha ihb =>
  intro l ts h hs
  have h1:=(((ihb ht.2.2 (h.sym (b:=41)) .cons).sp (b:=32) qd).sym (b:=44))
  have:=((iha ht.2.1 h1 .cons).sym (b:=40)).ident .cons ht.1
  simpa [text,toks] using this
 | call3 x a b c iha ihb ihc =>
  intro l ts h hs
  have h0:=(((ihc ht.2.2.2 (h.sym (b:=41)) .cons).sp (b:=32) qd).sym (b:=44))
  have h1:=(((ihb ht.2.2.1 h0 .cons).sp (b:=32) qd).sym (b:=44))
  have:=((iha ht.2.1 h1 .cons).sym (b:=40)).ident .cons ht.1
  simpa [text,toks] using this
theorem text_len {t:ET} (ht:t.ok):t.text.length<=14*t.size:=by
 induction t with
 | num n=>have:=Zw8 (show n<=2559999 from ht);simp only [text,size];omega
 | name x=>have:=(Zdr ht).2.1;simp only [text,size];omega
 | neg t ih=>have:=ih ht;simp [text,size];omega
 | bin op a b iha ihb=>have:=iha ht.2.1;have:=ihb ht.2.2;simp [text,size];omega
 | call0 x=>have:=(Zdr ht).2.1;simp [text,size];omega
 | call1 x a ih=>have:=ih ht.2;have:=(Zdr ht.1).2.1;simp [text,size];omega
 | call2 x a b iha ihb=>have:=iha ht.2.1;have:=ihb ht.2.2;have:=(Zdr ht.1).2.1;simp [text,size];omega
 | call3 x a b c iha ihb ihc=>have:=iha ht.2.1;have:=ihb ht.2.2.1;have:=ihc ht.2.2.2;have:=(Zdr ht.1).2.1;simp [text,size];omega
end ET
theorem PE.eq {T:List Zam} {m:PM} {d a:Nat} {ns:List Zac} {v v':Int} {a1 a2:Nat} {n1 n2:List Zac} (h:PE T m d a ns (.ok v a1 n1)) (e1:v=v') (e2:a1=a2) (e3:n1=n2):PE T m d a ns (.ok v' a2 n2):=by subst e1;subst e2;subst e3;exact h
def Stop (T:List Zam) (a:Nat):Prop:=opS true (pk T a)=0/\opS false (pk T a)=0
theorem Stop.of {T:List Zam} {a:Nat} {s:List UInt8} (h:pk T a=s) (hs:opS true s=0/\opS false s=0:=by decide):Stop T a:=by unfold Stop;rw [h];exact hs
theorem PE.exp {T:List Zam} {d a a1:Nat} {ns n1:List Zac} {v:Int} (h:PE T .fac d a ns (.ok v a1 n1)) (hs:Stop T a1):PE T (.bin true) d a ns (.ok v a1 n1) :=
 .bin (add:=true) (.bin (add:=false) h (.stop hs.2)) (.stop hs.1)
theorem ET.first (t:ET):∃ x y,t.toks=x::y/\∀ v,x≠(3,[41],v):=by
 cases t<;>exact ⟨_,_,rfl,λv=>by simp⟩
theorem Zkx {T:List Zam} {a:Nat} {t:ET} (h:Seg T a t.toks):¬ (([]:List Int)=[]/\pk T a=[41]):=by
 obtain ⟨⟨k,s,u⟩,y,hx,hne⟩:=t.first
 rw [hx] at h
 have h0:=h.cons.1
 rintro ⟨_,hp⟩
 by_cases hk:k=3
 ·subst hk
  rw [Za9 h0] at hp
  subst hp
  exact hne u rfl
 ·rw [Zwt h0 hk] at hp
  cases hp
namespace ET
theorem parse {t:ET} (ht:t.ok):∀ (T:List Zam) (d a:Nat) (ns:List Zac),Seg T a t.toks->d+2*t.size<=66->ns.length+t.size<=60->pk T (a+t.toks.length)≠[40] ->
  PE T .fac d a ns (.ok ((ns.length+t.size-1:Nat):Int) (a+t.toks.length) (ns++t.nodes ns.length)):=by
 induction t with
 | num n =>
  intro T d a ns hT hd hl hn
  exact PE.num (hT 0 (by simp [toks])) (by simp [size] at hd;omega) (by simp [size] at hl;omega)
 | name x =>
  intro T d a ns hT hd hl hn
  exact PE.name (hT 0 (by simp [toks])) (by simp [size] at hd;omega) (by simp [size] at hl;omega) hn
 | neg t ih =>
  intro T d a ns hT hd hl hn
  simp only [size] at hd hl
  obtain ⟨t0,hT⟩:=hT.cons
  obtain ⟨t1,hT⟩:=hT.cons
  obtain ⟨hT,hc⟩:=hT.app
  have hc:=Za9 (hc 0 qs)
  simp only [Nat.add_zero] at hc
  have h1:=ih ht T (d+2) (a+1+1) ns hT qo qo (by rw [hc];decide)
  have hp:=t.size_pos
  have h2:=PE.neg (Za9 t1) qo h1 (by rw [List.length_append,nodes_len];omega)
  exact (PE.par (Za9 t0) qo (h2.exp (.of hc)) hc).eq (by simp [nodes_len,size]<;>omega) (by simp [toks];omega) (by simp [nodes])
 | bin op a b iha ihb =>
  intro T d s ns hT hd hl hn
  simp only [size] at hd hl
  obtain ⟨ho,ha,hb⟩:=ht
  obtain ⟨t0,hT⟩:=hT.cons
  obtain ⟨hTa,hT⟩:=hT.app
  obtain ⟨t1,hT⟩:=hT.cons
  obtain ⟨hTb,hc⟩:=hT.app
  have hc:=Za9 (hc 0 qs)
  simp only [Nat.add_zero] at hc
  have hpa:=a.size_pos
  have hpb:=b.size_pos
  have ho1:=Za9 t1
  have h1:=iha ha T (d+1) (s+1) ns hTa qo qo (by rw [ho1];unfold sym;rcases (show op=0∨op=1∨op=2∨op=3 by omega) with rfl|rfl|rfl|rfl<;>decide)
  have h2:=ihb hb T (d+1) (s+1+a.toks.length+1) (ns++a.nodes ns.length) hTb qo (by rw [List.length_append,nodes_len];omega) (by rw [hc];decide)
  have hs:=Stop.of hc
  have hn1:(ns++a.nodes ns.length++b.nodes (ns++a.nodes ns.length).length).length<60:=by simp only [List.length_append,nodes_len];omega
  have key:PE T (.bin true) (d+1) (s+1) ns (.ok ((ns.length+(a.size+b.size+1)-1:Nat):Int) (s+1+a.toks.length+1+b.toks.length) (ns++(bin op a b).nodes ns.length)):=by
   rcases (show op=0∨op=1∨op=2∨op=3 by omega) with rfl|rfl|rfl|rfl
   ·refine ((PE.bin (add:=true) (PE.bin (add:=false) h1 (.stop (by rw [ho1];decide))) (PE.go (by rw [ho1];decide) (PE.bin (add:=false) h2 (.stop hs.2)) hn1 (.stop hs.1)))).eq ?_ rfl ?_
    ·simp [nodes_len]<;>omega
    ·rw [ho1];simp [nodes,nodes_len,sym,opS]
   ·refine ((PE.bin (add:=true) (PE.bin (add:=false) h1 (.stop (by rw [ho1];decide))) (PE.go (by rw [ho1];decide) (PE.bin (add:=false) h2 (.stop hs.2)) hn1 (.stop hs.1)))).eq ?_ rfl ?_
    ·simp [nodes_len]<;>omega
    ·rw [ho1];simp [nodes,nodes_len,sym,opS]
   ·refine ((PE.bin (add:=true) (PE.bin (add:=false) h1 (PE.go (by rw [ho1];decide) h2 hn1 (.stop hs.2))) (.stop hs.1))).eq ?_ rfl ?_
    ·simp [nodes_len]<;>omega
    ·rw [ho1];simp [nodes,nodes_len,sym,opS]
   ·refine ((PE.bin (add:=true) (PE.bin (add:=false) h1 (PE.go (by rw [ho1];decide) h2 hn1 (.stop hs.2))) (.stop hs.1))).eq ?_ rfl ?_
    ·simp [nodes_len]<;>omega
    ·rw [ho1];simp [nodes,nodes_len,sym,opS]
  exact (PE.par (Za9 t0) qo key hc).eq (by simp [size]) (by simp [toks];omega) rfl
 | call0 x =>
  intro T d a ns hT hd hl hn
  simp only [size] at hd hl
  obtain ⟨t0,hT⟩:=hT.cons
  obtain ⟨t1,hT⟩:=hT.cons
  obtain ⟨t2,hT⟩:=hT.cons
  exact (PE.call t0 qo (Za9 t1) (PE.args0 (Za9 t2) qo)).eq (by simp [size]) (by simp [toks]) (by simp [nodes])
 | call1 x a ih =>
  intro T d s ns hT hd hl hn
  simp only [size] at hd hl
  obtain ⟨t0,hT⟩:=hT.cons
  obtain ⟨t1,hT⟩:=hT.cons
  obtain ⟨hT,hc⟩:=hT.app
  have hc:=Za9 (hc 0 qs)
  simp only [Nat.add_zero] at hc
  have hp:=a.size_pos
  have h1:=(ih ht.2 T (d+1) (s+1+1) ns hT qo qo (by rw [hc];decide)).exp (.of hc)
  have h2:=PE.last (s:=x) (l:=[]) (Zkx hT) qd h1 hc (by rw [List.length_append,nodes_len];omega)
  exact (PE.call t0 qo (Za9 t1) h2).eq (by simp [nodes_len,size]<;>omega) (by simp [toks];omega) (by simp [nodes])
 | call2 x a b iha ihb =>
  intro T d s ns hT hd hl hn
  simp only [size] at hd hl
  obtain ⟨t0,hT⟩:=hT.cons
  obtain ⟨t1,hT⟩:=hT.cons
  obtain ⟨hTa,hT⟩:=hT.app
  obtain ⟨t2,hT⟩:=hT.cons
  obtain ⟨hTb,hc⟩:=hT.app
  have hc:=Za9 (hc 0 qs)
  simp only [Nat.add_zero] at hc
  have hm:=Za9 t2
  have hpa:=a.size_pos
  have hpb:=b.size_pos
  have h1:=(iha ht.2.1 T (d+1) (s+1+1) ns hTa qo qo (by rw [hm];decide)).exp (.of hm)
  have h2:=(ihb ht.2.2 T (d+1) (s+1+1+a.toks.length+1) (ns++a.nodes ns.length) hTb qo (by rw [List.length_append,nodes_len];omega) (by rw [hc];decide)).exp (.of hc)
  have h3:=PE.last (s:=x) (l:=[((ns.length+a.size-1:Nat):Int)]) qs qs h2 hc (by simp only [List.length_append,nodes_len];omega)
  have h4:=PE.more (s:=x) (l:=[]) (Zkx hTa) qd h1 hm h3
  exact (PE.call t0 qo (Za9 t1) h4).eq (by simp [nodes_len,size]<;>omega) (by simp [toks];omega) (by simp [nodes,nodes_len])
 | call3 x a b c iha ihb ihc =>
  intro T d s ns hT hd hl hn
  simp only [size] at hd hl
  obtain ⟨t0,hT⟩:=hT.cons
  obtain ⟨t1,hT⟩:=hT.cons
  obtain ⟨hTa,hT⟩:=hT.app
  obtain ⟨t2,hT⟩:=hT.cons
  obtain ⟨hTb,hT⟩:=hT.app
  obtain ⟨t3,hT⟩:=hT.cons
  obtain ⟨hTc,hc⟩:=hT.app
  have hc:=Za9 (hc 0 qs)
  simp only [Nat.add_zero] at hc
  have hm:=Za9 t2
  have hm2:=Za9 t3
  have hpa:=a.size_pos
  have hpb:=b.size_pos
  have hpc:=c.size_pos
  have h1:=(iha ht.2.1 T (d+1) (s+1+1) ns hTa qo qo (by rw [hm];decide)).exp (.of hm)
  have h2:=(ihb ht.2.2.1 T (d+1) (s+1+1+a.toks.length+1) (ns++a.nodes ns.length) hTb qo (by rw [List.length_append,nodes_len];omega) (by rw [hm2];decide)).exp (.of hm2)
  have h3:=(ihc ht.2.2.2 T (d+1) (s+1+1+a.toks.length+1+b.toks.length+1) (ns++a.nodes ns.length++b.nodes (ns++a.nodes ns.length).length) hTc qo (by simp only [List.length_append,nodes_len];omega) (by rw [hc];decide)).exp (.of hc)
  have h4:=PE.last (s:=x) (l:=[((ns.length+a.size-1:Nat):Int),(((ns++a.nodes ns.length).length+b.size-1:Nat):Int)]) qs qs h3 hc (by simp only [List.length_append,nodes_len];omega)
  have h5:=PE.more (s:=x) (l:=[((ns.length+a.size-1:Nat):Int)]) qs qs h2 hm2 h4
  have h6:=PE.more (s:=x) (l:=[]) (Zkx hTa) qd h1 hm h5
  exact (PE.call t0 qo (Za9 t1) h6).eq (by simp [nodes_len,size]<;>omega) (by simp [toks];omega) (by simp [nodes,nodes_len,Nat.add_assoc])
end ET
abbrev EL:=List (List UInt8×ET)
def Zcc:EL->Nat->List Zac
 | [],_=>[]
 | x::r,s=>x.2.nodes s++Zcc r (s+x.2.size)
def Zly:EL->Nat->List Zab
 | [],_=>[]
 | x::r,s=>(x.1,((s+x.2.size-1:Nat):Int))::Zly r (s+x.2.size)
def Zdy:EL->Nat
 | []=>0
 | x::r=>x.2.size+Zdy r
def Zoz:EL->List UInt8
 | []=>[]
 | x::r=>x.1++[32,61,32]++x.2.text++[59,10]++Zoz r
def Zgd:EL->List TK
 | []=>[]
 | x::r=>(2,x.1,0)::(3,[61],0)::(x.2.toks++(3,[59],0)::Zgd r)
def okL (L:EL):Prop:=∀ x∈L,Zai x.1=true/\x.2.ok
theorem okL.tail {x:List UInt8×ET} {r:EL} (h:okL (x::r)):okL r:=λy hy=>h y (by simp [hy])
theorem okL.head {x:List UInt8×ET} {r:EL} (h:okL (x::r)):Zai x.1=true/\x.2.ok:=h x qs
def Zfk (L:EL):Zag:=(Zcc L 0,Zly L 0)
theorem Zms:∀ (L:EL) (s:Nat),(Zcc L s).length=Zdy L
 | [],_=>rfl
 | x::r,s=>by simp [Zcc,Zdy,ET.nodes_len,Zms r]
theorem Zox:∀ (L:EL),okL L->LX (Zoz L) (Zgd L)
 | [],_=>.nil
 | x::r,h=>by
  have h0:=((Zox r h.tail).sp (b:=10) qd).sym (b:=59)
  have h1:=(((ET.lex h.head.2 h0 .cons).sp (b:=32) qd).sym (b:=61)).sp (b:=32) qd
  have:=h1.ident .cons h.head.1
  simpa [Zoz,Zgd] using this
theorem Zoy:∀ (L:EL),okL L->(Zoz L).length<=13*L.length+14*Zdy L
 | [],_=>Nat.zero_le _
 | x::r,h=>by
  have h1:=Zoy r h.tail
  have h2:=ET.text_len h.head.2
  have h3:=(Zdr h.head.1).2.1
  simp [Zoz,Zdy];omega
theorem kd_lt {T:List Zam} {i:Nat} (h:kd T i≠0):i<T.length:=by
 rcases Nat.lt_or_ge i T.length with h'|h'
 ·exact h'
 ·unfold kd tk at h
  rw [List.getD_eq_getElem?_getD,List.getElem?_eq_none h'] at h
  exact absurd rfl h
theorem Zti {T:List Zam} (hT:TokOk T) {n a a1:Nat} {ns n1:List Zac} {l:List Zab} {x:List UInt8} {u v:Int} (h0:Znh (tk T a)=(2,x,u)) (h1:pk T (a+1)=[61]) (k:PE T (.bin true) 1 (a+2) ns (.ok v a1 n1)) (h2:pk T a1=[59]) :
  asg T (Zc1 T) (n+1) a ns l=asg T (Zc1 T) n (a1+1) n1 (l++[(x,v)]):=by
 obtain ⟨k0,k1,k2⟩:=Zps h0
 have hin:a<T.length:=kd_lt (by rw [k0];decide)
 have hin1:a+1<T.length:=Zjn hT hin (by rw [k0];decide)
 have hin2:a+1+1<T.length:=Zdg hT hin1 (by rw [h1];decide)
 have he:=Zbq hT (Zc1 T) (.bin true) 1 (a+2) ns hin2 (by show 3+_<=4*T.length+8;omega)
 rw [asg,if_neg (by rw [k0];decide),if_neg (by rw [k0];decide),if_neg (by rw [h1];decide),k.at_ he.1,k1]
 show (if pk T a1=[59] then _ else _)=_
 rw [if_pos h2]
theorem asg_all {T:List Zam} (hT:TokOk T):∀ (L:EL) (a n:Nat) (ns:List Zac) (l:List Zab) (e:TK),okL L->e.1=0->Seg T a (Zgd L++[e])->Zdy L<=31->ns.length+Zdy L<=60->L.length<n ->
  asg T (Zc1 T) n a ns l=some (.ok (ns++Zcc L ns.length,l++Zly L ns.length))
 | [],a,n,ns,l,e,hok,he,hs,h1,h2,h3=>by
  obtain ⟨n,rfl⟩:∃ m,n=m+1:=⟨n-1,by simp at h3;omega⟩
  have h0:=(Zps (k:=e.1) (s:=e.2.1) (v:=e.2.2) (hs 0 (by simp [Zgd]))).1
  rw [asg,if_pos (by rw [<- he];exact h0)]
  simp [Zcc,Zly]
 | x::r,a,n,ns,l,e,hok,he,hs,h1,h2,h3=>by
  obtain ⟨n,rfl⟩:∃ m,n=m+1:=⟨n-1,by simp at h3;omega⟩
  simp only [Zdy,List.length_cons] at h1 h2 h3
  have hs':Seg T a ((2,x.1,0)::(3,[61],0)::(x.2.toks++(3,[59],0)::(Zgd r++[e]))):=by simpa [Zgd] using hs
  obtain ⟨t0,hs'⟩:=hs'.cons
  obtain ⟨t1,hs'⟩:=hs'.cons
  obtain ⟨hx,hs'⟩:=hs'.app
  obtain ⟨t2,hr⟩:=hs'.cons
  have hc:=Za9 t2
  have hp:=x.2.size_pos
  have k:=(ET.parse hok.head.2 T 1 (a+1+1) ns hx qo qo (by rw [hc];decide)).exp (.of hc)
  rw [Zti hT t0 (Za9 t1) k hc,asg_all hT r _ n _ _ e hok.tail he hr qo (by rw [List.length_append,ET.nodes_len];omega) qo]
  simp [Zcc,Zly,ET.nodes_len]
def Zf4 (s:Nat) (l:List Zac):Prop:=∀ (i:Nat) (h:i<l.length),Zb1 (s+i) l[i]=true
theorem Zf4.app {s:Nat} {x y:List Zac} (h1:Zf4 s x) (h2:Zf4 (s+x.length) y):Zf4 s (x++y):=by
 intro i hi
 rcases Nat.lt_or_ge i x.length with h|h
 ·rw [List.getElem_append_left h];exact h1 i h
 ·rw [List.getElem_append_right h]
  have:=h2 (i-x.length) (by simp at hi;omega)
  rwa [show s+x.length+(i-x.length)=s+i by omega] at this
theorem Zf4.one {s:Nat} {x:Zac} (h:Zb1 s x=true):Zf4 s [x]:=by
 intro i hi
 obtain rfl:i=0:=by simp at hi;omega
 exact h
theorem Zfd {a k:Nat} (h:a<k):inB (a:Int) 0 ((k:Int)-1)=true:=by
 unfold inB
 simp;omega
theorem Zf4.app' {s s2:Nat} {x y:List Zac} (h1:Zf4 s x) (h2:Zf4 s2 y) (e:s2=s+x.length):Zf4 s (x++y):=h1.app (e ▸ h2)
theorem ET.ok_nodes {t:ET} (ht:t.ok):∀ s,Zf4 s (t.nodes s):=by
 induction t with
 | num n =>
  intro s
  refine .one ?_
  have hn:n<=2559999:=ht
  have:inB (n:Int) 0 2559999=true:=by unfold inB;simp;omega
  simp [Zb1,Zbr,Za0,Zay,Zd8,this]
 | name x=>intro s;refine .one ?_;have hx:Zai x=true:=ht;simp [Zb1,Zbr,Za0,Zay,Zd8,hx]
 | neg t ih =>
  intro s
  have hp:=t.size_pos
  refine (ih ht s).app' (s2:=s+t.size) (.one ?_) (by rw [nodes_len])
  have h1:inB ((s+t.size-1:Nat):Int) 0 (((s+t.size:Nat):Int)-1)=true:=Zfd qo
  generalize ((s+t.size-1:Nat):Int)=u at *
  simp [Zb1,Zbr,Za0,Zay,Zd8,h1]
  simpa using h1
 | bin op a b iha ihb =>
  intro s
  obtain ⟨ho,ha,hb⟩:=ht
  have hpa:=a.size_pos
  have hpb:=b.size_pos
  refine ((iha ha s).app' (ihb hb (s+a.size)) (by rw [nodes_len])).app' (s2:=s+a.size+b.size) (.one ?_) (by simp only [List.length_append,nodes_len];omega)
  have h1:inB ((s+a.size-1:Nat):Int) 0 (((s+a.size+b.size:Nat):Int)-1)=true:=Zfd qo
  have h2:inB ((s+a.size+b.size-1:Nat):Int) 0 (((s+a.size+b.size:Nat):Int)-1)=true:=Zfd qo
  generalize ((s+a.size-1:Nat):Int)=u at *
  generalize ((s+a.size+b.size-1:Nat):Int)=v at *
  generalize (s+a.size+b.size:Nat)=k at *
  unfold Zb1 Zd8
  rw [List.all_cons,List.all_cons,List.all_nil,h1,h2]
  rcases (show op=0∨op=1∨op=2∨op=3 by omega) with rfl|rfl|rfl|rfl<;>simp [Zbr,Za0,Zay]
 | call0 x=>intro s;refine .one ?_;have hx:Zai x=true:=ht;simp [Zb1,Zbr,Za0,Zay,Zd8,hx]
 | call1 x a iha =>
  intro s
  have hpa:=a.size_pos
  refine (iha ht.2 s).app' (s2:=s+a.size) (.one ?_) (by rw [nodes_len])
  have h1:inB ((s+a.size-1:Nat):Int) 0 (((s+a.size:Nat):Int)-1)=true:=Zfd qo
  generalize ((s+a.size-1:Nat):Int)=u at *
  unfold Zb1 Zd8
  rw [List.all_cons,List.all_nil,h1]
  simp [Zbr,Za0,Zay,ht.1]
 | call2 x a b iha ihb =>
  intro s
  have hpa:=a.size_pos
  have hpb:=b.size_pos
  refine ((iha ht.2.1 s).app' (ihb ht.2.2 (s+a.size)) (by rw [nodes_len])).app' (s2:=s+a.size+b.size) (.one ?_) (by simp only [List.length_append,nodes_len];omega)
  have h1:inB ((s+a.size-1:Nat):Int) 0 (((s+a.size+b.size:Nat):Int)-1)=true:=Zfd qo
  have h2:inB ((s+a.size+b.size-1:Nat):Int) 0 (((s+a.size+b.size:Nat):Int)-1)=true:=Zfd qo
  generalize ((s+a.size-1:Nat):Int)=u at *
  generalize ((s+a.size+b.size-1:Nat):Int)=v at *
  generalize (s+a.size+b.size:Nat)=k at *
  unfold Zb1 Zd8
  rw [List.all_cons,List.all_cons,List.all_nil,h1,h2]
  simp [Zbr,Za0,Zay,ht.1]
 | call3 x a b c iha ihb ihc =>
  intro s
  have hpa:=a.size_pos
  have hpb:=b.size_pos
  have hpc:=c.size_pos
  refine (((iha ht.2.1 s).app' (ihb ht.2.2.1 (s+a.size)) (by rw [nodes_len])).app' (ihc ht.2.2.2 (s+a.size+b.size)) (by simp only [List.length_append,nodes_len];omega)).app' (s2:=s+a.size+b.size+c.size) (.one ?_) (by simp only [List.length_append,nodes_len];omega)
  have h1:inB ((s+a.size-1:Nat):Int) 0 (((s+a.size+b.size+c.size:Nat):Int)-1)=true:=Zfd qo
  have h2:inB ((s+a.size+b.size-1:Nat):Int) 0 (((s+a.size+b.size+c.size:Nat):Int)-1)=true:=Zfd qo
  have h3:inB ((s+a.size+b.size+c.size-1:Nat):Int) 0 (((s+a.size+b.size+c.size:Nat):Int)-1)=true:=Zfd qo
  generalize ((s+a.size-1:Nat):Int)=u at *
  generalize ((s+a.size+b.size-1:Nat):Int)=v at *
  generalize ((s+a.size+b.size+c.size-1:Nat):Int)=y at *
  generalize (s+a.size+b.size+c.size:Nat)=k at *
  unfold Zb1 Zd8
  rw [List.all_cons,List.all_cons,List.all_cons,List.all_nil,h1,h2,h3]
  simp [Zbr,Za0,Zay,ht.1]
theorem Zpm:∀ (L:EL),okL L->∀ s,Zf4 s (Zcc L s)
 | [],_,s=>λi hi=>absurd hi (by simp [Zcc])
 | x::r,h,s=>(ET.ok_nodes h.head.2 s).app' (Zpm r h.tail (s+x.2.size)) (by rw [ET.nodes_len])
def gN (l:List Zac):List (List Nat):=l.map λx=>x.2.2.2.map Int.toNat
theorem Zen (x s m n:Nat):(List.range' s (m+n)).count x=(List.range' s m).count x+(List.range' (s+m) n).count x:=by
 rw [<- List.count_append,List.range'_append_1]
theorem Zrl (x s:Nat):(List.range' s 1).count x=[s].count x:=rfl
theorem ET.cnt (t:ET) (x:Nat):∀ s,(gN (t.nodes s)).flatten.count x+[s+t.size-1].count x=(List.range' s t.size).count x:=by
 induction t with
 | num n|name y|call0 y=>intro s;simp [nodes,gN,size]
 | neg t ih|call1 y t ih =>
  intro s
  have:=ih s
  have h1:=Zen x s t.size 1
  rw [Zrl] at h1
  simp only [nodes,gN,size,List.map_append,List.flatten_append,List.count_append,List.map_cons,List.map_nil,List.flatten_cons,List.flatten_nil,List.append_nil,Int.toNat_natCast] at *
  rw [show s+(t.size+1)-1=s+t.size by omega]
  omega
 | bin op a b iha ihb|call2 y a b iha ihb =>
  intro s
  have h1:=iha s
  have h2:=ihb (s+a.size)
  have h3:=Zen x s (a.size+b.size) 1
  have h4:=Zen x s a.size b.size
  rw [Zrl] at h3
  simp only [nodes,gN,size,List.map_append,List.flatten_append,List.count_append,List.map_cons,List.map_nil,List.flatten_cons,List.flatten_nil,List.append_nil,Int.toNat_natCast] at *
  rw [show s+(a.size+b.size+1)-1=s+(a.size+b.size) by omega,show [s+a.size-1,s+a.size+b.size-1]=[s+a.size-1]++[s+a.size+b.size-1] from rfl,List.count_append]
  omega
 | call3 y a b c iha ihb ihc =>
  intro s
  have h1:=iha s
  have h2:=ihb (s+a.size)
  have h5:=ihc (s+a.size+b.size)
  have h3:=Zen x s (a.size+b.size+c.size) 1
  have h4:=Zen x s (a.size+b.size) c.size
  have h6:=Zen x s a.size b.size
  rw [Zrl] at h3
  rw [<- Nat.add_assoc] at h4
  simp only [nodes,gN,size,List.map_append,List.flatten_append,List.count_append,List.map_cons,List.map_nil,List.flatten_cons,List.flatten_nil,List.append_nil,Int.toNat_natCast] at *
  rw [show s+(a.size+b.size+c.size+1)-1=s+(a.size+b.size+c.size) by omega,show [s+a.size-1,s+a.size+b.size-1,s+a.size+b.size+c.size-1]=[s+a.size-1]++[s+a.size+b.size-1]++[s+a.size+b.size+c.size-1] from rfl,List.count_append,List.count_append]
  omega
theorem Ztc (x:Nat):∀ (L:EL) (s:Nat),(gN (Zcc L s)).flatten.count x+((Zly L s).map λy=>y.2.toNat).count x=(List.range' s (Zdy L)).count x
 | [],s=>by simp [Zcc,Zly,Zdy,gN]
 | y::r,s=>by
  have h1:=Ztc x r (s+y.2.size)
  have h2:=y.2.cnt x s
  have h3:=Zen x s y.2.size (Zdy r)
  simp only [Zcc,Zly,Zdy,gN,List.map_append,List.flatten_append,List.count_append,List.map_cons,Int.toNat_natCast] at *
  rw [show ∀ l:List Nat,(s+y.2.size-1)::l=[s+y.2.size-1]++l from λl=>rfl,List.count_append]
  omega
theorem Zxz:∀ (L:EL),okL L->∀ (s n:Nat),s+Zdy L<=n->∀ x∈Zly L s,Zby n x=true
 | [],_,s,n,_,x,hx=>by simp [Zly] at hx
 | y::r,h,s,n,hn,x,hx=>by
  simp only [Zdy] at hn
  rcases List.mem_cons.1 hx with rfl|hx
  ·have hp:=y.2.size_pos
   unfold Zby
   rw [h.head.1,Zfd qo];rfl
  ·exact Zxz r h.tail (s+y.2.size) n qo x hx
theorem Zoq {L:EL} (h:okL L) (hs:Zdy L<=60):Zas (Zfk L)=true:=by
 have e1:(Zfk L).1.length=Zdy L:=Zms L 0
 unfold Zas
 simp only [Bool.and_eq_true,decide_eq_true_eq]
 refine ⟨⟨⟨qo, ?_⟩, ?_⟩, ?_⟩
 ·unfold Za5
  rw [List.take_length,List.all_eq_true]
  intro x hx
  obtain ⟨i,hi,rfl⟩:=List.getElem_of_mem hx
  have:=Zpm L h 0 i (by rw [List.length_zipIdx] at hi;exact hi)
  rw [Nat.zero_add] at this
  have e:(Zfk L).1.zipIdx[i]=((Zcc L 0)[i]'(by rw [List.length_zipIdx] at hi;exact hi),i):=by rw [List.getElem_zipIdx,Nat.zero_add];rfl
  rw [e];exact this
 ·unfold Zbp
  rw [List.take_length,List.all_eq_true]
  intro x hx
  exact Zxz L h 0 _ qo x hx
 ·rw [List.all_eq_true]
  intro x hx
  have hx:=List.mem_range.1 hx
  have:=Ztc x L 0
  rw [<- List.range_eq_range',Zht,if_pos qo] at this
  simp only [beq_iff_eq]
  unfold Zhh
  rw [List.count_append]
  exact this
theorem Zde {p:Zag} (h:Za5 p p.1.length=true) {X Y:List Zac} {x:Zac} (e:p.1=X++x::Y):textP p X.length=Zcl x (x.2.2.2.map λ(a:Int)=>textP p a.toNat):=by
 have hk:X.length<p.1.length:=by rw [e];simp
 have hx:p.1[X.length]=x:=by simp [e]
 rw [Zni h hk,hx]
theorem ET.text_at {p:Zag} (h:Za5 p p.1.length=true) {t:ET} (ht:t.ok):∀ (X Y:List Zac),p.1=X++t.nodes X.length++Y->textP p (X.length+t.size-1)=t.text:=by
 induction t with
 | num n=>intro X Y e;exact (Zde h (x:=(1,[],(n:Int),[])) (Y:=Y) (by rw [e];simp [nodes])).trans (by simp [Zcl,text])
 | name x=>intro X Y e;exact (Zde h (x:=(2,x,0,[])) (Y:=Y) (by rw [e];simp [nodes])).trans (by simp [Zcl,text])
 | call0 x=>intro X Y e;exact (Zde h (x:=(8,x,0,[])) (Y:=Y) (by rw [e];simp [nodes])).trans (by simp [Zcl,text,join])
 | neg t ih =>
  intro X Y e
  have h1:=ih ht X ((3,[],0,[((X.length+t.size-1:Nat):Int)])::Y) (by rw [e];simp [nodes])
  have h2:=Zde h (x:=(3,[],0,[((X.length+t.size-1:Nat):Int)])) (Y:=Y) (X:=X++t.nodes X.length) (by rw [e];simp [nodes])
  rw [List.length_append,nodes_len] at h2
  rw [show X.length+(neg t).size-1=X.length+t.size by simp [size]<;>omega,h2]
  simp [Zcl,text,h1]
 | call1 x t ih =>
  intro X Y e
  have h1:=ih ht.2 X ((8,x,0,[((X.length+t.size-1:Nat):Int)])::Y) (by rw [e];simp [nodes])
  have h2:=Zde h (x:=(8,x,0,[((X.length+t.size-1:Nat):Int)])) (Y:=Y) (X:=X++t.nodes X.length) (by rw [e];simp [nodes])
  rw [List.length_append,nodes_len] at h2
  rw [show X.length+(call1 x t).size-1=X.length+t.size by simp [size]<;>omega,h2]
  simp [Zcl,text,h1,join]
 | bin op a b iha ihb =>
  intro X Y e
  have h1:=iha ht.2.1 X (b.nodes (X.length+a.size)++(4+(op:Int),[],0,[((X.length+a.size-1:Nat):Int),((X.length+a.size+b.size-1:Nat):Int)])::Y) (by rw [e];simp [nodes])
  have h2:=ihb ht.2.2 (X++a.nodes X.length) ((4+(op:Int),[],0,[((X.length+a.size-1:Nat):Int),((X.length+a.size+b.size-1:Nat):Int)])::Y) (by rw [e];simp [nodes,nodes_len])
  have h3:=Zde h (x:=(4+(op:Int),[],0,[((X.length+a.size-1:Nat):Int),((X.length+a.size+b.size-1:Nat):Int)])) (Y:=Y) (X:=X++a.nodes X.length++b.nodes (X.length+a.size)) (by rw [e];simp [nodes])
  simp only [List.length_append,nodes_len] at h2 h3
  rw [show X.length+(bin op a b).size-1=X.length+a.size+b.size by simp [size];omega,h3]
  rcases (show op=0∨op=1∨op=2∨op=3 by have:=ht.1;omega) with rfl|rfl|rfl|rfl<;>simp [Zcl,text,h1,h2,opB,sym]
 | call2 x a b iha ihb =>
  intro X Y e
  have h1:=iha ht.2.1 X (b.nodes (X.length+a.size)++(8,x,0,[((X.length+a.size-1:Nat):Int),((X.length+a.size+b.size-1:Nat):Int)])::Y) (by rw [e];simp [nodes])
  have h2:=ihb ht.2.2 (X++a.nodes X.length) ((8,x,0,[((X.length+a.size-1:Nat):Int),((X.length+a.size+b.size-1:Nat):Int)])::Y) (by rw [e];simp [nodes,nodes_len])
  have h3:=Zde h (x:=(8,x,0,[((X.length+a.size-1:Nat):Int),((X.length+a.size+b.size-1:Nat):Int)])) (Y:=Y) (X:=X++a.nodes X.length++b.nodes (X.length+a.size)) (by rw [e];simp [nodes])
  simp only [List.length_append,nodes_len] at h2 h3
  rw [show X.length+(call2 x a b).size-1=X.length+a.size+b.size by simp [size];omega,h3]
  simp [Zcl,text,h1,h2,join]
 | call3 x a b c iha ihb ihc =>
  intro X Y e
  have h1:=iha ht.2.1 X (b.nodes (X.length+a.size)++(c.nodes (X.length+a.size+b.size)++(8,x,0,[((X.length+a.size-1:Nat):Int),((X.length+a.size+b.size-1:Nat):Int),((X.length+a.size+b.size+c.size-1:Nat):Int)])::Y)) (by rw [e];simp [nodes])
  have h2:=ihb ht.2.2.1 (X++a.nodes X.length) (c.nodes (X.length+a.size+b.size)++(8,x,0,[((X.length+a.size-1:Nat):Int),((X.length+a.size+b.size-1:Nat):Int),((X.length+a.size+b.size+c.size-1:Nat):Int)])::Y) (by rw [e];simp [nodes,nodes_len])
  have h4:=ihc ht.2.2.2 (X++a.nodes X.length++b.nodes (X.length+a.size)) ((8,x,0,[((X.length+a.size-1:Nat):Int),((X.length+a.size+b.size-1:Nat):Int),((X.length+a.size+b.size+c.size-1:Nat):Int)])::Y) (by rw [e];simp [nodes,nodes_len,Nat.add_assoc])
  have h3:=Zde h (x:=(8,x,0,[((X.length+a.size-1:Nat):Int),((X.length+a.size+b.size-1:Nat):Int),((X.length+a.size+b.size+c.size-1:Nat):Int)])) (Y:=Y) (X:=X++a.nodes X.length++b.nodes (X.length+a.size)++c.nodes (X.length+a.size+b.size)) (by rw [e];simp [nodes])
  simp only [List.length_append,nodes_len] at h2 h3 h4
  rw [show X.length+(call3 x a b c).size-1=X.length+a.size+b.size+c.size by simp [size];omega,h3]
  simp [Zcl,text,h1,h2,h4,join]
theorem Zsm {p:Zag} (h:Za5 p p.1.length=true):∀ (L:EL),okL L->∀ (X:List Zac),p.1=X++Zcc L X.length->((Zly L X.length).map (assT p)).flatten=Zoz L
 | [],_,X,e=>rfl
 | y::r,hk,X,e=>by
  have h1:=Zsm h r hk.tail (X++y.2.nodes X.length) (by rw [e];simp [Zcc,ET.nodes_len])
  have h2:=ET.text_at h hk.head.2 X (Zcc r (X.length+y.2.size)) (by rw [e];simp [Zcc])
  rw [List.length_append,ET.nodes_len] at h1
  simp [Zly,Zoz,assT,h1,h2]
theorem Zpe {L:EL} (h:okL L) (hs:Zdy L<=60):Zf9 (Zfk L)=Zoz L:=by
 unfold Zf9 progTo
 rw [List.take_length]
 exact Zsm (Zbj (Zoq h hs)) L h [] rfl
def Zcy (s:Nat) (t:ET):Int:=((s+t.size-1:Nat):Int)
def Fac (l:List TK) (k D:Nat):Prop:=∀ (T:List Zam) (d a:Nat) (ns:List Zac),Seg T a l->d+D<=64->ns.length+k<=60->pk T (a+l.length)≠[40] ->
 ∃ t:ET,t.ok/\t.size=k/\PE T .fac d a ns (.ok (Zcy ns.length t) (a+l.length) (ns++t.nodes ns.length))
abbrev Zto:=UInt8×List TK×Nat
def Zds (r:List Zto):List TK:=r.flatMap λx=>(3,[x.1],0)::x.2.1
def wR:List Zto->Nat
 | []=>0
 | x::r=>x.2.2+1+wR r
def OpT (c:UInt8):Prop:=c=43∨c=45∨c=42∨c=47
def okR (r:List Zto) (D:Nat):Prop:=∀ x∈r,OpT x.1/\Fac x.2.1 x.2.2 D
def Hd (l:List TK):Prop:=∃ x y,l=x::y/\∀ v,x≠(3,[41],v)
def Chn (l:List TK) (k D:Nat):Prop:=∃ l0 k0 r,l=l0++Zds r/\Fac l0 k0 D/\Hd l0/\okR r D/\k=k0+wR r
theorem Fac.mono {l:List TK} {k D D':Nat} (h:Fac l k D) (hD:D<=D'):Fac l k D':=λT d a ns hT hd hl hn=>h T d a ns hT qo hl hn
theorem okR.mono {r:List Zto} {D D':Nat} (h:okR r D) (hD:D<=D'):okR r D':=λx hx=>⟨(h x hx).1,(h x hx).2.mono hD⟩
theorem Chn.mono {l:List TK} {k D D':Nat} (h:Chn l k D) (hD:D<=D'):Chn l k D':=by
 obtain ⟨l0,k0,r,e,h1,h2,h3,h4⟩:=h
 exact ⟨l0,k0,r,e,h1.mono hD,h2,h3.mono hD,h4⟩
theorem Zec (x:Zto) (r:List Zto):Zds (x::r)=(3,[x.1],0)::(x.2.1++Zds r):=by simp [Zds]
theorem Zxm (x y:List Zto):Zds (x++y)=Zds x++Zds y:=by simp [Zds]
theorem wR_app:∀ (x y:List Zto),wR (x++y)=wR x+wR y
 | [],y=>by simp [wR]
 | a::x,y=>by simp only [List.cons_append,wR,wR_app x y];omega
def Stp (T:List Zam) (a:Nat):Prop:=Stop T a/\pk T a≠[40]
theorem Stp.of {T:List Zam} {a:Nat} {s:List UInt8} (h:pk T a=s) (hs:(opS true s=0/\opS false s=0)/\s≠[40]:=by decide):Stp T a:=by unfold Stp Stop;rw [h];exact hs
theorem Zre {T:List Zam} {a:Nat} {r:List Zto} {D:Nat} (hr:okR r D) (h:Seg T a (Zds r)) (hs:Stp T (a+(Zds r).length)):pk T a≠[40]:=by
 match r with
 | []=>exact hs.2
 | x::r =>
  rw [Zec] at h
  rw [Za9 h.cons.1]
  intro hc
  have e:x.1=40:=by simpa using hc
  have:=(hr x qs).1
  unfold OpT at this
  rw [e] at this
  rcases this with h|h|h|h<;>exact absurd h qd
theorem okR.tail {x:Zto} {r:List Zto} {D:Nat} (h:okR (x::r) D):okR r D:=λy hy=>h y (by simp [hy])
theorem OpT.cases {c:UInt8} (h:OpT c):(opS false [c]=0/\∃ op:Nat,op<4/\opS true [c]=4+(op:Int))∨(∃ op:Nat,op<4/\opS false [c]=4+(op:Int)):=by
 rcases h with rfl|rfl|rfl|rfl
 ·exact .inl ⟨qd,0,qd,qd⟩
 ·exact .inl ⟨qd,1,qd,qd⟩
 ·exact .inr ⟨2,qd,qd⟩
 ·exact .inr ⟨3,qd,qd⟩
theorem Zqb (op:Nat) (a b:ET) (s:Nat):(ET.bin op a b).nodes s=a.nodes s++b.nodes (s+a.size)++[(4+(op:Int),[],0,[Zcy s a,Zcy (s+a.size) b])]:=rfl
theorem Zrg {D:Nat}:∀ (r:List Zto),okR r D->∀ (T:List Zam) (d a:Nat) (ns0:List Zac) (t:ET),t.ok->Seg T a (Zds r)->d+D<=64->ns0.length+t.size+wR r<=60->Stp T (a+(Zds r).length) ->
  ∃ (t':ET) (r':List Zto) (a':Nat),t'.ok/\okR r' D/\r'.length<=r.length/\t'.size+wR r'=t.size+wR r/\a'+(Zds r').length=a+(Zds r).length/\Seg T a' (Zds r')/\opS false (pk T a')=0 /\
   PE T (.loop false (Zcy ns0.length t)) d a (ns0++t.nodes ns0.length) (.ok (Zcy ns0.length t') a' (ns0++t'.nodes ns0.length))
 | [],hr,T,d,a,ns0,t,ht,hT,hd,hl,hs=>⟨t,[],a,ht,hr,Nat.le_refl _,rfl,rfl,hT,hs.1.2,.stop hs.1.2⟩
 | x::r,hr,T,d,a,ns0,t,ht,hT,hd,hl,hs=>by
  have hT0:=hT
  have hs0:=hs
  rw [Zec] at hT hs
  obtain ⟨t0,hT⟩:=hT.cons
  obtain ⟨hTx,hT⟩:=hT.app
  have hp:=Za9 t0
  obtain ⟨hop,hf⟩:=hr x qs
  rcases hop.cases with ⟨h0,_⟩|⟨op,ho,h1⟩
  ·exact ⟨t,x::r,a,ht,hr,Nat.le_refl _,rfl,rfl,hT0,by rw [hp];exact h0,.stop (by rw [hp];exact h0)⟩
  ·simp only [wR] at hl
   simp only [List.length_cons,List.length_append] at hs
   have hs':Stp T (a+1+x.2.1.length+(Zds r).length):=by rw [show a+1+x.2.1.length+(Zds r).length=a+(x.2.1.length+(Zds r).length+1) by omega];exact hs
   obtain ⟨tf,hf1,hf2,hf3⟩:=hf T d (a+1) (ns0++t.nodes ns0.length) hTx qo (by rw [List.length_append,ET.nodes_len];omega) (Zre hr.tail hT hs')
   have hsz:(ET.bin op t tf).size=t.size+tf.size+1:=rfl
   obtain ⟨t',r',a',g1,g2,g3,g4,g5,g6,g7,g8⟩:=Zrg r hr.tail T d (a+1+x.2.1.length) ns0 (ET.bin op t tf) ⟨ho,ht,hf1⟩ hT hd (by rw [hsz];omega) hs'
   refine ⟨t',r',a',g1,g2,by simp;omega,by simp only [wR];omega,by rw [Zec];simp only [List.length_cons,List.length_append];omega,g6,g7, ?_⟩
   refine PE.go (by rw [hp,h1];omega) hf3 (by simp only [List.length_append,ET.nodes_len];omega) ?_
   rw [hp,h1]
   have e1:(((ns0++t.nodes ns0.length++tf.nodes (ns0++t.nodes ns0.length).length).length:Nat):Int)=Zcy ns0.length (ET.bin op t tf):=by unfold Zcy;simp only [List.length_append,ET.nodes_len];congr 1;omega
   have e2:ns0++t.nodes ns0.length++tf.nodes (ns0++t.nodes ns0.length).length++[(4+(op:Int),[],0,[Zcy ns0.length t,Zcy (ns0++t.nodes ns0.length).length tf])]=ns0++(ET.bin op t tf).nodes ns0.length:=by
    rw [Zqb,List.length_append,ET.nodes_len];simp only [List.append_assoc]
   rw [e1,e2]
   exact g8
theorem Zx0 {D:Nat}:∀ (n:Nat) (r:List Zto),r.length<=n->okR r D->∀ (T:List Zam) (d a:Nat) (ns0:List Zac) (t:ET),t.ok->Seg T a (Zds r)->d+D<=64->ns0.length+t.size+wR r<=60->Stp T (a+(Zds r).length)->opS false (pk T a)=0 ->
  ∃ t':ET,t'.ok/\t'.size=t.size+wR r/\PE T (.loop true (Zcy ns0.length t)) d a (ns0++t.nodes ns0.length) (.ok (Zcy ns0.length t') (a+(Zds r).length) (ns0++t'.nodes ns0.length))
 | n,[],hn,hr,T,d,a,ns0,t,ht,hT,hd,hl,hs,hm=>⟨t,ht,rfl,.stop hs.1.1⟩
 | 0,x::r,hn,hr,T,d,a,ns0,t,ht,hT,hd,hl,hs,hm=>by simp at hn
 | n+1,x::r,hn,hr,T,d,a,ns0,t,ht,hT,hd,hl,hs,hm=>by
  rw [Zec] at hT hs
  obtain ⟨t0,hT⟩:=hT.cons
  obtain ⟨hTx,hT⟩:=hT.app
  have hp:=Za9 t0
  obtain ⟨hop,hf⟩:=hr x qs
  rw [hp] at hm
  rcases hop.cases with ⟨_,op,ho,h1⟩|⟨op,ho,h1⟩
  ·simp only [wR] at hl
   simp only [List.length_cons,List.length_append] at hs hn
   have hs':Stp T (a+1+x.2.1.length+(Zds r).length):=by rw [show a+1+x.2.1.length+(Zds r).length=a+(x.2.1.length+(Zds r).length+1) by omega];exact hs
   have hq:(ns0++t.nodes ns0.length).length=ns0.length+t.size:=by rw [List.length_append,ET.nodes_len]
   obtain ⟨tf,hf1,hf2,hf3⟩:=hf T d (a+1) (ns0++t.nodes ns0.length) hTx qo qo (Zre hr.tail hT hs')
   obtain ⟨t2,r',a',g1,g2,g3,g4,g5,g6,g7,g8⟩:=Zrg r hr.tail T d (a+1+x.2.1.length) (ns0++t.nodes ns0.length) tf hf1 hT hd qo hs'
   have hsz:(ET.bin op t t2).size=t.size+t2.size+1:=rfl
   obtain ⟨t',k1,k2,k3⟩:=Zx0 n r' qo g2 T d a' ns0 (ET.bin op t t2) ⟨ho,ht,g1⟩ g6 hd (by rw [hsz];omega) (by rw [g5];exact hs') g7
   refine ⟨t',k1,by simp only [wR];omega, ?_⟩
   have e0:a+(Zds (x::r)).length=a'+(Zds r').length:=by rw [Zec,g5];simp only [List.length_cons,List.length_append];omega
   rw [e0]
   refine PE.go (by rw [hp,h1];omega) (PE.bin (add:=false) hf3 g8) (by simp only [List.length_append,ET.nodes_len];omega) ?_
   rw [hp,h1]
   have e1:(((ns0++t.nodes ns0.length++t2.nodes (ns0++t.nodes ns0.length).length).length:Nat):Int)=Zcy ns0.length (ET.bin op t t2):=by unfold Zcy;simp only [List.length_append,ET.nodes_len];congr 1;omega
   have e2:ns0++t.nodes ns0.length++t2.nodes (ns0++t.nodes ns0.length).length++[(4+(op:Int),[],0,[Zcy ns0.length t,Zcy (ns0++t.nodes ns0.length).length t2])]=ns0++(ET.bin op t t2).nodes ns0.length:=by
    rw [Zqb,hq];simp only [List.append_assoc]
   rw [e1,e2]
   exact k3
  ·rw [h1] at hm;omega
theorem Chn.exp {l:List TK} {k D:Nat} (h:Chn l k D) (T:List Zam) (d a:Nat) (ns:List Zac) (hT:Seg T a l) (hd:d+D<=64) (hl:ns.length+k<=60) (hs:Stp T (a+l.length)) :
  ∃ t:ET,t.ok/\t.size=k/\PE T (.bin true) d a ns (.ok (Zcy ns.length t) (a+l.length) (ns++t.nodes ns.length)):=by
 obtain ⟨l0,k0,r,rfl,h1,h2,h3,rfl⟩:=h
 obtain ⟨hT0,hTr⟩:=hT.app
 rw [List.length_append,<- Nat.add_assoc] at hs
 obtain ⟨t0,f1,f2,f3⟩:=h1 T d a ns hT0 hd qo (Zre h3 hTr hs)
 obtain ⟨t1,r',a',g1,g2,g3,g4,g5,g6,g7,g8⟩:=Zrg r h3 T d (a+l0.length) ns t0 f1 hTr hd qo hs
 obtain ⟨t2,k1,k2,k3⟩:=Zx0 r'.length r' (Nat.le_refl _) g2 T d a' ns t1 g1 g6 hd qo (by rw [g5];exact hs) g7
 refine ⟨t2,k1,qo, ?_⟩
 rw [List.length_append,<- Nat.add_assoc,<- g5]
 exact PE.bin (add:=true) (PE.bin (add:=false) f3 g8) k3
theorem Chn.first {l:List TK} {k D:Nat} (h:Chn l k D) {T:List Zam} {a:Nat} (hT:Seg T a l):¬ (([]:List Int)=[]/\pk T a=[41]):=by
 obtain ⟨l0,k0,r,rfl,h1,⟨⟨q,s,u⟩,y,rfl,hne⟩,h3,rfl⟩:=h
 have h0:=hT.cons.1
 rintro ⟨_,hp⟩
 by_cases hk:q=3
 ·subst hk
  rw [Za9 h0] at hp
  subst hp
  exact hne u rfl
 ·rw [Zwt h0 hk] at hp
  cases hp
theorem Fac.num {s:List UInt8} {n:Nat} (hn:n<=2559999):Fac [(1,s,(n:Int))] 1 0:=λT d a ns hT hd hl hp =>
 ⟨.num n,hn,rfl,PE.num (hT 0 qs) qo qo⟩
theorem Fac.name {x:List UInt8} (hx:Zai x=true):Fac [(2,x,0)] 1 0:=λT d a ns hT hd hl hp =>
 ⟨.name x,hx,rfl,PE.name (hT 0 qs) qo qo hp⟩
theorem Fac.neg {l:List TK} {k D:Nat} (h:Fac l k D):Fac ((3,[45],0)::l) (k+1) (D+1):=λT d a ns hT hd hl hp=>by
 obtain ⟨t0,hT⟩:=hT.cons
 obtain ⟨t,h1,h2,h3⟩:=h T (d+1) (a+1) ns hT qo qo (by rw [show a+1+l.length=a+((3,[45],0)::l:List TK).length by simp;omega];exact hp)
 refine ⟨.neg t,h1,by simp [ET.size,h2], ?_⟩
 refine (PE.neg (Za9 t0) qo h3 (by rw [List.length_append,ET.nodes_len];omega)).eq ?_ (by simp;omega) (by simp [ET.nodes,Zcy])
 unfold Zcy;simp only [List.length_append,ET.nodes_len,ET.size];congr 1
theorem Fac.par {l:List TK} {k D:Nat} (h:Chn l k D):Fac ((3,[40],0)::(l++[(3,[41],0)])) k (D+1):=λT d a ns hT hd hl hp=>by
 obtain ⟨t0,hT⟩:=hT.cons
 obtain ⟨hT,hc⟩:=hT.app
 have hc:=Za9 (hc 0 qs)
 simp only [Nat.add_zero] at hc
 obtain ⟨t,h1,h2,h3⟩:=h.exp T (d+1) (a+1) ns hT qo qo (.of hc)
 exact ⟨t,h1,h2,(PE.par (Za9 t0) qo h3 hc).eq rfl (by simp;omega) rfl⟩
theorem Fac.call1 {x:List UInt8} {l:List TK} {k D:Nat} (hx:Zai x=true) (h:Chn l k D):Fac ((2,x,0)::(3,[40],0)::(l++[(3,[41],0)])) (k+1) (D+1):=λT d a ns hT hd hl hp=>by
 obtain ⟨t0,hT⟩:=hT.cons
 obtain ⟨t1,hT⟩:=hT.cons
 obtain ⟨hT,hc⟩:=hT.app
 have hc:=Za9 (hc 0 qs)
 simp only [Nat.add_zero] at hc
 obtain ⟨t,h1,h2,h3⟩:=h.exp T (d+1) (a+1+1) ns hT qo qo (.of hc)
 have h4:=PE.last (s:=x) (l:=[]) (h.first hT) qs h3 hc (by rw [List.length_append,ET.nodes_len];omega)
 refine ⟨.call1 x t,⟨hx,h1⟩,by simp [ET.size,h2],(PE.call t0 qo (Za9 t1) h4).eq ?_ (by simp;omega) (by simp [ET.nodes,Zcy])⟩
 unfold Zcy;simp only [List.length_append,ET.nodes_len,ET.size];congr 1
theorem Fac.call2 {x:List UInt8} {l m:List TK} {k j D:Nat} (hx:Zai x=true) (h:Chn l k D) (g:Chn m j D):Fac ((2,x,0)::(3,[40],0)::(l++(3,[44],0)::(m++[(3,[41],0)]))) (k+j+1) (D+1):=λT d a ns hT hd hl hp=>by
 obtain ⟨t0,hT⟩:=hT.cons
 obtain ⟨t1,hT⟩:=hT.cons
 obtain ⟨hTa,hT⟩:=hT.app
 obtain ⟨t2,hT⟩:=hT.cons
 obtain ⟨hTb,hc⟩:=hT.app
 have hc:=Za9 (hc 0 qs)
 simp only [Nat.add_zero] at hc
 have hm:=Za9 t2
 obtain ⟨u,h1,h2,h3⟩:=h.exp T (d+1) (a+1+1) ns hTa qo qo (.of hm)
 obtain ⟨v,g1,g2,g3⟩:=g.exp T (d+1) (a+1+1+l.length+1) (ns++u.nodes ns.length) hTb qo (by rw [List.length_append,ET.nodes_len];omega) (.of hc)
 have h4:=PE.last (s:=x) (l:=[Zcy ns.length u]) qs qs g3 hc (by simp only [List.length_append,ET.nodes_len];omega)
 have h5:=PE.more (s:=x) (l:=[]) (h.first hTa) qs h3 hm h4
 refine ⟨.call2 x u v,⟨hx,h1,g1⟩,by simp [ET.size,h2,g2],(PE.call t0 qo (Za9 t1) h5).eq ?_ (by simp;omega) (by simp [ET.nodes,Zcy,ET.nodes_len])⟩
 unfold Zcy;simp only [List.length_append,ET.nodes_len,ET.size];congr 1;omega
theorem Fac.call3 {x:List UInt8} {l m q:List TK} {k j i D:Nat} (hx:Zai x=true) (h:Chn l k D) (g:Chn m j D) (f:Chn q i D):Fac ((2,x,0)::(3,[40],0)::(l++(3,[44],0)::(m++(3,[44],0)::(q++[(3,[41],0)])))) (k+j+i+1) (D+1):=λT d a ns hT hd hl hp=>by
 obtain ⟨t0,hT⟩:=hT.cons
 obtain ⟨t1,hT⟩:=hT.cons
 obtain ⟨hTa,hT⟩:=hT.app
 obtain ⟨t2,hT⟩:=hT.cons
 obtain ⟨hTb,hT⟩:=hT.app
 obtain ⟨t3,hT⟩:=hT.cons
 obtain ⟨hTc,hc⟩:=hT.app
 have hc:=Za9 (hc 0 qs)
 simp only [Nat.add_zero] at hc
 have hm:=Za9 t2
 have hm2:=Za9 t3
 obtain ⟨u,h1,h2,h3⟩:=h.exp T (d+1) (a+1+1) ns hTa qo qo (.of hm)
 obtain ⟨v,g1,g2,g3⟩:=g.exp T (d+1) (a+1+1+l.length+1) (ns++u.nodes ns.length) hTb qo (by rw [List.length_append,ET.nodes_len];omega) (.of hm2)
 obtain ⟨y,f1,f2,f3⟩:=f.exp T (d+1) (a+1+1+l.length+1+m.length+1) (ns++u.nodes ns.length++v.nodes (ns++u.nodes ns.length).length) hTc qo (by simp only [List.length_append,ET.nodes_len];omega) (.of hc)
 have h4:=PE.last (s:=x) (l:=[Zcy ns.length u,Zcy (ns++u.nodes ns.length).length v]) qs qs f3 hc (by simp only [List.length_append,ET.nodes_len];omega)
 have h5:=PE.more (s:=x) (l:=[Zcy ns.length u]) qs qs g3 hm2 h4
 have h6:=PE.more (s:=x) (l:=[]) (h.first hTa) qs h3 hm h5
 refine ⟨.call3 x u v y,⟨hx,h1,g1,f1⟩,by simp [ET.size,h2,g2,f2],(PE.call t0 qo (Za9 t1) h6).eq ?_ (by simp;omega) (by simp [ET.nodes,Zcy,ET.nodes_len,Nat.add_assoc])⟩
 unfold Zcy;simp only [List.length_append,ET.nodes_len,ET.size];congr 1;omega
theorem Chn.fac {l:List TK} {k D:Nat} (h:Fac l k D) (hh:Hd l):Chn l k D:=⟨l,k,[],by simp [Zds],h,hh,(λx hx=>by cases hx),rfl⟩
theorem Hd.cons {x:TK} {l:List TK} (h:∀ v,x≠(3,[41],v):=by simp):Hd (x::l):=⟨x,l,rfl,h⟩
theorem Hd.app {x y:List TK} (h:Hd x):Hd (x++y):=by obtain ⟨a,l,rfl,h⟩:=h;exact ⟨a,_,rfl,h⟩
theorem Chn.bin {l m:List TK} {k j D:Nat} {c:UInt8} (h:Chn l k D) (g:Chn m j D) (hc:OpT c):Chn (l++(3,[c],0)::m) (k+j+1) D:=by
 obtain ⟨l0,k0,r,rfl,h1,h2,h3,rfl⟩:=h
 obtain ⟨m0,j0,s,rfl,g1,g2,g3,rfl⟩:=g
 refine ⟨l0,k0,r++(c,m0,j0)::s,by rw [Zxm,Zec];simp,h1,h2,λx hx=>?_,by rw [wR_app];simp only [wR];omega⟩
 rcases List.mem_append.1 hx with hx|hx
 ·exact h3 x hx
 ·rcases List.mem_cons.1 hx with rfl|hx
  ·exact ⟨hc,g1⟩
  ·exact g3 x hx
theorem Chn.neg {l:List TK} {k D:Nat} (h:Chn l k D):Chn ((3,[45],0)::l) (k+1) (D+1):=by
 obtain ⟨l0,k0,r,rfl,h1,h2,h3,rfl⟩:=h
 exact ⟨(3,[45],0)::l0,k0+1,r,rfl,h1.neg,.cons,h3.mono qo,qo⟩
theorem Zrz.int {w:List UInt8} (h:∀ b∈w,48<=b.toNat/\b.toNat<=57) (hl:w.length<=4):Zrz w (Zgu w*256):=by
 intro l hs
 have hsp:Zav isDg (w++l)=w.length:=DG.span_safe h hs.dg
 rw [Zfm hsp qo (λhc=>by
  rw [List.getElem?_append_right (Nat.le_refl _),Nat.sub_self,<- List.head?_eq_getElem?] at hc
  exact (hs 46 hc).2 rfl),List.take_left]
theorem Zrz.dot {w f:List UInt8} (h:∀ b∈w,48<=b.toNat/\b.toNat<=57) (hl:w.length<=4) (hf:∀ b∈f,48<=b.toNat/\b.toNat<=57) (h1:1<=f.length/\f.length<=4):Zrz (w++46::f) (Zgu w*256+Zgu f*256 / 10 ^ f.length):=by
 intro l hs
 have hsp:Zav isDg (w++(46::f++l))=w.length:=DG.span_safe h (λb hb=>by simp at hb;subst hb;decide)
 have hsp2:Zav isDg (f++l)=f.length:=DG.span_safe hf hs.dg
 have hdrop:(w++(46::f++l)).drop (w.length+1)=f++l:=by rw [<- List.drop_drop,List.drop_left];rfl
 rw [List.append_assoc,Zfn (p:=f.length) hsp qo (by rw [List.getElem?_append_right (Nat.le_refl _),Nat.sub_self];rfl) (by rw [hdrop];exact hsp2) qo,hdrop,List.take_left,List.take_left]
 simp only [List.length_append,List.length_cons,Option.some.injEq,Prod.mk.injEq,and_true]
 omega
def TX (n D B:Nat) (s:List UInt8):Prop:=∃ l k,k<=n/\Chn l k D/\(∀ rest ts,LX rest ts->Zu4 rest->LX (s++rest) (l++ts))/\s.length<=B
theorem TX.mono {n D B n' D' B':Nat} {s:List UInt8} (h:TX n D B s) (hn:n<=n') (hD:D<=D') (hB:B<=B'):TX n' D' B' s:=by
 obtain ⟨l,k,h1,h2,h3,h4⟩:=h
 exact ⟨l,k,qo,h2.mono hD,h3,qo⟩
theorem TX.num {s:List UInt8} {v:Nat} (h:Zrz s v) (hv:v<=2559999) (hd:∃ b r,s=b::r/\isDg b=true):TX 1 0 s.length s :=
 ⟨_,1,Nat.le_refl _,.fac (.num (s:=s) hv) .cons,λrest ts hr hs=>hr.num hs h hd,Nat.le_refl _⟩
theorem TX.name {s:List UInt8} (h:Zai s=true):TX 1 0 s.length s :=
 ⟨_,1,Nat.le_refl _,.fac (.name h) .cons,λrest ts hr hs=>hr.ident hs h,Nat.le_refl _⟩
def leafs:List (List UInt8):=[[117],[118],[120],[121],[122],[49],[48,46,53],[50],[48,46,50,53],[51,46,55,53]]
theorem TX.zero:TX 1 0 1 [48]:=TX.num (Zrz.int (w:=[48]) qd qd) qd ⟨48,[],rfl,qd⟩
theorem TX.one:TX 1 0 1 [49]:=TX.num (Zrz.int (w:=[49]) qd qd) qd ⟨49,[],rfl,qd⟩
theorem TX.leaf {s:List UInt8} (h:s∈leafs):TX 1 0 4 s:=by
 simp only [leafs,List.mem_cons,List.not_mem_nil,or_false] at h
 rcases h with rfl|rfl|rfl|rfl|rfl|rfl|rfl|rfl|rfl|rfl
 ·exact (TX.name qd).mono (Nat.le_refl _) (Nat.le_refl _) qd
 ·exact (TX.name qd).mono (Nat.le_refl _) (Nat.le_refl _) qd
 ·exact (TX.name qd).mono (Nat.le_refl _) (Nat.le_refl _) qd
 ·exact (TX.name qd).mono (Nat.le_refl _) (Nat.le_refl _) qd
 ·exact (TX.name qd).mono (Nat.le_refl _) (Nat.le_refl _) qd
 ·exact TX.one.mono (Nat.le_refl _) (Nat.le_refl _) qd
 ·exact (TX.num (Zrz.dot (w:=[48]) (f:=[53]) qd qd qd qd) qd ⟨48,_,rfl,qd⟩).mono (Nat.le_refl _) (Nat.le_refl _) qd
 ·exact (TX.num (Zrz.int (w:=[50]) qd qd) qd ⟨50,[],rfl,qd⟩).mono (Nat.le_refl _) (Nat.le_refl _) qd
 ·exact (TX.num (Zrz.dot (w:=[48]) (f:=[50,53]) qd qd qd qd) qd ⟨48,_,rfl,qd⟩).mono (Nat.le_refl _) (Nat.le_refl _) qd
 ·exact (TX.num (Zrz.dot (w:=[51]) (f:=[55,53]) qd qd qd qd) qd ⟨51,_,rfl,qd⟩).mono (Nat.le_refl _) (Nat.le_refl _) qd
def opTs:List (List UInt8):=[[32,43,32],[45],[32,42,32],[42],[32,47,32]]
section
variable {n n' n'' D B B' B'':Nat} {s t u:List UInt8}
theorem TX.bin {o:List UInt8} (h:TX n D B s) (g:TX n' D B' t) (ho:o∈opTs):TX (n+n'+1) D (B+3+B') (s++o++t):=by
 obtain ⟨l,k,h1,h2,h3,h4⟩:=h
 obtain ⟨m,j,g1,g2,g3,g4⟩:=g
 simp only [opTs,List.mem_cons,List.not_mem_nil,or_false] at ho
 have key:∀ c:UInt8,OpT c->(∀ rest ts,LX rest ts->LX (o++rest) ((3,[c],0)::ts)/\Zu4 (o++rest))->o.length<=3->TX (n+n'+1) D (B+3+B') (s++o++t):=λc hc hx hl =>
  ⟨_,_,qo,h2.bin g2 hc,λrest ts hr hs=>by
   have:=hx _ _ (g3 rest ts hr hs)
   have:=h3 _ _ this.1 this.2
   simpa using this,by simp only [List.length_append];omega⟩
 rcases ho with rfl|rfl|rfl|rfl|rfl
 ·exact key 43 (by unfold OpT;simp) (λrest ts hr=>⟨(((hr.sp (b:=32) qd).sym (b:=43)).sp (b:=32) qd),.cons⟩) qd
 ·exact key 45 (by unfold OpT;simp) (λrest ts hr=>⟨hr.sym (b:=45),.cons⟩) qd
 ·exact key 42 (by unfold OpT;simp) (λrest ts hr=>⟨(((hr.sp (b:=32) qd).sym (b:=42)).sp (b:=32) qd),.cons⟩) qd
 ·exact key 42 (by unfold OpT;simp) (λrest ts hr=>⟨hr.sym (b:=42),.cons⟩) qd
 ·exact key 47 (by unfold OpT;simp) (λrest ts hr=>⟨(((hr.sp (b:=32) qd).sym (b:=47)).sp (b:=32) qd),.cons⟩) qd
theorem TX.par (h:TX n D B s):TX n (D+1) (B+2) ([40]++s++[41]):=by
 obtain ⟨l,k,h1,h2,h3,h4⟩:=h
 exact ⟨_,_,h1,.fac (.par h2) .cons,λrest ts hr hs=>by simpa using (h3 _ _ (hr.sym (b:=41)) .cons).sym (b:=40),by simp;omega⟩
theorem TX.neg (h:TX n D B s):TX (n+1) (D+1) (B+1) ([45]++s):=by
 obtain ⟨l,k,h1,h2,h3,h4⟩:=h
 exact ⟨_,_,qo,h2.neg,λrest ts hr hs=>by simpa using (h3 _ _ hr hs).sym (b:=45),by simp;omega⟩
theorem TX.call1 {x:List UInt8} (hx:Zai x=true) (h:TX n D B s):TX (n+1) (D+1) (B+x.length+2) (x++[40]++s++[41]):=by
 obtain ⟨l,k,h1,h2,h3,h4⟩:=h
 exact ⟨_,_,qo,.fac (.call1 hx h2) .cons,λrest ts hr hs=>by simpa using ((h3 _ _ (hr.sym (b:=41)) .cons).sym (b:=40)).ident .cons hx,by simp;omega⟩
theorem TX.call2 {x m:List UInt8} (hx:Zai x=true) (hm:m=[44]∨m=[44,32]) (h:TX n D B s) (g:TX n' D B' t):TX (n+n'+1) (D+1) (B+B'+x.length+4) (x++[40]++s++m++t++[41]):=by
 obtain ⟨l,k,h1,h2,h3,h4⟩:=h
 obtain ⟨q,j,g1,g2,g3,g4⟩:=g
 refine ⟨_,_,qo,.fac (.call2 hx h2 g2) .cons,λrest ts hr hs=>?_,by rcases hm with rfl|rfl<;>simp<;>omega⟩
 have e1:=g3 _ _ (hr.sym (b:=41)) .cons
 rcases hm with rfl|rfl
 ·simpa using ((h3 _ _ (e1.sym (b:=44)) .cons).sym (b:=40)).ident .cons hx
 ·simpa using ((h3 _ _ ((e1.sp (b:=32) qd).sym (b:=44)) .cons).sym (b:=40)).ident .cons hx
theorem TX.call3 {x:List UInt8} (hx:Zai x=true) (h:TX n D B s) (g:TX n' D B' t) (f:TX n'' D B'' u):TX (n+n'+n''+1) (D+1) (B+B'+B''+x.length+4) (x++[40]++s++[44]++t++[44]++u++[41]):=by
 obtain ⟨l,k,h1,h2,h3,h4⟩:=h
 obtain ⟨q,j,g1,g2,g3,g4⟩:=g
 obtain ⟨p,i,f1,f2,f3,f4⟩:=f
 refine ⟨_,_,qo,.fac (.call3 hx h2 g2 f2) .cons,λrest ts hr hs=>?_,by simp;omega⟩
 have e0:=(f3 _ _ (hr.sym (b:=41)) .cons).sym (b:=44)
 have e1:=(g3 _ _ e0 .cons).sym (b:=44)
 simpa using ((h3 _ _ e1 .cons).sym (b:=40)).ident .cons hx
end
abbrev Asgn:=List UInt8×List TK×Nat
def Zd0 (as_:List Asgn):List TK:=as_.flatMap λx=>(2,x.1,0)::(3,[61],0)::(x.2.1++[(3,[59],0)])
def Zom:List Asgn->Nat
 | []=>0
 | x::r=>x.2.2+Zom r
def okA (as_:List Asgn):Prop:=∀ x∈as_,Zai x.1=true/\Chn x.2.1 x.2.2 60
theorem Znk:∀ (x y:List Asgn),Zom (x++y)=Zom x+Zom y
 | [],y=>by simp [Zom]
 | a::x,y=>by simp only [List.cons_append,Zom,Znk x y];omega
theorem Zxx {T:List Zam} (hT:TokOk T):∀ (as_:List Asgn) (a n:Nat) (ns:List Zac) (l:List Zab) (e:TK),okA as_->e.1=0->Seg T a (Zd0 as_++[e])->ns.length+Zom as_<=60->as_.length<n ->
  ∃ L:EL,okL L/\L.length=as_.length/\Zdy L=Zom as_/\asg T (Zc1 T) n a ns l=some (.ok (ns++Zcc L ns.length,l++Zly L ns.length))
 | [],a,n,ns,l,e,hok,he,hs,h2,h3=>by
  obtain ⟨n,rfl⟩:∃ m,n=m+1:=⟨n-1,by simp at h3;omega⟩
  have h0:=(Zps (k:=e.1) (s:=e.2.1) (v:=e.2.2) (hs 0 (by simp [Zd0]))).1
  refine ⟨[],(λx hx=>by cases hx),rfl,rfl, ?_⟩
  rw [asg,if_pos (by rw [<- he];exact h0)]
  simp [Zcc,Zly]
 | x::r,a,n,ns,l,e,hok,he,hs,h2,h3=>by
  obtain ⟨n,rfl⟩:∃ m,n=m+1:=⟨n-1,by simp at h3;omega⟩
  simp only [Zom,List.length_cons] at h2 h3
  have hs':Seg T a ((2,x.1,0)::(3,[61],0)::(x.2.1++(3,[59],0)::(Zd0 r++[e]))):=by simpa [Zd0] using hs
  obtain ⟨t0,hs'⟩:=hs'.cons
  obtain ⟨t1,hs'⟩:=hs'.cons
  obtain ⟨hx,hs'⟩:=hs'.app
  obtain ⟨t2,hr⟩:=hs'.cons
  have hc:=Za9 t2
  obtain ⟨o1,o2⟩:=hok x qs
  obtain ⟨t,k1,k2,k3⟩:=o2.exp T 1 (a+1+1) ns hx qo qo (.of hc)
  obtain ⟨L,g1,g2,g3,g4⟩:=Zxx hT r _ n (ns++t.nodes ns.length) (l++[(x.1,Zcy ns.length t)]) e (λy hy=>hok y (by simp [hy])) he hr (by rw [List.length_append,ET.nodes_len];omega) qo
  refine ⟨(x.1,t)::L,λy hy=>?_,by simp [g2],by simp only [Zdy,Zom];omega, ?_⟩
  ·rcases List.mem_cons.1 hy with rfl|hy
   ·exact ⟨o1,k1⟩
   ·exact g1 y hy
  ·rw [Zti hT t0 (Za9 t1) k3 hc,g4]
   simp [Zcc,Zly,ET.nodes_len,Zcy]
def PT (m q B:Nat) (s:List UInt8):Prop:=∃ as_:List Asgn,okA as_/\as_.length<=q/\Zom as_<=m/\(∀ rest ts,LX rest ts->LX (s++rest) (Zd0 as_++ts))/\s.length<=B/\(s≠[]->as_≠[])
theorem PT.nil:PT 0 0 0 []:=⟨[],(λx hx=>by cases hx),Nat.le_refl _,Nat.le_refl _,λrest ts h=>by simpa [Zd0] using h,Nat.le_refl _,λh=>absurd rfl h⟩
theorem PT.mono {m q B m' q' B':Nat} {s:List UInt8} (h:PT m q B s) (h1:m<=m') (h2:q<=q') (h3:B<=B'):PT m' q' B' s:=by
 obtain ⟨as_,a1,a2,a3,a4,a5,a6⟩:=h
 exact ⟨as_,a1,qo,qo,a4,qo,a6⟩
theorem PT.snoc {m q B n D B':Nat} {s x e z:List UInt8} (h:PT m q B s) (hx:Zai x=true) (he:TX n D B' e) (hD:D<=60) (hz:z=[]∨z=[10]):PT (m+n) (q+1) (B+x.length+B'+5) (s++(x++[32,61,32])++e++([59]++z)):=by
 obtain ⟨as_,a1,a2,a3,a4,a5,a6⟩:=h
 obtain ⟨l,k,h1,h2,h3,h4⟩:=he
 refine ⟨as_++[(x,l,k)],λy hy=>?_,by simp;omega,by rw [Znk];simp only [Zom];omega,λrest ts hr=>?_,by rcases hz with rfl|rfl<;>simp<;>omega,λ_=>by simp⟩
 ·rcases List.mem_append.1 hy with hy|hy
  ·exact a1 y hy
  ·obtain rfl:=List.mem_singleton.1 hy
   exact ⟨hx,h2.mono hD⟩
 ·have e0:LX (z++rest) ts:=by
   rcases hz with rfl|rfl
   ·exact hr
   ·exact hr.sp (b:=10) qd
  have e1:=((h3 _ _ (e0.sym (b:=59)) .cons).sp (b:=32) qd).sym (b:=61) |>.sp (b:=32) qd
  have:=a4 _ _ (e1.ident .cons hx)
  simpa [Zd0] using this
theorem PT.parse {m q B:Nat} {s:List UInt8} (h:PT m q B s) (hm:m<=60) (hq:q<=100) (hB:B<=2000) (hs:s≠[]):∃ L:EL,okL L/\L≠[]/\L.length<=q/\Zdy L<=m/\parF s=(Zfk L, -1):=by
 obtain ⟨as_,a1,a2,a3,a4,a5,a6⟩:=h
 have hx:LX s (Zd0 as_):=by simpa using a4 [] [] .nil
 obtain ⟨r,h1,h2⟩:=hx.toksF qo
 have hT:=Zju h1
 have hseg:Seg (r++[((0:Int),([]:List UInt8),(0:Int),(s.length:Int))]) 0 (Zd0 as_++[(0,[],0)]):=by
  have:=Seg.of (r:=r++[((0:Int),([]:List UInt8),(0:Int),(s.length:Int))]) (e:=(0,[],0,0)) (ts:=Zd0 as_++[(0,[],0)]) (by rw [List.map_append,h2];rfl)
  intro j hj
  have hj':j<(r++[((0:Int),([]:List UInt8),(0:Int),(s.length:Int))]).length:=by
   have e:r.length=(Zd0 as_).length:=by rw [<- h2];simp
   simp at hj ⊢;omega
  rw [<- this j hj]
  unfold tk
  simp only [Nat.zero_add,List.getD_eq_getElem?_getD]
  rw [List.getElem?_append_left hj']
 have hn:∀ (L:List Asgn),L.length<=(Zd0 L).length:=by
  intro L
  induction L with
  | nil=>exact Nat.zero_le _
  | cons x q ih=>simp [Zd0] at ih ⊢;omega
 have hrl:as_.length<=r.length:=by
  have:=hn as_
  rw [<- h2] at this
  simpa using this
 obtain ⟨L,g1,g2,g3,g4⟩:=Zxx hT as_ 0 ((r++[((0:Int),([]:List UInt8),(0:Int),(s.length:Int))]).length+1) [] [] (0,[],0) a1 rfl hseg (by simp;omega) (by simp;omega)
 refine ⟨L,g1,λe=>?_,qo,qo, ?_⟩
 ·subst e
  have:=a6 hs
  cases as_ with
  | nil=>exact this rfl
  | cons x y=>simp at g2
 ·unfold parF
  rw [h1]
  show Zpi _=_
  unfold Zpi
  rw [g4]
  simp [Zfk]
def bW:Nat->Nat
 | 0=>1
 | n+1=>2*bW n+2
def flb (b:UInt8):UInt8:=if b=10 then 32 else b
theorem Zxl (l:List UInt8):flatT l=l.map flb:=rfl
theorem flb_ne {b:UInt8} (h:b≠10):flb b=b:=if_neg h
theorem Zkv {f:UInt8->Bool} (h:f 32=f 10) (b:UInt8):f (flb b)=f b:=by
 unfold flb
 split
 ·rename_i e;subst e;exact h
 ·rfl
theorem Zg0 {f:UInt8->Bool} (h:f 32=f 10):∀ l:List UInt8,Zav f (l.map flb)=Zav f l
 | []=>rfl
 | b::l=>by rw [List.map_cons,Zav,Zav,Zkv h,Zg0 h l]
theorem Zj6 {l:List UInt8}:∀ {d:Nat},(∀ x∈l.take d,x≠10)->(l.map flb).take d=l.take d:=by
 intro d h
 rw [<- List.map_take]
 conv=>rhs;rw [<- List.map_id (l.take d)]
 exact List.map_congr_left λx hx=>flb_ne (h x hx)
theorem Zfj {f:UInt8->Bool} (h:f 10=false) (l:List UInt8) {d:Nat} (hd:d<=Zav f l):∀ x∈l.take d,x≠10:=by
 intro x hx e
 subst e
 obtain ⟨i,hi,e⟩:=List.getElem_of_mem hx
 rw [List.length_take] at hi
 obtain ⟨b,hb,hfb⟩:=Znl (f:=f) (l:=l) (j:=i) qo
 rw [List.getElem_take] at e
 rw [List.getElem?_eq_getElem qo,e] at hb
 obtain rfl:=Option.some.inj hb
 rw [h] at hfb
 cases hfb
theorem Zxu (l:List UInt8) (d:Nat):(l.map flb)[d]? = some 46↔l[d]? = some 46:=by
 rw [List.getElem?_map]
 cases l[d]? with
 | none=>simp
 | some b =>
  simp only [Option.map_some,Option.some.injEq]
  unfold flb
  split
  ·rename_i e;subst e;decide
  ·exact Iff.rfl
theorem Zrc (l:List UInt8):numTok (l.map flb)=numTok l:=by
 unfold numTok
 rw [Zg0 qd]
 dsimp only
 split
 ·rfl
 have t1:(l.map flb).take (Zav isDg l)=l.take (Zav isDg l):=Zj6 (Zfj qd l (Nat.le_refl _))
 by_cases h46:l[Zav isDg l]? = some 46
 ·rw [if_pos h46,if_pos ((Zxu l _).2 h46),<- List.map_drop,Zg0 qd,t1,Zj6 (Zfj qd _ (Nat.le_refl _))]
 ·rw [if_neg h46,if_neg (λh=>h46 ((Zxu l _).1 h)),t1]
theorem Zpa (l:List UInt8):Zaq (l.map flb)=Zaq l:=by
 match l with
 | []=>rfl
 | b::l =>
  have h1:=Zrc (b::l)
  have h2:=Zg0 (f:=λc=>isLt c||isDg c) qd (b::l)
  have h3:=Zkv (f:=isDg) qd b
  have h4:=Zkv (f:=isLt) qd b
  have h5:=Zkv (f:=isSy) qd b
  rw [List.map_cons] at h1 h2 ⊢
  unfold Zaq
  simp only [h1,h2,h3,h4,h5]
theorem Zt9 {l:List UInt8} {k:Int} {m v:Nat} (h:Zaq l=some (k,m,v)):∀ x∈l.take m,x≠10:=by
 match l with
 | []=>cases h
 | b::l =>
  have h':(if isDg b=true then (numTok (b::l)).map (λx=>((1:Int),x.1,x.2)) else if isLt b=true then (if 8<Zav (λc=>isLt c||isDg c) (b::l) then none else some ((2:Int),Zav (λc=>isLt c||isDg c) (b::l),0)) else if isSy b=true then some ((3:Int),1,0) else none)=some (k,m,v):=h
  clear h
  by_cases c1:isDg b=true
  ·rw [if_pos c1] at h'
   cases hn:numTok (b::l) with
   | none=>rw [hn] at h';cases h'
   | some y =>
    rw [hn] at h'
    obtain ⟨y1,y2⟩:=y
    simp only [Option.map_some,Option.some.injEq,Prod.mk.injEq] at h'
    obtain ⟨_,rfl,_⟩:=h'
    unfold numTok at hn
    generalize hd:Zav isDg (b::l)=d at hn
    dsimp only at hn
    by_cases c4:4<d
    ·rw [if_pos c4] at hn;cases hn
    rw [if_neg c4] at hn
    by_cases h46:(b::l)[d]? = some 46
    ·rw [if_pos h46] at hn
     by_cases cp:Zav isDg ((b::l).drop (d+1))<1∨4<Zav isDg ((b::l).drop (d+1))
     ·rw [if_pos cp] at hn;cases hn
     rw [if_neg cp] at hn
     simp only [Option.some.injEq,Prod.mk.injEq] at hn
     obtain ⟨rfl,_⟩:=hn
     intro x hx
     rw [List.take_add] at hx
     rcases List.mem_append.1 hx with hx|hx
     ·rw [List.take_add] at hx
      rcases List.mem_append.1 hx with hx|hx
      ·exact Zfj (f:=isDg) qd _ qo x hx
      ·obtain ⟨i,hi,e⟩:=List.getElem_of_mem hx
       rw [List.length_take] at hi
       obtain rfl:i=0:=qo
       rw [List.getElem_take,List.getElem_drop] at e
       have hlt:d<(b::l).length:=(List.getElem?_eq_some_iff.1 h46).1
       have e2:(b::l)[d]? = some x:=by rw [<- e,List.getElem?_eq_getElem hlt];simp
       rw [h46] at e2
       obtain rfl:=Option.some.inj e2
       decide
     ·exact Zfj (f:=isDg) qd _ (Nat.le_refl _) x hx
    ·rw [if_neg h46] at hn
     simp only [Option.some.injEq,Prod.mk.injEq] at hn
     obtain ⟨rfl,_⟩:=hn
     exact Zfj (f:=isDg) qd _ qo
  rw [if_neg c1] at h'
  by_cases c2:isLt b=true
  ·rw [if_pos c2] at h'
   by_cases c8:8<Zav (λc=>isLt c||isDg c) (b::l)
   ·rw [if_pos c8] at h';cases h'
   rw [if_neg c8] at h'
   simp only [Option.some.injEq,Prod.mk.injEq] at h'
   obtain ⟨_,rfl,_⟩:=h'
   exact Zfj (f:=λc=>isLt c||isDg c) qd _ (Nat.le_refl _)
  rw [if_neg c2] at h'
  by_cases c3:isSy b=true
  ·rw [if_pos c3] at h'
   simp only [Option.some.injEq,Prod.mk.injEq] at h'
   obtain ⟨_,rfl,_⟩:=h'
   intro x hx e
   subst e
   simp at hx
   subst hx
   revert c3;decide
  ·rw [if_neg c3] at h';cases h'
theorem LX.flat {s:List UInt8} {ts:List TK} (h:LX s ts):LX (flatT s) ts:=by
 induction h with
 | nil=>exact .nil
 | @sp b l ts hb h ih=>exact .sp (b:=flb b) (by rw [Zkv (f:=Zgb) qd];exact hb) ih
 | @tok b l k m v ts hb hs h ih =>
  have hne:b≠10:=by rintro rfl;revert hb;decide
  have e:flatT (b::l)=b::flatT l:=by rw [Zxl,List.map_cons,flb_ne hne];rfl
  have e2:b::flatT l=(b::l).map flb:=by rw [<- e];rfl
  have hs':Zaq (b::flatT l)=some (k,m,v):=by rw [e2,Zpa];exact hs
  have:=LX.tok (b:=b) (l:=flatT l) (ts:=ts) hb hs' (by rw [e2,<- List.map_drop];exact ih)
  rw [e2,Zj6 (Zt9 hs)] at this
  rw [e,e2]
  exact this
theorem Ztl {T:List Zam} (hT:TokOk T):∀ (L:EL) (a n:Nat) (ns:List Zac) (l:List Zab) (e:TK),okL L->e.1=0->Seg T a (Zgd L++[e])->(∀ x∈L,x.2.size<=32)->ns.length+Zdy L<=60->L.length<n ->
  asg T (Zc1 T) n a ns l=some (.ok (ns++Zcc L ns.length,l++Zly L ns.length))
 | [],a,n,ns,l,e,hok,he,hs,h1,h2,h3=>by
  obtain ⟨n,rfl⟩:∃ m,n=m+1:=⟨n-1,by simp at h3;omega⟩
  have h0:=(Zps (k:=e.1) (s:=e.2.1) (v:=e.2.2) (hs 0 (by simp [Zgd]))).1
  rw [asg,if_pos (by rw [<- he];exact h0)]
  simp [Zcc,Zly]
 | x::r,a,n,ns,l,e,hok,he,hs,h1,h2,h3=>by
  obtain ⟨n,rfl⟩:∃ m,n=m+1:=⟨n-1,by simp at h3;omega⟩
  simp only [Zdy,List.length_cons] at h2 h3
  have hx1:=h1 x qs
  have hs':Seg T a ((2,x.1,0)::(3,[61],0)::(x.2.toks++(3,[59],0)::(Zgd r++[e]))):=by simpa [Zgd] using hs
  obtain ⟨t0,hs'⟩:=hs'.cons
  obtain ⟨t1,hs'⟩:=hs'.cons
  obtain ⟨hx,hs'⟩:=hs'.app
  obtain ⟨t2,hr⟩:=hs'.cons
  have hc:=Za9 t2
  have hp:=x.2.size_pos
  have k:=(ET.parse hok.head.2 T 1 (a+1+1) ns hx qo qo (by rw [hc];decide)).exp (.of hc)
  rw [Zti hT t0 (Za9 t1) k hc,Ztl hT r _ n _ _ e hok.tail he hr (λy hy=>h1 y (by simp [hy])) (by rw [List.length_append,ET.nodes_len];omega) qo]
  simp [Zcc,Zly,ET.nodes_len]
theorem Zs4 {L:EL} {s:List UInt8} (hx:LX s (Zgd L)) (hsl:s.length<=2000) (h:okL L) (hb:∀ x∈L,x.2.size<=32) (hs:Zdy L<=60):parF s=(Zfk L, -1):=by
 obtain ⟨r,h1,h2⟩:=hx.toksF hsl
 have hT:=Zju h1
 have hseg:Seg (r++[((0:Int),([]:List UInt8),(0:Int),(s.length:Int))]) 0 (Zgd L++[(0,[],0)]):=by
  have:=Seg.of (r:=r++[((0:Int),([]:List UInt8),(0:Int),(s.length:Int))]) (e:=(0,[],0,0)) (ts:=Zgd L++[(0,[],0)]) (by rw [List.map_append,h2];rfl)
  intro j hj
  have hj':j<(r++[((0:Int),([]:List UInt8),(0:Int),(s.length:Int))]).length:=by
   have e:r.length=(Zgd L).length:=by rw [<- h2];simp
   simp at hj ⊢;omega
  rw [<- this j hj]
  unfold tk
  simp only [Nat.zero_add,List.getD_eq_getElem?_getD]
  rw [List.getElem?_append_left hj']
 have hn:∀ (L:EL),L.length<=(Zgd L).length:=by
  intro L
  induction L with
  | nil=>exact Nat.zero_le _
  | cons x q ih=>simp [Zgd];omega
 have hrl:L.length<=r.length:=by
  have:=hn L
  rw [<- h2] at this
  simpa using this
 unfold parF
 rw [h1]
 show Zpi _=_
 unfold Zpi
 rw [Ztl hT L 0 _ [] [] (0,[],0) h rfl hseg hb (by simp;omega) (by simp;omega)]
 simp [Zfk]
def RT (p:Zag):Prop:=parF (flatT (Zf9 p))=(p, -1)
theorem RT.of {L:EL} (h:okL L) (hb:∀ x∈L,x.2.size<=32) (hs:Zdy L<=60) (hl:L.length<=20):RT (Zfk L):=by
 unfold RT
 rw [Zpe h hs]
 have:=Zoy L h
 exact Zs4 (Zox L h).flat (by rw [Zkw];omega) h hb hs
def Zkq:List (List UInt8):=[[117],[118],[120],[121],[122],[116],[49],[48,46,53],[50],[48,46,50,53]]
theorem TX.leaf14 {s:List UInt8} (h:s∈Zkq):TX 1 0 4 s:=by
 simp only [Zkq,List.mem_cons,List.not_mem_nil,or_false] at h
 rcases h with rfl|rfl|rfl|rfl|rfl|rfl|rfl|rfl|rfl|rfl
 ·exact TX.leaf qd
 ·exact TX.leaf qd
 ·exact TX.leaf qd
 ·exact TX.leaf qd
 ·exact TX.leaf qd
 ·exact (TX.name qd).mono (Nat.le_refl _) (Nat.le_refl _) qd
 ·exact TX.leaf qd
 ·exact TX.leaf qd
 ·exact TX.leaf qd
 ·exact TX.leaf qd
section
variable {n n' n'' D B B' B'':Nat} {s t u:List UInt8}
theorem TX.bin14 (c:UInt8) (hc:OpT c) (hs:Zgb c=false/\isDg c=false/\isLt c=false/\isSy c=true) (h:TX n D B s) (g:TX n' D B' t):TX (n+n'+1) D (B+3+B') (s++[32,c,32]++t):=by
 obtain ⟨l,k,h1,h2,h3,h4⟩:=h
 obtain ⟨m,j,g1,g2,g3,g4⟩:=g
 exact ⟨_,_,qo,h2.bin g2 hc,λrest ts hr hs'=>by
  have:=h3 _ _ ((((g3 rest ts hr hs').sp (b:=32) qd).sym (b:=c) hs).sp (b:=32) qd) .cons
  simpa using this,by simp only [List.length_append,List.length_cons,List.length_nil];omega⟩
theorem TX.call3s {x:List UInt8} (hx:Zai x=true) (h:TX n D B s) (g:TX n' D B' t) (f:TX n'' D B'' u):TX (n+n'+n''+1) (D+1) (B+B'+B''+x.length+6) (x++[40]++s++[44,32]++t++[44,32]++u++[41]):=by
 obtain ⟨l,k,h1,h2,h3,h4⟩:=h
 obtain ⟨q,j,g1,g2,g3,g4⟩:=g
 obtain ⟨p,i,f1,f2,f3,f4⟩:=f
 refine ⟨_,_,qo,.fac (.call3 hx h2 g2 f2) .cons,λrest ts hr hs=>?_,by simp;omega⟩
 have e0:=((f3 _ _ (hr.sym (b:=41)) .cons).sp (b:=32) qd).sym (b:=44)
 have e1:=((g3 _ _ e0 .cons).sp (b:=32) qd).sym (b:=44)
 simpa using ((h3 _ _ e1 .cons).sym (b:=40)).ident .cons hx
end
def cB:Nat->Nat
 | 0=>4
 | n+1=>2*cB n+14
def PU (m q B M:Nat) (s:List UInt8):Prop:=∃ as_:List Asgn,okA as_/\as_.length<=q/\Zom as_<=m/\(∀ rest ts,LX rest ts->LX (s++rest) (Zd0 as_++ts))/\s.length<=B/\(∀ x∈as_,x.2.2<=M)
theorem PU.nil (M:Nat):PU 0 0 0 M []:=⟨[],(λx hx=>by cases hx),Nat.le_refl _,Nat.le_refl _,λrest ts h=>by simpa [Zd0] using h,Nat.le_refl _,(λx hx=>by cases hx)⟩
theorem PU.mono {m q B m' q' B' M:Nat} {s:List UInt8} (h:PU m q B M s) (h1:m<=m') (h2:q<=q') (h3:B<=B'):PU m' q' B' M s:=by
 obtain ⟨as_,a1,a2,a3,a4,a5,a6⟩:=h
 exact ⟨as_,a1,qo,qo,a4,qo,a6⟩
theorem PU.len {m q B M:Nat} {s:List UInt8} (h:PU m q B M s):s.length<=B:=by obtain ⟨_,_,_,_,_,h,_⟩:=h;exact h
theorem PU.snoc {m q B n D B' M:Nat} {s x e:List UInt8} (h:PU m q B M s) (hx:Zai x=true) (he:TX n D B' e) (hD:D<=60) (hn:n<=M):PU (m+n) (q+1) (B+x.length+B'+5) M (s++(x++[32,61,32])++e++[59,10]):=by
 obtain ⟨as_,a1,a2,a3,a4,a5,a6⟩:=h
 obtain ⟨l,k,h1,h2,h3,h4⟩:=he
 refine ⟨as_++[(x,l,k)],λy hy=>?_,by simp;omega,by rw [Znk];simp only [Zom];omega,λrest ts hr=>?_,by simp;omega,λy hy=>?_⟩
 ·rcases List.mem_append.1 hy with hy|hy
  ·exact a1 y hy
  ·obtain rfl:=List.mem_singleton.1 hy
   exact ⟨hx,h2.mono hD⟩
 ·have e0:LX ([10]++rest) ts:=hr.sp (b:=10) qd
  have e1:=((h3 _ _ (e0.sym (b:=59)) .cons).sp (b:=32) qd).sym (b:=61) |>.sp (b:=32) qd
  have:=a4 _ _ (e1.ident .cons hx)
  simpa [Zd0] using this
 ·rcases List.mem_append.1 hy with hy|hy
  ·exact a6 y hy
  ·obtain rfl:=List.mem_singleton.1 hy
   show k<=M;omega
theorem Ztk {T:List Zam} (hT:TokOk T) {M:Nat}:∀ (as_:List Asgn) (a n:Nat) (ns:List Zac) (l:List Zab) (e:TK),okA as_->(∀ x∈as_,x.2.2<=M)->e.1=0->Seg T a (Zd0 as_++[e])->ns.length+Zom as_<=60->as_.length<n ->
  ∃ L:EL,okL L/\L.length=as_.length/\Zdy L=Zom as_/\(∀ x∈L,x.2.size<=M)/\asg T (Zc1 T) n a ns l=some (.ok (ns++Zcc L ns.length,l++Zly L ns.length))
 | [],a,n,ns,l,e,hok,hM,he,hs,h2,h3=>by
  obtain ⟨n,rfl⟩:∃ m,n=m+1:=⟨n-1,by simp at h3;omega⟩
  have h0:=(Zps (k:=e.1) (s:=e.2.1) (v:=e.2.2) (hs 0 (by simp [Zd0]))).1
  refine ⟨[],(λx hx=>by cases hx),rfl,rfl,(λx hx=>by cases hx), ?_⟩
  rw [asg,if_pos (by rw [<- he];exact h0)]
  simp [Zcc,Zly]
 | x::r,a,n,ns,l,e,hok,hM,he,hs,h2,h3=>by
  obtain ⟨n,rfl⟩:∃ m,n=m+1:=⟨n-1,by simp at h3;omega⟩
  simp only [Zom,List.length_cons] at h2 h3
  have hs':Seg T a ((2,x.1,0)::(3,[61],0)::(x.2.1++(3,[59],0)::(Zd0 r++[e]))):=by simpa [Zd0] using hs
  obtain ⟨t0,hs'⟩:=hs'.cons
  obtain ⟨t1,hs'⟩:=hs'.cons
  obtain ⟨hx,hs'⟩:=hs'.app
  obtain ⟨t2,hr⟩:=hs'.cons
  have hc:=Za9 t2
  obtain ⟨o1,o2⟩:=hok x qs
  obtain ⟨t,k1,k2,k3⟩:=o2.exp T 1 (a+1+1) ns hx qo qo (.of hc)
  obtain ⟨L,g1,g2,g3,g5,g4⟩:=Ztk hT r _ n (ns++t.nodes ns.length) (l++[(x.1,Zcy ns.length t)]) e (λy hy=>hok y (by simp [hy])) (λy hy=>hM y (by simp [hy])) he hr (by rw [List.length_append,ET.nodes_len];omega) qo
  refine ⟨(x.1,t)::L,λy hy=>?_,by simp [g2],by simp only [Zdy,Zom];omega,λy hy=>?_, ?_⟩
  ·rcases List.mem_cons.1 hy with rfl|hy
   ·exact ⟨o1,k1⟩
   ·exact g1 y hy
  ·rcases List.mem_cons.1 hy with rfl|hy
   ·have:=hM x qs
    show t.size<=M;omega
   ·exact g5 y hy
  ·rw [Zti hT t0 (Za9 t1) k3 hc,g4]
   simp [Zcc,Zly,ET.nodes_len,Zcy]
theorem PU.parse {m q B:Nat} {s:List UInt8} (h:PU m q B 32 s) (hm:m<=60) (hq:q<=20) (hB:B<=2000):∃ p:Zag,parF s=(p, -1)/\RT p:=by
 obtain ⟨as_,a1,a2,a3,a4,a5,a6⟩:=h
 have hx:LX s (Zd0 as_):=by simpa using a4 [] [] .nil
 obtain ⟨r,h1,h2⟩:=hx.toksF qo
 have hT:=Zju h1
 have hseg:Seg (r++[((0:Int),([]:List UInt8),(0:Int),(s.length:Int))]) 0 (Zd0 as_++[(0,[],0)]):=by
  have:=Seg.of (r:=r++[((0:Int),([]:List UInt8),(0:Int),(s.length:Int))]) (e:=(0,[],0,0)) (ts:=Zd0 as_++[(0,[],0)]) (by rw [List.map_append,h2];rfl)
  intro j hj
  have hj':j<(r++[((0:Int),([]:List UInt8),(0:Int),(s.length:Int))]).length:=by
   have e:r.length=(Zd0 as_).length:=by rw [<- h2];simp
   simp at hj ⊢;omega
  rw [<- this j hj]
  unfold tk
  simp only [Nat.zero_add,List.getD_eq_getElem?_getD]
  rw [List.getElem?_append_left hj']
 have hn:∀ (L:List Asgn),L.length<=(Zd0 L).length:=by
  intro L
  induction L with
  | nil=>exact Nat.zero_le _
  | cons x q ih=>simp [Zd0] at ih ⊢;omega
 have hrl:as_.length<=r.length:=by
  have:=hn as_
  rw [<- h2] at this
  simpa using this
 obtain ⟨L,g1,g2,g3,g5,g4⟩:=Ztk hT as_ 0 ((r++[((0:Int),([]:List UInt8),(0:Int),(s.length:Int))]).length+1) [] [] (0,[],0) a1 a6 rfl hseg (by simp;omega) (by simp;omega)
 refine ⟨Zfk L, ?_,RT.of g1 g5 qo qo⟩
 unfold parF
 rw [h1]
 show Zpi _=_
 unfold Zpi
 rw [g4]
 simp [Zfk]
theorem Zrp:Za3 (Zfk [([99,111,108,111,114],.name [117])])=true:=kr
theorem Zug:∃ p:Zag,parF [99,111,108,111,114,32,61,32,117,59]=(p, -1)/\RT p/\Za3 p=true:=by
 have hok:okL [([99,111,108,111,114],ET.name [117])]:=λx hx=>by
  obtain rfl:=List.mem_singleton.1 hx
  exact ⟨qd,by show Zai [117]=true;decide⟩
 have hb:∀ x∈([([99,111,108,111,114],ET.name [117])]:EL),x.2.size<=32:=λx hx=>by
  obtain rfl:=List.mem_singleton.1 hx
  decide
 refine ⟨Zfk [([99,111,108,111,114],.name [117])],Zs4 ?_ qd hok hb qd,RT.of hok hb qd qd,Zrp⟩
 have e0:LX [59] [((3:Int),[59],0)]:=LX.nil.sym (b:=59)
 have e1:LX ([117]++[59]) ((2,[117],0)::[((3:Int),[59],0)]):=e0.ident .cons qd
 have e2:=((e1.sp (b:=32) qd).sym (b:=61)).sp (b:=32) qd
 exact LX.ident (x:=[99,111,108,111,114]) e2 .cons qd
theorem Zrb {a b c d f g:Int} {e:Bool} (h:Za4 a b c d f g=true):parCam (Zn6 a b c d e f g)=some (a,b,c,d,e,f,g):=by
 have h0:=h
 unfold Za4 at h
 simp only [Bool.and_eq_true] at h
 obtain ⟨h1,h2,h3,h4,h5,h6⟩:=h
 have:=Za6 h1
 have:=Za6 h2
 have:=Za6 h3
 have:=Za6 h4
 have:=Za6 h5
 have:=Za6 h6
 have he:((if e=true then (1:Int) else 0)==1)=e:=by cases e<;>rfl
 unfold parCam
 have hp:Zbm (Zn6 a b c d e f g)=some [a,b,c,d,if e then 1 else 0,f,g]:=by
  unfold Zn6
  refine Zhm (λx hx=>?_) qs
  simp only [List.mem_cons,List.not_mem_nil,or_false] at hx
  unfold Zca
  rcases hx with rfl|rfl|rfl|rfl|rfl|rfl|rfl
  ·omega
  ·omega
  ·omega
  ·omega
  ·split<;>omega
  ·omega
  ·omega
 rw [hp]
 simp only [he,h0,decide_true,Bool.and_self,if_true]
def Zr0 (p:Zau):Prop:=∃ a b c d:Zi8,p=Zst a b c d
def Zrr (x:Zbt):Prop:=Zr0 x.1/\Zr0 x.2.1
theorem Zmn {p:Zau} (hm:Zr0 p) (hv:Zba p=true):parPt (Zia p)=some p:=by
 obtain ⟨a,b,c,d,rfl⟩:=hm
 unfold Zba at hv
 simp only [Bool.and_eq_true] at hv
 exact Zun rfl hv.1 hv.2.1 hv.2.2.1 hv.2.2.2
theorem Znt {x:Zbt} {n:Int} (hn:n<=3) (hm:Zrr x) (hv:Zch n x=true):parSurf (splitB 32 (fmtI x.2.2.1++[32]++fmtI x.2.2.2++[32]++Zia x.1++[32]++Zia x.2.1))=x:=by
 unfold Zch at hv
 simp only [Bool.and_eq_true,decide_eq_true_eq] at hv
 obtain ⟨v1,v2,v3,v4,v5⟩:=hv
 have hr:Zca x.2.2.2:=by unfold Zq4 at v5;simp only [decide_eq_true_eq] at v5;unfold Zca;omega
 have hsh:Zca x.2.2.1:=by unfold Zca;omega
 have o32:OffN 32:=by unfold OffN;decide
 have e:fmtI x.2.2.1++[32]++fmtI x.2.2.2++[32]++Zia x.1++[32]++Zia x.2.1=join (fmtI x.2.2.1::fmtI x.2.2.2::(Zh0 x.1++Zh0 x.2.1)) [32]:=by
  simp [Zia,Zh0,join_cons,joinTail]
 rw [e,Zcx qs (λl hl=>by
  simp only [List.mem_cons,List.mem_append] at hl
  rcases hl with rfl|rfl|hl|hl
  ·exact NoB.fmtI ⟨o32.1,o32.2.2⟩ _
  ·exact NoB.fmtI ⟨o32.1,o32.2.2⟩ _
  ·exact Zq6 _ l hl
  ·exact Zq6 _ l hl)]
 have p1:=Zmn hm.1 v1
 have p2:=Zmn hm.2 v2
 obtain ⟨x1,x2,x3,x4⟩:=x
 unfold Zia Zh0 at p1 p2
 simp only [Zh0,List.cons_append,List.nil_append,parSurf]
 simp only at p1 p2 hr hsh
 rw [p1,p2,Zei hr,Zei hsh]
 rfl
theorem updI_cam {z:EScene} {v:List UInt8}:updI z (wCam++[32]++v)=setCam z (parCam v):=by
 unfold updI
 rw [Zk1 (Zew 32 _)]
 rfl
theorem updI_tex {z:EScene} {v:List UInt8}:updI z (wTex++[32]++v)=setTex z (parTex v):=by
 unfold updI
 rw [Zk1 (Zew 32 _)]
 rfl
theorem Zv3 {z:EScene} {v:List UInt8}:updI z (Zvz++[32]++v)={ z with side:=(parseI v).getD 0 }:=by
 unfold updI
 rw [Zk1 (Zew 32 _)]
 rfl
theorem Zv4 {z:EScene} {v:List UInt8}:updI z (Zv0++[32]++v)={ z with ps:=z.ps++[(parF v).1] }:=by
 unfold updI
 rw [Zk1 (Zew 32 _)]
 rfl
theorem Zv2 {z:EScene} {v:List UInt8}:updI z (Zts++[32]++v)={ z with ss:=z.ss++[parSurf (splitB 32 v)] }:=by
 unfold updI
 rw [Zk1 (Zew 32 _)]
 rfl
theorem Zm2:∀ (l:List Zag) (z:EScene),(∀ p∈l,RT p)->(l.map Zq0).foldl updI z={ z with ps:=z.ps++l }
 | [],z,_=>by simp
 | p::l,z,h=>by
  have e:Zq0 p=Zv0++[32]++flatT (Zf9 p):=rfl
  have hp:parF (flatT (Zf9 p))=(p, -1):=h p qs
  rw [List.map_cons,List.foldl_cons,e,Zv4,hp,Zm2 l _ (λq hq=>h q (by simp [hq]))]
  simp
theorem Zm1 {n:Int} (hn:n<=3):∀ (l:List Zbt) (z:EScene),(∀ x∈l,Zrr x/\Zch n x=true)->(l.map Zh5).foldl updI z={ z with ss:=z.ss++l }
 | [],z,_=>by simp
 | x::l,z,h=>by
  have e:Zh5 x=Zts++[32]++(fmtI x.2.2.1++[32]++fmtI x.2.2.2++[32]++Zia x.1++[32]++Zia x.2.1):=by simp [Zh5,Zts]
  rw [List.map_cons,List.foldl_cons,e,Zv2,Znt hn (h x qs).1 (h x qs).2,Zm1 hn l _ (λq hq=>h q (by simp [hq]))]
  simp
structure SceneG (s:EScene):Prop where
 ok:Zbb s=true
 rt:∀ p∈s.ps,RT p
 made:∀ x∈s.ss,Zrr x
theorem Zpk {s:EScene} (h:SceneG s):pI (Zb0 s)=s:=by
 have hi:=Zkc h.ok
 unfold pI
 rw [Zje h.ok]
 unfold Zbk
 rw [List.foldl_append,List.foldl_append]
 have e1:(Zn1 s).foldl updI zScene={ zScene with a:=s.a,b:=s.b,c:=s.c,d:=s.d,e:=s.e,f:=s.f,g:=s.g,log:=s.log,tex:=s.tex,side:=s.side }:=by
  have hside:Zca s.side:=by have:=hi.side;unfold Zls at this;simp only [decide_eq_true_eq] at this;unfold Zca;omega
  show updI (updI (updI zScene (wCam++[32]++Zn6 s.a s.b s.c s.d s.e s.f s.g)) (wTex++[32]++Zvw s.log s.tex)) (Zvz++[32]++fmtI s.side)=_
  rw [updI_cam,updI_tex,Zv3,Zrb hi.cam,Zq9 hi.tex,Zei hside]
  rfl
 rw [e1,Zm2 _ _ h.rt,Zm1 (n:=s.ps.length) (by have:=hi.np;omega) _ _ (λx hx=>⟨h.made x hx,by
  obtain ⟨i,hi',rfl⟩:=List.getElem_of_mem hx
  exact Zmg hi.surf hi'⟩)]
 cases s
 simp [zScene]
theorem Zu3 {s:EScene} (h:SceneG s):(Zbb (pI (Zb0 s))&&decide (Zb0 (pI (Zb0 s))=Zb0 s))=true/\(linesT (Zb0 s)).length<=11:=by
 rw [Zpk h,h.ok,Zje h.ok]
 exact ⟨qs,Zpp (Zkc h.ok)⟩
theorem Zml {s:EScene} (h:SceneIs s):Zbb s=true:=by
 unfold Zbb
 simp only [Bool.and_eq_true,decide_eq_true_eq]
 have:=h.np
 exact ⟨h.cam,h.tex,Zbw qo qo,h.ns,h.side,h.shad,h.surf⟩
theorem Zwc {x:Zbt} {n:Int} (hn:1<=n) (h:Zch 1 x=true):Zch n x=true:=by
 unfold Zch at h ⊢
 simp only [Bool.and_eq_true,decide_eq_true_eq] at h ⊢
 obtain ⟨v1,v2,v3,v4,v5⟩:=h
 exact ⟨v1,v2,v3,qo,v5⟩
theorem Zo1 {n:Int} {l:List Zbt} {x:Zbt} (h:Zcj n l l.length=true) (hx:Zch n x=true):Zcj n (l++[x]) (l++[x]).length=true:=by
 unfold Zcj at h ⊢
 rw [List.take_length] at h ⊢
 rw [List.all_append,h]
 simp [hx]
theorem Zo7 {s:EScene} {x:Zbt} (h:Zbb s=true) (hl:s.ss.length<=4) (hx:Zch 1 x=true):Zbb { s with ss:=s.ss++[x] }=true:=by
 have hi:=Zkc h
 have hnp:=hi.np
 exact Zml ⟨hi.cam,hi.tex,hi.np,by show (s.ss++[x]).length<=5;rw [List.length_append];show s.ss.length+1<=5;omega,hi.side,hi.shad,Zo1 hi.surf (Zwc (n:=s.ps.length) qo hx)⟩
set_option maxRecDepth 100000
section
variable {P:Program} {w w':World} {ops:Array Oper} {o:Oper} {a:Act} {K:Act->World->Prop} {Q:Exit->Act->World->Prop} {E:Prop}
theorem Zt3 (hg:o.guard=none) (t:TypeId) (x:Operand) (ho:o.op=.load t x) {p v:Value} (hx:a.eval x=p) (hr:(Instr.loadAt t p).run P w=.ok v w') (h:K (a.put o.dst v) w'):if Region.wanted o (yielded ops a.tmps)=true then Oper.wp P o a w K Q else E:=by
 have hw:Region.wanted o (yielded ops a.tmps)=true:=by simp [Region.wanted,hg]
 rw [if_pos hw]
 unfold Oper.wp execOp
 simp only [ho,Sem.run_bind,Sem.run_pure,Result.andThen_ok,hx,hr]
 exact h
end
theorem Zjs:(Tryz.prog.info? 45).map (·.size)=some 26:=kr
set_option maxHeartbeats 64000000 in
theorem Zqp {s:EScene} {x:Zbt} {TX P Q:OA} {tc pc qc base:Nat} (w:World) (h:SceneR w base [] s TX tc P pc Q qc) (hN:Zdp s) (hok:Zbb s=true) (hxo:Zch 1 x=true) (h1:s.tex.length<=1048576) (h2:s.ps.length<=1000000) (h3:s.ss.length<=4) :
  CL 13 #[.agg ⟨cS s TX tc P pc Q qc⟩,.agg ⟨eSurf x⟩] w (Ze7 { s with ss:=s.ss++[x] } true w):=by
 have HN:=hdQ hN
 have HOKF:=qh (Zbb { s with ss:=s.ss++[x] }=true) (Zo7 hok h3 hxo)
 have hal:∀ wx:World,(Instr.alloc 30 true (.tuple #[])).run Tryz.prog wx=.ok (.pointer (some ⟨wx.heap.size,0,none⟩)) (wx.alloc (.cells ⟨zS⟩ 30)):=λwx=>by kernel_rfl
 have hbx:∀ wx:World,(Instr.box 30 (.agg ⟨cS s TX tc P pc Q qc⟩)).run Tryz.prog wx=.ok (.pointer (some ⟨wx.heap.size,0,none⟩)) (wx.alloc (.cells ⟨cS s TX tc P pc Q qc⟩ 30)):=λwx=>by kernel_rfl
 have hby:∀ wx:World,(Instr.box 45 (.agg ⟨eSurf x⟩)).run Tryz.prog wx=.ok (.pointer (some ⟨wx.heap.size,0,none⟩)) (wx.alloc (.cells ⟨eSurf x⟩ 45)):=λwx=>by kernel_rfl
 obtain ⟨F,hF⟩:∃ F,F=eSurf x:=⟨_,rfl⟩
 have hFl:F.length=26:=by rw [hF];rfl
 have HFX:=hdQ hF
 obtain ⟨E,hE⟩:∃ E,E=cS s TX tc P pc Q qc:=⟨_,rfl⟩
 have hEl:E.length=12:=by rw [hE];rfl
 have HEX:=hdQ hE
 rw [<- hE] at hbx ⊢
 rw [<- hF] at hby ⊢
 clear hE hF
 obtain ⟨W1,hW1⟩:∃ W1,W1=w.alloc (.cells ⟨E⟩ 30):=⟨_,rfl⟩
 obtain ⟨W2,hW2⟩:∃ W2,W2=W1.alloc (.cells ⟨F⟩ 45):=⟨_,rfl⟩
 obtain ⟨W3,hW3⟩:∃ W3,W3=W2.alloc (.cells ⟨zS⟩ 30):=⟨_,rfl⟩
 have hz1:W1.heap.size=w.heap.size+1:=by rw [hW1];simp
 have hz2:W2.heap.size=w.heap.size+2:=by rw [hW2];simp;omega
 have hz3:W3.heap.size=w.heap.size+3:=by rw [hW3];simp;omega
 have HBX:=qh ((Instr.box 30 (.agg ⟨E⟩)).run Tryz.prog w=.ok (.pointer (some ⟨w.heap.size,0,none⟩)) W1) (by rw [hW1];exact hbx w)
 have HBY:=qh ((Instr.box 45 (.agg ⟨F⟩)).run Tryz.prog W1=.ok (.pointer (some ⟨w.heap.size+1,0,none⟩)) W2) (by rw [hW2,<- hz1];exact hby W1)
 have HAL:=qh ((Instr.alloc 30 true (.tuple #[])).run Tryz.prog W2=.ok (.pointer (some ⟨w.heap.size+2,0,none⟩)) W3) (by rw [hW3,<- hz2];exact hal W2)
 have HE3:=qh (Own W3 w.heap.size 30 E) (by rw [hW3,hW2,hW1];exact Own.alloc (Own.alloc (Own.new w _ _) _) _)
 have HF3:=qh (Own W3 (w.heap.size+1) 45 F) (by rw [hW3,hW2];exact Own.alloc (Own.at_new (cs:=⟨F⟩) hz1.symm) _)
 have HR3:=qh (Own W3 (w.heap.size+2) 30 zS) (by rw [hW3];exact Own.at_new (cs:=⟨zS⟩) hz2.symm)
 have HB3:=qh (Bw w W3) (by rw [hW3,hW2,hW1];exact (((Below.refl _ _).alloc (Nat.le_refl _) _).alloc qs _).alloc (by simp;omega) _)
 have HLD:=qh ((Instr.loadAt 30 (.pointer (some ⟨w.heap.size,0,none⟩))).run Tryz.prog W3=.ok (.agg ⟨E⟩) W3) (Zak (P:=Tryz.prog) Tryz.underlying30 rfl (by rw [hEl];exact Za2) (λj v hv=>by rw [Nat.zero_add,HE3.out.cell];exact hv))
 have HCP:=qh (CL 49 #[.agg ⟨E⟩] W3 λe w'=>∃ X b,e=.returned (.pointer (some ⟨X,0,none⟩))/\W3.heap.size<=b/\b<=w'.heap.size/\W3.heap.size<=X/\(∃ (T':OA) (t':Nat) (P':OA) (p':Nat) (Q':OA) (q':Nat),Own w' X 30 (cS s T' t' P' p' Q' q')/\SceneR w' b [X] s T' t' P' p' Q' q')/\Bw W3 w') (by
  rw [HEX.out];exact Zr8 W3 (h.step HB3.out) hN h1 h2 qo)
 clear hW1 hW2 hW3 hbx hby h hN hok hxo hal
 go_enter Tryz.func13,Tryz.ntmps13
 go_wp2_with ((with_reducible refine Zdc ?_);first|(refine Zgc rfl 30 (.tmp 0) rfl rfl HBX.out ?_)|(refine Zgc rfl 45 (.tmp 1) rfl rfl HBY.out ?_)|(refine Zal rfl 30 (.tmp 2) rfl rfl HLD.out ?_)|(refine Zah rfl 30 rfl HAL.out ?_)|fail)
 refine HCP.out.mono ?_
 rintro e v ⟨X,b,rfl,hb1,hb2,hb3,⟨T',t',P',p',Q',q',hx,hsr⟩,hbv⟩
 have hzv:=hbv.size
 have HX:=hdQ hx
 have HSR:=hdQ hsr
 have HBV:=qh (Bw w v) (Below.step hbv HB3.out qo)
 have HFV:=hdQ (Own.step hbv HF3.out)
 have HRV:=hdQ (Own.step hbv HR3.out)
 have hxl:=hx.lt
 clear hx hsr hbv HBX HBY HAL HLD HCP HE3 HF3 HR3 HB3
 have k10:v.cell? ⟨X,10,none⟩=some (.slice Q' s.ss.length q'):=HX.out.cell 10
 have HXQ:=qh (X∉gOf Q') (λq=>HSR.out.ssz X q qs)
 go_wp2_with fail
 refine Zbc (S:=(λw'=>w'.cell? ⟨X,10,none⟩=some (.slice Q' s.ss.length q'))) 10 kr (by (try dsimp only);go_simp) (λhHeld=>?_)
 show Zar _ _ _ _ _ _ (10+1) _ _ _
 refine tkM 0 ?_
 show Zar _ _ _ _ _ _ (9+1) _ _ _
 refine tkM 1 ?_
 show Zar _ _ _ _ _ _ (8+1) _ _ _
 refine tkM 2 ?_
 show Zar _ _ _ _ _ _ (7+1) _ _ _
 refine tkM 3 ?_
 show Zar _ _ _ _ _ _ (6+1) _ _ _
 refine tkM 4 ?_
 (try simp only [LO,Act.put])
 have HLF:=qh ((Instr.loadAt 45 (.pointer (some ⟨w.heap.size+1,0,none⟩))).run Tryz.prog v.drew=.ok (.agg ⟨F⟩) v.drew) (Zak (P:=Tryz.prog) Tryz.underlying45 rfl (by rw [hFl];exact Zjs) (λj u hu=>by rw [Nat.zero_add,HFV.out.drew.cell];exact hu))
 show Zar _ _ _ _ _ _ (5+1) _ _ _
 refine Zaa (i:=5) rfl kr (λK5 hK5=>?_)
 refine Zt3 rfl 45 (.tmp 3) rfl rfl HLF.out ?_
 refine hK5.out _ _ (λ_=>(by (try dsimp only);go_simp)) (λhHeld5=>?_)
 have hS5:=hHeld5 qd
 clear hHeld HLF
 have hFF:=HFX.out
 subst hFF
 show Zar _ _ _ _ _ _ (4+1) _ _ _
 refine Zaa (i:=6) rfl kr (λK6 hK6=>?_)
 refine Zgf rfl _ _ rfl rfl (Zjw x _) ?_
 refine hK6.out _ _ (λ_=>(by (try dsimp only);(go_simp;done))) (λhHeld6=>?_)
 have hS6:=hHeld6 qd
 have HSv:=qh (SceneR v.drew b [X] s T' t' P' p' Q' q') (HSR.out.keep qs (λ_ _ _ _=>rfl))
 show Zar _ _ _ _ _ _ (3+1) _ _ _
 refine Zaa (i:=7) rfl kr (λK7 hK7=>?_)
 (refine Zcs qr _ _ 28 qr (b) 45 (.agg ⟨z26⟩) 26 208 Tryz.underlying28 T.infoSurf3 rfl qd (xs:=Zcz s.ss) qr ?_ (ys:=eSurf x) qr ?_ (Zgo _) ?_ ?_ ?_ ?_;(exact (gwx HSv.out.ss));(exact (ltt 1));(unfold maxLen;omega);(omega);(first|omega|(simp<;>omega));rintro P7 k7 x7 gA7)
 have hsa:=gA7.2.2.2.1
 (try simp at hsa)
 have HSR7:=qh (SceneR x7 b [X] { s with ss:=s.ss++[x] } T' t' P' p' P7 k7) ((HSv.out.step bll).surf (by intro z hz;simp at hz;subst hz;first|omega|(simp<;>omega)) gA7)
 have hXQ:=HXQ.out
 have hR2:w.heap.size+2∉gOf Q':=λq=>by have:=HSR.out.ss.ge _ q;omega
 have ho2:Own x7 X 30 (cS s T' t' P' p' Q' q'):=(gA7.2.2.1.block X (by simp;omega) (by cases Q'<;>simp_all [gOf])).trans (Own.alloc HX.out.drew _)
 have hr2:Own x7 (w.heap.size+2) 30 zS:=(gA7.2.2.1.block (w.heap.size+2) (by simp;omega) (by cases Q'<;>simp_all [gOf])).trans (Own.alloc HRV.out.drew _)
 have HO7:=hdQ ho2
 have HR7:=hdQ hr2
 have HB7:=hdQ gA7.2.1
 have k107:x7.cell? ⟨X,10,none⟩=some (.slice Q' s.ss.length q'):=ho2.cell 10
 have kf:=ho2.frozen 10
 have kl:=ho2.lt
 clear gA7 ho2 hr2
 refine hK7.out _ _ (λ_=>k107) (λhHeld7=>?_)
 have hS7:=hHeld7 qd
 show Zar _ _ _ _ _ _ (2+1) _ _ _
 refine Zaa (i:=8) rfl kr (λK8 hK8=>?_)
 go_simp
 refine hK8.out _ _ (λ_=>k107) (λhHeld8=>?_)
 have hS8:=hHeld8 qd
 show Zar _ _ _ _ _ _ (1+1) _ _ _
 refine Zaa (i:=9) rfl kr (λK9 hK9=>?_)
 go_simp
 refine hK9.out _ _ (λ_=>k107) (λhHeld9=>?_)
 have hS9:=hHeld9 qd
 show Zar _ _ _ _ _ _ (0+1) _ _ _
 refine Zaa (i:=10) rfl kr (λK10 hK10=>?_)
 go_simp
 refine hK10.out _ _ (λh=>absurd rfl h) (λhHeld10=>?_)
 refine Zbd kr ?_ _
 obtain ⟨s',hs'⟩:∃ s',s'={ s with ss:=s.ss++[x] }:=⟨_,rfl⟩
 have HSX:=hdQ hs'
 have HNs:=qh (Zdp s') (by rw [hs'];exact HN.out)
 rw [<- hs'] at HSR7 HOKF ⊢
 have HOKS:Hid (Zbb s'=true):=HOKF
 obtain ⟨w8,hw8⟩:∃ w8,w8=x7.setCell ⟨X,10,none⟩ (.slice P7 (s.ss.length+1) k7):=⟨_,rfl⟩
 have HO8:=qh (Own w8 X 30 (cS s' T' t' P' p' P7 k7)) (by rw [hs',hw8,<- cS_ss];exact HO7.out.set_ 10 _)
 have HS8:=qh (SceneR w8 b [X] s' T' t' P' p' P7 k7) (by rw [hw8];exact HSR7.out.at_ (OnlyAt.setCell _ _ _ _))
 have HR8:=qh (Own w8 (w.heap.size+2) 30 zS) (by rw [hw8];exact HR7.out.far (p:=⟨X,10,none⟩) (by show w.heap.size+2≠X;omega) _)
 have HB8:=qh (Bw w w8) (by rw [hw8];exact ((HBV.out.trans ((((Below.refl v.heap.size v).drew.alloc (Nat.le_refl _) _).mono qo).trans (HB7.out.mono omm))).setCell (p:=⟨X,10,none⟩) (by show w.heap.size<=X;omega) _))
 have hz8:w8.heap.size=x7.heap.size:=by rw [hw8];simp [World.setCell]
 rw [<- hw8]
 clear hw8 hs' HSR7 HO7 HR7 hS5 hS6 hS7 hS8 hS9
 have HLS:=qh ((Instr.loadAt 30 (.pointer (some ⟨X,0,none⟩))).run Tryz.prog w8=.ok (.agg ⟨cS s' T' t' P' p' P7 k7⟩) w8) (Zak (P:=Tryz.prog) Tryz.underlying30 rfl (by rw [Zbn];exact Za2) (λj u hu=>by rw [Nat.zero_add,HO8.out.cell];exact hu))
 have HSI:=qh (SceneIn w8 s' T' t' P' p' P7 k7) (by
  have hB:=HS8.out.ps.prB HNs.out
  have hL:=HS8.out.lift hB
  exact ⟨hL.tex,hL.ps.progs hB,hL.ss.surfs⟩)
 have HIV:=qh (CR 27 #[.agg ⟨cS s' T' t' P' p' P7 k7⟩] w8 (.bool true)) (by
  have:=Zff w8 HSI.out
  rw [HOKS.out] at this
  exact this)
 go_wp2_with ((with_reducible refine Zdc ?_);first|(refine Zal rfl 30 (.tmp 20) rfl rfl HLS.out ?_)|fail)
 refine HIV.out.mono ?_
 rintro e w9 ⟨rfl,hb9⟩
 have hz9:=hb9.size
 have HO9:=qh (Own w9 X 30 (cS s' T' t' P' p' P7 k7)) (Own.step hb9 HO8.out)
 have HS9:=qh (SceneR w9 b [X] s' T' t' P' p' P7 k7) (HS8.out.step hb9)
 have HR9:=qh (Own w9 (w.heap.size+2) 30 zS) (Own.step hb9 HR8.out)
 have HB9:=qh (Bw w w9) (Below.step hb9 HB8.out qo)
 have HLT:=qh ((Instr.loadAt 30 (.pointer (some ⟨X,0,none⟩))).run Tryz.prog w9=.ok (.agg ⟨cS s' T' t' P' p' P7 k7⟩) w9) (Zak (P:=Tryz.prog) Tryz.underlying30 rfl (by rw [Zbn];exact Za2) (λj u hu=>by rw [Nat.zero_add,HO9.out.cell];exact hu))
 obtain ⟨w4,hst,hs,hbk,hs4,e1,e2,e3⟩:=Zap (P:=Tryz.prog) (T:=30) (zs:=cS s' T' t' P' p' P7 k7) (k:=0) HR9.out (by rw [Zbn];exact Za2) (by rw [Zbn];show 12<=12;omega) qr
 have HST4:=hdQ hst
 have HB4:=qh (Bw w w4) (Below.trans HB9.out ⟨e1,e2,e3,qo,λb h=>hbk b qo⟩)
 have HO4:=qh (Own w4 (w.heap.size+2) 30 (cS s' T' t' P' p' P7 k7)) (by have:=hs;rw [Zbn] at this;exact this)
 have HS4:=qh (SceneR w4 b [] s' T' t' P' p' P7 k7) ((HS9.out.keep qo (λy hy hl _=>hbk y qo)).fewer)
 have y0:w4.cell? ⟨w.heap.size+2,0,none⟩=some (.int .i64 s'.a):=HO4.out.cell 0
 have y1:w4.cell? ⟨w.heap.size+2,1,none⟩=some (.int .i64 s'.b):=HO4.out.cell 1
 have y2:w4.cell? ⟨w.heap.size+2,2,none⟩=some (.int .i64 s'.c):=HO4.out.cell 2
 have y3:w4.cell? ⟨w.heap.size+2,3,none⟩=some (.int .i64 s'.d):=HO4.out.cell 3
 have y4:w4.cell? ⟨w.heap.size+2,4,none⟩=some (.bool s'.e):=HO4.out.cell 4
 have y5:w4.cell? ⟨w.heap.size+2,5,none⟩=some (.int .i64 s'.f):=HO4.out.cell 5
 have y6:w4.cell? ⟨w.heap.size+2,6,none⟩=some (.int .i64 s'.g):=HO4.out.cell 6
 have y7:w4.cell? ⟨w.heap.size+2,7,none⟩=some (.int .i64 s'.log):=HO4.out.cell 7
 have y8:w4.cell? ⟨w.heap.size+2,8,none⟩=some (.slice T' s'.tex.length t'):=HO4.out.cell 8
 have y9:w4.cell? ⟨w.heap.size+2,9,none⟩=some (.slice P' s'.ps.length p'):=HO4.out.cell 9
 have y10:w4.cell? ⟨w.heap.size+2,10,none⟩=some (.slice P7 s'.ss.length k7):=HO4.out.cell 10
 have y11:w4.cell? ⟨w.heap.size+2,11,none⟩=some (.int .i64 s'.side):=HO4.out.cell 11
 have yf:=HO4.out.frozen
 have yl:=HO4.out.lt
 clear hst hs hbk e1 e2 e3 hb9
 go_wp2_with ((with_reducible refine Zdc ?_);first|(refine Zal rfl 30 (.tmp 26) rfl rfl HLT.out ?_)|(refine Zae rfl 30 (.tmp 4) (.tmp 27) rfl rfl rfl HST4.out ?_)|fail)
 refine bodyPost_ret (v:=.tuple #[.agg ⟨cS s' T' t' P' p' P7 k7⟩,.bool true]) (by simp [results,Tryz.results13,go_sem, *];rfl) rfl ?_
 have hh:=HSX.out
 subst hh
 exact ⟨T',t',P',p',P7,k7,b,rfl,qo,qo,HS4.out,HB4.out⟩
theorem eqIn_vec (d:Nat) (x y z:Int) (w:World):(Op.equalIn (d+2) 40 (Zbi x y z) (Zbi x y z)).run Tryz.prog w=.ok true w:=by
 have u3:=Tryz.underlying3
 have hS:Tryz.prog.underlying 40=some (.struct (Tryz.prog.fieldsOf 40)):=kr
 have hp:Tryz.prog.stoodInHeld 40=false:=kr
 rw [show d+2=(d+1)+1 from rfl,run_equalIn_agg w (d+1) 40 _ _ hS hp]
 simp only [Program.fieldsOf,Tryz.underlying40]
 go_simp
theorem Zp7 (d:Nat) (p:Zau) (w:World):(Op.equalIn (d+3) 41 (Zbv p) (Zbv p)).run Tryz.prog w=.ok true w:=by
 have hc:Tryz.prog.cellsOf 40=3:=kr
 obtain ⟨i,hi⟩:∃ i,Tryz.prog.info? 40=some i:=⟨_,Option.get_of_mem (by kernel_rfl:(Tryz.prog.info? 40).isSome=true) rfl |> λ_=>(Option.some_get kr).symm⟩
 rw [show d+3=(d+2)+1 from rfl,run_equalIn_array w (d+2) _ _ Tryz.underlying41 hi,hc]
 have p0:∀ w:World,(part 40 #[.int .i64 (p 0),.int .i64 (p 1),.int .i64 (p 2),.int .i64 (p 3),.int .i64 (p 4),.int .i64 (p 5),.int .i64 (p 6),.int .i64 (p 7),.int .i64 (p 8),.int .i64 (p 9),.int .i64 (p 10),.int .i64 (p 11)] (0*3)).run Tryz.prog w=.ok (Zbi (p 0) (p 1) (p 2)) w:=λw=>by kernel_rfl
 have p1:∀ w:World,(part 40 #[.int .i64 (p 0),.int .i64 (p 1),.int .i64 (p 2),.int .i64 (p 3),.int .i64 (p 4),.int .i64 (p 5),.int .i64 (p 6),.int .i64 (p 7),.int .i64 (p 8),.int .i64 (p 9),.int .i64 (p 10),.int .i64 (p 11)] (1*3)).run Tryz.prog w=.ok (Zbi (p 3) (p 4) (p 5)) w:=λw=>by kernel_rfl
 have p2:∀ w:World,(part 40 #[.int .i64 (p 0),.int .i64 (p 1),.int .i64 (p 2),.int .i64 (p 3),.int .i64 (p 4),.int .i64 (p 5),.int .i64 (p 6),.int .i64 (p 7),.int .i64 (p 8),.int .i64 (p 9),.int .i64 (p 10),.int .i64 (p 11)] (2*3)).run Tryz.prog w=.ok (Zbi (p 6) (p 7) (p 8)) w:=λw=>by kernel_rfl
 have p3:∀ w:World,(part 40 #[.int .i64 (p 0),.int .i64 (p 1),.int .i64 (p 2),.int .i64 (p 3),.int .i64 (p 4),.int .i64 (p 5),.int .i64 (p 6),.int .i64 (p 7),.int .i64 (p 8),.int .i64 (p 9),.int .i64 (p 10),.int .i64 (p 11)] (3*3)).run Tryz.prog w=.ok (Zbi (p 9) (p 10) (p 11)) w:=λw=>by kernel_rfl
 rw [show List.range 4=[0,1,2,3] from rfl]
 simp only [Op.eqItems,Sem.run_bind,p0,p1,p2,p3,Result.andThen_ok,eqIn_vec,Bool.not_true,Bool.false_eq_true,if_false,if_true,Sem.run_pure]
theorem Zi1 (d:Nat) (p:Zau) (w:World):(Op.equalIn (d+4) 43 (Zbv p) (Zbv p)).run Tryz.prog w=.ok true w:=by
 have hS:Tryz.prog.underlying 43=some (.struct (Tryz.prog.fieldsOf 43)):=kr
 have hp:Tryz.prog.stoodInHeld 43=false:=kr
 have p0:∀ w:World,(part 41 #[.int .i64 (p 0),.int .i64 (p 1),.int .i64 (p 2),.int .i64 (p 3),.int .i64 (p 4),.int .i64 (p 5),.int .i64 (p 6),.int .i64 (p 7),.int .i64 (p 8),.int .i64 (p 9),.int .i64 (p 10),.int .i64 (p 11)] 0).run Tryz.prog w=.ok (Zbv p) w:=λw=>by kernel_rfl
 have e:=Zp7 d p
 rw [show d+4=(d+3)+1 from rfl,run_equalIn_agg w (d+3) 43 _ _ hS hp]
 simp only [Program.fieldsOf,Tryz.underlying43]
 go_simp
theorem Zp6 (d:Nat) (x:Zbt) (w:World):(Op.equalIn (d+5) 45 (.agg ⟨eSurf x⟩) (.agg ⟨eSurf x⟩)).run Tryz.prog w=.ok true w:=by
 have u3:=Tryz.underlying3
 have hS:Tryz.prog.underlying 45=some (.struct (Tryz.prog.fieldsOf 45)):=kr
 have hp:Tryz.prog.stoodInHeld 45=false:=kr
 have p0:∀ w:World,(part 43 ⟨eSurf x⟩ 0).run Tryz.prog w=.ok (Zbv x.1) w:=λw=>by kernel_rfl
 have p1:∀ w:World,(part 43 ⟨eSurf x⟩ 12).run Tryz.prog w=.ok (Zbv x.2.1) w:=λw=>by kernel_rfl
 have p2:∀ w:World,(part 3 ⟨eSurf x⟩ 24).run Tryz.prog w=.ok (.int .i64 x.2.2.1) w:=λw=>by kernel_rfl
 have p3:∀ w:World,(part 3 ⟨eSurf x⟩ 25).run Tryz.prog w=.ok (.int .i64 x.2.2.2) w:=λw=>by kernel_rfl
 have e:=Zi1 d x.1
 have e':=Zi1 d x.2.1
 rw [show d+5=(d+4)+1 from rfl,run_equalIn_agg w (d+4) 45 _ _ hS hp]
 have i2:=run_equalIn_int (P:=Tryz.prog) w (d+3) 3 .i64 .i64 x.2.2.1 x.2.2.1 u3
 have i3:=run_equalIn_int (P:=Tryz.prog) w (d+3) 3 .i64 .i64 x.2.2.2 x.2.2.2 u3
 generalize (⟨eSurf x⟩:Array Value)=E at *
 simp only [Program.fieldsOf,Tryz.underlying45]
 simp [Op.eqFields,p0,p1,p2,p3,e,e',i2,i3]
theorem neqSurf (x:Zbt) (w:World):(binOp .neq 45 (.agg ⟨eSurf x⟩) (.agg ⟨eSurf x⟩)).run Tryz.prog w=.ok (.bool false) w:=by
 rw [run_neq_struct,show (10000:Nat)=9995+5 from rfl,Zp6]
 rfl
theorem eqlSurf (x:Zbt) (w:World):(binOp .eql 45 (.agg ⟨eSurf x⟩) (.agg ⟨eSurf x⟩)).run Tryz.prog w=.ok (.bool true) w:=by
 rw [run_eql_struct,show (10000:Nat)=9995+5 from rfl,Zp6]
 rfl
theorem eqlPatch (p:Zau) (w:World):(binOp .eql 43 (Zbv p) (Zbv p)).run Tryz.prog w=.ok (.bool true) w:=by
 rw [run_eql_struct,show (10000:Nat)=9996+4 from rfl,Zi1]
 rfl
theorem eqlCam (a b c d:Int) (e:Bool) (f g:Int) (w:World):(binOp .eql 23 (Zb2 a b c d e f g) (Zb2 a b c d e f g)).run Tryz.prog w=.ok (.bool true) w:=by
 have u3:=Tryz.underlying3
 have ub:=Tryz.underlying4
 have hS:Tryz.prog.underlying 23=some (.struct (Tryz.prog.fieldsOf 23)):=kr
 have hp:Tryz.prog.stoodInHeld 23=false:=kr
 rw [run_eql_struct,show (10000:Nat)=9999+1 from rfl,run_equalIn_agg w 9999 23 _ _ hS hp]
 simp only [Program.fieldsOf,Tryz.underlying23]
 go_simp
theorem Zij {A A2:OA} {c c2:Nat} {lg:Int} {l:List Int} (w:World) (h:RS w 1 A l.length c (ints l)) (h2:RS w 1 A2 l.length c2 (ints l)) :
  CR 50 #[.agg #[.int .i64 lg,.slice A l.length c],.agg #[.int .i64 lg,.slice A2 l.length c2]] w ((.bool true)):=by
 have HC:=qh (∀ wx,Bw w wx->CR 111 #[.slice A l.length c,.slice A2 l.length c2] wx (.bool true)) (λwx hb=>by have:=Zm8 wx (RS.step hb h) (RS.step hb h2);simpa using this)
 clear h h2
 go_enter Tryz.func50,Tryz.ntmps50
 go_wp2_with (first|(go_at_call 111;(with_reducible refine (HC.out _ bll).mono ?_);rintro e w' ⟨rfl,hb⟩)|fail)
 go_ret
 exact ⟨rfl,bll⟩
theorem Zlg {A A2:OA} {c c2:Nat} {l:List Zag} (w:World) (h:Zd6 w A c l) (h2:Zd6 w A2 c2 l) :
  CR 51 #[.slice A l.length c,.slice A2 l.length c2,.func (.func 52) #[] #[]] w ((.bool true)):=by
 have H:=hdQ h
 have H2:=hdQ h2
 have hc:=h.2.1
 have hl:=h.1
 unfold maxLen at hc
 have e2:((l.length:Int) != (l.length:Int))=false:=qs
 clear h h2
 go_enter Tryz.func51,Tryz.ntmps51
 go_wp2_with fail
 go_loopw [17] (λi wr=>∃ k:Nat,k<=l.length/\i=.int .i64 k/\Bw w wr) (λi _=>l.length-(RowKit.intOf i).toNat)
 case atStart=>exact ⟨0,Nat.zero_le _,rfl,Below.refl _ _⟩
 case round =>
  obtain ⟨k,hk,rfl,hb⟩:=hrel
  obtain ⟨wo,rfl⟩:=qe wr
  have HB:=hdQ hb
  have hz:=hb.size
  by_cases hlt:k<l.length
  ·obtain ⟨b,o,A1,c1,B1,d1,rfl,hbl,hp,_,_,x0,x1⟩:=(H.out.step hb).2.2 k hlt
   obtain ⟨b2,o2,A2',c2',B2,d2,rfl,hbl2,hp2,_,_,y0,y1⟩:=(H2.out.step hb).2.2 k hlt
   obtain ⟨p,hx⟩:∃ x,l[k]=x:=⟨_,rfl⟩
   rw [hx] at hp hp2 x0 x1 y0 y1
   have HC:=qh (∀ wx,Bw wo wx->CR 52 #[Zbz A1 p.1.length c1 B1 p.2.length d1,Zbz A2' p.1.length c2' B2 p.2.length d2] wx (.bool true)) (λwx hb=>Zoi wx (hp.step hb) (hp2.step hb))
   have i0:(0:Int)<=k:=qo
   have i1:(k:Int)<l.length:=qo
   have n1:¬ b2=wo.heap.size:=qo
   have n2:¬ b=wo.heap.size:=qo
   clear hp hp2 hb hx
   go_wp2_with (first|(go_at_call 52;(with_reducible refine (HC.out _ bll).mono ?_);rintro e w' ⟨rfl,hb⟩)|fail)
   go_roundw
   case rel=>exact ⟨k+1,qo,qg,bll⟩
   case measure=>exact qn
  ·obtain rfl:k=l.length:=by omega
   clear hb
   go_wp2_with fail
   go_ret
   exact ⟨rfl,HB.out⟩
theorem Zl0 {A A2:OA} {n m c c2:Nat} (w:World) (hn:n≠m) :
  CR 53 #[.slice A n c,.slice A2 m c2] w ((.bool false)):=by
 have e2:((n:Int) != (m:Int))=true:=by simp;omega
 clear hn
 go_enter Tryz.func53,Tryz.ntmps53
 go_wp2_with fail
 go_ret
 exact ⟨rfl,bll⟩
theorem Zwm (l:List Zbt) (k j:Nat) (hk:k<l.length) (hj:j<26):(Zcz l)[k*26+j]? = (eSurf l[k])[j]? := by
 rw [<- Znp l k hk,List.getElem?_take_of_lt hj,List.getElem?_drop]
theorem RS.surfAt {w:World} {A:OA} {c:Nat} {l:List Zbt} (h:RS w 26 A l.length c (Zcz l)) {k:Nat} (hk:k<l.length):∃ b o,A=some ⟨b,o,none⟩/\b<w.heap.size/\(Instr.loadAt 45 (.pointer (some ⟨b,o+k*26,none⟩))).run Tryz.prog w=.ok (.agg ⟨eSurf l[k]⟩) w:=by
 obtain ⟨_,_,h3⟩:=h.open_
 obtain ⟨b,o,hA,hb,hcell⟩:=h3 (Nat.zero_lt_of_lt hk)
 have hle:(k+1)*26<=l.length*26:=Nat.mul_le_mul_right _ hk
 refine ⟨b,o,hA,hb,Zak (P:=Tryz.prog) Tryz.underlying45 rfl (by rw [Zb7];exact Zcw) (λj v hv=>?_)⟩
 have hj:j<26:=by have:=(List.getElem?_eq_some_iff.1 hv).1;rwa [Zb7] at this
 rw [Nat.add_assoc,hcell _ qo,Zwm l k j hk hj,hv]
theorem Zr2 {A A2:OA} {c c2:Nat} {l:List Zbt} (w:World) (h:RS w 26 A l.length c (Zcz l)) (h2:RS w 26 A2 l.length c2 (Zcz l)) :
  CR 53 #[.slice A l.length c,.slice A2 l.length c2] w ((.bool true)):=by
 have H:=hdQ h
 have H2:=hdQ h2
 have hc:=h.open_
 obtain ⟨hn,hm,_⟩:=hc
 unfold maxLen at hm
 have hg:Tryz.prog.eqGuardType Tryz.prog.depth 45=false:=kr
 have e2:((l.length:Int) != (l.length:Int))=false:=qs
 clear h h2
 go_enter Tryz.func53,Tryz.ntmps53
 go_wp2_with fail
 go_loopw [5,13] (λ_ i wr=>∃ k:Nat,k<=l.length/\i=.int .i64 k/\Bw w wr) (λ_ i _=>l.length-(RowKit.intOf i).toNat)
 case atStart=>exact ⟨0,Nat.zero_le _,rfl,Below.refl _ _⟩
 case round =>
  obtain ⟨k,hk,rfl,hb⟩:=hrel
  have HB:=hdQ hb
  have hz:=hb.size
  by_cases hlt:k<l.length
  ·obtain ⟨b,o,rfl,hbl,hl1⟩:=(RS.surfAt (RS.drew (RS.step hb H.out)) hlt)
   obtain ⟨b2,o2,rfl,hbl2,hl2⟩:=(RS.surfAt (RS.drew (RS.step hb H2.out)) hlt)
   obtain ⟨x,hx⟩:=qv (l[k])
   rw [hx] at hl1 hl2
   have HQ:=hdQ (neqSurf x)
   have i0:(0:Int)<=k:=qo
   have i1:(k:Int)<l.length:=qo
   clear hb hx
   obtain ⟨E,hE⟩:=qv ((⟨eSurf x⟩:Array Value))
   rw [hE] at hl1 hl2 HQ
   have HL:=hdQ (And.intro hl1 hl2)
   clear hE hl1 hl2
   go_wp2_with fail
   refine wp_region_held_drew (S:=(λw'=>(Instr.loadAt 45 (.pointer (some ⟨b,o+k*26,none⟩))).run Tryz.prog w'=.ok (.agg E) w'/\(Instr.loadAt 45 (.pointer (some ⟨b2,o2+k*26,none⟩))).run Tryz.prog w'=.ok (.agg E) w')) kr HL.out (λhHeld=>?_)
   refine tkH 0 ?_;(try simp only [LO,Act.put])
   refine tkH 1 ?_;(try simp only [LO,Act.put])
   refine tkH 2 ?_;(try simp only [LO,Act.put])
   refine wpAnyH_take (i:=3) (v:=.agg E) rfl kr kr kr (λ_ _ _ h=>h) (Or.inl ⟨qr, ?_⟩) ‹_› ?_
   focus (intro wq hSw;show (do let v <- Instr.loadAt 45 (.pointer (some ⟨b,o+k*26,none⟩));pure (Next.value v):Sem Next).run Tryz.prog wq=_;simp only [Sem.run_bind,hSw.1,Result.andThen_ok,Sem.run_pure])
   refine tkH 4 ?_;(try simp only [LO,Act.put])
   refine tkH 5 ?_;(try simp only [LO,Act.put])
   refine tkH 6 ?_;(try simp only [LO,Act.put])
   refine wpAnyH_take (i:=7) (v:=.agg E) rfl kr kr kr (λ_ _ _ h=>h) (Or.inl ⟨qr, ?_⟩) ‹_› ?_
   focus (intro wq hSw;show (do let v <- Instr.loadAt 45 (.pointer (some ⟨b2,o2+k*26,none⟩));pure (Next.value v):Sem Next).run Tryz.prog wq=_;simp only [Sem.run_bind,hSw.2,Result.andThen_ok,Sem.run_pure])
   refine wpAnyH_take (i:=8) (v:=.bool false) rfl kr kr kr (λ_ _ _ h=>h) (Or.inl ⟨qr, ?_⟩) ‹_› ?_
   focus (intro wq hSw;show ((eqGuard .neq 45 (.tmp 19) (.tmp 23) (.agg E) (.agg E) >>= λ_=>binOp .neq 45 (.agg E) (.agg E)) >>= λv=>pure (Next.value v):Sem Next).run Tryz.prog wq=_;simp only [Sem.run_bind,run_eqGuard_agg _ _ _ _ _ _ _ hg,HQ.out,Result.andThen_ok,Sem.run_pure])
   refine wpAnyH_done kr ?_ _
   clear hHeld
   go_wp2_with fail
   go_roundw
   case rel=>exact ⟨k+1,qo,qg,bll⟩
   case measure=>exact qn
  ·obtain rfl:k=l.length:=by omega
   clear hb
   go_wp2_with fail
   go_ret
   exact ⟨rfl,HB.out⟩
structure SceneQ (w:World) (s:EScene) (T:OA) (tc:Nat) (P:OA) (pc:Nat) (Q:OA) (qc:Nat):Prop where
 tex:RS w 1 T s.tex.length tc (ints s.tex)
 ps:Zd6 w P pc s.ps
 ss:RS w 26 Q s.ss.length qc (Zcz s.ss)
theorem SceneQ.step {w w':World} {s:EScene} {T P Q:OA} {tc pc qc:Nat} (hb:Bw w w') (h:SceneQ w s T tc P pc Q qc):SceneQ w' s T tc P pc Q qc:=⟨RS.step hb h.tex,h.ps.step hb,RS.step hb h.ss⟩
theorem Zlm {s:EScene} {T T2 P P2 Q Q2:OA} {tc tc2 pc pc2 qc qc2 n:Nat} (w:World) (ht:RS w 1 T s.tex.length tc (ints s.tex)) (ht2:RS w 1 T2 s.tex.length tc2 (ints s.tex)) (hp:Zd6 w P pc s.ps) (hp2:Zd6 w P2 pc2 s.ps) (hs:RS w 26 Q s.ss.length qc (Zcz s.ss)) (hs2:RS w 26 Q2 s.ss.length qc2 (Zcz s.ss)) (hn:n=s.ss.length) :
  CR 14 #[Zj3 s T tc P pc Q qc,.agg #[.int .i64 s.a,.int .i64 s.b,.int .i64 s.c,.int .i64 s.d,.bool s.e,.int .i64 s.f,.int .i64 s.g,.int .i64 s.log,.slice T2 s.tex.length tc2,.slice P2 s.ps.length pc2,.slice Q2 n qc2,.int .i64 s.side]] w ((.bool true)):=by
 have HTX:=qh (∀ wx,Bw w wx->CR 50 #[.agg #[.int .i64 s.log,.slice T s.tex.length tc],.agg #[.int .i64 s.log,.slice T2 s.tex.length tc2]] wx (.bool true)) (λwx hb=>Zij wx (RS.step hb ht) (RS.step hb ht2))
 have HPS:=qh (∀ wx,Bw w wx->CR 51 #[.slice P s.ps.length pc,.slice P2 s.ps.length pc2,.func (.func 52) #[] #[]] wx (.bool true)) (λwx hb=>Zlg wx (hp.step hb) (hp2.step hb))
 have HSS:=qh (∀ wx,Bw w wx->CR 53 #[.slice Q s.ss.length qc,.slice Q2 n qc2] wx (.bool true)) (λwx hb=>by subst hn;exact Zr2 wx (RS.step hb hs) (RS.step hb hs2))
 have hqc:=eqlCam s.a s.b s.c s.d s.e s.f s.g
 have hg:Tryz.prog.eqGuardType Tryz.prog.depth 23=false:=kr
 clear ht ht2 hp hp2 hs hs2 hn
 go_enter Tryz.func14,Tryz.ntmps14
 go_wp2_with fail
 (with_reducible refine (HTX.out _ bll).mono ?_)
 rintro e w1 ⟨rfl,hb1⟩
 have hz1:=hb1.size
 (try simp at hz1)
 have c1:=λo=>hb1.cell (p:=⟨w.heap.size,o,none⟩) omm
 have d1:=λo=>hb1.cell (p:=⟨w.heap.size+1,o,none⟩) omm
 have HB1:=bh w hb1
 clear hb1
 go_wp2_with fail
 (with_reducible refine (HPS.out _ bll).mono ?_)
 rintro e w2 ⟨rfl,hb2⟩
 have hz2:=hb2.size
 have c2:=λo=>hb2.cell (p:=⟨w.heap.size,o,none⟩) omm
 have d2:=λo=>hb2.cell (p:=⟨w.heap.size+1,o,none⟩) omm
 have HB2:=bh w hb2
 clear hb2
 go_wp2_with fail
 (with_reducible refine (HSS.out _ bll).mono ?_)
 rintro e w3 ⟨rfl,hb3⟩
 have hz3:=hb3.size
 have c3:=λo=>hb3.cell (p:=⟨w.heap.size,o,none⟩) omm
 have d3:=λo=>hb3.cell (p:=⟨w.heap.size+1,o,none⟩) omm
 have HB3:=bh w hb3
 clear hb3
 go_wp2_with fail
 go_ret
 exact ⟨rfl,bll⟩
theorem Zl4 {s:EScene} {T T2 P P2 Q Q2:OA} {tc tc2 pc pc2 qc qc2 n:Nat} (w:World) (ht:RS w 1 T s.tex.length tc (ints s.tex)) (ht2:RS w 1 T2 s.tex.length tc2 (ints s.tex)) (hp:Zd6 w P pc s.ps) (hp2:Zd6 w P2 pc2 s.ps) (hn:s.ss.length≠n) :
  CR 14 #[Zj3 s T tc P pc Q qc,.agg #[.int .i64 s.a,.int .i64 s.b,.int .i64 s.c,.int .i64 s.d,.bool s.e,.int .i64 s.f,.int .i64 s.g,.int .i64 s.log,.slice T2 s.tex.length tc2,.slice P2 s.ps.length pc2,.slice Q2 n qc2,.int .i64 s.side]] w ((.bool false)):=by
 have HTX:=qh (∀ wx,Bw w wx->CR 50 #[.agg #[.int .i64 s.log,.slice T s.tex.length tc],.agg #[.int .i64 s.log,.slice T2 s.tex.length tc2]] wx (.bool true)) (λwx hb=>Zij wx (RS.step hb ht) (RS.step hb ht2))
 have HPS:=qh (∀ wx,Bw w wx->CR 51 #[.slice P s.ps.length pc,.slice P2 s.ps.length pc2,.func (.func 52) #[] #[]] wx (.bool true)) (λwx hb=>Zlg wx (hp.step hb) (hp2.step hb))
 have HSS:=qh (∀ wx,Bw w wx->CR 53 #[.slice Q s.ss.length qc,.slice Q2 n qc2] wx (.bool false)) (λwx hb=>Zl0 wx hn)
 have hqc:=eqlCam s.a s.b s.c s.d s.e s.f s.g
 have hg:Tryz.prog.eqGuardType Tryz.prog.depth 23=false:=kr
 clear ht ht2 hp hp2 hn
 go_enter Tryz.func14,Tryz.ntmps14
 go_wp2_with fail
 (with_reducible refine (HTX.out _ bll).mono ?_)
 rintro e w1 ⟨rfl,hb1⟩
 have hz1:=hb1.size
 (try simp at hz1)
 have c1:=λo=>hb1.cell (p:=⟨w.heap.size,o,none⟩) omm
 have d1:=λo=>hb1.cell (p:=⟨w.heap.size+1,o,none⟩) omm
 have HB1:=bh w hb1
 clear hb1
 go_wp2_with fail
 (with_reducible refine (HPS.out _ bll).mono ?_)
 rintro e w2 ⟨rfl,hb2⟩
 have hz2:=hb2.size
 have c2:=λo=>hb2.cell (p:=⟨w.heap.size,o,none⟩) omm
 have d2:=λo=>hb2.cell (p:=⟨w.heap.size+1,o,none⟩) omm
 have HB2:=bh w hb2
 clear hb2
 go_wp2_with fail
 (with_reducible refine (HSS.out _ bll).mono ?_)
 rintro e w3 ⟨rfl,hb3⟩
 have hz3:=hb3.size
 have c3:=λo=>hb3.cell (p:=⟨w.heap.size,o,none⟩) omm
 have d3:=λo=>hb3.cell (p:=⟨w.heap.size+1,o,none⟩) omm
 have HB3:=bh w hb3
 clear hb3
 go_wp2_with fail
 go_ret
 exact ⟨rfl,bll⟩
theorem Zob (x n:Int) (B:Nat) (w:World) (h:w.cell? ⟨B,0,none⟩=some (.int .i64 n)) (hx : -4000000000000000000<=n*x/\n*x<=4000000000000000000) :
  CL 222 #[.int .i64 x,.pointer (some ⟨B,0,none⟩)] w λe w'=>e=.returned (.int .i64 (n*x))/\w=w':=by
 have hw:IntKind.i64.wrap (n*x)=n*x:=IntWalk.i64_in _ qo
 go_enter Tryz.func222,Tryz.ntmps222
 go_wp2_with fail
 go_ret
 exact ⟨rfl,rfl⟩
theorem Zr6 (x y z n:Int) (B:Nat) (w:World) (h:w.cell? ⟨B,0,none⟩=some (.int .i64 n)) (hB:B<w.heap.size) (hx:Zuz (n*x) (n*y) (n*z)) :
  CR 219 #[Zbi x y z,.func (.func 222) #[] #[.pointer (some ⟨B,0,none⟩)]] w ((Zbi (n*x) (n*y) (n*z))):=by
 have hne:¬ B=w.heap.size:=qo
 have hne2:¬ B=w.heap.size+1:=qo
 have HX:=hdQ hx.1
 have HY:=hdQ hx.2.1
 have HZ:=hdQ hx.2.2
 have HB:Hid (∀ wx,Bw w wx->wx.cell? ⟨B,0,none⟩=some (.int .i64 n)):=λwx hw=>by rw [hw.cell (p:=⟨B,0,none⟩) hB];exact h
 clear hx
 go_enter Tryz.func219,Tryz.ntmps219
 go_wp2_with fail
 go_region_held3 (λw'=>w'.cell? ⟨w.heap.size,0,none⟩=some (.int .i64 x)/\w'.cell? ⟨w.heap.size,1,none⟩=some (.int .i64 y)/\w'.cell? ⟨w.heap.size,2,none⟩=some (.int .i64 z)/\w'.cell? ⟨B,0,none⟩=some (.int .i64 n))
  (first|((try dsimp only);refine ⟨?_, ?_, ?_, ?_⟩<;>(go_simp;done))|go_keep)
  (first|(go_at_call 222;(with_reducible refine (Zob x n B _ (HB.out _ bll) HX.out).mono ?_);rintro e w' ⟨rfl,rfl⟩)|(go_at_call 222;(with_reducible refine (Zob y n B _ (HB.out _ bll) HY.out).mono ?_);rintro e w' ⟨rfl,rfl⟩)|(go_at_call 222;(with_reducible refine (Zob z n B _ (HB.out _ bll) HZ.out).mono ?_);rintro e w' ⟨rfl,rfl⟩)|fail)
 all_goals
  go_wp2
  exact bodyPost_ret (v:=Zbi (n*x) (n*y) (n*z)) (by simp [results,Tryz.results219,go_sem, *]) rfl ⟨rfl,bll⟩
theorem Zyg (x y z n:Int) (w:World) (hx:Zuz (n*x) (n*y) (n*z)) :
  CR 167 #[Zbi x y z,.int .i64 n] w ((Zbi (n*x) (n*y) (n*z))):=by
 have HX:=hdQ hx
 clear hx
 go_enter Tryz.func167,Tryz.ntmps167
 go_wp2_with fail
 refine (Zr6 _ _ _ n (w.heap.size+1) _ (by go_simp) qs HX.out).mono ?_
 rintro e w' ⟨rfl,hb⟩;have hz:=hb.size;(try simp at hz);obtain ⟨c0,f0,z0⟩:=bxx hb (w.heap.size);obtain ⟨c1,f1,z1⟩:=bxx hb (w.heap.size+1);obtain ⟨c2,f2,z2⟩:=bxx hb (w.heap.size+1+1)
 go_wp2_with fail
 exact bodyPost_ret (v:=Zbi (n*x) (n*y) (n*z)) (by simp [results,Tryz.results167,go_sem, *]) rfl ⟨rfl,bll⟩
theorem Zor {x y z:Int} (h:validV x y z=true):cl x=x/\cl y=y/\cl z=z:=by
 unfold validV at h
 simp only [Bool.and_eq_true,decide_eq_true_eq] at h
 exact ⟨h.1.symm,h.2.1.symm,h.2.2.symm⟩
theorem fdiv16 (x:Int):Zdh (16*x+0*x) 16=x:=by
 unfold Zdh
 rw [if_neg qd]
 rw [Int.zero_mul,Int.add_zero]
 simp
theorem Zok (x y z p q r:Int) (w:World) (h1:validV x y z=true) (h2:validV p q r=true) :
  CR 115 #[Zbi x y z,Zbi p q r,.int .i64 0,.int .i64 16] w ((Zbi x y z)):=by
 obtain ⟨c1,c2,c3⟩:=Zor h1
 obtain ⟨d1,d2,d3⟩:=Zor h2
 have a1:=Ze4 x
 have a2:=Ze4 y
 have a3:=Ze4 z
 rw [c1] at a1;rw [c2] at a2;rw [c3] at a3
 have HC1:=qh (∀ wx,CR 166 #[Zbi x y z] wx (Zbi x y z)) (λwx=>by have:=Zll x y z wx;rwa [c1,c2,c3] at this)
 have HC2:=qh (∀ wx,CR 166 #[Zbi p q r] wx (Zbi p q r)) (λwx=>by have:=Zll p q r wx;rwa [d1,d2,d3] at this)
 have HT1:=qh (∀ wx,CR 167 #[Zbi x y z,.int .i64 16] wx (Zbi (16*x) (16*y) (16*z))) (λwx=>Zyg x y z 16 wx (by unfold Zuz;omega))
 have HT2:=qh (∀ wx,CR 167 #[Zbi p q r,.int .i64 0] wx (Zbi 0 0 0)) (λwx=>by have:=Zyg p q r 0 wx (by unfold Zuz;omega);simpa using this)
 have HPL:=qh (∀ wx,CR 168 #[Zbi (16*x) (16*y) (16*z),Zbi 0 0 0] wx (Zbi (16*x) (16*y) (16*z))) (λwx=>by have:=I_plus (16*x) (16*y) (16*z) 0 0 0 wx (by unfold Zuz;omega) (by unfold Zuz;omega);simpa using this)
 have hdv:∀ u:Int,Zdh (16*u) 16=u:=λu=>by have:=fdiv16 u;simpa using this
 have HOV:=qh (∀ wx,CR 169 #[Zbi (16*x) (16*y) (16*z),.int .i64 16] wx (Zbi x y z)) (λwx=>by have:=I_over (16*x) (16*y) (16*z) 16 wx (by unfold Zuz;omega);rwa [hdv,hdv,hdv] at this)
 have HW:=qh (∀ n lo hi:Int,lo<=n->n<=hi->∀ wx,CL 77 #[.int .i64 n,.int .i64 lo,.int .i64 hi] wx λe w'=>e=.returned (.bool true)/\wx=w') (λn lo hi h1 h2 wx=>by have:=Zg3 n lo hi wx;rwa [Zbw h1 h2] at this)
 clear c1 c2 c3 d1 d2 d3 a1 a2 a3 hdv h1 h2
 have w16:IntKind.i64.wrap 16=16:=qd
 generalize 16*x=X at *
 generalize 16*y=Y at *
 generalize 16*z=Z at *
 go_enter Tryz.func115,Tryz.ntmps115
 go_wp2_with fail
 go_region_held3 (λw'=>w'.cell? ⟨w.heap.size,0,none⟩=some (.int .i64 x)/\w'.cell? ⟨w.heap.size,1,none⟩=some (.int .i64 y)/\w'.cell? ⟨w.heap.size,2,none⟩=some (.int .i64 z)/\w'.cell? ⟨w.heap.size+1,0,none⟩=some (.int .i64 p)/\w'.cell? ⟨w.heap.size+1,1,none⟩=some (.int .i64 q)/\w'.cell? ⟨w.heap.size+1,2,none⟩=some (.int .i64 r)/\w'.frozen? ⟨w.heap.size,0,none⟩=false)
  (first|((try dsimp only);refine ⟨?_, ?_, ?_, ?_, ?_, ?_, ?_⟩<;>(go_simp;done))|go_keep)
  (first|(go_at_call 166;(with_reducible refine (HC1.out _).mono ?_);rintro e w' ⟨rfl,hb⟩;have hz:=hb.size;(try simp at hz);obtain ⟨c0,f0,z0⟩:=bxx hb (w.heap.size);obtain ⟨c1,f1,z1⟩:=bxx hb (w.heap.size+1);obtain ⟨c2,f2,z2⟩:=bxx hb (w.heap.size+1+1))|(go_at_call 166;(with_reducible refine (HC2.out _).mono ?_);rintro e w' ⟨rfl,hb⟩;have hz:=hb.size;(try simp at hz);obtain ⟨c0,f0,z0⟩:=bxx hb (w.heap.size);obtain ⟨c1,f1,z1⟩:=bxx hb (w.heap.size+1);obtain ⟨c2,f2,z2⟩:=bxx hb (w.heap.size+1+1))|fail)
 all_goals
  go_wp2_with (first|(go_at_call 77;(with_reducible refine (HW.out _ _ _ qd qd _).mono ?_);rintro e w' ⟨rfl,rfl⟩)|fail)
  go_region_held3 (λw'=>w'.cell? ⟨w.heap.size,0,none⟩=some (.int .i64 x)/\w'.cell? ⟨w.heap.size,1,none⟩=some (.int .i64 y)/\w'.cell? ⟨w.heap.size,2,none⟩=some (.int .i64 z)/\w'.cell? ⟨w.heap.size+1,0,none⟩=some (.int .i64 p)/\w'.cell? ⟨w.heap.size+1,1,none⟩=some (.int .i64 q)/\w'.cell? ⟨w.heap.size+1,2,none⟩=some (.int .i64 r))
   (first|((try dsimp only);refine ⟨?_, ?_, ?_, ?_, ?_, ?_⟩<;>(go_simp;done))|go_keep)
   (first|(go_at_call 167;(with_reducible refine (HT1.out _).mono ?_);rintro e w' ⟨rfl,hb⟩;have hz:=hb.size;(try simp at hz);obtain ⟨c0,f0,z0⟩:=bxx hb (w.heap.size);obtain ⟨c1,f1,z1⟩:=bxx hb (w.heap.size+1);obtain ⟨c2,f2,z2⟩:=bxx hb (w.heap.size+1+1))|(go_at_call 167;(with_reducible refine (HT2.out _).mono ?_);rintro e w' ⟨rfl,hb⟩;have hz:=hb.size;(try simp at hz);obtain ⟨c0,f0,z0⟩:=bxx hb (w.heap.size);obtain ⟨c1,f1,z1⟩:=bxx hb (w.heap.size+1);obtain ⟨c2,f2,z2⟩:=bxx hb (w.heap.size+1+1))|(go_at_call 168;(with_reducible refine (HPL.out _).mono ?_);rintro e w' ⟨rfl,hb⟩;have hz:=hb.size;(try simp at hz);obtain ⟨c0,f0,z0⟩:=bxx hb (w.heap.size);obtain ⟨c1,f1,z1⟩:=bxx hb (w.heap.size+1);obtain ⟨c2,f2,z2⟩:=bxx hb (w.heap.size+1+1))|(go_at_call 169;(with_reducible refine (HOV.out _).mono ?_);rintro e w' ⟨rfl,hb⟩;have hz:=hb.size;(try simp at hz);obtain ⟨c0,f0,z0⟩:=bxx hb (w.heap.size);obtain ⟨c1,f1,z1⟩:=bxx hb (w.heap.size+1);obtain ⟨c2,f2,z2⟩:=bxx hb (w.heap.size+1+1))|fail)
  all_goals
   go_wp2_with fail
   exact bodyPost_ret (v:=Zbi x y z) (by simp [results,Tryz.results115,go_sem, *]) rfl ⟨rfl,bll⟩
end
end Go.Proofs.YticdknjoapdmeaaGreatDoor
