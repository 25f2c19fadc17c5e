/- Laws and walks. No condition beyond what each says. -/
import Derived.Test.YtolmpgbpdapaiaaGreatJ4
import Derived.SizedLaws
namespace Go.Proofs.YtolmpgbpdapaiaaGreat
open Go Go.Gm Tryz
set_option linter.unusedVariables false
set_option linter.unusedSimpArgs false
set_option maxHeartbeats 4000000
set_option maxRecDepth 8000
def Zv1 (x k:Int):Int:=x.fdiv (2 ^ min k.toNat (IntKind.bits .u64))
def Zty (x:Int):Int:=
 let y:=IntKind.wrap .u64 (bits .xor .u64 x (Zv1 x 32)*15485907386658061715)
 let z:=IntKind.wrap .u64 (bits .xor .u64 y (Zv1 y 29)*11562461410679940143)
 bits .xor .u64 z (Zv1 z 32)
theorem ZvU (x:Int):FnP prog 59 [.int .u64 x] (.int .u64 (Zty x)):=by
 refine FnP.mk func59 rfl ntmps59 rfl fun B a w F Z hfr G=>Ya ?_
 refine rZ G (qI qZ) Z Q0 [0] fun G=>Ya ?_
 refine rZ G (qR rr (qR rr (qf (Zf2 .t qi XW) r1 qz (qf (o_xor .t .t) r2 qz (qf (Zmr .t qi) r1 qz (qO rr qZ)))))) Z Q0 [0] fun G=>Ya ?_
 refine rZ G (qR rr (qR rr (qf (Zf2 .t qi XW) r1 qz (qf (o_xor .t .t) r2 qz (qf (Zmr .t qi) r1 qz (qO rr qZ)))))) Z Q0 [0] fun G=>Ya ?_
 refine rZ G (qR rr (qR rr (qf (Zf2 .t qi XW) r1 qz (qf (o_xor .t .t) r2 qz (qO rr qZ))))) Z [2] [0] fun G=>Yj ?_
 refine Zo hfr G rfl rfl rfl (.int rfl)
theorem Zpf {x y:Int} (h:Zty x=y):FnP prog 59 [.int .u64 x] (.int .u64 y):=by subst h;exact ZvU x
theorem Ent.sure {c:Prop} {s:SF} (h:c):Ent s (.when c s):=fun _ _ _ _ k=>⟨fun _=>k,fun n=>absurd h n⟩
def sLn:Nat→Int | 0=>3527108073019434443 | 1=>12876737138735796924 | 2=>3209123242544607264 | _=>2287719683272061836
def uLn:Nat→Int | 0=>7276982955256122417 | 1=>5465749429408321010 | _=>13675299590777985502
def wLn:Nat→Int | 0=>0 | 1=>2 | _=>1
def jLn:Nat→Int | 0=>4 | 1=>4 | _=>1
def oLn:Nat→OpD | 0=>⟨false,2,0,0⟩ | 1=>⟨true,2,4,1⟩ | _=>⟨true,2,0,0⟩
def Zku (i:Nat):List OpD:=⟨false,3,0,0⟩ :: (List.range i).map oLn
def ZwB:TxD:=⟨5,true,Zku 3⟩
def ZtH:ZhY:=⟨1,ZwB,⟨0,[]⟩,0,0,0,0⟩
theorem Zft:∀ i,i<3→Zty (IntKind.wrap .u64 (sLn i+1))=uLn i∧IntKind.wrap .i64 ((uLn i).tmod (IntKind.wrap .u64 3))=wLn i∧Zty (IntKind.wrap .u64 (uLn i+1))=sLn (i+1)∧IntKind.wrap .i64 ((sLn (i+1)).tmod (IntKind.wrap .u64 5))=jLn i∧IntKind.wrap .i64 (1+(jLn i).tmod 3)=2∧oLn i = ⟨decide (0<wLn i),2,if wLn i=2∧0<jLn i then jLn i else 0,if wLn i=2∧0<jLn i then 1 else 0⟩:=by decide +kernel
theorem ZgI (i:Nat):Zku (i+1)=Zku i ++ [oLn i]:=by unfold Zku;rw [List.range_succ,Y3];rfl
theorem ZpV (i:Nat):(Zku i).length=i+1:=by unfold Zku;simp
theorem ZfM (b:Nat) (s k s2 r:Int) (h1:Zty (IntKind.wrap .u64 (s+1))=s2) (hk:IntKind.wrap .u64 k≠0) (h2:IntKind.wrap .i64 (s2.tmod (IntKind.wrap .u64 k))=r):FnG prog 112 1 [.is (.pointer (some ⟨b,0,none⟩)),.int .i64 k] [Zid 123 [.pv (.int .u64 s)] (.pointer (some ⟨b,0,none⟩))] (.int .i64 r) (fun _=>[Zid 123 [.pv (.int .u64 s2)] (.pointer (some ⟨b,0,none⟩))]):=by
 refine FnG.mk func112 rfl ntmps112 rfl kr fun B F0 a w F Z hG G=>?_
 have G:=G.turn 1 rfl (r':=.pt (.val (.pointer (some ⟨b,0,none⟩))) 123 [.pv (.int .u64 s)]) (fun τ w f y h=>ZgS rfl τ w f y h)
 refine Ya (rZ G (qI qZ) Z KU KQ fun G=>Ya ?_)
 refine rZ G (qR rr (qf (o_nilCheck 1 .is XV) r1 r1 (qa 1 r1 r1 (qp r1 (qf (oP (Zpf h1) func59 (Args.one .t)) r1 qz (qO rr qZ)))))) Z Qh KQ fun G=>Ya ?_
 refine rZ G (qR rr (qR rr (qf (o_nilCheck 1 .is XV) r1 r1 (qf (ZZ 1 .adr .t one_int kr kr) r2 r1 qZ)))) Z G2 KQ fun G=>Ya ?_
 refine rZ G (qR rr (qR rr (qf (o_conv Yb9 kr .t) r1 qz (qf (Zjs .t .t  hk) r2 qz (qf (o_conv Yb1 kr .t) r1 qz (qO rr qZ)))))) Z [4] KQ fun G=>Yj ?_
 have G:=G.turn 1 rfl (r':=RS.hp (Zid 123 [.pv (.int .u64 s2)] (.pointer (some ⟨b,0,none⟩)))) (fun τ w f y h=>Zg6 rfl τ w f y h)
 refine ZL hG G rfl (.tmp rfl .nil) (.one (.int h2)) rfl
theorem ZsP (i r:Int) (h:IntKind.wrap .i64 (1+i.tmod 3)=r):FnP prog 158 [.int .i64 i] (.int .i64 r):=by
 refine FnP.mk func158 rfl ntmps158 rfl fun B a w F Z hfr G=>Ya ?_
 refine rZ G (qI qZ) Z Q0 [0] fun G=>Ya ?_
 refine rZ G (qR rr (qf (Zjs .t qi  XW) r1 qz (qf (Zce qi .t) r1 qz (qO rr qZ)))) Z [2] [0] fun G=>Yj ?_
 refine Zo hfr G rfl rfl rfl (.int h)
theorem Zu6 (b:Nat):FnG prog 114 1 [.is (.pointer (some ⟨b,0,none⟩)),.int .i64 5] [Zid 123 [.pv (.int .u64 6756745685349117372)] (.pointer (some ⟨b,0,none⟩))] (.agg (Zjz ZtH)) (fun _=>[Zid 123 [.pv (.int .u64 (sLn 3))] (.pointer (some ⟨b,0,none⟩))]):=by
 refine FnG.mk func114 rfl ntmps114 rfl kr fun B F0 a w F Z hG G=>?_
 have G:=G.turn 1 rfl (r':=.pt (.val (.pointer (some ⟨b,0,none⟩))) 123 [.pv (.int .u64 6756745685349117372)]) (fun τ w f y h=>ZgS rfl τ w f y h)
 refine Ya (rS G (qf (oH [.int .i64 0,.int .i64 0,.bool false,.slice none 0 0,.int .i64 0,.slice none 0 0,.int .i64 0,.int .i64 0,.int .i64 0,.int .i64 0] 101) trivial qz qZ) Z KU KS fun τ G=>?_)
 have G:=XI
 generalize τ 4=v4 at G
 refine Za (Ya (Zai 8 G kr (cG rfl (oM .t) r1 trivial (cG rfl (oM .t) r1 trivial (cG rfl (Zde (cells:=[.pv _]) (cells':=[.pv _]) 1 rfl rfl (ZfM b 6756745685349117372 6 10608240452835138161 5 K4 K4 K4) func112 rfl kr (Args.two .t (.ci kr))) r1 r1 (cG rfl (Zad .t (.ci kr)) r1 trivial (cG rfl (oM .t) r1 trivial (cG rfl (oP (ZsP 5 3 XW) func158 (Args.one .t)) r1 trivial (cG rfl (oB [(1,.tmp 14)] [.bool false,.int .i64 0,.int .i64 0,.int .i64 0] [(0,1),(1,1),(2,1),(3,1)] (.one rfl .t one_int kr .nil)) r1 trivial (cG rfl (Zb2 (R:=rOp) (l:=[⟨false,3,0,0⟩]) (sz:=4) (zs:=[.bool false,.int .i64 0,.int .i64 0,.int .i64 0]) (r:=[(0,.tmp 15)]) 102 YbZ kr kr kr kr rfl rfl (.agg rfl .t kr kr .nil) rfl rfl Wh) r1 trivial ChainN.nil)))))))) kr WG fun a w F G=>?_))
 replace G:=G.sub
 obtain ⟨F,G⟩:=G.nM [16,12,9,4,1,0] Jc
 have G:=Xi
 generalize Act.tau a 16=v16 at G
 refine Zat G kr (cG rfl (oB [(0,.tmp 9),(1,.tmp 12),(2,.tmp 16)] [.int .i64 0,.bool false,.slice none 0 0] [(0,1),(1,1),(2,1)] (.one rfl .t one_int kr (.one rfl .t ZbI kr (.one rfl .t one_is kr .nil)))) r3 trivial (cG rfl (oH [.int .i64 0,.bool false,.slice none 0 0] 103) trivial trivial (cG rfl (oA 3 103 .same .t) r2 r1 ChainN.nil))) kr WG fun a w F G=>?_
 replace G:=G.sub
 obtain ⟨F,G⟩:=G.nM Qh KY
 have G:=Xi
 generalize Act.tau a 5=v5 at G
 refine Za (Ya (Ya (rZ G (qR rr (qf (Zde (cells:=[.pv _]) (cells':=[.pv _]) 1 rfl rfl (ZfM b 10608240452835138161 4 (sLn 0) 3 K4 K4 K4) func112 rfl kr (Args.two .t qi)) r1 r1 (qJ qZ))) Z QR KY fun G=>Yi ?_)))
 refine Zk (σ:=Nat×Value×List OpD) [0,1,4,5,19] [0,101] (fun s=>[(20,.pv (.int .i64 (s.1:Int)))]) (fun s=>[(1,.pt (.val (.pointer (some ⟨b,0,none⟩))) 123 [.pv (.int .u64 (sLn s.1))]),(103,.pt (.val v5) 59 [.pv (.int .i64 5),.pv (.bool true),.pv (.is s.2.1)]),(102,.ob (.val s.2.1) (Zz 55 4 rOp s.2.2))]) (fun s=>s.1≤3∧s.2.2=Zku s.1) (fun s=>3 - s.1) ((0),(v16),([⟨false,3,0,0⟩])) G ⟨rfl,rfl,rfl,rfl,rfl,rfl,tv⟩ ⟨rfl,rfl,rfl,rfl,rfl,tv⟩ ⟨YA _,rfl⟩ ?_
 clear G;intro s a w F hC G
 obtain ⟨i,v5,out⟩:=s
 have hC:=X4
 obtain ⟨F,G⟩:=G.nM QR KY
 have G:=X3
 obtain ⟨hi3,hq⟩:=hC
 have hol:out.length=i+1:=by rw [hq,ZpV]
 refine Ya (rZ G (qL r2) Z [21,20,19,5,4,1,0] KY fun G=>Ya ?_)
 refine Zb G rfl (fun hc0=>?_) (fun hc0=>?_)
 ·have hi4:i<3:=by have h9:=Yd hc0;omega
  obtain ⟨hr1,hr2,hr3,hr4,hr5,hr6⟩:=Zft i hi4
  refine Yf (Za (Ya (Yi (Ya (rZ G (qR rr (qf (Zde (cells:=[.pv _]) (cells':=[.pv _]) 1 rfl rfl (ZfM b (sLn i) 3 (uLn i) (wLn i) hr1 XW hr2) func112 rfl kr (Args.two .t qi)) r1 r1 (qR rr (qR rr (qf (Zde (cells:=[.pv _]) (cells':=[.pv _]) 1 rfl rfl (ZfM b (uLn i) 5 (sLn (i+1)) (jLn i) hr3 XW hr4) func112 rfl kr (Args.two .t .t)) r2 r1 (qO rr (qO rr qZ))))))) Z [20,19,7,6,5,4,1,0] KY fun G=>Ya ?_)))))
  refine rS G (qR rr (qf (Zad .t qi) r1 qz (qR rr (qf (oP (ZsP (jLn i) 2 hr5) func158 (Args.one .t)) r1 qz (qf (oB [(0,.tmp 28),(1,.tmp 30)] [.bool false,.int .i64 0,.int .i64 0,.int .i64 0] [(0,1),(1,1),(2,1),(3,1)] (.one rfl .t ZbI kr (.one rfl .t one_int kr .nil))) r2 qz (qf (oH [.bool false,.int .i64 0,.int .i64 0,.int .i64 0] 104) trivial qz (qS 4 104 r2 r1 qZ))))))) Z [20,19,8,7,6,5,4,1,0] Qk fun τ G=>?_
  have G:=Xi
  generalize τ 8=v8 at G
  refine Za (Ya (Ya (rZ G (qR rr (qf (o_eql .t qi) r1 qz (qR rr (qm rfl rfl rfl rfl (qk rfl (fun h=>Zad (.w h) qi) r2 qz (qf (ZC .t .t) r2 qz qZ)))))) Z [37,20,19,8,7,5,4,1,0] Qk fun G=>?_)))
  refine Zb G rfl (fun hc1=>?_) (fun hc1=>?_)
  ·have hcw:wLn i=2∧0<jLn i:=by have h9:=hc1;simpa using h9
   have hoe:(⟨decide (0<wLn i),2,jLn i,1⟩:OpD)=oLn i:=by rw [hr6,Ye hcw,Ye hcw]
   refine rZ G (qR rr (qg 2 104 r1 r1 (qf (ZZ 104 .adr .t one_int kr kr) r2 r1 (qg 3 104 r1 r1 (qf (ZZ 104 .adr qi one_int kr kr) r1 r1 qZ))))) Z [20,19,8,5,4,1,0] Qk fun G=>?_
   refine rS G (qg 2 103 r1 r1 (qa 103 r1 r1 (qe 4 104 r1 r1 (qf (Zj (sz:=4) (zs:=[.bool false,.int .i64 0,.int .i64 0,.int .i64 0]) (r:=[(0,.tmp 43)]) (l:=[_,_,_,_]) YbZ kr kr kr kr rfl rfl (.agg rfl .t kr kr .nil) rfl) r1 qz (qf (o_append (sz:=4) (bs:=32) 102 (.mk' YbZ kr kr) Wh .is (.arr (l':=[(⟨decide (0<wLn i),2,jLn i,1⟩:OpD)]) .t) Ws XW) ⟨rfl,rfl,tv⟩ ⟨rfl,tv⟩ (qg 2 103 r1 r1 (qf (o_storeS 103 .adr kr kr) r2 r1 qZ))))))) Z QR Qk fun τ G=>?_
   have G:=Xr
   generalize τ 45=v45 at G
   refine Ze (Za (rZ G (qp r1 (qR rr qZ)) Z QR Qk fun G=>?_))
   replace G:=G.eI 20 i
   obtain ⟨F,G⟩:=G.nM [19,5,4,1,0,20] [101,0,102,103,1]
   exact ⟨((i+1),(v45),_),F,⟨ow,by rw [hq,ZgI,hoe]⟩,G,K5⟩
  have hcw:¬ (wLn i=2∧0<jLn i):=by have h9:=hc1;intro h8;simp [h8.1,h8.2] at h9
  have hoe:(⟨decide (0<wLn i),2,0,0⟩:OpD)=oLn i:=by rw [hr6,Yb hcw,Yb hcw]
  refine Yf (Za (rS G (qg 2 103 r1 r1 (qa 103 r1 r1 (qe 4 104 r1 r1 (qf (Zj (sz:=4) (zs:=[.bool false,.int .i64 0,.int .i64 0,.int .i64 0]) (r:=[(0,.tmp 43)]) (l:=[_,_,_,_]) YbZ kr kr kr kr rfl rfl (.agg rfl .t kr kr .nil) rfl) r1 qz (qf (o_append (sz:=4) (bs:=32) 102 (.mk' YbZ kr kr) Wh .is (.arr (l':=[(⟨decide (0<wLn i),2,0,0⟩:OpD)]) .t) Ws XW) ⟨rfl,rfl,tv⟩ ⟨rfl,tv⟩ (qg 2 103 r1 r1 (qf (o_storeS 103 .adr kr kr) r2 r1 qZ))))))) Z QR Qk fun τ G=>?_))
  have G:=Xr
  generalize τ 45=v45 at G
  refine Ze (Za (rZ G (qp r1 (qR rr qZ)) Z QR Qk fun G=>?_))
  replace G:=G.eI 20 i
  obtain ⟨F,G⟩:=G.nM [19,5,4,1,0,20] [101,0,102,103,1]
  exact ⟨((i+1),(v45),_),F,⟨ow,by rw [hq,ZgI,hoe]⟩,G,K5⟩
 have hi4:i=3:=KE
 subst hi4
 rw [hq] at G
 obtain ⟨F,G⟩:=G.giveCell 102 103 2 rfl rfl rfl rfl rfl
 try dsimp only [List.set] at G
 obtain ⟨F,G⟩:=G.nM [21,20,19,5,4,1,0] [103,101,1,0]
 refine Yz (Zg (Zg (Zm (Za (Ya (rZ G (qe 3 103 r1 r1 (qf (oB [(0,_),(1,.tmp 48)] [.int .i64 0,.int .i64 0,.bool false,.slice none 0 0,.int .i64 0,.slice none 0 0,.int .i64 0,.int .i64 0,.int .i64 0,.int .i64 0] [(0,1),(1,3),(4,2),(6,1),(7,1),(8,1),(9,1)] (.one rfl qi one_int kr (.agg rfl .t kr kr .nil))) r1 qz (qs 10 101 r2 r1 qZ))) Z [4] [103,101,1,0] fun G=>Yj ?_))))))
 have G:=G.turn 1 rfl (r':=RS.hp (Zid 123 [.pv (.int .u64 (sLn 3))] (.pointer (some ⟨b,0,none⟩)))) (fun τ w f y h=>Zg6 rfl τ w f y h)
 refine ZL hG G rfl (.cl 101 true 10 rfl rfl .nil) (.one (by first | exact .aggU rfl rfl | exact .aggLe rfl ⟨.refl,.refl,.refl,.refl,.refl,.nilSl,.refl,.refl,.refl,.refl,tv⟩)) rfl
theorem Zmb (c:ZhY) (hc:c.order.txs.length≤998):FnP prog 106 [.agg (Zjz c)] (.bool (Zbh c)):=by
 refine FnP.mk func106 rfl ntmps106 rfl fun B a w F Z hfr G=>?_
 have hnl:(Zcf c).length=c.order.txs.length+5:=by unfold Zcf;rw [Yc];simp only [Yh,Yq];omega
 refine Ya (rS G (qx 101 r1 qB) Z Q3 KN fun τ G=>?_)
 have G:=X5
 generalize τ 1=v1 at G
 refine Za (Ya (Ya (Zv G (qg 0 101 r1 r1 (qa 101 r1 r1 (qf (oP (ZsM c.kind) func107 (Args.one .t)) r1 qz (qf (Zia (ft:=9) (off:=0) kr kr .t rfl) r1 qz (qf (ZhZ Yb5 .t (.cs kr)) r1 qz (qR rr (qk rfl (fun h=>oL true 10 101 .is) r2 r1 (qk rfl (fun h=>oL true 10 101 .is) r2 r1 (qk rfl (fun h=>oP (ZuL c) func153 (Args.one (.pagg (.w h)))) r2 qz (qk rfl (fun h=>oP (ZnL c (usedR c)) func152 (Args.two (.pagg (.w h)) (.w h))) r3 qz (qk rfl (fun h=>o_not (.w h)) r2 qz (qf (Zaq .t .t) r2 qz (qR rr (qv 1 101 rfl r2 r1 (qk rfl (fun h=>oF 2 101 (.w h .adr)) r2 r1 (qw 101 rfl r2 r1 (qk rfl (fun h=>ZcS YbZ (.w h)) r2 qz (qk rfl (fun h=>Zad (.w h) qi) r2 qz (qf (Zaq .t .t) r2 qz (qR rr (qv 0 101 rfl r2 r1 (qw 101 rfl r2 r1 (qk rfl (fun h=>o_eql (.w h) qi) r2 qz (qk rfl (fun h=>oM (.w h)) r2 qz (Zu.cons (ZaF.cond2 rfl rfl (fun h=>ZS (off:=9) 101 .is kr XV)) r2 r1 (Zu.cons (ZaF.cond2 rfl rfl (fun h=>Zbz (ag:=false) (sz:=1) 101 (.w h .adr) kr kr kr XV)) r2 r1 (Zu.cons (ZaF.cond2 rfl rfl (fun h=>Zpv (ZsU c.phen) func110 rfl kr (Args.one (.w h)))) r2 qz (Zu.cons (ZaF.cond2 rfl rfl (fun h=>ZhZ Yb5 (.w h) (.cs kr))) r2 qz (qk rfl (fun h=>ZC (.w h) (.wc h)) r3 qz (qf (Zaq .t .t) r2 qz qZ)))))))))))))))))))))))))))))) Z [37,2,1] KN rfl rfl fun a w F G=>?_)))
 have G:=Xa
 refine Za (Zb G rfl (fun hc0=>?_) (fun hc0=>?_))
 ·have hg:false=Zbh c:=by
    unfold Zbh
    have hx:¬ ZmB c:=by
      rintro ⟨g1,g2,g3,g4⟩
      simp only [Yaq,Yw,Yl,Yae,Yr] at hc0
      rcases hc0 with ((hx | hx) | hx) | hx
      ·exact g1 hx
      ·exact hx g2
      ·omega
      ·exact g4 hx
    rw [YO hx]
    rfl
  refine Ya (rZ G qB Z Q3 KN fun G=>(Yj (Zh ?_)))
  refine Zo hfr G rfl rfl rfl (.bool hg)
 have hhd:ZmB c:=by
   rw [YbK] at hc0
   refine ⟨fun g=>hc0 ?_,Ya5 fun g=>hc0 ?_,Nat.le_of_not_lt fun g=>hc0 ?_,fun g=>hc0 ?_⟩
   ·simp only [Yaq,Yw,Yl,Yae,Yr];exact .inl (.inl (.inl g))
   ·simp only [Yaq,Yw,Yl,Yae,Yr];exact .inl (.inl (.inr g))
   ·simp only [Yaq,Yw,Yl,Yae,Yr];exact .inl (.inr ow)
   ·simp only [Yaq,Yw,Yl,Yae,Yr];exact .inr g
 have hol:=hhd.2.2.1
 refine Yf (Za (Ya (rS G (qg 1 101 r1 r1 (qf (oF 0 101 .adr) r1 r1 (qa 101 r1 r1 (qg 7 101 r1 r1 (qa 101 r1 r1 (qg 4 101 r1 r1 (qf (oF 0 101 .adr) r1 r1 (qa 101 r1 r1 (qg 6 101 r1 r1 (qa 101 r1 r1 (qg 8 101 r1 r1 (qa 101 r1 r1 (qf (Zb2 (R:=Zq) (l:=[c.tx.id,c.id,c.order.key,c.key,c.place]) (sz:=1) (zs:=[.int .i64 0]) (r:=[(0,.tmp 40),(1,.tmp 42),(2,.tmp 45),(3,.tmp 47),(4,.tmp 49)]) 102 YbY kr kr kr kr rfl rfl (.one rfl .t one_int kr (.one rfl .t one_int kr (.one rfl .t one_int kr (.one rfl .t one_int kr (.one rfl .t one_int kr .nil))))) rfl rfl Wh) r5 qz (qg 4 101 r1 r1 (qf (oF 1 101 .adr) r1 r1 (qa 101 r1 r1 (qf (o_append (sz:=1) (bs:=8) 102 (.mk' YbY kr kr) Wh .same (.sl .t) Ws XW) ⟨rfl,rfl,tv⟩ ⟨rfl,tv⟩ (qO rr qZ)))))))))))))))))) Z Qa KP fun τ G=>?_)))
 have G:=X0
 generalize τ 54=v54 at G
 refine Za (Ya (Ya ?_))
 obtain ⟨F,G⟩:=G.give 102 3 rfl rfl
 obtain ⟨F,G⟩:=G.nM Qa KN
 refine rZ G (qR rr (qu YbY r1 (qJ qZ))) Z [57,56,55,2,1] KN fun G=>Yi ?_
 obtain ⟨F,G⟩:=G.nM [57,56,55,1] KN
 refine ZY (σ:=Nat) (fun s=>(⟨[(1,.pv (.is v1)),(55,.pv (.sl Zq (Zcf c))),(56,.pv (.int .i64 ((Zcf c).length:Nat))),(57,.pv (.int .i64 (s:Nat)))],[(0,frame B),(101,.pt (.val v1) 127 [.pv (.int .i64 c.kind),.pv (.int .i64 c.tx.id),.pv (.bool c.tx.done),.pv (.sl rOp c.tx.ops),.pv (.int .i64 c.order.key),.pv (.sl Zq c.order.txs),.pv (.int .i64 c.key),.pv (.int .i64 c.id),.pv (.int .i64 c.place),.pv (.int .i64 c.phen)])]⟩:En)) (fun s=>s≤(Zcf c).length ∧ ∀ j,j<s→Ztk (Nn (Zcf c) j)=true) (fun s=>(Zcf c).length - s) 0 G ⟨YA _,fun j hj=>absurd hj (Yah _)⟩ ?_
 clear G;intro i a w F hC G
 have hC:=X4
 have G:=X3
 obtain ⟨hi0,hq⟩:=hC
 refine Ya (rZ G (qL r2) Z [58,57,56,55,1] KN fun G=>Ya ?_)
 refine Zb G rfl (fun hc1=>?_) (fun hc1=>?_)
 ·have hi:i<(Zcf c).length:=by have h9:=Yd hc1;omega
  refine Yf (Za (Ya (Yi (Ya (rZ G (qy 1 YbY r2 (qf (oR false 1 .t) r1 qz (qO rr qZ))) Z [57,56,55,5,1] KN fun G=>Ya ?_)))))
  refine rZ G (qR rr (qf (Zbb .t qi) r1 qz (qR rr (qm rfl rfl rfl rfl (qk rfl (fun h=>Zad (.w h) qi) r2 qz (qf (Zaq .t .t) r2 qz qZ)))))) Z [66,57,56,55,1] KN fun G=>?_
  refine Zb G rfl (fun hc2=>?_) (fun hc2=>?_)
  ·have hg:false=Zbh c:=by
     unfold Zbh
     have hx:¬ (Zcf c).all Ztk=true:=by
       intro h
       rw [Yad] at h
       have h9:=h _ (nth_mem hi)
       rw [Zh8] at h9
       rw [Yg] at hc2
       simp only [Yaq,Yl] at hc2
       omega
     rw [YbK.2 hx]
     simp
   refine Ya (rZ G qB Z [57,56,55,2,1] KN fun G=>(Yj (Zn (Zh (Zh (Zn (Zh ?_)))))))
   refine Zo hfr G rfl rfl rfl (.bool hg)
  have hqi:Ztk (Nn (Zcf c) i)=true:=by
    rw [Yg] at hc2
    rw [Zh8]
    simp only [YaU,Yr] at hc2
    omega
  refine Yf (Ze (Za (rZ G (qp r1 (qR rr qZ)) Z [57,56,55,1] KN fun G=>?_)))
  replace G:=G.eI 57 i
  obtain ⟨F,G⟩:=G.nM [57,56,55,1] KN
  exact ⟨i+1,F,⟨ow,fun j hj=>(Nat.lt_or_ge j i).elim (hq j) (fun h1=>(show i=j by omega) ▸ hqi)⟩,G,ow⟩
 have halln:(Zcf c).all Ztk=true:=by
   rw [Yad]
   intro x hx
   obtain ⟨j,hj,rfl⟩:=YR hx
   rw [← nth_eq hj]
   exact hq j (by have h9:=Yk hc1;omega)
 refine Yz (Zg (Zg (Zm (Za (Ya (Ya (rZ G (qg 1 101 r1 r1 (qf (oF 2 101 .adr) r1 r1 (qa 101 r1 r1 (qu YbZ r1 (qJ qZ))))) Z G9 KN fun G=>Yi ?_)))))))
 obtain ⟨F,G⟩:=G.nM G9 [0]
 refine ZY (σ:=Nat) (fun s=>(⟨[(70,.pv (.sl rOp c.tx.ops)),(71,.pv (.int .i64 (c.tx.ops.length:Nat))),(72,.pv (.int .i64 (s:Nat)))],[(0,frame B)]⟩:En)) (fun s=>s≤c.tx.ops.length ∧ ∀ j,j<s→Z1 (Nn c.tx.ops j)=true) (fun s=>c.tx.ops.length - s) 0 G ⟨YA _,fun j hj=>absurd hj (Yah _)⟩ ?_
 clear G;intro k a w F hC G
 have hC:=X4
 have G:=X3
 obtain ⟨hk0,hqo⟩:=hC
 refine Ya (rZ G (qL r2) Z [73,72,71,70] [0] fun G=>Ya ?_)
 refine Zb G rfl (fun hc3=>?_) (fun hc3=>?_)
 ·have hi:k<c.tx.ops.length:=by have h9:=Yd hc3;omega
  refine Yf (Za (Ya (Yi (Ya (rS G (qy 4 YbZ r2 (qf (oR true 4 .t) r1 qz (qf (oH [.bool false,.int .i64 0,.int .i64 0,.int .i64 0] 103) trivial qz (qS 4 103 r2 r1 qZ)))) Z [72,71,70,7] [103,0] fun τ G=>?_)))))
  have G:=X0
  generalize τ 7=v7 at G
  rw [Yg] at G
  refine Za (Ya (rZ G (qe 4 103 r1 r1 (qf (oP (ZfL (Nn c.tx.ops k)) func69 (Args.one (.pagg .t))) r1 qz (qf (o_neq .t qi) r1 qz qZ))) Z [78,72,71,70] [0] fun G=>?_))
  refine Zb G rfl (fun hc4=>?_) (fun hc4=>?_)
  ·have hg:false=Zbh c:=by
     unfold Zbh
     have hx:¬ c.tx.ops.all Z1=true:=by
       intro h
       rw [Yad] at h
       have h9:=h _ (nth_mem hi)
       rw [Zlq.2 h9] at hc4
       simp at hc4
     rw [YbK.2 hx]
     simp
   refine Ya (rZ G qB Z [72,71,70,2] [0] fun G=>(Yj (Zn (Zh (Zh (Zn (Zh ?_)))))))
   refine Zo hfr G rfl rfl rfl (.bool hg)
  have hqi:Z1 (Nn c.tx.ops k)=true:=Zlq.1 (by simpa using hc4)
  refine Yf (Ze (Za (rZ G (qp r1 (qR rr qZ)) Z G9 [0] fun G=>?_)))
  replace G:=G.eI 72 k
  obtain ⟨F,G⟩:=G.nM G9 [0]
  exact ⟨k+1,F,⟨ow,fun j hj=>(Nat.lt_or_ge j k).elim (hqo j) (fun h1=>(show k=j by omega) ▸ hqi)⟩,G,ow⟩
 have hallo:c.tx.ops.all Z1=true:=by
   rw [Yad]
   intro x hx
   obtain ⟨j,hj,rfl⟩:=YR hx
   rw [← nth_eq hj]
   exact hqo j (by have h9:=Yk hc3;omega)
 have hg:true=Zbh c:=by unfold Zbh;rw [YL hhd,halln,hallo];rfl
 refine Yz (Zg (Zg (Zm (Za (Ya (rZ G qB Z [2] [0] fun G=>Yj ?_))))))
 refine Zo hfr G rfl rfl rfl (.bool hg)
theorem ZbH (k:Int):(Z3 k).s.length≤4:=by
 rcases Classical.em (1≤k∧k≤12) with h | h
 ·rcases kinds h with rfl | rfl | rfl | rfl | rfl | rfl | rfl | rfl | rfl | rfl | rfl | rfl <;> decide +kernel
 ·have:(Z3 k).s = []:=Ya5 fun hx=>h (Znp hx)
  rw [this];simp
theorem Zr0 (p:Int):(Zcq p).length≤3:=by
 rcases Classical.em (Zcq p = []) with h | h
 ·rw [h];simp
 ·have:=(Zo1 h).1
  have:p=1∨p=2∨p=3∨p=4∨p=5:=ow
  rcases this with rfl | rfl | rfl | rfl | rfl <;> decide +kernel
theorem Zdd (l:List Int) (h:∀ n ∈ l,-9223372036854775808≤n∧n≤9223372036854775807):∀ i,i≤l.length→(Zak l i).length≤22*i
 | 0,_=>by simp [Zak]
 | i+1,hi=>by
  have h1:=Zdd l h i ow
  have h2:=ZU (h _ (nth_mem (show i<l.length by omega)))
  rw [Zak,Yc,Yc]
  split <;> simp only [Yh,Yq] <;> omega
theorem Zrk {c:ZhY} (h:Zbh c=true):∀ n ∈ Zcf c,0≤n∧n≤2147483647:=by
 unfold Zbh at h
 simp only [Yw] at h
 intro n hn
 exact Zh8.1 (Yad.1 h.2.1 n hn)
theorem Zdg {c:ZhY} (h:Zbh c=true):ZmB c:=by
 unfold Zbh at h
 simp only [Yw] at h
 exact Yd h.1
theorem Zpq (t:TxD) (h:0≤t.id∧t.id≤2147483647) (h2:t.ops.length≤4095):(ZfE t).length≤500000:=by
 have h1:=ZU (n:=t.id) ow
 have h3:=ZeY t.ops
 unfold ZfE Zcr
 rw [Yc,Yc]
 split <;> simp only [Yh,Yq] <;> omega
theorem Z4 {c:ZhY} (h:Zbh c=true) (hc:c.order.txs.length≤998):(ZaI c).length≤1∧sumL (ZaI c)≤500000:=by
 have hr:=Zrk h
 have hh:=(Zdg h).2.2.1
 have m1:c.tx.id ∈ Zcf c:=by unfold Zcf;simp
 have m2:c.id ∈ Zcf c:=by unfold Zcf;simp
 unfold ZaI
 split
 ·have:=Zpq c.tx (hr _ m1) hh
  exact ⟨YF _,by simpa [sumL] using this⟩
 ·split
  ·have:=ZU (n:=c.id) (by have:=hr _ m2;omega)
   exact ⟨YF _,by simp [sumL];omega⟩
  ·split
   ·have:=Zdd (c.order.key :: c.order.txs) (fun n hn=>by have:=hr n (by unfold Zcf;simp at hn ⊢;rcases hn with rfl | hn;exact .inr (.inr (.inl rfl));exact .inr (.inr (.inr (.inr (.inr hn)))));omega) _ (YF _)
    refine ⟨YF _,?_⟩
    have e:(c.order.key :: c.order.txs).length=c.order.txs.length+1:=XM
    simp only [sumL,Zdy,YG,Ya8,YaO,List.sum_nil]
    omega
   ·split
    ·have:=Zdd [c.key,c.id,c.place] (fun n hn=>by have:=hr n (by unfold Zcf;simp at hn ⊢;rcases hn with rfl | rfl | rfl;exact .inr (.inr (.inr (.inl rfl)));exact .inr (.inl rfl);exact .inr (.inr (.inr (.inr (.inl rfl)))));omega) _ (YF _)
     have h66:(Zdy [c.key,c.id,c.place]).length≤66:=this
     refine ⟨YF _,?_⟩
     simp only [sumL,YG,Ya8,YaO,List.sum_nil]
     omega
    ·split
     ·have:=Zr0 c.phen
      exact ⟨YF _,by simp [sumL];omega⟩
     ·simp [sumL]
theorem ZoN (c:ZhY) (hc:c.order.txs.length≤998):FnP prog 60 [.agg (Zjz c)] (.bs (ZeE c)):=by
 refine FnP.mk func60 rfl ntmps60 rfl fun B a w F Z hfr G=>Ya ?_
 refine rS G (qx 101 r1 (qf (oN (.cs kr)) trivial qz qZ)) Z Q3 KN fun τ G=>?_
 have G:=X5
 generalize τ 1=v1 at G
 refine Za (Ya (Ya (rZ G (qe 10 101 r1 r1 (qf (oP (Zmb c hc) func106 (Args.one (.pagg .t))) r1 qz (qf (o_not .t) r1 qz qZ))) Z [6,2,1] KN fun G=>?_)))
 refine Zb G rfl (fun hc0=>?_) (fun hc0=>?_)
 ·have hg:([]:List UInt8)=ZeE c:=by unfold ZeE;rw [Ye WV]
  refine Ya (rZ G (qf (oN (.cs kr)) trivial qz qZ) Z Q3 KN fun G=>(Yj (Zh ?_)))
  refine Zo hfr G rfl rfl rfl (.bs K6)
 have hrc:Zbh c=true:=WV
 refine Yf (Za (Ya (rS G (qg 0 101 r1 r1 (qa 101 r1 r1 (qf (oP (ZsM c.kind) func107 (Args.one .t)) r1 qz (qf (Zia (ft:=9) (off:=0) kr kr .t rfl) r1 qz (qf (Zb2 (R:=Zmq) (l:=[(Z3 c.kind).s]) (sz:=1) (zs:=[.string ⟨#[]⟩]) (r:=[(0,.tmp 10)]) 102 Yb3 kr kr kr kr rfl rfl (.one rfl .t Zah kr .nil) rfl rfl Wh) r1 qz (qO rr qZ)))))) Z Qa KP fun τ G=>?_)))
 have G:=X0
 generalize τ 11=v11 at G
 refine Za (Ya (Ya (rZ G (qg 0 101 r1 r1 (qa 101 r1 r1 qZ)) Z [13,3,2,1] KP fun G=>(Yi (Ya (Ya ?_))))))
 refine rZ G (qf (o_eql .t qi) r1 qz (qO rr qZ)) Z [14,13,3,2,1] KP fun G=>?_
 refine Zb G rfl (fun hc1=>?_) (fun hc1=>?_)
 ·have hk:c.kind=1∨c.kind=2:=Kt
  have hlist:[(Z3 c.kind).s,ZfE c.tx] = (Z3 c.kind).s :: ZaI c:=by unfold ZaI;rw [Ye hk]
  refine Yf (Za (Zb G rfl (fun hc2=>?_) (fun hc2=>?_)))
  ·have hk:c.kind=1∨c.kind=2:=Ku
   have hlist:[(Z3 c.kind).s,ZfE c.tx] = (Z3 c.kind).s :: ZaI c:=by unfold ZaI;rw [Ye hk]
   refine rS G (qR rr (qg 1 101 r1 r1 (qf (oL true 3 101 .adr) r1 r1 (qf (oP (Zk2 c.tx (by have:=(Zdg hrc).2.2.1;omega)) func108 (Args.one (.pagg .t))) r1 qz (qf (Zj (sz:=1) (zs:=[.string ⟨#[]⟩]) (r:=[(0,.tmp 20)]) (l:=[_]) Yb3 kr kr kr kr rfl rfl (.one rfl .t Zah kr .nil) rfl) r1 qz (qf (o_append (sz:=1) (bs:=16) 102 (.mk' Yb3 kr kr) Wh .is (.arr (l':=[ZfE c.tx]) .t) Ws XW) ⟨rfl,rfl,tv⟩ ⟨rfl,tv⟩ (qO rr qZ))))))) Z Q8 KP fun τ G=>?_
   have G:=X0
   generalize τ 22=v22 at G
   refine Ze (Za (Ya ?_))
   rw [hlist] at G
   obtain ⟨F,G⟩:=G.give 102 3 rfl rfl
   obtain ⟨F,G⟩:=G.nM Q8 KN
   refine rZ G (qR rr (qf (oP (Zez ((Z3 c.kind).s :: ZaI c) K7 K8) func111 (Args.one .t)) r1 qz (qO rr qZ))) Z [2] KN fun G=>Yj ?_
   refine Zo hfr G rfl rfl rfl (.bs K6)
  exact Bool.noConfusion (hc1.symm.trans hc2)
 have hn:=Yk hc1
 refine rZ G (qf (o_eql .t qi) r1 qz (qO rr qZ)) Z [14,13,3,2,1] KP fun G=>?_
 refine Zb G rfl (fun hc3=>?_) (fun hc3=>?_)
 ·have hk:c.kind=1∨c.kind=2:=Kv
  have hlist:[(Z3 c.kind).s,ZfE c.tx] = (Z3 c.kind).s :: ZaI c:=by unfold ZaI;rw [Ye hk]
  refine rS G (qR rr (qg 1 101 r1 r1 (qf (oL true 3 101 .adr) r1 r1 (qf (oP (Zk2 c.tx (by have:=(Zdg hrc).2.2.1;omega)) func108 (Args.one (.pagg .t))) r1 qz (qf (Zj (sz:=1) (zs:=[.string ⟨#[]⟩]) (r:=[(0,.tmp 20)]) (l:=[_]) Yb3 kr kr kr kr rfl rfl (.one rfl .t Zah kr .nil) rfl) r1 qz (qf (o_append (sz:=1) (bs:=16) 102 (.mk' Yb3 kr kr) Wh .is (.arr (l':=[ZfE c.tx]) .t) Ws XW) ⟨rfl,rfl,tv⟩ ⟨rfl,tv⟩ (qO rr qZ))))))) Z Q8 KP fun τ G=>?_
  have G:=X0
  generalize τ 22=v22 at G
  refine Ze (Za (Ya ?_))
  rw [hlist] at G
  obtain ⟨F,G⟩:=G.give 102 3 rfl rfl
  obtain ⟨F,G⟩:=G.nM Q8 KN
  refine rZ G (qR rr (qf (oP (Zez ((Z3 c.kind).s :: ZaI c) K7 K8) func111 (Args.one .t)) r1 qz (qO rr qZ))) Z [2] KN fun G=>Yj ?_
  refine Zo hfr G rfl rfl rfl (.bs K6)
 have hn:=Yk hc3
 refine Ya (Ya (rZ G (qf (o_eql .t qi) r1 qz (qO rr qZ)) Z [23,13,3,2,1] KP fun G=>?_))
 refine Zb G rfl (fun hc4=>?_) (fun hc4=>?_)
 ·have hk:c.kind=3∨c.kind=10:=Kw
  have hlist:[(Z3 c.kind).s,textL c.id] = (Z3 c.kind).s :: ZaI c:=KG
  refine Yf (Za (Zb G rfl (fun hc5=>?_) (fun hc5=>?_)))
  ·have hk:c.kind=3∨c.kind=10:=Kx
   have hlist:[(Z3 c.kind).s,textL c.id] = (Z3 c.kind).s :: ZaI c:=KG
   refine rS G (qR rr (qg 7 101 r1 r1 (qa 101 r1 r1 (qf (oP (Zc3 c.id) func23 (Args.one .t)) r1 qz (qf (Zj (sz:=1) (zs:=[.string ⟨#[]⟩]) (r:=[(0,.tmp 29)]) (l:=[_]) Yb3 kr kr kr kr rfl rfl (.one rfl .t Zah kr .nil) rfl) r1 qz (qf (o_append (sz:=1) (bs:=16) 102 (.mk' Yb3 kr kr) Wh .is (.arr (l':=[textL c.id]) .t) Ws XW) ⟨rfl,rfl,tv⟩ ⟨rfl,tv⟩ (qO rr qZ))))))) Z Q8 KP fun τ G=>?_
   have G:=X0
   generalize τ 31=v31 at G
   refine Ze (Za (Ya ?_))
   rw [hlist] at G
   obtain ⟨F,G⟩:=G.give 102 3 rfl rfl
   obtain ⟨F,G⟩:=G.nM Q8 KN
   refine rZ G (qR rr (qf (oP (Zez ((Z3 c.kind).s :: ZaI c) K7 K8) func111 (Args.one .t)) r1 qz (qO rr qZ))) Z [2] KN fun G=>Yj ?_
   refine Zo hfr G rfl rfl rfl (.bs K6)
  exact Bool.noConfusion (hc4.symm.trans hc5)
 have hn:=Yk hc4
 refine rZ G (qf (o_eql .t qi) r1 qz (qO rr qZ)) Z [23,13,3,2,1] KP fun G=>?_
 refine Zb G rfl (fun hc6=>?_) (fun hc6=>?_)
 ·have hk:c.kind=3∨c.kind=10:=by first | exact .inl (Yd hc6) | exact .inr (Yd hc6)
  have hlist:[(Z3 c.kind).s,textL c.id] = (Z3 c.kind).s :: ZaI c:=KG
  refine rS G (qR rr (qg 7 101 r1 r1 (qa 101 r1 r1 (qf (oP (Zc3 c.id) func23 (Args.one .t)) r1 qz (qf (Zj (sz:=1) (zs:=[.string ⟨#[]⟩]) (r:=[(0,.tmp 29)]) (l:=[_]) Yb3 kr kr kr kr rfl rfl (.one rfl .t Zah kr .nil) rfl) r1 qz (qf (o_append (sz:=1) (bs:=16) 102 (.mk' Yb3 kr kr) Wh .is (.arr (l':=[textL c.id]) .t) Ws XW) ⟨rfl,rfl,tv⟩ ⟨rfl,tv⟩ (qO rr qZ))))))) Z Q8 KP fun τ G=>?_
  have G:=X0
  generalize τ 31=v31 at G
  refine Ze (Za (Ya ?_))
  rw [hlist] at G
  obtain ⟨F,G⟩:=G.give 102 3 rfl rfl
  obtain ⟨F,G⟩:=G.nM Q8 KN
  refine rZ G (qR rr (qf (oP (Zez ((Z3 c.kind).s :: ZaI c) K7 K8) func111 (Args.one .t)) r1 qz (qO rr qZ))) Z [2] KN fun G=>Yj ?_
  refine Zo hfr G rfl rfl rfl (.bs K6)
 have hn:=Yk hc6
 refine Ya (rZ G (qf (o_eql .t qi) r1 qz (qO rr qZ)) Z [32,13,3,2,1] KP fun G=>?_)
 refine Zb G rfl (fun hc7=>?_) (fun hc7=>?_)
 ·have hk:=Yd hc7
  have hlist:[(Z3 c.kind).s,Zdy (c.order.key :: c.order.txs)] = (Z3 c.kind).s :: ZaI c:=by unfold ZaI;rw [Yb ow,Yb ow,Ye hk]
  refine rS G (qR rr (qg 4 101 r1 r1 (qf (oF 0 101 .adr) r1 r1 (qa 101 r1 r1 (qf (Zb2 (R:=Zq) (l:=[c.order.key]) (sz:=1) (zs:=[.int .i64 0]) (r:=[(0,.tmp 37)]) 103 YbY kr kr kr kr rfl rfl (.one rfl .t one_int kr .nil) rfl rfl Wh) r1 qz (qg 4 101 r1 r1 (qf (oF 1 101 .adr) r1 r1 (qa 101 r1 r1 (qf (o_append (sz:=1) (bs:=8) 103 (.mk' YbY kr kr) Wh .same (.sl .t) Ws XW) ⟨rfl,rfl,tv⟩ ⟨rfl,tv⟩ (qf (o_lendRow 103 (words_c (c.order.key :: c.order.txs) XT) (fun _ _ _ _ _ h=>h) func109 rfl kr .same) r1 r1 (qf (Zj (sz:=1) (zs:=[.string ⟨#[]⟩]) (r:=[(0,.tmp 43)]) (l:=[_]) Yb3 kr kr kr kr rfl rfl (.one rfl .t Zah kr .nil) rfl) r1 qz (qf (o_append (sz:=1) (bs:=16) 102 (.mk' Yb3 kr kr) Wh .is (.arr (l':=[Zdy (c.order.key :: c.order.txs)]) .t) Ws XW) ⟨rfl,rfl,tv⟩ ⟨rfl,tv⟩ (qO rr qZ))))))))))))) Z Q8 KO fun τ G=>?_
  have G:=X0
  generalize τ 45=v45,τ 42=v42 at G
  refine Ze (Za (Ya ?_))
  rw [hlist] at G
  obtain ⟨F,G⟩:=G.give 102 3 rfl rfl
  obtain ⟨F,G⟩:=G.nM Q8 Qt
  refine rZ G (qR rr (qf (oP (Zez ((Z3 c.kind).s :: ZaI c) K7 K8) func111 (Args.one .t)) r1 qz (qO rr qZ))) Z [2] Qt fun G=>Yj ?_
  refine Zo hfr G rfl rfl rfl (.bs K6)
 have hn:=Yk hc7
 refine Ya (rZ G (qf (o_eql .t qi) r1 qz (qO rr qZ)) Z [46,13,3,2,1] KP fun G=>?_)
 refine Zb G rfl (fun hc8=>?_) (fun hc8=>?_)
 ·have hk:=Yd hc8
  have hlist:[(Z3 c.kind).s,Zdy [c.key,c.id,c.place]] = (Z3 c.kind).s :: ZaI c:=by unfold ZaI;rw [Yb ow,Yb ow,Yb ow,Ye hk]
  refine rS G (qR rr (qg 6 101 r1 r1 (qa 101 r1 r1 (qg 7 101 r1 r1 (qa 101 r1 r1 (qg 8 101 r1 r1 (qa 101 r1 r1 (qf (Zj (sz:=1) (zs:=[.int .i64 0]) (r:=[(0,.tmp 50),(1,.tmp 52),(2,.tmp 54)]) (l:=[_,_,_]) YbY kr kr kr kr rfl rfl (.one rfl .t one_int kr (.one rfl .t one_int kr (.one rfl .t one_int kr .nil))) rfl) r3 qz (qf (oP (words_c [c.key,c.id,c.place] XM) func109 (Args.one (.conv .t (Ent.arrSl (R:=Zq) (l:=[c.key,c.id,c.place]) rfl)))) r1 qz (qf (Zj (sz:=1) (zs:=[.string ⟨#[]⟩]) (r:=[(0,.tmp 56)]) (l:=[_]) Yb3 kr kr kr kr rfl rfl (.one rfl .t Zah kr .nil) rfl) r1 qz (qf (o_append (sz:=1) (bs:=16) 102 (.mk' Yb3 kr kr) Wh .is (.arr (l':=[Zdy [c.key,c.id,c.place]]) .t) Ws XW) ⟨rfl,rfl,tv⟩ ⟨rfl,tv⟩ (qO rr qZ)))))))))))) Z Q8 KP fun τ G=>?_
  have G:=X0
  generalize τ 58=v58 at G
  refine Ze (Za (Ya ?_))
  rw [hlist] at G
  obtain ⟨F,G⟩:=G.give 102 3 rfl rfl
  obtain ⟨F,G⟩:=G.nM Q8 KN
  refine rZ G (qR rr (qf (oP (Zez ((Z3 c.kind).s :: ZaI c) K7 K8) func111 (Args.one .t)) r1 qz (qO rr qZ))) Z [2] KN fun G=>Yj ?_
  refine Zo hfr G rfl rfl rfl (.bs K6)
 have hn:=Yk hc8
 refine Ya (rZ G (qf (o_eql .t qi) r1 qz (qO rr qZ)) Z [59,3,2,1] KP fun G=>?_)
 refine Zb G rfl (fun hc9=>?_) (fun hc9=>?_)
 ·have hk:=Yd hc9
  have hlist:[(Z3 c.kind).s,Zcq c.phen] = (Z3 c.kind).s :: ZaI c:=by unfold ZaI;rw [Yb ow,Yb ow,Yb ow,Yb ow,Ye hk]
  refine rS G (qR rr (qg 9 101 r1 r1 (qa 101 r1 r1 (qf (oP (ZsU c.phen) func110 (Args.one .t)) r1 qz (qf (Zj (sz:=1) (zs:=[.string ⟨#[]⟩]) (r:=[(0,.tmp 64)]) (l:=[_]) Yb3 kr kr kr kr rfl rfl (.one rfl .t Zah kr .nil) rfl) r1 qz (qf (o_append (sz:=1) (bs:=16) 102 (.mk' Yb3 kr kr) Wh .is (.arr (l':=[Zcq c.phen]) .t) Ws XW) ⟨rfl,rfl,tv⟩ ⟨rfl,tv⟩ (qO rr qZ))))))) Z Q8 KP fun τ G=>?_
  have G:=X0
  generalize τ 66=v66 at G
  refine Ze (Za (Ya ?_))
  rw [hlist] at G
  obtain ⟨F,G⟩:=G.give 102 3 rfl rfl
  obtain ⟨F,G⟩:=G.nM Q8 KN
  refine rZ G (qR rr (qf (oP (Zez ((Z3 c.kind).s :: ZaI c) K7 K8) func111 (Args.one .t)) r1 qz (qO rr qZ))) Z [2] KN fun G=>Yj ?_
  refine Zo hfr G rfl rfl rfl (.bs K6)
 have hn:=Yk hc9
 have hlist:[(Z3 c.kind).s] = (Z3 c.kind).s :: ZaI c:=by unfold ZaI;rw [Yb ow,Yb ow,Yb ow,Yb ow,Yb ow]
 refine Yf (Ze (Za (Ya ?_)))
 rw [hlist] at G
 obtain ⟨F,G⟩:=G.give 102 3 rfl rfl
 obtain ⟨F,G⟩:=G.nM [59,3,2,1] KN
 refine rZ G (qR rr (qf (oP (Zez ((Z3 c.kind).s :: ZaI c) K7 K8) func111 (Args.one .t)) r1 qz (qO rr qZ))) Z [2] KN fun G=>Yj ?_
 refine Zo hfr G rfl rfl rfl (.bs K6)
theorem Zl5 (b:Nat):FnG prog 61 1 [.is (.pointer (some ⟨b,0,none⟩)),.int .i64 5] [Zid 123 [.pv (.int .u64 8565198272695139780)] (.pointer (some ⟨b,0,none⟩))] (.agg (Zjz ZtH)) (fun _=>[Zid 123 [.pv (.int .u64 (sLn 3))] (.pointer (some ⟨b,0,none⟩))]):=by
 refine FnG.mk func61 rfl ntmps61 rfl kr fun B F0 a w F Z hG G=>?_
 have G:=G.turn 1 rfl (r':=.pt (.val (.pointer (some ⟨b,0,none⟩))) 123 [.pv (.int .u64 8565198272695139780)]) (fun τ w f y h=>ZgS rfl τ w f y h)
 refine Ya (rS G (qf (oH [.int .i64 0,.int .i64 0,.bool false,.slice none 0 0,.int .i64 0,.slice none 0 0,.int .i64 0,.int .i64 0,.int .i64 0,.int .i64 0] 101) trivial qz qZ) Z KU KS fun τ G=>?_)
 have G:=XI
 generalize τ 4=v4 at G
 refine Za (Ya (Ya (rZ G (qR rr (qf (Zde (cells:=[.pv _]) (cells':=[.pv _]) 1 rfl rfl (ZfM b 8565198272695139780 8 6756745685349117372 4 K4 K4 K4) func112 rfl kr (Args.two .t qi)) r1 r1 qZ)) Z [7,4,1,0] KS fun G=>(Yi (Ya ?_)))))
 refine rZ G (qf (o_eql .t qi) r1 qz (qO rr qZ)) Z Qm KS fun G=>?_
 refine Zb G rfl (fun hc0=>?_) (fun hc0=>?_)
 ·have h9:=hc0
  exact absurd h9 XW
 refine Ya (rZ G (qf (o_eql .t qi) r1 qz (qO rr qZ)) Z [20,7,4,1,0] KS fun G=>?_)
 refine Zb G rfl (fun hc1=>?_) (fun hc1=>?_)
 ·have h9:=hc1
  exact absurd h9 XW
 refine Ya (rZ G (qf (o_eql .t qi) r1 qz (qO rr qZ)) Z [25,4,1,0] KS fun G=>?_)
 refine Zb G rfl (fun hc2=>?_) (fun hc2=>?_)
 ·have h9:=hc2
  exact absurd h9 XW
 refine Yf (Ze (Za (Ya (rZ G (qR rr (qR rr (qf (Zde (cells:=[.pv _]) (cells':=[.pv _]) 1 rfl rfl (Zu6 b) func114 rfl kr (Args.two .t .t)) r2 r1 (qf (oA 10 101 .is (.conv .t .agg)) r2 r1 qZ)))) Z [4] KS fun G=>Yj ?_))))
 have G:=G.turn 1 rfl (r':=RS.hp (Zid 123 [.pv (.int .u64 (sLn 3))] (.pointer (some ⟨b,0,none⟩)))) (fun τ w f y h=>Zg6 rfl τ w f y h)
 refine ZL hG G rfl (.cl 101 true 10 rfl rfl .nil) (.one (by first | exact .refl | exact .aggU rfl rfl)) rfl
theorem Zhf  : FnP prog 25 [.int .u64 7,.int .i64 5] (.bs ([97,100,100,32,53,32,99,32,119,51,32,119,50,32,114,50,64,52,46,49,32,114,50,64,48]:List UInt8)):=by
 refine FnP.mk func25 rfl ntmps25 rfl fun B a w F Z hfr G=>Ya ?_
 refine rZ G (qf (oN (.cs kr)) trivial qz qZ) Z KU [0] fun G=>(Ya (Ya ?_))
 refine Zc G (qR rr (qf (Zbb .t qi) r1 qz (qR rr (Zu.cons (ZaF.run rfl rfl (XW) (Zcn .t XV)) r2 qz (Zu.cons (ZaF.run rfl rfl (XW) (Zad .t qi)) r2 qz (qf (Zaq .t (.conv .t (Ent.sure XW))) r2 qz qZ)))))) Z [11,4,1,0] [0] rfl rfl fun a w F G=>?_
 try dsimp only [Zjz] at G
 refine Za (Zb G rfl (fun hc0=>?_) (fun hc0=>?_))
 ·have h9:=hc0
  exact absurd h9 XW
 refine Yf (Za (Ya (rS G (qR rr (qR rr (qf (o_conv Yb9 kr .t) r1 qz (qf (oP (Zpf (show Zty (IntKind.wrap .u64 5)=347963083821671780 by decide +kernel)) func59 (Args.one .t)) r1 qz (qf (o_xor .t .t) r2 qz (qf (oP (Zpf (show Zty (bits .xor .u64 7 347963083821671780)=8565198272695139780 by decide +kernel)) func59 (Args.one .t)) r1 qz (qf (oH [.int .u64 0] 101) trivial qz (qf (ZZ 101 .same .t one_int kr kr) r2 r1 qZ)))))))) Z G2 KN fun τ G=>?_)))
 try dsimp only [RS.sub,SF.sub,CF.sub,csub,Anc.sub,List.map,Zd,xL,xM,Nat.reduceAdd,xD,xE,xT,xU,xC,xN,zCF,Zjz] at G
 generalize τ 5=v5 at G
 obtain ⟨b5,rfl⟩:=G.shape 101 rfl
 obtain ⟨F,G⟩:=G.nM G2 KN
 refine Za (Ya (rZ G (qR rr (qf (Zde (cells:=[.pv _]) (cells':=[.pv _]) 101 rfl rfl (Zl5 b5) func61 rfl kr (Args.two .t .t)) r2 r1 (qf (oP (ZoN ZtH XW) func60 (Args.one .t)) r1 qz (qO rr qZ)))) Z [4] KN fun G=>Yj ?_))
 refine Zo hfr G rfl rfl rfl (.bs K4)
theorem Zol {x:Int} (h:0≤x∧x≤18446744073709551615):IntKind.wrap .u64 x=x:=ZdW ⟨by simp [IntKind.min,IntKind.signed,IntKind.bits];omega,by simp [IntKind.max,IntKind.signed,IntKind.bits];omega⟩
theorem half9 {x:Int} (hx:0≤x∧x≤18446744073709551615) (i:Nat):IntKind.wrap .u64 ((x / 2 ^ i).tdiv 2)=x / 2 ^ (i+1):=by
 have h0:0≤x / 2 ^ i:=Int.ediv_nonneg hx.1 (YaV (Int.pow_pos XW))
 have h1:x / 2 ^ i≤x:=Int.ediv_le_self _ hx.1
 rw [YaX h0,Int.ediv_ediv_of_nonneg (YaV (Int.pow_pos XW)),← Int.pow_succ]
 have h2:0≤x / 2 ^ (i+1):=Int.ediv_nonneg hx.1 (YaV (Int.pow_pos XW))
 have h3:x / 2 ^ (i+1)≤x:=Int.ediv_le_self _ hx.1
 exact Zol ⟨h2,Int.le_trans h3 hx.2⟩
theorem ZhA (x n:Int) (hx:0≤x∧x≤18446744073709551615) (hn:0≤n∧n≤64):FnP prog 115 [.int .u64 x,.int .u64 n] (.int .u64 (bits .xor .u64 x (x / 2 ^ n.toNat))):=by
 refine FnP.mk func115 rfl ntmps115 rfl fun B a w F Z hfr G=>Ya ?_
 refine rZ G (qI qZ) Z KU [0] fun G=>Ya ?_
 refine rZ G (qR rr (qO rr qZ)) Z Qh [0] fun G=>(Ya (Ya ?_))
 refine rZ G (qI qZ) Z QG [0] fun G=>Yi ?_
 replace G:=G.ent (i:=5) (s':=.pv (.int .u64 (x / 2 ^ 0))) rfl (.int XM)
 refine Zk (σ:=Nat) [0,1,4] [0] (fun s=>[(5,.pv (.int .u64 (x / 2 ^ s))),(6,.pv (.int .u64 (s:Int)))]) (fun s=>[]) (fun s=>(s:Int)≤n) (fun s=>n.toNat - s) (0) G ⟨rfl,rfl,rfl,rfl,rfl,tv⟩ ⟨rfl,tv⟩ (by show ((0:Nat):Int)≤n;omega) ?_
 clear G;intro i a w F hC G
 have hC:=X4
 obtain ⟨F,G⟩:=G.nM QG [0]
 have G:=X3
 have hin:(i:Int)≤n:=hC
 refine Ya (Ya (rZ G (qR rr (qR rr (qL r2))) Z [10,6,5,4,1,0] [0] fun G=>?_))
 refine Zb G rfl (fun hc0=>?_) (fun hc0=>?_)
 ·have hil9:(i:Int)<n:=Yd hc0
  refine Yf (Za (Ya (Yi (Zc G (qR rr (qf (ZmW .t qi  XW) r1 qz (qO rr qZ))) Z QG [0] rfl rfl fun a w F G=>Ze (Za ?_)))))
  refine rZ G (qR rr (qp r1 (qO rr qZ))) Z QG [0] fun G=>?_
  replace G:=G.ent (i:=5) (s':=.pv (.int .u64 (x / 2 ^ (i+1)))) rfl (.int (half9 hx i))
  replace G:=G.ent (i:=6) (s':=.pv (.int .u64 ((i+1:Nat):Int))) rfl (.int (by rw [Zol ow];omega))
  obtain ⟨F,G⟩:=G.nM [4,1,0,6,5] [0]
  exact ⟨(i+1),F,(by show ((i+1:Nat):Int)≤n;omega),G,(by show n.toNat - (i+1)<n.toNat - i;omega)⟩
 have hil9:(i:Int)=n:=KE
 have hfin:bits .xor .u64 x (x / 2 ^ i)=bits .xor .u64 x (x / 2 ^ n.toNat):=by rw [← hil9];rfl
 refine Yz (Zg (Zg (Zm (Za (Ya (rZ G (qR rr (qR rr (qf (o_xor .t .t) r2 qz (qO rr qZ)))) Z [4] [0] fun G=>Yj ?_))))))
 refine Zo hfr G rfl rfl rfl (.int hfin)
theorem ZeR (z:Int):0≤IntKind.wrap .u64 z∧IntKind.wrap .u64 z≤18446744073709551615:=by
 have:=ZbK .u64 z
 simp [inR,IntKind.min,IntKind.max,IntKind.signed,IntKind.bits] at this
 omega
def ZtS (x:Int):Int:=bits .xor .u64 (IntKind.wrap .u64 (bits .xor .u64 (IntKind.wrap .u64 (bits .xor .u64 x (x / 2 ^ (32:Int).toNat)*15485907386658061715)) (IntKind.wrap .u64 (bits .xor .u64 x (x / 2 ^ (32:Int).toNat)*15485907386658061715) / 2 ^ (29:Int).toNat)*11562461410679940143)) (IntKind.wrap .u64 (bits .xor .u64 (IntKind.wrap .u64 (bits .xor .u64 x (x / 2 ^ (32:Int).toNat)*15485907386658061715)) (IntKind.wrap .u64 (bits .xor .u64 x (x / 2 ^ (32:Int).toNat)*15485907386658061715) / 2 ^ (29:Int).toNat)*11562461410679940143) / 2 ^ (32:Int).toNat)
theorem Zqt (x:Int) (hx:0≤x∧x≤18446744073709551615):FnP prog 63 [.int .u64 x] (.int .u64 (ZtS x)):=by
 refine FnP.mk func63 rfl ntmps63 rfl fun B a w F Z hfr G=>Ya ?_
 refine rZ G (qI qZ) Z Q0 [0] fun G=>Ya ?_
 refine rZ G (qR rr (qf (oP (ZhA x 32 hx XW) func115 (Args.two .t qi)) r1 qz (qf (Zmr .t qi) r1 qz (qO rr qZ)))) Z Q0 [0] fun G=>Ya ?_
 refine rZ G (qR rr (qf (oP (ZhA (IntKind.wrap .u64 (bits .xor .u64 x (x / 2 ^ (32:Int).toNat)*15485907386658061715)) 29 (ZeR _) XW) func115 (Args.two .t qi)) r1 qz (qf (Zmr .t qi) r1 qz (qO rr qZ)))) Z Q0 [0] fun G=>Ya ?_
 refine rZ G (qR rr (qf (oP (ZhA (IntKind.wrap .u64 (bits .xor .u64 (IntKind.wrap .u64 (bits .xor .u64 x (x / 2 ^ (32:Int).toNat)*15485907386658061715)) ((IntKind.wrap .u64 (bits .xor .u64 x (x / 2 ^ (32:Int).toNat)*15485907386658061715)) / 2 ^ (29:Int).toNat)*11562461410679940143)) 32 (ZeR _) XW) func115 (Args.two .t qi)) r1 qz (qO rr qZ))) Z [2] [0] fun G=>Yj ?_
 refine Zo hfr G rfl rfl rfl (.int rfl)
theorem Ze2 {x y:Int} (hx:0≤x∧x≤18446744073709551615) (h:ZtS x=y):FnP prog 63 [.int .u64 x] (.int .u64 y):=by subst h;exact Zqt x hx
theorem Zbs (x y:Int) (h:ZtS (IntKind.wrap .u64 (x+1))=y):FnP prog 62 [.int .u64 x] (.int .u64 y):=by
 refine FnP.mk func62 rfl ntmps62 rfl fun B a w F Z hfr G=>Ya ?_
 refine rZ G (qI qZ) Z Q0 [0] fun G=>Ya ?_
 refine rZ G (qR rr (qp r1 (qf (oP (Ze2 (ZeR _) h) func63 (Args.one .t)) r1 qz (qO rr qZ)))) Z [2] [0] fun G=>Yj ?_
 refine Zo hfr G rfl rfl rfl .refl
theorem Zct (x k r:Int) (hk:IntKind.wrap .u64 k≠0) (h:IntKind.wrap .i64 (x.tmod (IntKind.wrap .u64 k))=r):FnP prog 64 [.int .u64 x,.int .i64 k] (.int .i64 r):=by
 refine FnP.mk func64 rfl ntmps64 rfl fun B a w F Z hfr G=>Ya ?_
 refine rZ G (qI qZ) Z KU [0] fun G=>Ya ?_
 refine rZ G (qR rr (qR rr (qf (o_conv Yb9 kr .t) r1 qz (qf (Zjs .t .t  hk) r2 qz (qf (o_conv Yb1 kr .t) r1 qz (qO rr qZ)))))) Z [4] [0] fun G=>Yj ?_
 refine Zo hfr G rfl rfl rfl (.int h)
def Zhy (i:Nat):List UInt8:=(List.range i).flatMap fun j=>32 :: Zao (oLn j)
theorem Zd3 (i:Nat):Zhy (i+1)=Zhy i++(32 :: Zao (oLn i)):=by unfold Zhy;rw [List.range_succ,Y2];simp
theorem Zf3:∀ i,i<4→(Zhy i).length≤100:=by decide +kernel
theorem Zj7:∀ i,i<3→(Zao (oLn i)).length≤20:=by decide +kernel
theorem Zjn:∀ i,i<3→ZtS (IntKind.wrap .u64 (sLn i+1))=uLn i∧ZtS (IntKind.wrap .u64 (uLn i+1))=sLn (i+1):=by decide +kernel
theorem Zof  : FnP prog 66 [.int .u64 (sLn 0),.int .i64 3,.int .i64 5] (.bs (Zhy 3)):=by
 refine FnP.mk func66 rfl ntmps66 rfl fun B a w F Z hfr G=>Ya ?_
 refine rZ G (qf (oN (.cs kr)) trivial qz qZ) Z JH [0] fun G=>Ya ?_
 refine rZ G (qf (oN (.cs kr)) trivial qz qZ) Z Qu [0] fun G=>(Ya (Yi ?_))
 replace G:=G.ent (i:=1) (s':=.pv (.int .i64 ((3:Int) - ((0:Nat):Int)))) rfl (.int rfl)
 refine Zk (σ:=Nat) [2,6] [0] (fun s=>[(0,.pv (.int .u64 (sLn s))),(1,.pv (.int .i64 ((3:Int) - (s:Int)))),(7,.pv (.bs (Zhy s)))]) (fun s=>[]) (fun s=>s≤3) (fun s=>3 - s) (0) G ⟨rfl,rfl,rfl,rfl,rfl,tv⟩ ⟨rfl,tv⟩ (YA _) ?_
 clear G;intro i a w F hC G
 have hC:=X4
 obtain ⟨F,G⟩:=G.nM Qu [0]
 have G:=X3
 have hi3:i≤3:=hC
 refine Ya (Ya (rZ G (qR rr (qf (Zad .t qi) r1 qz qZ)) Z [12,7,6,2,1,0] [0] fun G=>?_))
 refine Zb G rfl (fun hc0=>?_) (fun hc0=>?_)
 ·have hi4:i<3:=by have h9:=Yd hc0;omega
  obtain ⟨hr1,hr2,hr3,hr4,hr5,hr6⟩:=Zft i hi4
  obtain ⟨hq1,hq2⟩:=Zjn i hi4
  refine Yf (Za (Ya (Yi (Ya (rZ G (qR rr (qf (oP (Zbs (sLn i) (uLn i) hq1) func62 (Args.one .t)) r1 qz (qO rr qZ))) Z Qu [0] fun G=>Ya ?_)))))
  refine rZ G (qR rr (qf (oP (Zct (uLn i) 3 (wLn i) XW hr2) func64 (Args.two .t qi)) r1 qz (qO rr qZ))) Z Qv [0] fun G=>Ya ?_
  refine rZ G (qR rr (qf (oP (Zbs (uLn i) (sLn (i+1)) hq2) func62 (Args.one .t)) r1 qz (qO rr qZ))) Z Qv [0] fun G=>Ya ?_
  refine rZ G (qR rr (qR rr (qf (oP (Zct (sLn (i+1)) 5 (jLn i) XW hr4) func64 (Args.two .t .t)) r2 qz (qO rr qZ)))) Z QZ [0] fun G=>Ya ?_
  refine rS G (qR rr (qf (Zjs .t qi  XW) r1 qz (qf (Zce qi .t) r1 qz (qf (oB [(1,.tmp 26)] [.bool false,.int .i64 0,.int .i64 0,.int .i64 0] [(0,1),(1,1),(2,1),(3,1)] (.one rfl .t one_int kr .nil)) r1 qz (qf (oH [.bool false,.int .i64 0,.int .i64 0,.int .i64 0] 101) trivial qz (qS 4 101 r2 r1 qZ)))))) Z [10,9,8,7,6,2,1,0] KN fun τ G=>?_
  have G:=Xw
  generalize τ 10=v10 at G
  rw [hr5] at G
  refine Za (Ya (Ya (rZ G (qR rr (qf (Zad .t qi) r1 qz qZ)) Z [29,10,9,8,7,6,2,1,0] KN fun G=>?_)))
  refine Zb G rfl (fun hc1=>?_) (fun hc1=>?_)
  ·have hw0:0<wLn i:=Yd hc1
   refine rZ G (qg 0 101 r1 r1 (qf (ZZ 101 .adr .cb ZbI kr kr) r1 r1 qZ)) Z [10,9,8,7,6,2,1,0] KN fun G=>(Ya (Ya ?_))
   refine rZ G (qR rr (qf (o_eql .t qi) r1 qz (qR rr (qm rfl rfl rfl rfl (qk rfl (fun h=>Zad (.w h) qi) r2 qz (qf (ZC .t .t) r2 qz qZ)))))) Z [36,10,9,7,6,2,1,0] KN fun G=>?_
   refine Zb G rfl (fun hc2=>?_) (fun hc2=>?_)
   ·have hcw:wLn i=2∧0<jLn i:=KF
    have hoe:(⟨true,2,jLn i,1⟩:OpD)=oLn i:=by rw [hr6,YL hw0,Ye hcw,Ye hcw]
    have hol9:=Zj7 i hi4
    rw [← hoe] at hol9
    have hsl9:=Zf3 i ow
    refine Ya (rZ G (qR rr (qg 2 101 r1 r1 (qf (ZZ 101 .adr .t one_int kr kr) r2 r1 qZ))) Z [10,7,6,2,1,0] KN fun G=>?_)
    refine rZ G (qg 3 101 r1 r1 (qf (ZZ 101 .adr qi one_int kr kr) r1 r1 qZ)) Z [10,7,6,2,1,0] KN fun G=>?_
    refine Zc G (qR rr (qe 4 101 r1 r1 (qf (oP (Zdl (⟨true,2,jLn i,1⟩:OpD)) func116 (Args.one (.pagg .t))) r1 qz (qf (ZD (.cs kr) .t  K9) r1 qz (qf (ZD .t .t  K9) r2 qz (qO rr qZ)))))) Z Qu KN rfl rfl fun a w F G=>Ze (Za ?_)
    refine rZ G (qR rr (qf (o_sub .t qi) r1 qz (qO rr qZ))) Z Qu KN fun G=>?_
    replace G:=G.ent (i:=0) (s':=.pv (.int .u64 (sLn (i+1)))) rfl (.refl)
    replace G:=G.ent (i:=1) (s':=.pv (.int .i64 ((3:Int) - ((i+1:Nat):Int)))) rfl (.int K3)
    replace G:=G.ent (i:=7) (s':=.pv (.bs (Zhy (i+1)))) rfl (.bs (by rw [Zd3,← hoe];simp))
    obtain ⟨F,G⟩:=G.nM [6,2,7,1,0] [0]
    exact ⟨(i+1),F,(by show i+1≤3;omega),G,K5⟩
   have hcw:¬ (wLn i=2∧0<jLn i):=by have h9:=hc2;intro h8;simp [h8.1,h8.2] at h9
   have hoe:(⟨true,2,0,0⟩:OpD)=oLn i:=by rw [hr6,YL hw0,Yb hcw,Yb hcw]
   have hol9:=Zj7 i hi4
   rw [← hoe] at hol9
   have hsl9:=Zf3 i ow
   refine Yf (Za (Zc G (qR rr (qe 4 101 r1 r1 (qf (oP (Zdl (⟨true,2,0,0⟩:OpD)) func116 (Args.one (.pagg .t))) r1 qz (qf (ZD (.cs kr) .t  K9) r1 qz (qf (ZD .t .t  K9) r2 qz (qO rr qZ)))))) Z Qu KN rfl rfl fun a w F G=>Ze (Za ?_)))
   refine rZ G (qR rr (qf (o_sub .t qi) r1 qz (qO rr qZ))) Z Qu KN fun G=>?_
   replace G:=G.ent (i:=0) (s':=.pv (.int .u64 (sLn (i+1)))) rfl (.refl)
   replace G:=G.ent (i:=1) (s':=.pv (.int .i64 ((3:Int) - ((i+1:Nat):Int)))) rfl (.int K3)
   replace G:=G.ent (i:=7) (s':=.pv (.bs (Zhy (i+1)))) rfl (.bs (by rw [Zd3,← hoe];simp))
   obtain ⟨F,G⟩:=G.nM [6,2,7,1,0] [0]
   exact ⟨(i+1),F,(by show i+1≤3;omega),G,K5⟩
  have hw0:¬ 0<wLn i:=Yk hc1
  refine Yf (Za (Ya (Ya (rZ G (qR rr (qf (o_eql .t qi) r1 qz (qR rr (qm rfl rfl rfl rfl (qk rfl (fun h=>Zad (.w h) qi) r2 qz (qf (ZC .t .t) r2 qz qZ)))))) Z [36,10,9,7,6,2,1,0] KN fun G=>?_))))
  refine Zb G rfl (fun hc3=>?_) (fun hc3=>?_)
  ·have h9:=hc3
   simp at h9
   omega
  have hcw:¬ (wLn i=2∧0<jLn i):=by have h9:=hc3;intro h8;simp [h8.1,h8.2] at h9
  have hoe:(⟨false,2,0,0⟩:OpD)=oLn i:=by rw [hr6,YO hw0,Yb hcw,Yb hcw]
  have hol9:=Zj7 i hi4
  rw [← hoe] at hol9
  have hsl9:=Zf3 i ow
  refine Yf (Za (Zc G (qR rr (qe 4 101 r1 r1 (qf (oP (Zdl (⟨false,2,0,0⟩:OpD)) func116 (Args.one (.pagg .t))) r1 qz (qf (ZD (.cs kr) .t  K9) r1 qz (qf (ZD .t .t  K9) r2 qz (qO rr qZ)))))) Z Qu KN rfl rfl fun a w F G=>Ze (Za ?_)))
  refine rZ G (qR rr (qf (o_sub .t qi) r1 qz (qO rr qZ))) Z Qu KN fun G=>?_
  replace G:=G.ent (i:=0) (s':=.pv (.int .u64 (sLn (i+1)))) rfl (.refl)
  replace G:=G.ent (i:=1) (s':=.pv (.int .i64 ((3:Int) - ((i+1:Nat):Int)))) rfl (.int K3)
  replace G:=G.ent (i:=7) (s':=.pv (.bs (Zhy (i+1)))) rfl (.bs (by rw [Zd3,← hoe];simp))
  obtain ⟨F,G⟩:=G.nM [6,2,7,1,0] [0]
  exact ⟨(i+1),F,(by show i+1≤3;omega),G,K5⟩
 have hi4:i=3:=KE
 subst hi4
 refine Yz (Zg (Zg (Zm (Za (Ya (rZ G (qR rr (qO rr qZ)) Z [6] [0] fun G=>Yj ?_))))))
 refine Zo hfr G rfl rfl rfl (.bs rfl)
theorem Zpx  : FnP prog 26 [.int .u64 7,.int .i64 5] (.bs ([97,100,100,32,53,32,99,32,119,51,32,119,50,32,114,50,64,52,46,49,32,114,50,64,48]:List UInt8)):=by
 refine FnP.mk func26 rfl ntmps26 rfl fun B a w F Z hfr G=>Ya ?_
 refine rZ G (qf (oN (.cs kr)) trivial qz qZ) Z KU [0] fun G=>(Ya (Ya ?_))
 refine Zc G (qR rr (qf (Zbb .t qi) r1 qz (qR rr (Zu.cons (ZaF.run rfl rfl (XW) (Zcn .t XV)) r2 qz (Zu.cons (ZaF.run rfl rfl (XW) (Zad .t qi)) r2 qz (qf (Zaq .t (.conv .t (Ent.sure XW))) r2 qz qZ)))))) Z [15,4,1,0] [0] rfl rfl fun a w F G=>?_
 have G:=Xz
 refine Za (Zb G rfl (fun hc0=>?_) (fun hc0=>?_))
 ·have h9:=hc0
  exact absurd h9 XW
 refine Yf (Za (Ya (rZ G (qR rr (qR rr (qf (o_conv Yb9 kr .t) r1 qz (qf (oP (Ze2 (ZeR _) (show ZtS (IntKind.wrap .u64 5)=347963083821671780 by decide +kernel)) func63 (Args.one .t)) r1 qz (qf (o_xor .t .t) r2 qz (qf (oP (Ze2 K4 (show ZtS (bits .xor .u64 7 347963083821671780)=8565198272695139780 by decide +kernel)) func63 (Args.one .t)) r1 qz (qf (oP (Zbs 8565198272695139780 6756745685349117372 K4) func62 (Args.one .t)) r1 qz (qO rr qZ)))))))) Z G2 [0] fun G=>Ya ?_)))
 refine rZ G (qR rr (qf (oP (Zct 6756745685349117372 8 4 XW K4) func64 (Args.two .t qi)) r1 qz (qO rr qZ))) Z [6,5,4,1] [0] fun G=>Ya ?_
 refine rZ G (qR rr (qf (oP (Zbs 6756745685349117372 10608240452835138161 K4) func62 (Args.one .t)) r1 qz (qO rr qZ))) Z [6,5,4,1] [0] fun G=>(Ya (Ya ?_))
 refine rZ G (qR rr (qf (Zbb .t qi) r1 qz qZ)) Z [28,6,5,4,1] [0] fun G=>?_
 refine Zb G rfl (fun hc1=>?_) (fun hc1=>?_)
 ·refine Ya (rZ G (qR rr (qf (oP (Zb1 5) func65 (Args.one .t)) r1 qz (qf (ZD (.cs kr) .t  K4) r1 qz (qf (ZD .t (.cs kr)  K4) r1 qz (qO rr qZ))))) Z [7,6,5,4,1] [0] fun G=>(Ya (Ya ?_)))
  refine rZ G (qR rr (qf (oP (Zct 10608240452835138161 6 5 XW K4) func64 (Args.two .t qi)) r1 qz (qf (o_eql .t qi) r1 qz qZ))) Z [35,7,6,5,4,1] [0] fun G=>?_
  refine Zb G rfl (fun hc2=>?_) (fun hc2=>?_)
  ·have h9:=hc2
   exact absurd h9 XW
  refine Yf (Za (Ya (rZ G (qR rr (qf (oP (Zbs 10608240452835138161 (sLn 0) K4) func62 (Args.one .t)) r1 qz (qO rr qZ))) Z [7,6,5,4,1] [0] fun G=>Ya ?_)))
  refine rZ G (qR rr (qf (ZD .t (.cs kr)  K4) r1 qz (qR rr (qf (Zjs .t qi  XW) r1 qz (qf (Zce qi .t) r1 qz (qf (oP (Zb1 (IntKind.wrap .i64 (1+(5:Int).tmod 3))) func65 (Args.one .t)) r1 qz (qf (ZD .t .t  K4) r2 qz (qR rr (qR rr (qf (oP (Zct (sLn 0) 4 3 XW K4) func64 (Args.two .t qi)) r1 qz (qR rr (qf (oP (Zof) func66 (Args.three .t .t .t)) r3 qz (qf (ZD .t .t  K4) r2 qz (qO rr qZ)))))))))))))) Z [6,5,4,1] [0] fun G=>(Yj (Zh ?_))
  refine Zo hfr G rfl rfl rfl (.bs K4)
 have h9:=hc1
 exact absurd h9 XW
theorem done_inc {g:Zl} (hg:ZA g):Zff (Zae g):=by
 unfold Zae
 have h2:Zff (g.txs.map TxD.id):=Ya3.2 (Z7.1 (ZO hg).1)
 exact h2.sublist (Ybj.map _)
structure Zp0 (D:List Int) (P:List Int→Bool) (m:Nat) (L:List Int) (more fnd:Bool):Prop where
 le:m≤(ordsZ D).length
 yes:more=true→m<(ordsZ D).length∧L=Nn (ordsZ D) m
 no:more=false→m=(ordsZ D).length
 f:fnd=((ordsZ D).take m).any P
theorem Zp0.start (D:List Int) (P:List Int→Bool):Zp0 D P 0 D true false:=⟨YA _,fun _=>⟨(Zit D).1,(Zit D).2.symm⟩,fun h=>(by cases h),rfl⟩
theorem Zp0.next {D:List Int} {P:List Int→Bool} (hD:Zff D) (h5:D.length≤5) {m:Nat} {L:List Int} {fnd:Bool} (h:Zp0 D P m L true fnd):Zp0 D P (m+1) ((Zcp leZ L).getD []) (Zcp leZ L).isSome (fnd || P L):=by
 obtain ⟨h1,h2⟩:=h.yes rfl
 have hn:=Zoi hD h5 h1
 rw [← h2] at hn
 refine ⟨h1,fun h3=>?_,fun h3=>?_,?_⟩
 ·rw [hn] at h3 ⊢
  obtain ⟨z,hz⟩:=YaH.1 h3
  obtain ⟨h4,h5⟩:=YH.1 hz
  exact ⟨h4,by rw [nth_eq h4,h5,hz];rfl⟩
 ·rw [hn] at h3
  have h4:=List.getElem?_eq_none_iff.1 (Option.not_isSome_iff_eq_none.1 (by rw [h3];simp))
  omega
 ·rw [Zy h1,List.any_append,← h.f,← h2]
  simp
theorem Zp0.len {D:List Int} {P:List Int→Bool} (h5:D.length≤5) {m:Nat} {L:List Int} {fnd:Bool} (h:Zp0 D P m L true fnd):L.length≤5:=by
 obtain ⟨h1,h2⟩:=h.yes rfl
 rw [h2,(Zo5 h5 (nth_mem h1)).length_eq];exact h5
theorem Zqq {g:Zl} {b0 b1 b2 b3 b4 b5:Bool} (hbs:∀ i:Nat,i<6→(Nn [b0,b1,b2,b3,b4,b5] i=true ↔ PhB g (i:Int))):Zp5 b1 b2 b3 b4 b5=3 ↔ ∀ p:Int,1≤p→p≤5→¬ PhB g p:=by
 have e1:b1=true ↔ PhB g 1:=hbs 1 XW
 have e2:b2=true ↔ PhB g 2:=hbs 2 XW
 have e3:b3=true ↔ PhB g 3:=hbs 3 XW
 have e4:b4=true ↔ PhB g 4:=hbs 4 XW
 have e5:b5=true ↔ PhB g 5:=hbs 5 XW
 have hl:Zp5 b1 b2 b3 b4 b5=3 ↔ ¬ b1=true∧¬ b2=true∧¬ b3=true∧¬ b4=true∧¬ b5=true:=by
  cases b1 <;> cases b2 <;> cases b3 <;> cases b4 <;> cases b5 <;> decide
 rw [hl,e1,e2,e3,e4,e5]
 constructor
 ·rintro ⟨h1,h2,h3,h4,h5⟩ p hp1 hp2
  have:p=1∨p=2∨p=3∨p=4∨p=5:=ow
  rcases this with rfl | rfl | rfl | rfl | rfl <;> assumption
 ·intro h
  exact ⟨h 1 XW XW,h 2 XW XW,h 3 XW XW,h 4 XW XW,h 5 XW XW⟩
theorem Zmg {g:Zl} (hg:ZA g) (h5:(Zae g).length≤5) {b0 b1 b2 b3 b4 b5:Bool} (hbs:∀ i:Nat,i<6→(Nn [b0,b1,b2,b3,b4,b5] i=true ↔ PhB g (i:Int))):((ordsZ (Zae g)).any fun l=>decide (Zbn g l))=decide (Zp5 b1 b2 b3 b4 b5=3):=by
 rw [Yau,Yl,Zqq hbs,ZjB hg,Ybd]
 constructor
 ·rintro ⟨l,_,h⟩;exact ⟨l,Yd h⟩
 ·rintro ⟨l,h⟩;exact ⟨l,ords_in (done_inc hg) h5 h.2.1,YL h⟩
theorem Zpz:FnP prog 11 [.agg (Zr ZbU)] (.tup [.sl Zq [],.int .i64 0]):=by
 have k:=Zii ZbU XW K4 Zml (fun x hx=>by cases hx)
 rw [show Zae ZbU = [] from rfl,Ye rfl] at k
 exact k
theorem Znw:FnP prog 11 [.agg (Zr ZhK)] (.tup [.sl Zq [],.int .i64 16]):=by
 have k:=Zii ZhK Zhc.1 Zhc.2 K4 (by rw [ZmD,show Zae ZhK = [1,2] by decide +kernel];decide)
 rw [show Zae ZhK = [1,2] by decide +kernel,Yb XW] at k
 exact k
theorem ZmM  : FnP prog 7 [] (.bool true):=by
 refine FnP.mk func7 rfl ntmps7 rfl fun B a w F Z hfr G=>Ya ?_
 refine rZ G qB Z [0] [0] fun G=>Ya ?_
 refine rZ G (qf (oB [] [.slice none 0 0,.slice none 0 0] [(0,1),(1,1)] .nil) trivial qz (qf (oP (Zpz) func11 (Args.one (.conv (.pagg .t) (Ent.paggLe (l:=[.is (.slice none 0 0),.is (.slice none 0 0)]) (l':=Zr ZbU) ⟨Zee.nilSl,Zee.nilSl,tv⟩)))) r1 qz (qR rr (qf (Zs .t rfl) r1 qz (qf (Zs .t rfl) r1 qz (qO rr (qO rr qZ))))))) Z [2,1,0] [0] fun G=>Ya ?_
 refine rZ G (qf (oP (Zvp) func24 Args.nil) trivial qz (qf (oP (Znw) func11 (Args.one .t)) r1 qz (qR rr (qf (Zs .t rfl) r1 qz (qf (Zs .t rfl) r1 qz (qO rr (qO rr qZ))))))) Z [4,2,1,0] [0] fun G=>Ya ?_
 refine Zc G (qR rr (qu YbY r1 (qf (o_eql .t qi) r1 qz (qR rr (Zu.cons (ZaF.run rfl rfl (Ka) (Zcn .t XV)) r2 qz (Zu.cons (ZaF.run rfl rfl (Ka) (o_eql .t qi)) r2 qz (qf (ZC .t (.conv .t (Ent.sure Ka))) r2 qz (qR rr (Zu.cons (ZaF.run rfl rfl (Ka) (Zcn .t XV)) r2 qz (Zu.cons (ZaF.run rfl rfl (Ka) (o_eql .t qi)) r2 qz (qf (ZC .t (.conv .t (Ent.sure Ka))) r2 qz (qR rr (Zu.cons (ZaF.run rfl rfl (Ka) (oP (Zhf) func25 (Args.two qi qi))) r1 qz (Zu.cons (ZaF.run rfl rfl (Ka) (oP (Zpx) func26 (Args.two qi qi))) r1 qz (Zu.cons (ZaF.run rfl rfl (Ka) (ZhZ Yb5 .t .t)) r3 qz (qf (ZC .t (.conv .t (Ent.sure Ka))) r2 qz (qR rr (Zu.cons (ZaF.run rfl rfl (Ka) (oP (Zhf) func25 (Args.two qi qi))) r1 qz (Zu.cons (ZaF.run rfl rfl (Ka) (Zsp Yb5 .t (.cs kr))) r2 qz (qf (ZC .t (.conv .t (Ent.sure Ka))) r2 qz (qO rr qZ))))))))))))))))))))) Z [0] [0] rfl rfl fun a w F G=>?_
 have G:=Xz
 refine Za (Yj (Zo hfr G rfl rfl rfl (.bool Ka)))
end Go.Proofs.YtolmpgbpdapaiaaGreat
namespace Go.Proofs.YtolmpgbpdapaiaaGreat
open Go Go.Gm Tryz
set_option linter.unusedVariables false
set_option linter.unusedSimpArgs false
set_option maxHeartbeats 4000000
set_option maxRecDepth 8000
open Go.ChangeShapes Go.WideShapes Go.ChangeAt Go.RowKit Go.Deep
def Zc4 (P:Program) (t:TypeId) {β:Type} (R:β→List PV) (zz:β→Prop):Prop:=
 ∀ (H:Type) (enc:TypeId×Value→H) (w:World) (base:Nat) (sp:Nat→Bool) (held:Bool) (n:Nat) (cs:List Value) (x:DataW H×List MemPlace),DataW.trod enc P w base sp held n t cs=some x→(∀ k ∈ DataW.weights P t x.1,k≤reachBytes) → ∃ b:β,PVs (R b) cs w noY∧zz b
section
variable {P:Program} {t:TypeId}
theorem Zjt {β:Type} {R:β→List PV} (h:Zd8 P t R):Zc4 P t R fun _=>True:=fun H enc w base sp held n cs x hx _=>by
 obtain ⟨b,hb⟩:=h H enc w base sp held n cs x hx
 exact ⟨b,hb,tv⟩
theorem Zc4.map {β γ:Type} {R:β→List PV} {zz:β→Prop} {R':γ→List PV} {zz':γ→Prop} (h:Zc4 P t R zz) (f:β→γ) (e:∀ b,R b=R' (f b)) (ez:∀ b,zz b→zz' (f b)):Zc4 P t R' zz':=fun H enc w base sp held n cs x hx hk=>by
 obtain ⟨b,hb,hz⟩:=h H enc w base sp held n cs x hx hk
 exact ⟨f b,by rw [← e b];exact hb,ez b hz⟩
theorem Zdx {H:Type} {e:TypeId} {d:DataW H} {k:Nat} : ∀ {ds:List (DataW H)},d ∈ ds→k ∈ DataW.weights P e d→k ∈ DataW.weightsAll P e ds
 | x :: ds,h,hk=>by
  unfold DataW.weightsAll
  rcases Ym.1 h with rfl | h
  ·exact Y6 _ hk
  ·exact YW _ (Zdx h hk)
theorem Zjl {e:TypeId} {bs:Nat} {β:Type} {R:β→List PV} {zz:β→Prop} (hu:P.underlying t=some (.slice e)) (hc:Nat.blt 0 (P.cellsOf e)=true) (hbs:P.bytesOf e=bs) (h:Zc4 P e R zz):Zc4 P t (fun l:List β=>[.sl R l]) fun l=>l.length*bs≤reachBytes ∧ ∀ x ∈ l,zz x:=fun H enc w base sp held n cs x hx hk=>by
 have hpos:0<P.cellsOf e:=by simpa [YaA] using hc
 rcases open_slice hu hx with ⟨rfl,_⟩ | ⟨a,len,cap,m,k,D,Pl,rfl,_,hl,hm,hmm,rfl,hel⟩
 ·exact ⟨[],⟨⟨rfl,none,0,rfl,YF _,YA _,.inl rfl⟩,tv⟩,by simp,fun x hx=>by cases hx⟩
 ·have hle:len≤m:=by rw [hmm];split <;> omega
  have hk1:len*bs≤reachBytes:=by
   have h1:=hk ((((List.range len).map D).length+((List.range (m - len)).map fun j=>D (len+j)).length)*P.bytesOf e) (by unfold DataW.weights;rw [hu];exact Yay)
   rw [YJ,YJ,List.length_range,List.length_range,hbs] at h1
   exact Yaa (YN _ ow) h1
  have hk2:∀ j,j<len → ∀ q ∈ DataW.weights P e (D j),q≤reachBytes:=fun j hj q hq=>hk q (by
   unfold DataW.weights
   rw [hu]
   exact Yy _ (Y6 _ (Zdx (YB.2 ⟨j,YaE.2 hj,rfl⟩) hq)))
  have key:∀ j,j≤len → ∃ (l:List β) (vs:List Value),l.length=j∧vs.length=j*P.cellsOf e∧Zt w a.block a.off vs∧PVs (l.flatMap R) vs w noY ∧ ∀ x ∈ l,zz x:=by
   intro j
   induction j with
   | zero=>intro _;exact ⟨[],[],rfl,by simp,tv,tv,fun x hx=>by cases hx⟩
   | succ j ih=>
    intro hj
    obtain ⟨l,vs,h1,h2,h3,h4,hz⟩:=ih ow
    obtain ⟨cs',h5,h6⟩:=hel j ow
    obtain ⟨b,hb,hzb⟩:=h H enc w base sp held k cs' _ h6 (hk2 j ow)
    obtain ⟨h7,h8,_⟩:=ZeV h5
    refine ⟨l ++ [b],vs++cs',by simp [h1],by rw [Yc,h2,h7,Ya9],Zt.append h3 ?_,?_,fun x hx=>?_⟩
    ·have e1:(a.add (j*P.cellsOf e)).block=a.block:=by unfold Addr.add;split <;> rfl
     have e2:(a.add (j*P.cellsOf e)).off=a.off+j*P.cellsOf e:=by unfold Addr.add;split <;> simp_all
     rw [e1,e2] at h8
     rw [h2];exact h8
    ·rw [Y2]
     exact PVs.append h4 XS
    ·rcases YC.1 hx with hx | hx
     ·exact hz x hx
     ·rw [Yn.1 hx];exact hzb
  obtain ⟨l,vs,h1,h2,h3,h4,hz⟩:=key len (YF _)
  refine ⟨l,⟨⟨rfl,some a,cap,by rw [h1],ow,hm,?_⟩,tv⟩,by rw [h1];exact hk1,hz⟩
  by_cases h0:len=0
  ·exact .inl (YM ow)
  ·right
   obtain ⟨cs',h5,h6⟩:=hel 0 ow
   have hs:=(ZeV h5).2.2 hpos
   have hspot:a.spot=none:=by simpa [Addr.add] using hs
   have hlen:0<vs.length:=by rw [h2];exact Nat.mul_pos ow hpos
   refine ⟨a.block,a.off,vs,by cases a;simp_all,fun h=>h,?_,h3,h4⟩
   match vs,hlen,h3 with
   | v :: vs,_,h3=>exact Zt.lt h3
def ZhE (P:Program) (fs:List Field) (off tot:Nat) {β:Type} (R:β→List PV) (zz:β→Prop):Prop:=
 ∀ (H:Type) (enc:TypeId×Value→H) (w:World) (base:Nat) (sp:Nat→Bool) (held:Bool) (n:Nat) (cs:List Value) (ys:List (DataW H)),cs.length=tot→ys.length=fs.length →
  (∀ (i:Nat) (f:Field),fs[i]? = some f → ∃ x,DataW.trod enc P w base sp held n f.type ((cs.drop f.offset).take (P.cellsOf f.type))=some x∧ys[i]? = some x.1)→(∀ k ∈ DataW.weightsEach P (fs.map (·.type)) ys,k≤reachBytes) → ∃ b:β,PVs (R b) (cs.drop off) w noY∧zz b
theorem Zkz {tot:Nat} : ZhE P [] tot tot (fun _:Unit=>[]) fun _=>True:=fun H enc w base sp held n cs ys hl _ _ _=>⟨(),by rw [YaY ow];trivial,tv⟩
theorem Zex {f:Field} {fs:List Field} {off k tot:Nat} {β γ:Type} {R:β→List PV} {zz:β→Prop} {R':γ→List PV} {zz':γ→Prop} (ho:Nat.beq f.offset off=true) (hk:Nat.beq (P.cellsOf f.type) k=true) (h:Zc4 P f.type R zz) (h':ZhE P fs (off+k) tot R' zz') :
  ZhE P (f :: fs) off tot (fun p:β×γ=>R p.1++R' p.2) fun p=>zz p.1∧zz' p.2:=fun H enc w base sp held n cs ys hl hy hx hw=>by
 cases ys with
 | nil=>simp at hy
 | cons y ys=>
  obtain ⟨x,hf,hyx⟩:=hx 0 f rfl
  have hyx:y=x.1:=Ya6 hyx
  subst hyx
  have hw':∀ q ∈ DataW.weights P f.type x.1++DataW.weightsEach P (fs.map (·.type)) ys,q≤reachBytes:=fun q hq=>hw q (by rw [YG];unfold DataW.weightsEach;exact hq)
  obtain ⟨b,hb,hz⟩:=h H enc w base sp held n _ x hf fun q hq=>hw' q (Y6 _ hq)
  obtain ⟨c,hc,hz'⟩:=h' H enc w base sp held n cs ys hl (by simpa using hy) (fun i g hg=>hx (i+1) g (by simpa using hg)) fun q hq=>hw' q (YW _ hq)
  refine ⟨(b,c),?_,hz,hz'⟩
  have e1:=Y5 ho
  have e2:=Y5 hk
  rw [e1,e2] at hb
  have:=PVs.append hb hc
  rwa [show cs.drop (off+k)=(cs.drop off).drop k by rw [YbT],YaD] at this
theorem ZhV {fs:List Field} {tot:Nat} {β:Type} {R:β→List PV} {zz:β→Prop} (hu:P.underlying t=some (.struct fs.toArray)) (hc:Nat.beq (P.cellsOf t) tot=true) (h:ZhE P fs 0 tot R zz):Zc4 P t R zz:=fun H enc w base sp held n cs x hx hw=>by
 obtain ⟨xs,m,rfl,rfl,hl,hls,hf⟩:=DataW.trod_struct hu hx
 have:=h H enc w base sp held m cs (xs.map (·.1)) (by rw [hl];exact Y5 hc) (by simpa using hls) (fun i f hi=>by
  have h1:=hf i f XP
  have hi':i<xs.length:=by
   rw [hls]
   have:=(YH.1 hi).1
   simpa using this
  exact ⟨xs[i],by rw [h1];simp [hi'],by simp [hi']⟩) (fun q hq=>hw q (by unfold DataW.weights;rw [hu];simpa using hq))
 simpa using this
def Zwh (P:Program) (t:TypeId) {β:Type} (A:β→PV) (zz:β→Prop):Prop:=
 ∀ (H:Type) (enc:TypeId×Value→H) (w:World) (base:Nat) (sp:Nat→Bool) (held:Bool) (r:Reach) (b0:Nat) (v:Value) (d:DataW H) (ps:List MemPlace),Value.okWide P w r b0 t v→DataW.Trod enc P w base sp held t v d ps→(∀ k ∈ DataW.weights P t d,k≤reachBytes) → ∃ b:β,(A b).p v w noY∧zz b
theorem Zso {β:Type} {R:β→List PV} {zz:β→Prop} {fs:Array Field} (hu:P.underlying t=some (.struct fs)) (h:Zc4 P t R zz):Zwh P t (fun b=>.agg (R b)) zz:=fun H enc w base sp held r b0 v d ps ho ⟨n,hn⟩ hk=>by
 unfold Value.okWide at ho
 simp only [hu] at ho
 obtain ⟨cs,rfl,_⟩:=ho
 obtain ⟨b,hb,hz⟩:=h H enc w base sp held n _ _ hn hk
 exact ⟨b,⟨cs.toList,by simp,hb⟩,hz⟩
def ZoI (P:Program) (ts:List TypeId) {β:Type} (AA:β→List PV) (zz:β→Prop):Prop:=
 ∀ (H:Type) (enc:TypeId×Value→H) (w:World) (base:Nat) (sp:Nat→Bool) (held:Bool) (r:Reach) (b0:Nat) (vs:List Value) (ds:List (DataW H)) (ps:List MemPlace),(∀ (j:Nat) t v,ts[j]? = some t→vs[j]? = some v→Value.okWide P w r b0 t v) →
  DataW.TrodAll enc P w base sp held ts vs ds ps→(∀ k ∈ DataW.weightsEach P ts ds,k≤reachBytes) → ∃ b:β,PVt (AA b) vs w noY∧zz b
theorem Znv:ZoI P [] (fun _:Unit=>[]) fun _=>True:=fun H enc w base sp held r b0 vs ds ps _ h _=>by
 obtain ⟨rfl,rfl,rfl⟩:=trodAll_nil h
 exact ⟨(),tv,tv⟩
theorem ZmX {ts:List TypeId} {β γ:Type} {A:β→PV} {zz:β→Prop} {AA:γ→List PV} {zz':γ→Prop} (h:Zwh P t A zz) (h':ZoI P ts AA zz'):ZoI P (t :: ts) (fun p:β×γ=>A p.1 :: AA p.2) fun p=>zz p.1∧zz' p.2:=fun H enc w base sp held r b0 vs ds ps ho hd hk=>by
 obtain ⟨v,vs',d,ds',p,q,rfl,rfl,rfl,h1,h2⟩:=trodAll_cons hd
 have hk':∀ k ∈ DataW.weights P t d++DataW.weightsEach P ts ds',k≤reachBytes:=fun k hq=>hk k (by unfold DataW.weightsEach;exact hq)
 obtain ⟨b,hb,hz⟩:=h H enc w base sp held r b0 v d p (ho 0 t v rfl rfl) h1 fun k hq=>hk' k (Y6 _ hq)
 obtain ⟨c,hc,hz'⟩:=h' H enc w base sp held r b0 vs' ds' q (fun j t v h3 h4=>ho (j+1) t v XU (by simpa using h4)) h2 fun k hq=>hk' k (YW _ hq)
 exact ⟨(b,c),⟨hb,hc⟩,hz,hz'⟩
theorem Zhr {f:FuncId} {fn:Func} {s:ChangeSpec} {β:Type} {AA:β→List PV} {tb:TypeId} (hl:laidOutB P=true) (hts:∀ t ∈ fn.params.toList,P.readableRec t=true∧t<P.types.size) {ts:List TypeId} {zz:β→Prop} (hA0:ZoI P ts AA zz) (hp:fn.params.toList=ts) (hF:∀ b,zz b→FnP P f (AA b) (.bool true))
  (hv:s.vars = []) (hr:fn.resultTypes = #[tb]) (hb:P.underlying tb=some .bool) (hs:∀ (H:Type) (ds:List (DataW H)),ds.length=fn.params.toList.length→s.fn H ds = { results:=[.lit (.bool true)],args:=ds,vars:=[] })
  {apart fresh handsOn again:Bool} (H:Type) (enc:TypeId×Value→H) (W:World) (base:Nat) (args:Array Value) (ds gs:List (DataW H)) (before:List MemPlace)
  (hval:∀ (j:Nat) t v,fn.params[j]? = some t→args[j]? = some v→Value.okWide P W .any base t v) (hW:DataW.Whole enc P fn.params.toList s.vars apart W args.toList ds gs before) (hz9:∀ k ∈ DataW.weightsEach P fn.params.toList ds,k≤reachBytes) :
  Calls P f args W fun e W'=>∃ v,e = .returned v∧s.post enc P fn apart fresh handsOn again W args v W':=by
 have hA:ZoI P fn.params.toList AA zz:=by rw [hp];exact hA0
 have hW':=hW
 obtain ⟨p,q,hd,hg,hbe,hz,hn⟩:=hW
 have hg':DataW.TrodVars enc P W (fun _=>true) [] gs q:=by rw [← hv];exact hg
 obtain ⟨hgs,hqs⟩:=trodVars_none hg'
 subst hgs;subst hqs
 obtain ⟨b,hargs,hzb⟩:=hA H enc W 0 _ true .any base args.toList ds p (fun j t v h1 h2=>hval j t v W4 W5) hd hz9
 have hlen:=Zfl hd
 have hcall:=hF b hzb W noY args.toList (fun b h=>h.elim) hargs
 rw [Array.toArray_toList] at hcall
 refine hcall.mono fun e W' h=>?_
 obtain ⟨v,rfl,hq,hbel⟩:=h
 have hv':v = .bool true:=hq
 subst hv'
 have hlt:∀ p ∈ before,p.block<W.heap.size:=fun p hp=>hW'.lt p hp
 have hsp:=hs H (ds ++ []) (by rw [YQ];exact hlen)
 refine ⟨_,rfl,?_⟩
 have hps:before=p:=by rw [hbe,YQ]
 have hagain:∀ sp:Nat→Bool,(∀ x ∈ before,sp x.block=true)→DataW.TrodAll enc P W' 0 sp true fn.params.toList args.toList (s.fn H (ds ++ [])).args p:=fun sp h=>by
  rw [hsp,YQ]
  exact ZdD hl hts hd (fun x hx=>hbel.same (hlt x (by rw [hps];exact hx))) (fun x hx=>h x (by rw [hps];exact hx))
 have hres:∀ (c:Nat) (sp:Nat→Bool) (hd:Bool),DataW.TrodAll enc P W' c sp hd fn.resultTypes.toList ((Value.bool true).resultList fn.resultTypes.size) (s.fn H (ds ++ [])).results []:=fun c sp hd=>by
  rw [hsp,hr]
  exact trodAll_cons_mk (shut_bool hb _) trodAll_mk0
 have hvars:∀ sp:Nat→Bool,DataW.TrodVars enc P W' sp s.vars (s.fn H (ds ++ [])).vars []:=fun sp=>by rw [hsp,hv];rfl
 have hold:∀ x ∈ before,(fun b=>decide (b<W.heap.size)) x.block=true:=fun x hx=>by simpa using hlt x hx
 refine ⟨ds,[],before,[],p,[],hW',hres _ _ _,hagain _ hold,hvars _,World.keptBut_mono (fun x hx=>⟨hx,?_⟩) (hbel.frame _),fun _=>?_⟩
 ·rw [hps] at hx;exact Or.inr Wa
 ·refine ⟨ok_one hr rfl (okWide_bool_mk hb _),_,_,([] ++ p) ++ [],⟨[] ++ p,[],trodAll_append (hagain _ (fun _ _=>rfl)) (hres _ _ _),hvars _,rfl,?_,?_⟩,?_⟩
  ·intro c off hp
   have hp':MemPlace.cell c off ∈ before:=by rw [hps];simpa using hp
   rw [hbel.frozen (p:=⟨c,off,none⟩) (hlt _ hp')]
   exact hz c off hp'
  ·intro ha
   have:=hn ha
   rw [hps] at this
   simpa using this
  ·intro x hx _
   rw [hps]
   simpa using hx
end
theorem Zcl {P:Program} {H:Type} {k:Nat} : ∀ {ts us:List TypeId} {ds gs:List (DataW H)},k ∈ DataW.weightsEach P ts ds→k ∈ DataW.weightsEach P (ts++us) (ds++gs)
 | [],_,ds,_,h=>by unfold DataW.weightsEach at h;cases h
 | t :: ts,_,[],_,h=>by unfold DataW.weightsEach at h;cases h
 | t :: ts,us,d :: ds,gs,h=>by
  rw [Yao,Yao]
  unfold DataW.weightsEach at h ⊢
  rcases YC.1 h with h | h
  ·exact Y6 _ h
  ·exact YW _ (Zcl h)
end Go.Proofs.YtolmpgbpdapaiaaGreat
namespace Go.Proofs.YtolmpgbpdapaiaaGreat
open Go Go.Gm Tryz
set_option linter.unusedVariables false
set_option linter.unusedSimpArgs false
set_option maxHeartbeats 4000000
set_option maxRecDepth 8000
theorem ZhG (g:Zl) (hgz:g.txs.length≤10000000000000):FnP prog 4 [.agg (Zr g)] (.bool true):=by
 refine FnP.mk func4 rfl ntmps4 rfl fun B a w F Z hfr G=>Ya ?_
 refine rS G (qx 101 r1 qB) Z Q3 KN fun τ G=>?_
 have G:=X2
 generalize τ 1=v1 at G
 refine Za (Ya (Ya (rZ G (qf (oP (ZmM) func7 Args.nil) trivial qz (qf (o_not .t) r1 qz qZ)) Z [7,2,1] KN fun G=>?_)))
 refine Zb G rfl (fun hc0=>?_) (fun hc0=>?_)
 ·simp at hc0
 refine Yf (Za (Ya (rZ G (qe 2 101 r1 r1 (qf (oP (Zkp g hgz) func15 (Args.one (.pagg .t))) r1 qz (qO rr qZ))) Z Qa KN fun G=>(Ya (Ya ?_)))))
 refine rZ G (qe 2 101 r1 r1 (qf (oP (ZqV g) func8 (Args.one (.pagg .t))) r1 qz (qf (o_not .t) r1 qz (qR rr (qm rfl rfl rfl rfl (qk rfl (fun h=>ZcS YbY (.w h)) r2 qz (qk rfl (fun h=>Zad (.w h) qi) r2 qz (qf (Zaq .t .t) r2 qz (qR rr (qk rfl (fun h=>oL true 2 101 .is) r2 r1 (qk rfl (fun h=>oP (ZdL g (Zbw.small (by simp at h;exact h.1))) func9 (Args.one (.pagg (.w h)))) r2 qz (qk rfl (fun h=>o_not (.w h)) r2 qz (qf (Zaq .t .t) r2 qz qZ))))))))))))) Z [22,3,2,1] KN fun G=>?_
 refine Zb G rfl (fun hc1=>?_) (fun hc1=>?_)
 ·refine Ya (rZ G qB Z Qa KN fun G=>(Yj (Zh ?_)))
  refine Zo hfr G rfl rfl rfl (.bool (by first | rfl | simp [hfin]))
 have h9:=hc1
 simp at h9
 obtain ⟨⟨hlt,h5⟩,hg⟩:=h9
 have h5:(Zae g).length≤5:=ow
 obtain ⟨hsm,hAR⟩:=ZpN (Zpw hlt) XW
 have hD:=done_inc hg
 obtain ⟨b0,b1,b2,b3,b4,b5,hbs⟩:=ZvS g
 refine Yf (Za (Ya (rZ G qB Z Ge KN fun G=>(Ya (Ya ?_)))))
 refine rZ G qB Z JA KN fun G=>Yi ?_
 refine Zk (σ:=Nat×List Int×Bool×Bool) [1,2] [0,101] (fun s=>[(3,.pv (.sl Zq s.2.1)),(4,.pv (.bool s.2.2.2)),(5,.pv (.bool s.2.2.1))]) (fun s=>[]) (fun s=>Zp0 (Zae g) (fun l:List Int=>decide (Zbn g l)) s.1 s.2.1 s.2.2.1 s.2.2.2) (fun s=>(ordsZ (Zae g)).length - s.1) ((0),((Zae g)),(true),(false)) G ⟨rfl,rfl,rfl,rfl,rfl,tv⟩ ⟨rfl,rfl,tv⟩ (Zp0.start _ _) ?_
 clear G;intro s a w F hC G
 obtain ⟨m,L,more,fnd⟩:=s
 have hC:=X4
 obtain ⟨F,G⟩:=G.nM JA KN
 have G:=X3
 have hq:Zp0 (Zae g) (fun l:List Int=>decide (Zbn g l)) m L more fnd:=hC
 refine Ya (Ya (rZ G (qR rr qZ) Z [23,5,4,3,2,1] KN fun G=>?_))
 refine Zb G rfl (fun hc2=>?_) (fun hc2=>?_)
 ·have hm9:more=true:=hc2
  subst hm9
  refine Yf (Za (Yi (Ya (rZ G (qR rr (qR rr (qk rfl (fun h=>oL true 2 101 .is) r2 r1 (qm rfl rfl rfl rfl (qk rfl (fun h=>oP (ZrM g L hsm (by have:=hq.len h5;omega)) func16 (Args.two (.pagg (.w h)) (.w h))) r3 qz (qf (Zaq .t .t) r2 qz (qO rr qZ))))))) Z JA KN fun G=>?_))))
  refine Zc G (qR rr (qf (oP (Zq1 L (by have:=hq.len h5;omega)) func17 (Args.one .t)) r1 qz (qR rr (qf (Zs .t rfl) r1 qz (qf (Zs .t rfl) r1 qz (qO rr (qO rr qZ))))))) Z JA KN rfl rfl fun a w F G=>Ze (Za ?_)
  obtain ⟨F,G⟩:=G.nM [2,1,5,4,3] KN
  exact ⟨((m+1),(((Zcp leZ L).getD [])),((Zcp leZ L).isSome),((fnd || decide (Zbn g L)))),F,(hq.next hD h5),G,(by show (ordsZ _).length - (m+1)<(ordsZ _).length - m;have:=(hq.yes rfl).1;omega)⟩
 have hm9:more=false:=hc2
 have hfin:fnd=decide (Zp5 b1 b2 b3 b4 b5=3):=by rw [← Zmg hg h5 hbs,hq.f,hq.no hm9,YE]
 refine Yz (Zg (Zg (Zm (Za (Ya (rZ G (qR rr (qe 2 101 r1 r1 (qf (oP (ZnM g hsm hAR b0 b1 b2 b3 b4 b5 hbs) func10 (Args.one (.pagg .t))) r1 qz (qf (Zia (ft:=3) (off:=6) kr kr .t rfl) r1 qz (qf (o_eql .t qi) r1 qz (qf (ZpI underlying4 .t .t) r2 qz (qO rr qZ))))))) Z [2] KN fun G=>Yj ?_))))))
 refine Zo hfr G rfl rfl rfl (.bool (by first | rfl | simp [hfin]))
end Go.Proofs.YtolmpgbpdapaiaaGreat
