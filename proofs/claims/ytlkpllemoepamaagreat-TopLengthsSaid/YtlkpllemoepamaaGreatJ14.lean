/- Laws and walks. No condition beyond what each says. -/
import Derived.Test.YtlkpllemoepamaaGreatJ13
namespace Go.Proofs.YtlkpllemoepamaaGreat
open Go Go.Gm Tryz
set_option linter.unusedVariables false
set_option linter.unusedSimpArgs false
set_option maxHeartbeats 4000000
set_option maxRecDepth 8000
def bH (v ad:Value) (l:List UInt8):HP:=.ex fun rv=>.and (l = []→rv = .slice none 0 0) (.star [.pt (.val v) 115 [.pv (.is ad),.pv (.is rv)],.ob (.val rv) (ZA 5 1 rC l)])
def ZaR (v:Value) (l:List UInt8):HP:=.ex fun ad=>.and (ad = .pointer none∨ad=v) (bH v ad l)
theorem FnG.cases {P:Program} {f:FuncId} {args:List PV} {h h1 h2:HP} {q:PV} {qr:Value→List HP} (hh:∀ w fb y,h.p w fb y→h1.p w fb y∨h2.p w fb y) (k1:FnG P f 1 args [h1] q qr) (k2:FnG P f 1 args [h2] q qr):FnG P f 1 args [h] q qr:=fun w F vs hw hle hvs hpr=>by
 rcases hh w (F 1) (U F) (hpr 0 h rfl) with hx | hx
 ·exact k1 w F vs hw hle hvs (fun i h' hi=>by
  match i,hi with
  | 0,hi=>simp at hi;subst hi;exact hx)
 ·exact k2 w F vs hw hle hvs (fun i h' hi=>by
  match i,hi with
  | 0,hi=>simp at hi;subst hi;exact hx)
theorem ZfS {v:Value} {l:List UInt8} (w:World) (fb y:Ys) (h:(ZaR v l).p w fb y):(bH v (.pointer none) l).p w fb y∨(bH v v l).p w fb y:=by
 obtain ⟨ad,h1,h2⟩:=h
 rcases h1 with rfl | rfl
 ·exact .inl h2
 ·exact .inr h2
theorem copy0 (b:Nat) (l:List UInt8):FnG prog 121 1 [.is (.pointer (some ⟨b,0,none⟩))] [bH (.pointer (some ⟨b,0,none⟩)) (.pointer none) l] (.any) (fun _=>[bH (.pointer (some ⟨b,0,none⟩)) (.pointer (some ⟨b,0,none⟩)) l]):=by
 refine FnG.mk func121 rfl ntmps121 rfl kr fun B F0 a w F Z hG G=>?_
 obtain ⟨rv,G⟩:=G.open_ex 1 rfl
 obtain ⟨hI,G⟩:=G.open_and 1 rfl
 obtain ⟨F,G⟩:=G.peel 1 2 rfl rfl
 obtain ⟨F,G⟩:=G.peel 1 3 rfl rfl
 obtain ⟨F,G⟩:=G.nM [0] [3,2,0]
 refine Ya (rZ G (qR rr (qf (Zs 2 .is (by rfl)) r1 r1 (qf (oF 0 2 .adr) r1 r1 (qa 2 r1 r1 (qf (Zie _ underlying112 rfl .t) r1 qz qZ))))) Z [6,0] [3,2,0] fun G=>?_)
 refine Zc G rfl (fun hc0=>?_) (fun hc0=>?_)
 ·refine Zg G (qR rr (qR rr (qf (ZgF 2 underlying112 underlying235 kr kr .t) r1 r1 (qf (ZlN func165 kr kr kr kr .t) r1 qz (qf (Zjn 2 underlying235 underlying112 kr kr .t) r1 r1 (qf (Zs 2 .is (by rfl)) r1 r1 (qf (oF 0 2 .adr) r1 r1 (qf (Zbd 2 .adr .t one_is kr kr) r2 r1 qZ)))))))) Z [] [3,2,0] rfl rfl fun a w F G=>?_
  have G:=G.fresh 1 rfl
  obtain ⟨F,G⟩:=G.push 1 3 rfl rfl rfl kr
  obtain ⟨F,G⟩:=G.push 1 2 rfl rfl rfl kr
  have G:=G.turn 1 rfl (r':=RS.hp (bH (.pointer (some ⟨b,0,none⟩)) (.pointer (some ⟨b,0,none⟩)) l)) (fun _ _ _ _ h=>⟨_,hI,h⟩)
  refine Za4 hG G rfl .nil Zbg.any rfl
 simp at hc0
theorem copy1 (b:Nat) (l:List UInt8):FnG prog 121 1 [.is (.pointer (some ⟨b,0,none⟩))] [bH (.pointer (some ⟨b,0,none⟩)) (.pointer (some ⟨b,0,none⟩)) l] (.any) (fun _=>[bH (.pointer (some ⟨b,0,none⟩)) (.pointer (some ⟨b,0,none⟩)) l]):=by
 refine FnG.mk func121 rfl ntmps121 rfl kr fun B F0 a w F Z hG G=>?_
 obtain ⟨rv,G⟩:=G.open_ex 1 rfl
 obtain ⟨hI,G⟩:=G.open_and 1 rfl
 obtain ⟨F,G⟩:=G.peel 1 2 rfl rfl
 obtain ⟨F,G⟩:=G.peel 1 3 rfl rfl
 obtain ⟨F,G⟩:=G.nM [0] [3,2,0]
 refine Ya (rZ G (qR rr (qf (Zs 2 .is (by rfl)) r1 r1 (qf (oF 0 2 .adr) r1 r1 (qa 2 r1 r1 (qf (Zie _ underlying112 rfl .t) r1 qz qZ))))) Z [6,0] [3,2,0] fun G=>?_)
 refine Zc G rfl (fun hc0=>?_) (fun hc0=>?_)
 ·simp at hc0
 refine Ya (rZ G (qR rr (qf (Zs 2 .is (by rfl)) r1 r1 (qf (oF 0 2 .adr) r1 r1 (qa 2 r1 r1 (qR rr (qf (Zld underlying112 kr .t .t) r2 qz qZ)))))) Z [19] [3,2,0] fun G=>?_)
 refine Zc G rfl (fun hc1=>?_) (fun hc1=>?_)
 ·simp at hc1
 refine Yf ?_
 have G:=G.fresh 1 rfl
 obtain ⟨F,G⟩:=G.push 1 3 rfl rfl rfl kr
 obtain ⟨F,G⟩:=G.push 1 2 rfl rfl rfl kr
 have G:=G.turn 1 rfl (r':=RS.hp (bH (.pointer (some ⟨b,0,none⟩)) (.pointer (some ⟨b,0,none⟩)) l)) (fun _ _ _ _ h=>⟨_,hI,h⟩)
 refine Za4 hG G rfl .nil Zbg.any rfl
theorem Zs6 (b:Nat) (l:List UInt8):FnG prog 121 1 [.is (.pointer (some ⟨b,0,none⟩))] [ZaR (.pointer (some ⟨b,0,none⟩)) l] .any (fun _=>[bH (.pointer (some ⟨b,0,none⟩)) (.pointer (some ⟨b,0,none⟩)) l]):=FnG.cases ZfS (copy0 b l) (copy1 b l)
theorem Zcm (b:Nat) (l:List UInt8) (hl:l.length≤1000000000) (x:List UInt8) (hx:x≠[]) (hxl:x.length≤1000000000):FnG prog 72 1 [.is (.pointer (some ⟨b,0,none⟩)),.bs x] [ZaR (.pointer (some ⟨b,0,none⟩)) l] (.any) (fun _=>[bH (.pointer (some ⟨b,0,none⟩)) (.pointer (some ⟨b,0,none⟩)) (l++x)]):=by
 refine FnG.mk func72 rfl ntmps72 rfl kr fun B F0 a w F Z hG G=>Ya ?_
 refine rZ G (qI (qC qZ)) Z [5,4,1,0] [1,0] fun G=>Ya ?_
 refine Zg G (qR rr (qf (ZX 1 (Zs6 b l) func121 rfl kr (Args.one .t)) r1 r1 qZ)) Z [5,4,1,0] [1,0] rfl rfl fun a w F G=>?_
 obtain ⟨rv,G⟩:=G.open_ex 1 rfl
 obtain ⟨hI,G⟩:=G.open_and 1 rfl
 obtain ⟨F,G⟩:=G.peel 1 2 rfl rfl
 obtain ⟨F,G⟩:=G.peel 1 3 rfl rfl
 obtain ⟨F,G⟩:=G.nM [5,4,1,0] [3,2,0]
 refine Za (Ya (Zb G (qR rr (qR rr (qf (Zs 2 .is (by rfl)) r1 r1 (qf (oF 1 2 .adr) r1 r1 (qa 2 r1 r1 (qR rr (qf (ZhJ 3 underlying113 Ycc kr .is .t ow) ⟨rfl,rfl,tv⟩ ⟨rfl,tv⟩ (qf (Zs 2 .is (by rfl)) r1 r1 (qf (oF 1 2 .adr) r1 r1 (qf (Zcc 2 .adr kr kr) r2 r1 qZ)))))))))) Z [5,4,1] [3,2,0] (fun _=>rfl) (fun _=>rfl) fun τ a w F G=>?_))
 try dsimp only [RS.sub,SF.sub,CF.sub,csub,Anc.sub,List.map,Zf,xL,xM,Nat.reduceAdd,xD,xE,xT,xU,xC,xN,zCF,ldSF] at G
 generalize τ 14=v14 at G
 refine Za (Ya (rZ G (qR rr (qf (ZoW Ycc .t) r1 qz (qO rr (qC qZ)))) Z [5,4] [3,2,0] fun G=>Yh ?_))
 have G:=G.fresh 1 rfl
 obtain ⟨F,G⟩:=G.push 1 3 rfl rfl rfl kr
 obtain ⟨F,G⟩:=G.push 1 2 rfl rfl rfl kr
 have G:=G.turn 1 rfl (r':=RS.hp (bH (.pointer (some ⟨b,0,none⟩)) (.pointer (some ⟨b,0,none⟩)) (l++x))) (fun _ _ _ _ h=>⟨_,(by intro hh;exact absurd (List.append_eq_nil_iff.1 hh).2 hx),h⟩)
 refine Za4 hG G rfl (.tmp rfl (.tmp rfl .nil)) Zbg.any rfl
theorem ZrJ (b:Nat):FnG prog 75 1 [.is (.pointer (some ⟨b,0,none⟩))] [ZaR (.pointer (some ⟨b,0,none⟩)) []] (.bs []) (fun _=>[HP.star []]):=by
 refine FnG.mk func75 rfl ntmps75 rfl kr fun B F0 a w F Z hG G=>?_
 obtain ⟨ad,G⟩:=G.open_ex 1 rfl
 obtain ⟨hA,G⟩:=G.open_and 1 rfl
 obtain ⟨rv,G⟩:=G.open_ex 1 rfl
 obtain ⟨hI,G⟩:=G.open_and 1 rfl
 obtain rfl:=hI rfl
 obtain ⟨F,G⟩:=G.peel 1 2 rfl rfl
 obtain ⟨F,G⟩:=G.peel 1 3 rfl rfl
 obtain ⟨F,G⟩:=G.nM [0] [3,2,0]
 refine Ya (rZ G (qf (oN (.cs kr)) trivial qz qZ) Z [2,0] [3,2,0] fun G=>Ya ?_)
 refine Zz G (qR rr (qf (Zs 2 .is (by rfl)) r1 r1 (qf (oF 1 2 .adr) r1 r1 (qa 2 r1 r1 (qf (ZfI .t) r1 qz (qR rr (qf (Zs 2 .is (by rfl)) r1 r1 (qf (oF 1 2 .adr) r1 r1 (qa 2 r1 r1 (qf (Zas 3 underlying113 .is) r1 r1 (qf (Zdx .t .t) r2 qz (qO rr qZ)))))))))))) Z [2] [3,2,0] rfl rfl fun a w F G=>?_
 try dsimp only [List.map,xD,xE,xT,xU,ldSF] at G
 refine Za (Yh ?_)
 have G:=G.fresh 1 rfl
 refine Za4 (h':=HP.star []) hG G rfl (.tmp rfl .nil) (.one .refl) rfl
theorem Zrm (b:Nat) (l:List UInt8) (hne:l≠[]):FnG prog 75 1 [.is (.pointer (some ⟨b,0,none⟩))] [ZaR (.pointer (some ⟨b,0,none⟩)) l] (.bs l) (fun _=>[HP.star []]):=by
 refine FnG.mk func75 rfl ntmps75 rfl kr fun B F0 a w F Z hG G=>?_
 obtain ⟨ad,G⟩:=G.open_ex 1 rfl
 obtain ⟨hA,G⟩:=G.open_and 1 rfl
 obtain ⟨rv,G⟩:=G.open_ex 1 rfl
 obtain ⟨hI,G⟩:=G.open_and 1 rfl
 obtain ⟨F,G⟩:=G.peel 1 2 rfl rfl
 obtain ⟨F,G⟩:=G.peel 1 3 rfl rfl
 obtain ⟨F,G⟩:=G.nM [0] [3,2,0]
 refine Ya (rZ G (qf (oN (.cs kr)) trivial qz qZ) Z [2,0] [3,2,0] fun G=>Ya ?_)
 refine Zz G (qR rr (qf (Zs 2 .is (by rfl)) r1 r1 (qf (oF 1 2 .adr) r1 r1 (qa 2 r1 r1 (qf (Zjs 3 hne .is (by rfl)) r1 r1 (qR rr (qf (Zs 2 .is (by rfl)) r1 r1 (qf (oF 1 2 .adr) r1 r1 (qa 2 r1 r1 (qf (Zas 3 underlying113 .is) r1 r1 (qf (Zf1 3 underlying176 kr hne .t) r2 r1 (qO rr qZ)))))))))))) Z [2] [3,2,0] rfl rfl fun a w F G=>?_
 try dsimp only [List.map,xD,xE,xT,xU,ldSF] at G
 refine Za (Yh ?_)
 have G:=G.fresh 1 rfl
 refine Za4 (h':=HP.star []) hG G rfl (.tmp rfl .nil) (.one .refl) rfl
theorem Zo6 (b:Nat) (l:List UInt8):FnG prog 75 1 [.is (.pointer (some ⟨b,0,none⟩))] [ZaR (.pointer (some ⟨b,0,none⟩)) l] (.bs l) (fun _=>[HP.star []]):=by
 by_cases h:l = []
 ·subst h;exact ZrJ b
 ·exact Zrm b l h
theorem ZqZ (u:Nat):Zht u≠[]:=by unfold Zht;simp
theorem Zqs (n:Int):Zek n≠[]:=by
 unfold Zek
 split
 ·simp
 ·simpa using ZqZ _
theorem ZbU {n:Int} (h : -9223372036854775808≤n∧n≤9223372036854775807):(Zek n).length≤21:=by
 have:=ZjI (Zhe h)
 unfold Zek
 split <;> simp <;> omega
def ZoQ (e:Ze):List UInt8:=((([32] ++ ZhH e.kind)++Zek e.key) ++ [32])++Zek e.dst
def Zfn (l:List Ze) (i:Nat):List UInt8:=Zek (Nn l 0).src++(l.take i).flatMap ZoQ
def ZfZ (l:List Ze) (i:Nat):List UInt8:=if i=0 then [] else Zfn l i
def Zfx (e:Ze):Prop:=(-9223372036854775808≤e.src∧e.src≤9223372036854775807)∧(-9223372036854775808≤e.dst∧e.dst≤9223372036854775807) ∧ -9223372036854775808≤e.key∧e.key≤9223372036854775807
theorem ZiE (k:Int):(ZhH k).length≤2:=by
 unfold ZhH
 repeat' split
 all_goals simp
theorem Zj7 {e:Ze} (h:Zfx e):(ZoQ e).length≤50:=by
 have h1:=ZbU h.2.2
 have h2:=ZbU h.2.1
 have h3:=ZiE e.kind
 unfold ZoQ
 simp only [Yd,Yl,Yy]
 omega
theorem Zn9 {l:List Ze} (h:∀ e ∈ l,Zfx e) {i:Nat} (hi:i<l.length):(Zfn l i).length≤50+50*i:=by
 have h1:=ZbU (h _ (nth_mem (q:=l) (k:=0) ow)).1
 have key:∀ m:List Ze,(∀ e ∈ m,Zfx e)→(m.flatMap ZoQ).length≤50*m.length:=by
  intro m
  induction m with
  | nil=>intro _;simp
  | cons e m ih=>
   intro hm
   have:=ih fun x hx=>hm x (by simp [hx])
   have:=Zj7 (hm e (by simp))
   rw [YX,Yd,Yl];omega
 have h2:=key (l.take i) fun e he=>h e (Yao he)
 have h3:(l.take i).length≤i:=by rw [Yj];omega
 unfold Zfn
 rw [Yd];omega
theorem Zge {l:List Ze} {i:Nat} (hi:i<l.length):Zfn l i++ZoQ (Nn l i)=ZfZ l (i+1):=by
 unfold ZfZ Zfn
 rw [Yb ow,Zt hi,YS,YP];simp
theorem ZnJ {l:List Ze} {i:Nat} (h:¬ i=0):ZfZ l i=Zfn l i:=Yb h
theorem Zr3 (l:List Ze) (hl:l.length≤1000000) (hr:∀ e ∈ l,Zfx e):FnP prog 34 [.sl Zn l] (.bs (ZfZ l l.length)):=by
 refine FnP.mk func34 rfl ntmps34 rfl fun B a w F Z hfr G=>Ya ?_
 refine rZ G (qf (oN (.cs kr)) trivial qz qZ) Z [2,0] [0] fun G=>Ya ?_
 refine Zb G (qf (oH [.pointer none,.slice none 0 0] 101) trivial qz qZ) Z [3,2,0] [101,0] (fun _=>rfl) (fun _=>rfl) fun τ a w F G=>?_
 try dsimp only [RS.sub,SF.sub,CF.sub,csub,Anc.sub,List.map,zCF,Zn] at G
 generalize τ 3=v3 at G
 obtain ⟨b,rfl⟩:=G.shape 101 rfl
 replace G:=G.fresh 9 rfl
 replace G:=G.turn 9 rfl (ZaP (T:=5) (sz:=1) (R:=rC))
 replace G:=G.fresh 10 rfl
 obtain ⟨F,G⟩:=G.push 10 9 rfl rfl rfl kr
 obtain ⟨F,G⟩:=G.push 10 101 rfl rfl rfl kr
 replace G:=G.turn 10 rfl (r':=RS.hp (ZaR (.pointer (some ⟨b,0,none⟩)) [])) (fun _ _ _ _ h=>⟨_,.inl rfl,_,fun _=>rfl,h⟩)
 obtain ⟨F,G⟩:=G.nM [3,2,0] [10,0]
 refine Za (Ya (Ya (rZ G (qR rr (qu Yb0 r1 (qJ qZ))) Z [8,7,6,3,2] [10,0] fun G=>Yg ?_)))
 refine Zl (σ:=(Nat)) [2,3,6,7] [0] (fun s=>[(8,.pv (.int .i64 (s:Int)))]) (fun s=>[(10,RS.hp (ZaR (.pointer (some ⟨b,0,none⟩)) (ZfZ l s)))]) (fun s=>s≤l.length∧(True)) (fun s=>l.length - s) (0) G ⟨rfl,rfl,rfl,rfl,rfl,tv⟩ ⟨rfl,rfl,tv⟩ ⟨Yw _,tv⟩ ?_
 clear G;intro i a w F hC G
 try dsimp only at hC
 obtain ⟨F,G⟩:=G.nM [8,7,6,3,2] [10,0]
 try dsimp only at G
 obtain ⟨hi,hq⟩:=hC
 refine Ya (rZ G (qL r2) Z [9,8,7,6,3,2] [10,0] fun G=>Ya ?_)
 refine Zc G rfl (fun hc0=>?_) (fun hc0=>?_)
 ·have hil:i<l.length:=by simp at hc0;omega
  have hsm:=hr _ (nth_mem hil)
  have hcl:=Zn9 hr hil
  have hel:=Zj7 hsm
  have hx1:=ZbU hsm.1
  have hx2:=ZbU hsm.2.1
  have hx3:=ZbU hsm.2.2
  have hx4:=ZiE (Nn l i).kind
  refine Yf (Za (Ya (Yg (Ya (Zb G (qR rr (qy 4 Yb0 r2 (qf (oR true 4 .t) r1 qz (qf (oH [.int .i64 0,.int .i64 0,.int .i64 0,.int .i64 0] 102) trivial qz (qO rr (qS 4 102 r2 r1 qZ)))))) Z [8,7,6,5,4,3,2] [102,10,0] (fun _=>rfl) (fun _=>rfl) fun τ a w F G=>?_)))))
  try dsimp only [RS.sub,SF.sub,CF.sub,csub,Anc.sub,List.map,Zf,xL,xM,Nat.reduceAdd,xD,xE,xT,xU,xC,xN,zCF,ldSF,Zn] at G
  generalize τ 5=v5 at G
  try simp only [Yc] at G
  refine Za (Ya (Ya (rZ G (qR rr (qf (o_eql .t qi) r1 qz qZ)) Z [14,8,7,6,5,3,2] [102,10,0] fun G=>?_)))
  refine Zc G rfl (fun hc1=>?_) (fun hc1=>?_)
  ·have hi0:i=0:=by have h9:=Yt hc1;omega
   have hw0:ZfZ l i = []:=by rw [hi0];rfl
   rw [hw0] at G
   refine Zg G (qg 0 102 r1 r1 (qa 102 r1 r1 (qf (oP (ZiD (Nn l i).src) func73 (Args.one .t)) r1 qz (qf (ZX 10 (Zcm b [] (by simp) (Zek (Nn l i).src) (Zqs _) ow) func72 rfl kr (Args.two .t .t)) r2 r1 qZ)))) Z [8,7,6,5,3,2] [102,10,0] rfl rfl fun a w F G=>?_
   replace G:=G.turn 10 rfl (r':=RS.hp (ZaR (.pointer (some ⟨b,0,none⟩)) (Zfn l i))) (fun _ _ _ _ h=>⟨_,.inr rfl,by rw [show Zfn l i = [] ++ Zek (Nn l i).src by rw [hi0];simp [Zfn]];exact h⟩)
   refine Za (Zz G (qg 2 102 r1 r1 (qa 102 r1 r1 (qf (oP (Znj (Nn l i).kind) func74 (Args.one .t)) r1 qz (qf (Zbc (.cs kr) .t (by simp only [Yd,Yl,Yy];omega)) r1 qz (qg 3 102 r1 r1 (qa 102 r1 r1 (qf (oP (ZiD (Nn l i).key) func73 (Args.one .t)) r1 qz (qf (Zbc .t .t (by simp only [Yd,Yl,Yy];omega)) r2 qz (qf (Zbc .t (.cs kr) (by simp only [Yd,Yl,Yy];omega)) r1 qz (qg 1 102 r1 r1 (qa 102 r1 r1 (qf (oP (ZiD (Nn l i).dst) func73 (Args.one .t)) r1 qz (qf (Zbc .t .t (by simp only [Yd,Yl,Yy];omega)) r2 qz (qf (ZX 10 (Zcm b (Zfn l i) ow (ZoQ (Nn l i)) (by unfold ZoQ;simp) ow) func72 rfl kr (Args.two .t .t)) r2 r1 qZ)))))))))))))) Z [8,7,6,3,2] [10,0] rfl rfl fun a w F G=>?_)
   try dsimp only [List.map,xD,xE,xT,xU,ldSF,Zn] at G
   refine Zk (Za (rZ G (qp r1 (qR rr qZ)) Z [8,7,6,3,2] [10,0] fun G=>?_))
   replace G:=G.turn 10 rfl (r':=RS.hp (ZaR (.pointer (some ⟨b,0,none⟩)) (ZfZ l (i+1)))) (fun _ _ _ _ h=>⟨_,.inr rfl,by rw [← Zge hil];exact h⟩)
   replace G:=G.ent (i:=8) (s':=.pv (.int .i64 ((i+1:Nat):Int))) rfl (.int (Zd ow))
   obtain ⟨F,G⟩:=G.nM [7,6,3,2,8] [0,10]
   exact ⟨(i+1),F,⟨by omega,tv⟩,G,by omega⟩
  have hi0:¬ i=0:=by have h9:=YE hc1;omega
  rw [ZnJ hi0] at G
  refine Yf (Za (Zz G (qg 2 102 r1 r1 (qa 102 r1 r1 (qf (oP (Znj (Nn l i).kind) func74 (Args.one .t)) r1 qz (qf (Zbc (.cs kr) .t (by simp only [Yd,Yl,Yy];omega)) r1 qz (qg 3 102 r1 r1 (qa 102 r1 r1 (qf (oP (ZiD (Nn l i).key) func73 (Args.one .t)) r1 qz (qf (Zbc .t .t (by simp only [Yd,Yl,Yy];omega)) r2 qz (qf (Zbc .t (.cs kr) (by simp only [Yd,Yl,Yy];omega)) r1 qz (qg 1 102 r1 r1 (qa 102 r1 r1 (qf (oP (ZiD (Nn l i).dst) func73 (Args.one .t)) r1 qz (qf (Zbc .t .t (by simp only [Yd,Yl,Yy];omega)) r2 qz (qf (ZX 10 (Zcm b (Zfn l i) ow (ZoQ (Nn l i)) (by unfold ZoQ;simp) ow) func72 rfl kr (Args.two .t .t)) r2 r1 qZ)))))))))))))) Z [8,7,6,3,2] [10,0] rfl rfl fun a w F G=>?_))
  try dsimp only [List.map,xD,xE,xT,xU,ldSF,Zn] at G
  refine Zk (Za (rZ G (qp r1 (qR rr qZ)) Z [8,7,6,3,2] [10,0] fun G=>?_))
  replace G:=G.turn 10 rfl (r':=RS.hp (ZaR (.pointer (some ⟨b,0,none⟩)) (ZfZ l (i+1)))) (fun _ _ _ _ h=>⟨_,.inr rfl,by rw [← Zge hil];exact h⟩)
  replace G:=G.ent (i:=8) (s':=.pv (.int .i64 ((i+1:Nat):Int))) rfl (.int (Zd ow))
  obtain ⟨F,G⟩:=G.nM [7,6,3,2,8] [0,10]
  exact ⟨(i+1),F,⟨by omega,tv⟩,G,by omega⟩
 have hil:i=l.length:=by simp at hc0;omega
 rw [hil] at G
 refine Yx (Zj (Zj (Zr (Za (Ya (rZ G (qf (ZX 10 (Zo6 b (ZfZ l l.length)) func75 rfl kr (Args.one .t)) r1 r1 (qO rr qZ)) Z [2] [10,0] fun G=>Yh ?_))))))
 refine Zw hfr G rfl rfl rfl (.bs rfl)
def Zcd (l:List Ze):Bool:=decide ((∀ q,q<l.length→(Nn l q).dst=(Nn l ((q+1) % l.length)).src)∧0<l.length)
def Zcp (t:TxD) (key:Int) (p:ZbN→Bool):Bool:=t.ops.any fun o=>((o.read && decide (o.key=key)) && !decide (o.tx=t.id)) && p (ofO o)
def Zhi (g:Zq) (e:Ze):Bool:=if e.kind=1 then ZfW g e.key e.src e.dst else if e.kind=2 then Zcp ((Z0 g.txs e.dst).getD zeroT) e.key (fun v=>decide (v.tx=e.src) && Zdj g v) else if e.kind=3 then Zcp ((Z0 g.txs e.src).getD zeroT) e.key (fun v=>Zdj g v && ZfW g e.key v.tx e.dst) else false
def Zcx (g:Zq) (e:Ze):Bool:=!((!Zen g e.src || !Zen g e.dst) || decide (e.src=e.dst)) && Zhi g e
theorem ZhC (l:List Ze) (hl:l.length≤1000000):FnP prog 14 [.sl Zn l] (.bool (Zcd l)):=by
 refine FnP.mk func14 rfl ntmps14 rfl fun B a w F Z hfr G=>Ya ?_
 refine rZ G qB Z [2,0] [0] fun G=>(Ya (Ya ?_))
 refine rZ G (qR rr (qu Yb0 r1 (qJ qZ))) Z [7,6,5,2,0] [0] fun G=>Yg ?_
 refine Zl (σ:=(Nat)) [0,2,5,6] [0] (fun s=>[(7,.pv (.int .i64 (s:Int)))]) (fun s=>[]) (fun s=>s≤l.length∧(∀ q,q<s→(Nn l q).dst=(Nn l ((q+1) % l.length)).src)) (fun s=>l.length - s) (0) G ⟨rfl,rfl,rfl,rfl,rfl,tv⟩ ⟨rfl,tv⟩ ⟨Yw _,fun q hq=>absurd hq (Y9 q)⟩ ?_
 clear G;intro i a w F hC G
 try dsimp only at hC
 obtain ⟨F,G⟩:=G.nM [7,6,5,2,0] [0]
 try dsimp only at G
 obtain ⟨hi,hq⟩:=hC
 refine Ya (rZ G (qL r2) Z [8,7,6,5,2,0] [0] fun G=>Ya ?_)
 refine Zc G rfl (fun hc0=>?_) (fun hc0=>?_)
 ·have hil:i<l.length:=by simp at hc0;omega
  have hml:(i+1) % l.length<l.length:=YbC _ ow
  have hmi:(IntKind.wrap .i64 ((i:Int)+1)).tmod (l.length:Int)=(((i+1) % l.length:Nat):Int):=by rw [Zd ow,Int.tmod_eq_emod_of_nonneg ow];rfl
  refine Yf (Za (Ya (Yg (Ya (Zb G (qR rr (qy 4 Yb0 r2 (qf (oR true 4 .t) r1 qz (qf (oH [.int .i64 0,.int .i64 0,.int .i64 0,.int .i64 0] 101) trivial qz (qO rr (qS 4 101 r2 r1 qZ)))))) Z [7,6,5,4,3,2,0] [101,0] (fun _=>rfl) (fun _=>rfl) fun τ a w F G=>?_)))))
  try dsimp only [RS.sub,SF.sub,CF.sub,csub,Anc.sub,List.map,Zf,xL,xM,Nat.reduceAdd,xD,xE,xT,xU,xC,xN,zCF,ldSF,Zn] at G
  generalize τ 4=v4 at G
  try simp only [Yc] at G
  refine Za (Ya (Zz G (qg 1 101 r1 r1 (qa 101 r1 r1 (qR rr (qR rr (qp r1 (qR rr (qu Yb0 r1 (qf (ZsN .t .t ow) r2 qz (qf (ZI (sz:=4) (.mk Yb0 kr) (by intro x;rfl) .t .t (by rw [hmi];omega) (by rw [hmi];omega)) r2 qz (qf (oG 0 .t) r1 qz (qf (oR false 1 .t) r1 qz (qf (o_neq .t .t) r2 qz qZ)))))))))))) Z [23,7,6,5,2,0] [0] rfl rfl fun a w F G=>?_))
  try dsimp only [List.map,xD,xE,xT,xU,ldSF,Zn] at G
  try simp only [Yc] at G
  rw [hmi,Yc] at G
  refine Za (Zc G rfl (fun hc1=>?_) (fun hc1=>?_))
  ·have hg:false=Zcd l:=by unfold Zcd;rw [Yay,YH];intro h9;have h8:=hc1;rw [h9.1 i hil] at h8;simp at h8
   refine Ya (rZ G qB Z [7,6,5,2,0] [0] fun G=>(Yh (ZB (Zm (Zm (ZB (Zm ?_)))))))
   refine Zw hfr G rfl rfl rfl (.bool hg)
  have hne:(Nn l i).dst=(Nn l ((i+1) % l.length)).src:=by simpa using hc1
  refine Yf (Zk (Za (rZ G (qp r1 (qR rr qZ)) Z [7,6,5,2,0] [0] fun G=>?_)))
  replace G:=G.ent (i:=7) (s':=.pv (.int .i64 ((i+1:Nat):Int))) rfl (.int (Zd ow))
  obtain ⟨F,G⟩:=G.nM [6,5,2,0,7] [0]
  exact ⟨(i+1),F,⟨by omega,(fun q h9=>by rcases Y8 (Yad h9) with h8 | h8;exact hq q h8;rw [h8];exact hne)⟩,G,by omega⟩
 have hil:i=l.length:=by simp at hc0;omega
 have hg:decide ((0:Int)<(l.length:Int))=Zcd l:=by unfold Zcd;rw [decide_eq_decide];constructor;exact fun h9=>⟨by rw [hil] at hq;exact hq,by omega⟩;exact fun h9=>by have:=h9.2;omega
 refine Yx (Zj (Zj (Zr (Za (Ya (rZ G (qR rr (qu Yb0 r1 (qf (ZaV .t qi) r1 qz (qO rr qZ)))) Z [2] [0] fun G=>Yh ?_))))))
 refine Zw hfr G rfl rfl rfl (.bool hg)
theorem ZjM (t : TxD) (key : Int) (ht : t.ops.length ≤ 1000000) (p : ZbN → Bool) (f : FuncId) (fn : Func) (cps : List PV) (hf : prog.funcs[f]? = some fn) (hb : fn.body.isSome = true) (hnn : (fn.name == "runtime.NumGoroutine") = false) (hw : ∀ v : ZbN, FnP prog f (.agg (ZQ v) :: cps) (.bool (p v))) : FnP prog 82 [.agg (rTx t), .int .i64 key, .clos f cps] (.bool (Zcp t key p)) := by
 refine FnP.mk func82 rfl ntmps82 rfl fun B a w F Z hfr G=>Ya ?_
 refine Zb G (qx 101 r1 qB) Z [6,3,2,1] [101,0] (fun _=>rfl) (fun _=>rfl) fun τ a w F G=>?_
 try dsimp only [RS.sub,SF.sub,CF.sub,csub,Anc.sub,List.map,zCF,rTx,rOp,ZQ] at G
 generalize τ 3=v3 at G
 refine Za (Ya (Ya (rZ G (qg 2 101 r1 r1 (qa 101 r1 r1 (qu Yb2 r1 (qJ qZ)))) Z [12,11,10,6,3,2,1] [101,0] fun G=>Yg ?_)))
 refine Zl (σ:=(Nat)) [1,2,3,6,10,11] [0,101] (fun s=>[(12,.pv (.int .i64 (s:Int)))]) (fun s=>[]) (fun s=>s≤t.ops.length∧(∀ q,q<s→(fun o:OpD=>((o.read && decide (o.key=key)) && !decide (o.tx=t.id)) && p (ofO o)) (Nn t.ops q)=false)) (fun s=>t.ops.length - s) (0) G ⟨rfl,rfl,rfl,rfl,rfl,rfl,rfl,tv⟩ ⟨rfl,rfl,tv⟩ ⟨Yw _,fun q hq=>absurd hq (Y9 q)⟩ ?_
 clear G;intro i a w F hC G
 try dsimp only at hC
 obtain ⟨F,G⟩:=G.nM [12,11,10,6,3,2,1] [101,0]
 try dsimp only at G
 obtain ⟨hi,hq⟩:=hC
 refine Ya (rZ G (qL r2) Z [13,12,11,10,6,3,2,1] [101,0] fun G=>Ya ?_)
 refine Zc G rfl (fun hc0=>?_) (fun hc0=>?_)
 ·skip
  have hil:i<t.ops.length:=by simp at hc0;omega
  refine Yf (Za (Ya (Yg (Ya (Zb G (qy 4 Yb2 r2 (qf (oR true 4 .t) r1 qz (qf (oH [.bool false,.int .i64 0,.int .i64 0,.int .i64 0] 102) trivial qz (qS 4 102 r2 r1 qZ)))) Z [12,11,10,8,6,3,2,1] [102,101,0] (fun _=>rfl) (fun _=>rfl) fun τ a w F G=>?_)))))
  try dsimp only [RS.sub,SF.sub,CF.sub,csub,Anc.sub,List.map,Zf,xL,xM,Nat.reduceAdd,xD,xE,xT,xU,xC,xN,zCF,ldSF,rTx,rOp,ZQ] at G
  generalize τ 8=v8 at G
  try simp only [Yc] at G
  refine Za (Ya (rZ G (qg 0 102 r1 r1 (qa 102 r1 r1 (qR rr (qv 1 102 rfl r2 r1 (qw 102 rfl r2 r1 (qm rfl rfl rfl rfl (qk rfl (fun h=>o_eql (.w h) (.w h)) r3 qz (qf (ZH .t .t) r2 qz (qR rr (qv 2 102 rfl r2 r1 (qw 102 rfl r2 r1 (qv 0 101 rfl r2 r1 (qw 101 rfl r2 r1 (qk rfl (fun h=>o_neq (.w h) (.w h)) r3 qz (qf (ZH .t .t) r2 qz (qR rr (qm rfl rfl rfl rfl (qk rfl (fun h=>oL true 4 102 .is) r2 r1 (qk rfl (fun h=>oP (ZkN (Nn t.ops i)) func120 (Args.one (.pagg (.w h)))) r2 qz (qk rfl (fun h=>Z6 (avs:=[.agg (ZQ (ofO (Nn t.ops i)))]) (.w h) (hw (ofO (Nn t.ops i))) hf hb hnn (Args.one (.w h))) r3 qz (qf (ZH .t .t) r2 qz qZ))))))))))))))))))))) Z [36,12,11,10,6,3,2,1] [102,101,0] fun G=>?_))
  refine Zc G rfl (fun hc1=>?_) (fun hc1=>?_)
  ·skip
   have hg:true=Zcp t key p:=(YaJ.2 ⟨(Nn t.ops i),nth_mem hil,hc1⟩).symm
   refine Ya (rZ G qB Z [12,11,10,6,3,2,1] [102,101,0] fun G=>(Yh (ZB (Zm (Zm (ZB (Zm ?_)))))))
   refine Zw hfr G rfl rfl rfl (.bool hg)
  have hne:(fun o:OpD=>((o.read && decide (o.key=key)) && !decide (o.tx=t.id)) && p (ofO o)) (Nn t.ops i)=false:=hc1
  refine Yf (Zk (Za (rZ G (qp r1 (qR rr qZ)) Z [12,11,10,6,3,2,1] [102,101,0] fun G=>?_)))
  replace G:=G.ent (i:=12) (s':=.pv (.int .i64 ((i+1:Nat):Int))) rfl (.int (Zd ow))
  obtain ⟨F,G⟩:=G.nM [11,10,6,3,2,1,12] [101,0]
  exact ⟨(i+1),F,⟨by omega,(fun q h9=>by rcases Y8 (Yad h9) with h8 | h8;exact hq q h8;rw [h8];exact hne)⟩,G,by omega⟩
 have hil:i=t.ops.length:=by simp at hc0;omega
 have hg:false=Zcp t key p:=by unfold Zcp;rw [Yay,List.any_eq_false];intro o ho;obtain ⟨q,h8,rfl⟩:=YaR.1 ho;rw [← nth_eq h8,Bool.not_eq_true];exact hq q ow
 refine Yx (Zj (Zj (Zr (Za (Ya (rZ G qB Z [6] [101,0] fun G=>Yh ?_))))))
 refine Zw hfr G rfl rfl rfl (.bool hg)
theorem ZoT (g:Zq) (e:Ze) (v:ZbN) (hs:ZbY g):FnP prog 83 [.agg (ZQ v),.ref (Zn e),.ref [.sl rTx g.txs,.sl ZV g.orders]] (.bool (decide (v.tx=e.src) && Zdj g v)):=by
 refine FnP.mk func83 rfl ntmps83 rfl fun B a w F Z hfr G=>Ya ?_
 refine Zb G (qx 101 r1 qB) Z [4,3,2,1] [101,0] (fun _=>rfl) (fun _=>rfl) fun τ a w F G=>?_
 try dsimp only [RS.sub,SF.sub,CF.sub,csub,Anc.sub,List.map,zCF,Zx,rTx,ZV,ZQ,Zo,rOp,Zn] at G
 generalize τ 3=v3 at G
 refine Za (Ya (rZ G (qg 0 101 r1 r1 (qa 101 r1 r1 (qf (oG 0 .t) r1 qz (qf (oR false 1 .t) r1 qz (qf (o_eql .t .t) r2 qz (qR rr (qk rfl (fun h=>oR true 2 .t) r2 qz (qk rfl (fun h=>oL true 3 101 .is) r2 r1 (qk rfl (fun h=>oP (Zmb g v hs.1) func84 (Args.two (.pagg (.w h)) (.pagg (.w h)))) r3 qz (qf (ZH .t .t) r2 qz (qO rr qZ))))))))))) Z [4] [101,0] fun G=>Yh ?_))
 refine Zw hfr G rfl rfl rfl (.bool rfl)
theorem Zo0 (g:Zq) (e:Ze) (v:ZbN) (hs:ZbY g):FnP prog 85 [.agg (ZQ v),.ref [.sl rTx g.txs,.sl ZV g.orders],.ref (Zn e)] (.bool (Zdj g v && ZfW g e.key v.tx e.dst)):=by
 refine FnP.mk func85 rfl ntmps85 rfl fun B a w F Z hfr G=>Ya ?_
 refine Zb G (qx 101 r1 qB) Z [4,3,2,1] [101,0] (fun _=>rfl) (fun _=>rfl) fun τ a w F G=>?_
 try dsimp only [RS.sub,SF.sub,CF.sub,csub,Anc.sub,List.map,zCF,Zx,rTx,ZV,ZQ,Zo,rOp,Zn] at G
 generalize τ 3=v3 at G
 refine Za (Ya (rZ G (qf (oR true 2 .t) r1 qz (qe 3 101 r1 r1 (qf (oP (Zmb g v hs.1) func84 (Args.two (.pagg .t) (.pagg .t))) r2 qz (qR rr (qk rfl (fun h=>oR true 2 .t) r2 qz (qk rfl (fun h=>oG 3 .t) r2 qz (qk rfl (fun h=>oR false 1 (.w h)) r2 qz (qv 0 101 rfl r2 r1 (qw 101 rfl r2 r1 (qk rfl (fun h=>oG 1 .t) r2 qz (qk rfl (fun h=>oR false 1 (.w h)) r2 qz (qk rfl (fun h=>oP (ZnX g e.key v.tx e.dst hs) func81 (Args.four (.pagg (.w h)) (.w h) (.w h) (.w h))) r5 qz (qf (ZH .t .t) r2 qz (qO rr qZ)))))))))))))) Z [4] [101,0] fun G=>Yh ?_))
 refine Zw hfr G rfl rfl rfl (.bool rfl)
theorem ZmR (g:Zq) (e:Ze) (hs:ZbY g):FnP prog 43 [.agg (Zx g),.agg (Zn e)] (.bool (Zcx g e)):=by
 refine FnP.mk func43 rfl ntmps43 rfl fun B a w F Z hfr G=>Ya ?_
 refine Zb G (qx 101 r1 (qx 102 r1 qB)) Z [4,3,2] [102,101,0] (fun _=>rfl) (fun _=>rfl) fun τ a w F G=>?_
 try dsimp only [RS.sub,SF.sub,CF.sub,csub,Anc.sub,List.map,zCF,Zx,rTx,ZV,ZQ,Zo,rOp,Zn] at G
 generalize τ 2=v2,τ 3=v3 at G
 obtain ⟨F,G⟩:=G.giveRef 101 2 rfl rfl rfl
 obtain ⟨F,G⟩:=G.nM [4,3,2] [102,0]
 try dsimp only [Go.Gm.unCF] at G
 obtain ⟨F,G⟩:=G.giveRef 102 3 rfl rfl rfl
 obtain ⟨F,G⟩:=G.nM [4,3,2] [0]
 try dsimp only [Go.Gm.unCF] at G
 refine Za (Ya (Zb G (qf (oR true 2 .t) r1 qz (qf (oG 0 .t) r1 qz (qf (oR false 1 .t) r1 qz (qf (oP (Zji g e.src hs.1) func80 (Args.two (.pagg .t) .t)) r2 qz (qR rr (qf (Zh .t rfl) r1 qz (qf (Zh .t rfl) r1 qz (qf (oH [.int .i64 0,.bool false,.slice none 0 0] 103) trivial qz (qf (oA 3 103 .same (.conv .t .agg)) r2 r1 (qO rr qZ)))))))))) Z [6,5,4,3,2] [103,0] (fun _=>rfl) (fun _=>rfl) fun τ a w F G=>?_))
 try dsimp only [RS.sub,SF.sub,CF.sub,csub,Anc.sub,List.map,Zf,xL,xM,Nat.reduceAdd,xD,xE,xT,xU,xC,xN,zCF,ldSF,Zx,rTx,ZV,ZQ,Zo,rOp,Zn] at G
 generalize τ 5=v5 at G
 refine Za (Ya (Zb G (qf (oR true 2 .t) r1 qz (qf (oG 1 .t) r1 qz (qf (oR false 1 .t) r1 qz (qf (oP (Zji g e.dst hs.1) func80 (Args.two (.pagg .t) .t)) r2 qz (qR rr (qf (Zh .t rfl) r1 qz (qf (Zh .t rfl) r1 qz (qf (oH [.int .i64 0,.bool false,.slice none 0 0] 104) trivial qz (qf (oA 3 104 .same (.conv .t .agg)) r2 r1 (qO rr qZ)))))))))) Z [8,7,6,5,4,3,2] [104,103,0] (fun _=>rfl) (fun _=>rfl) fun τ a w F G=>?_))
 try dsimp only [RS.sub,SF.sub,CF.sub,csub,Anc.sub,List.map,Zf,xL,xM,Nat.reduceAdd,xD,xE,xT,xU,xC,xN,zCF,ldSF,Zx,rTx,ZV,ZQ,Zo,rOp,Zn] at G
 generalize τ 7=v7 at G
 refine Za (Ya (Ya (rZ G (qR rr (qf (o_not .t) r1 qz (qR rr (qm rfl rfl rfl rfl (qk rfl (fun h=>o_not (.w h)) r2 qz (qf (Zab .t .t) r2 qz (qR rr (qk rfl (fun h=>oG 0 .t) r2 qz (qk rfl (fun h=>oR false 1 (.w h)) r2 qz (qk rfl (fun h=>oG 1 .t) r2 qz (qk rfl (fun h=>oR false 1 (.w h)) r2 qz (qk rfl (fun h=>o_eql (.w h) (.w h)) r3 qz (qf (Zab .t .t) r2 qz qZ))))))))))))) Z [35,7,5,4,3,2] [104,103,0] fun G=>?_)))
 refine Zc G rfl (fun hc0=>?_) (fun hc0=>?_)
 ·have hg:false=Zcx g e:=by unfold Zcx;rw [hc0];rfl
  refine Ya (rZ G qB Z [7,5,4,3,2] [104,103,0] fun G=>(Yh (Zm ?_)))
  refine Zw hfr G rfl rfl rfl (.bool hg)
 have hF:((!Zen g e.src || !Zen g e.dst) || decide (e.src=e.dst))=false:=hc0
 refine Yf (Za (Ya (Ya (rZ G (qf (oG 2 .t) r1 qz (qf (oR false 1 .t) r1 qz qZ)) Z [37,7,5,4,3,2] [104,103,0] fun G=>(Yg (Ya ?_))))))
 refine rZ G (qf (o_eql .t qi) r1 qz (qO rr qZ)) Z [38,37,7,5,4,3,2] [104,103,0] fun G=>?_
 refine Zc G rfl (fun hc1=>?_) (fun hc1=>?_)
 ·have hk1:e.kind=1:=Yt hc1
  have hg:ZfW g e.key e.src e.dst=Zcx g e:=by unfold Zcx Zhi;rw [hF,Ye hk1];rfl
  refine Ya (rZ G (qf (oR true 2 .t) r1 qz (qf (oG 3 .t) r1 qz (qf (oR false 1 .t) r1 qz (qf (oG 0 .t) r1 qz (qf (oR false 1 .t) r1 qz (qf (oG 1 .t) r1 qz (qf (oR false 1 .t) r1 qz (qf (oP (ZnX g e.key e.src e.dst hs) func81 (Args.four (.pagg .t) .t .t .t)) r4 qz (qO rr qZ))))))))) Z [4] [104,103,0] fun G=>(Yh (ZB (Zm ?_))))
  refine Zw hfr G rfl rfl rfl (.bool hg)
 have hn1:¬ e.kind=1:=YE hc1
 refine Ya (rZ G (qf (o_eql .t qi) r1 qz (qO rr qZ)) Z [48,37,7,5,4,3,2] [104,103,0] fun G=>?_)
 refine Zc G rfl (fun hc2=>?_) (fun hc2=>?_)
 ·have hk2:e.kind=2:=Yt hc2
  have hg:Zcp ((Z0 g.txs e.dst).getD zeroT) e.key (fun v=>decide (v.tx=e.src) && Zdj g v)=Zcx g e:=by unfold Zcx Zhi;rw [hF,Yb hn1,Ye hk2];rfl
  refine Ya (rZ G (qe 3 104 r1 r1 (qf (oG 3 .t) r1 qz (qf (oR false 1 .t) r1 qz (qf (Zbk (Args.two .t .t)) r2 qz (qf (oP (ZjM ((Z0 g.txs e.dst).getD zeroT) e.key (ZgV hs.1 _) (fun v=>decide (v.tx=e.src) && Zdj g v) 83 f83 [.ref (Zn e),.ref [.sl rTx g.txs,.sl ZV g.orders]] func83 rfl kr (fun v=>ZoT g e v hs)) func82 (Args.three (.pagg .t) .t .t)) r3 qz (qO rr qZ)))))) Z [4] [104,103,0] fun G=>(Yh (ZB (Zm ?_))))
  refine Zw hfr G rfl rfl rfl (.bool hg)
 have hn2:¬ e.kind=2:=YE hc2
 refine Ya (rZ G (qf (o_eql .t qi) r1 qz (qO rr qZ)) Z [55,5,4,3,2] [104,103,0] fun G=>?_)
 refine Zc G rfl (fun hc3=>?_) (fun hc3=>?_)
 ·have hk3:e.kind=3:=Yt hc3
  have hg:Zcp ((Z0 g.txs e.src).getD zeroT) e.key (fun v=>Zdj g v && ZfW g e.key v.tx e.dst)=Zcx g e:=by unfold Zcx Zhi;rw [hF,Yb hn1,Yb hn2,Ye hk3];rfl
  refine Ya (rZ G (qe 3 103 r1 r1 (qf (oG 3 .t) r1 qz (qf (oR false 1 .t) r1 qz (qf (Zbk (Args.two .t .t)) r2 qz (qf (oP (ZjM ((Z0 g.txs e.src).getD zeroT) e.key (ZgV hs.1 _) (fun v=>Zdj g v && ZfW g e.key v.tx e.dst) 85 f85 [.ref [.sl rTx g.txs,.sl ZV g.orders],.ref (Zn e)] func85 rfl kr (fun v=>Zo0 g e v hs)) func82 (Args.three (.pagg .t) .t .t)) r3 qz (qO rr qZ)))))) Z [4] [104,103,0] fun G=>(Yh (ZB (Zm ?_))))
  refine Zw hfr G rfl rfl rfl (.bool hg)
 have hn3:¬ e.kind=3:=YE hc3
 have hg:false=Zcx g e:=by unfold Zcx Zhi;rw [hF,Yb hn1,Yb hn2,Yb hn3];rfl
 refine Yf (Zk (Za (Ya (rZ G qB Z [4] [104,103,0] fun G=>Yh ?_))))
 refine Zw hfr G rfl rfl rfl (.bool hg)
def Zhu:Zsw:=⟨5,[⟨1,2,3,1⟩,⟨2,1,3,2⟩],Zpq⟩
theorem Zli:∀ i:Nat,i<Zhu.walk.length→Zcx Zdt (Nn Zhu.walk i)=true:=fun i hi=>by
 rcases (show i=0∨i=1 by have:Zhu.walk.length=2:=rfl;omega) with rfl | rfl <;> decide +kernel
theorem ZsR  : FnP prog 33 [.agg (Zx Zdt),.agg (Zhr Zhu)] (.bool true):=by
 refine FnP.mk func33 rfl ntmps33 rfl fun B a w F Z hfr G=>Ya ?_
 refine Zb G (qx 101 r1 (qx 102 r1 qB)) Z [4,3,2] [102,101,0] (fun _=>rfl) (fun _=>rfl) fun τ a w F G=>?_
 try dsimp only [RS.sub,SF.sub,CF.sub,csub,Anc.sub,List.map,zCF,Zx,rTx,ZV,ZQ,Zo,rOp,Zn,Zhr] at G
 generalize τ 2=v2,τ 3=v3 at G
 refine Za (Ya (Ya (rZ G (qe 2 101 r1 r1 (qf (oP (ZeA Zdt ZcY.1) func19 (Args.one (.pagg .t))) r1 qz (qf (o_not .t) r1 qz qZ))) Z [13,4,3,2] [102,101,0] fun G=>?_)))
 refine Zc G rfl (fun hc0=>?_) (fun hc0=>?_)
 ·exact absurd hc0 (by decide +kernel)
 refine Yf (Za (Ya (Zb G (qe 2 101 r1 r1 (qf (oB [(0,.tmp 14)] [.slice none 0 0,.slice none 0 0] [(0,2)] (.agg rfl .t kr kr .nil)) r1 qz (qf (oH [.slice none 0 0,.slice none 0 0] 103) trivial qz (qS 2 103 r2 r1 qZ)))) Z [5,4,3] [103,102,101,0] (fun _=>rfl) (fun _=>rfl) fun τ a w F G=>?_)))
 try dsimp only [RS.sub,SF.sub,CF.sub,csub,Anc.sub,List.map,Zf,xL,xM,Nat.reduceAdd,xD,xE,xT,xU,xC,xN,zCF,ldSF,Zx,rTx,ZV,ZQ,Zo,rOp,Zn,Zhr] at G
 generalize τ 5=v5 at G
 refine Za (Ya (Ya (rZ G (qg 0 102 r1 r1 (qa 102 r1 r1 qZ)) Z [17,5,4,3] [103,102,101,0] fun G=>(Yg (Ya (Ya ?_))))))
 refine rZ G (qf (o_eql .t qi) r1 qz (qO rr qZ)) Z [18,17,5,4,3] [103,102,101,0] fun G=>?_
 refine Zc G rfl (fun hc1=>?_) (fun hc1=>?_)
 ·exact absurd hc1 (by decide)
 refine rZ G (qf (o_eql .t qi) r1 qz (qO rr qZ)) Z [18,5,4,3] [103,102,101,0] fun G=>?_
 refine Zc G rfl (fun hc2=>?_) (fun hc2=>?_)
 ·exact absurd hc2 (by decide)
 refine Yf (Zk (Za (Ya (rZ G (qg 0 102 r1 r1 (qa 102 r1 r1 (qf (oP (ZnT Zhu.phen) func68 (Args.one .t)) r1 qz (qR rr (qf (Zh .t rfl) r1 qz (qf (Zh .t rfl) r1 qz (qO rr (qO rr qZ)))))))) Z [7,6,5,4,3] [103,102,101,0] fun G=>Ya ?_))))
 refine rZ G (qg 1 102 r1 r1 (qa 102 r1 r1 (qf (oP (ZrK Zhu.walk (by decide)) func71 (Args.one .t)) r1 qz (qO rr qZ)))) Z [8,7,6,5,4,3] [103,102,101,0] fun G=>(Ya (Ya ?_))
 refine Zg G (qR rr (qf (o_eql .t qi) r1 qz (qR rr (qv 2 102 rfl r2 r1 (qk rfl (fun h=>oL true 5 102 (.w h .adr)) r2 r1 (qk rfl (fun h=>ZgM (r:=[]) (zs:=[.int .i64 0,.int .i64 0,.int .i64 0,.int .i64 0,.int .i64 0]) (pl:=[(0,1),(1,1),(2,3)]) kr kr .nil (by rfl)) r1 qz (qk rfl (fun h=>ZsI (ks:=[true,true,true,true,true]) kr (.w h) (.w h) (.int (.int (.int (.int (.int .nil)))))) r3 qz (qf (Zab .t .t) r2 qz (qR rr (qv 1 102 rfl r2 r1 (qw 102 rfl r2 r1 (qk rfl (fun h=>oP (ZhC Zhu.walk (by decide)) func14 (Args.one (.w h))) r2 qz (qk rfl (fun h=>o_not (.w h)) r2 qz (qf (Zab .t .t) r2 qz (qR rr (qm rfl rfl rfl rfl (qm rfl rfl rfl rfl (qk rfl (fun h=>Zkg (.w h) (.w h)) r3 qz (qk rfl (fun h=>o_neq (.w h) qi) r2 qz (qf (Zab .t .t) r2 qz (qR rr (qm rfl rfl rfl rfl (qk rfl (fun h=>o_neq (.w h) qi) r2 qz (qk rfl (fun h=>oM (.w h)) r2 qz (Zv.cons (Zan.cond2 rfl rfl (fun h=>ZaS .t (by rfl))) r2 qz (Zv.cons (Zan.cond2 rfl rfl (fun h=>ZaS .t (by rfl))) r2 qz (Zv.cons (Zan.cond2 rfl rfl (fun h=>Zde (.w h) (.w h))) r3 qz (Zv.cons (Zan.cond2 rfl rfl (fun h=>o_eql (.w h) qi)) r2 qz (qk rfl (fun h=>ZH (.w h) (.wc h)) r3 qz (qf (Zab .t .t) r2 qz qZ)))))))))))))))))))))))))))))) Z [71,5,4,3] [103,102,101,0] rfl rfl fun a w F G=>?_
 try dsimp only [List.map,Zf,xL,xM,Nat.reduceAdd,xD,xE,xT,xU,xC,xN,zCF,ldSF,Zx,rTx,ZV,ZQ,Zo,rOp,Zn,Zhr] at G
 refine Za (Zc G rfl (fun hc3=>?_) (fun hc3=>?_))
 ·exact absurd hc3 (by decide +kernel)
 refine Yf (Za (Ya (Ya (rZ G (qg 1 102 r1 r1 (qa 102 r1 r1 (qu Yb0 r1 (qJ qZ)))) Z [75,74,73,5,4] [103,102,101,0] fun G=>Yg ?_))))
 refine Zl (σ:=(Nat)) [4,5,73,74] [0,101,102,103] (fun s=>[(75,.pv (.int .i64 (s:Int)))]) (fun s=>[]) (fun s=>s≤Zhu.walk.length∧(True)) (fun s=>Zhu.walk.length - s) (0) G ⟨rfl,rfl,rfl,rfl,rfl,tv⟩ ⟨rfl,rfl,rfl,rfl,tv⟩ ⟨Yw _,tv⟩ ?_
 clear G;intro i a w F hC G
 try dsimp only at hC
 obtain ⟨F,G⟩:=G.nM [75,74,73,5,4] [103,102,101,0]
 try dsimp only at G
 obtain ⟨hi,hq⟩:=hC
 have hwl:Zhu.walk.length=2:=rfl
 refine Ya (rZ G (qL r2) Z [76,75,74,73,5,4] [103,102,101,0] fun G=>Ya ?_)
 refine Zc G rfl (fun hc4=>?_) (fun hc4=>?_)
 ·have hil:i<Zhu.walk.length:=by simp at hc4;omega
  refine Yf (Za (Ya (Yg (Ya (Zb G (qy 4 Yb0 r2 (qf (oR true 4 .t) r1 qz (qf (oH [.int .i64 0,.int .i64 0,.int .i64 0,.int .i64 0] 104) trivial qz (qS 4 104 r2 r1 qZ)))) Z [75,74,73,10,5,4] [104,103,102,101,0] (fun _=>rfl) (fun _=>rfl) fun τ a w F G=>?_)))))
  try dsimp only [RS.sub,SF.sub,CF.sub,csub,Anc.sub,List.map,Zf,xL,xM,Nat.reduceAdd,xD,xE,xT,xU,xC,xN,zCF,ldSF,Zx,rTx,ZV,ZQ,Zo,rOp,Zn,Zhr] at G
  generalize τ 10=v10 at G
  try simp only [Yc] at G
  refine Za (Ya (rZ G (qe 2 103 r1 r1 (qe 4 104 r1 r1 (qf (oP (ZmR Zdt (Nn Zhu.walk i) ZcY.1) func43 (Args.two (.pagg .t) (.pagg .t))) r2 qz (qf (o_not .t) r1 qz qZ)))) Z [82,75,74,73,5,4] [104,103,102,101,0] fun G=>?_))
  refine Zc G rfl (fun hc5=>?_) (fun hc5=>?_)
  ·rw [Zli i hil] at hc5;cases hc5
  refine Yf (Zk (Za (rZ G (qp r1 (qR rr qZ)) Z [75,74,73,5,4] [104,103,102,101,0] fun G=>?_)))
  replace G:=G.ent (i:=75) (s':=.pv (.int .i64 ((i+1:Nat):Int))) rfl (.int (Zd ow))
  obtain ⟨F,G⟩:=G.nM [74,73,5,4,75] [103,102,101,0]
  exact ⟨(i+1),F,⟨by omega,tv⟩,G,by omega⟩
 have hil:i=Zhu.walk.length:=by simp at hc4;omega
 refine Yx (Zj (Zj (Zr (Za (Ya (rZ G qB Z [4] [103,102,101,0] fun G=>Yh ?_))))))
 refine Zw hfr G rfl rfl rfl .refl
section
variable {B B':Ze→Prop} {m:Ze→Bool} {need:Bool}
theorem Za9.le {w v:List Ze} {j:Int} (h:Za9 B m need w) (k:CwE B m need j v):w.length≤v.length:=by
 obtain ⟨i,_,h2⟩:=h
 rcases h2 j v k with h3 | ⟨h3,_⟩ <;> omega
theorem ZeS:∀ {w:List Ze},¬ (w.map Ze.src).Nodup → ∃ u e v f z,w=u++e :: (v++f :: z)∧e.src=f.src
 | [],h=>absurd .nil h
 | x :: w,h=>by
  rw [YQ,YaH] at h
  by_cases hx:x.src ∈ w.map Ze.src
  ·obtain ⟨f,h1,h2⟩:=Yv.1 hx
   obtain ⟨v,z,rfl⟩:=List.append_of_mem h1
   exact ⟨[],x,v,f,z,rfl,h2.symm⟩
  ·obtain ⟨u,e,v,f,z,h1,h2⟩:=ZeS fun k=>h ⟨hx,k⟩
   exact ⟨x :: u,e,v,f,z,by rw [h1];rfl,h2⟩
theorem Za9.simple {w:List Ze} (h:Za9 B m need w):(w.map Ze.src).Nodup:=by
 apply YaI
 intro hn
 obtain ⟨u,e,v,f,z,rfl,hs⟩:=ZeS hn
 obtain ⟨j,⟨_,hp,_,hm⟩,_⟩:=id h
 obtain ⟨a,p1,p2⟩:=ZdJ.1 hp
 have ea:e.src=a:=Zd2 p2
 rw [← Yal] at p2
 obtain ⟨b,p3,p4⟩:=ZdJ.1 p2
 have eb:f.src=b:=Zd2 p4
 have hab:a=b:=by omega
 subst hab
 have q1:Zbl B a (e :: v) a:=p3
 have q2:Zbl B a (f :: z++u) a:=ZdJ.2 ⟨_,p4,p1⟩
 have key:∀ {x:List Ze},x≠[]→Zbl B a x a→x.length<(u++e :: (v++f :: z)).length→(need=true → ∃ e ∈ x,m e=true)→False:=fun h1 h2 h3 h4=>by
  obtain ⟨i,y,y1,y2,_⟩:=ZtE h1 h2 h4
  have:=h.le y1
  omega
 by_cases hc:need=true → ∃ x ∈ e :: v,m x=true
 ·exact key (by simp) q1 (by simp;omega) hc
 ·refine key (by simp) q2 (by simp;omega) fun hd=>?_
  obtain ⟨x,x1,x2⟩:=hm hd
  refine ⟨x,?_,x2⟩
  have:x ∉ e :: v:=fun k=>hc fun _=>⟨x,k,x2⟩
  simp at x1 this ⊢
  rcases x1 with x1 | x1 | x1 | x1 | x1
  ·simp [x1]
  ·exact absurd x1 this.1
  ·exact absurd x1 this.2
  ·simp [x1]
  ·simp [x1]
theorem Zg6 {i:Int} {w:List Ze} (h:CwE B m need i w):∃ e,w.head? = some e∧B e∧e.src=i:=by
 cases w with
 | nil=>exact absurd rfl h.1
 | cons e w=>exact ⟨e,rfl,h.2.1.1,h.2.1.2.1⟩
end
theorem ZkJ {α:Type} {P:α→Prop} {R:α→α→Prop} (tot:∀ a b,P a→P b→R a b∨R b a) (tr:∀ a b c,P a→P b→P c→R a b→R b c→R a c):∀ L:List α,(∃ a ∈ L,P a) → ∃ a ∈ L,P a ∧ ∀ b ∈ L,P b→R a b
 | [],h=>by obtain ⟨a,h,_⟩:=h;cases h
 | x :: L,h=>by
  by_cases hL:∃ a ∈ L,P a
  ·obtain ⟨a,a1,a2,a3⟩:=ZkJ tot tr L hL
   by_cases hx:P x
   ·rcases tot x a hx a2 with k | k
    ·refine ⟨x,by simp,hx,fun b hb hp=>?_⟩
     rcases Yk.1 hb with rfl | hb
     ·rcases tot b b hp hp with q | q <;> exact q
     ·exact tr _ _ _ hx a2 hp k (a3 b hb hp)
    ·refine ⟨a,by simp [a1],a2,fun b hb hp=>?_⟩
     rcases Yk.1 hb with rfl | hb
     ·exact k
     ·exact a3 b hb hp
   ·refine ⟨a,by simp [a1],a2,fun b hb hp=>?_⟩
    rcases Yk.1 hb with rfl | hb
    ·exact absurd hp hx
    ·exact a3 b hb hp
  ·obtain ⟨a,a1,a2⟩:=h
   have e:a=x:=(Yk.1 a1).resolve_right fun k=>hL ⟨a,k,a2⟩
   subst e
   refine ⟨a,by simp,a2,fun b hb hp=>?_⟩
   rcases Yk.1 hb with rfl | hb
   ·rcases tot b b hp hp with q | q <;> exact q
   ·exact absurd ⟨b,hb,hp⟩ hL
def ZhI (l:List Ze):Nat→List (List Ze)
 | 0=>[[]]
 | k+1=>l.flatMap fun e=>(ZhI l k).map (e :: ·)
theorem Zf7 {l:List Ze} : ∀ {w:List Ze},(∀ e ∈ w,e ∈ l)→w ∈ ZhI l w.length
 | [],_=>by simp [ZhI]
 | e :: w,h=>by
  show e :: w ∈ l.flatMap _
  exact Yau.2 ⟨e,h e (by simp),Yv.2 ⟨w,Zf7 fun x hx=>h x (by simp [hx]),rfl⟩⟩
def RwE (w v:List Ze):Prop:=∃ x y,w.head? = some x∧v.head? = some y∧(x.src<y.src∨(x.src=y.src∧(v=w∨LtE w v)))
theorem LtE.trans:∀ {w v u:List Ze},LtE w v→LtE v u→LtE w u
 | x :: w,y :: v,z :: u,h,k=>by
  rcases h with h | ⟨rfl,h⟩ <;> rcases k with k | ⟨rfl,k⟩
  ·left;unfold ltK at *;omega
  ·exact .inl h
  ·exact .inl k
  ·exact .inr ⟨rfl,h.trans k⟩
 | [],_,_,h,_=>h.elim
 | _ :: _,[],_,h,_=>h.elim
 | _ :: _,_ :: _,[],_,k=>k.elim
theorem Zmi {B:Ze→Prop} {a b c:Int} : ∀ {w v:List Ze},w.length=v.length→Zbl B a w b→Zbl B a v c→w=v∨LtE w v∨LtE v w
 | [],[],_,_,_=>.inl rfl
 | x :: w,y :: v,hl,h,k=>by
  by_cases e:x=y
  ·subst e
   rcases Zmi (by simpa using hl) h.2.2 k.2.2 with q | q | q
   ·exact .inl (by rw [q])
   ·exact .inr (.inl (.inr ⟨rfl,q⟩))
   ·exact .inr (.inr (.inr ⟨rfl,q⟩))
  ·have hs:x.src=y.src:=h.2.1.trans k.2.1.symm
   have:ltK x y∨ltK y x:=by
    apply YaI
    intro hn
    apply e
    cases x;cases y
    unfold ltK at hn
    simp only [Ze.mk.injEq] at *
    omega
   rcases this with q | q
   ·exact .inr (.inl (.inl q))
   ·exact .inr (.inr (.inl q))
 | [],_ :: _,hl,_,_=>by simp at hl
 | _ :: _,[],hl,_,_=>by simp at hl
theorem Zp8 {l:List Ze} {m:Ze→Bool} {need:Bool} (h:∃ i w,CwE (· ∈ l) m need i w):∃ w,Za9 (· ∈ l) m need w:=by
 obtain ⟨k,⟨k0,i,w,hw,hk⟩,hmin⟩:=ZqB (P:=fun k=>0≤k ∧ ∃ i w,CwE (· ∈ l) m need i w∧(w.length:Int)=k) (fun x hx=>hx.1) (u:=((Classical.choose (Ybx h)).length:Int)) ⟨by omega,_,_,Ybx (Ybx h),rfl⟩
 have hin:∀ {i:Int} {v:List Ze},CwE (· ∈ l) m need i v→v.length=w.length→v ∈ ZhI l w.length:=fun hv hl=>by
  rw [← hl];exact Zf7 (ZeK hv.2.1)
 have hh:∀ {i:Int} {v:List Ze},CwE (· ∈ l) m need i v → ∃ x,v.head? = some x∧x.src=i:=fun hv=>by
  obtain ⟨x,x1,_,x3⟩:=Zg6 hv;exact ⟨x,x1,x3⟩
 obtain ⟨v,v1,⟨j,v2⟩,v3⟩:=ZkJ (P:=fun v=>∃ i,CwE (· ∈ l) m need i v∧v.length=w.length) (R:=RwE) (fun a b ⟨i,ha,la⟩ ⟨j,hb,lb⟩=>by
   obtain ⟨x,x1,x2⟩:=hh ha
   obtain ⟨y,y1,y2⟩:=hh hb
   by_cases e:i=j
   ·subst e
    rcases Zmi ow ha.2.1 hb.2.1 with q | q | q
    ·exact .inl ⟨x,y,x1,y1,.inr ⟨by omega,.inl q.symm⟩⟩
    ·exact .inl ⟨x,y,x1,y1,.inr ⟨by omega,.inr q⟩⟩
    ·exact .inr ⟨y,x,y1,x1,.inr ⟨by omega,.inr q⟩⟩
   ·by_cases hlt:i<j
    ·exact .inl ⟨x,y,x1,y1,.inl ow⟩
    ·exact .inr ⟨y,x,y1,x1,.inl ow⟩) (fun a b c _ _ _ ⟨x,y,x1,y1,h1⟩ ⟨y',z,y2,z1,h2⟩=>by
   have e:y' = y:=YaA (y2.symm.trans y1)
   subst e
   refine ⟨x,z,x1,z1,?_⟩
   rcases h1 with h1 | ⟨h1,h3⟩ <;> rcases h2 with h2 | ⟨h2,h4⟩
   ·exact .inl ow
   ·exact .inl ow
   ·exact .inl ow
   ·refine .inr ⟨by omega,?_⟩
    rcases h3 with rfl | h3 <;> rcases h4 with rfl | h4
    ·exact .inl rfl
    ·exact .inr h4
    ·exact .inr h3
    ·exact .inr (h3.trans h4)) (ZhI l w.length) ⟨w,hin hw rfl,i,hw,rfl⟩
 refine ⟨v,j,v2.1,fun j' w' k=>?_⟩
 have hlen:=hmin (w'.length:Int) ⟨by omega,j',w',k,rfl⟩
 by_cases hl:w'.length=w.length
 ·refine .inr ⟨by rw [hl,v2.2],?_⟩
  obtain ⟨x,y,x1,y1,h1⟩:=v3 w' (hin k hl) ⟨j',k,hl⟩
  obtain ⟨x',x2,x3⟩:=hh v2.1
  obtain ⟨y',y2,y3⟩:=hh k
  have e1:x' = x:=YaA (x2.symm.trans x1)
  have e2:y' = y:=YaA (y2.symm.trans y1)
  subst e1;subst e2
  rcases h1 with h1 | ⟨h1,h2⟩
  ·exact .inl ow
  ·exact .inr ⟨by omega,h2⟩
 ·exact .inl (by rw [v2.2];omega)
theorem Zg5 (l:List Ze) (p:Int):∃ R,Zb9 l p R:=by
 by_cases h0:(ZS p).1=0
 ·exact ⟨[],by unfold Zb9;rw [Ye h0]⟩
 ·by_cases hc:∃ i w,CwE (· ∈ l.filter (kindOk (ZS p).1)) (fun e=>ofB (ZS p).2 e.kind) (!decide ((ZS p).2=0)) i w
  ·obtain ⟨w,hw⟩:=Zp8 hc
   exact ⟨w,by unfold Zb9;rw [Yb h0];exact .inr hw⟩
  ·exact ⟨[],by unfold Zb9;rw [Yb h0];exact .inl ⟨rfl,fun j w h=>hc ⟨j,w,h⟩⟩⟩
theorem Za9.ne {B:Ze→Prop} {m:Ze→Bool} {need:Bool} {w:List Ze} (h:Za9 B m need w):w≠[]:=by
 obtain ⟨j,h1,_⟩:=h
 exact h1.1
structure Znh (x y:Zq):Prop where
 walk:∀ p R,Zb9 (Zap x) p R→Zb9 (Zap y) p R
 bads:∀ p,ZaC y p PT1=ZaC x p PT1
theorem Znh.symm {x y:Zq} (h:Znh x y) (hw:∀ p R,Zb9 (Zap y) p R→Zb9 (Zap x) p R):Znh y x:=⟨hw,fun p=>(h.bads p).symm⟩
theorem ZrY {j:Int} {w:List Ze} (h:CwE (· ∈ [(⟨1,2,3,1⟩:Ze),⟨2,1,3,2⟩]) (fun e=>ofB 8 e.kind) true j w):2≤w.length∧j=1∧(w.length=2→w = [⟨1,2,3,1⟩,⟨2,1,3,2⟩]):=by
 obtain ⟨h1,h2,h3,_⟩:=h
 cases w with
 | nil=>exact absurd rfl h1
 | cons e w=>
  obtain ⟨he,ha,h4⟩:=h2
  rcases Yk.1 he with rfl | he
  ·have ha:(1:Int)=j:=ha
   subst ha
   cases w with
   | nil=>have h4:(2:Int)=1:=h4;omega
   | cons f w=>
    obtain ⟨hf,hb,h5⟩:=h4
    refine ⟨by simp,rfl,fun hl=>?_⟩
    have hw:w = []:=by simpa using hl
    subst hw
    rcases Yk.1 hf with rfl | hf
    ·have hb:(1:Int)=2:=hb;omega
    ·rw [Yi.1 hf]
  ·have he:=Yi.1 he
   subst he
   have ha:(2:Int)=j:=ha
   subst ha
   have:=h3 ⟨2,1,3,2⟩ (by simp)
   have:(2:Int)≤1:=this
   omega
theorem Zmx:Zb9 (Zap Zdt) 5 [⟨1,2,3,1⟩,⟨2,1,3,2⟩]:=by
 have hf:(Zap Zdt).filter (kindOk (ZS 5).1) = [⟨1,2,3,1⟩,⟨2,1,3,2⟩]:=by rw [ZlT];decide
 unfold Zb9
 rw [Yb (by decide),hf]
 have h8:(ZS 5).2=8:=rfl
 rw [h8]
 refine .inr ⟨1,⟨by simp,⟨by simp,rfl,by simp,rfl,rfl⟩,?_,fun _=>⟨⟨1,2,3,1⟩,by simp,by decide⟩⟩,fun j' w' k=>?_⟩
 ·intro e he
  rcases Yk.1 he with rfl | he
  ·show (1:Int)≤2;decide
  ·rw [Yi.1 he];show (1:Int)≤1;decide
 ·obtain ⟨k1,k2,k3⟩:=ZrY k
  by_cases hl:w'.length=2
  ·exact .inr ⟨hl.symm,.inr ⟨k2.symm,.inl (k3 hl)⟩⟩
  ·exact .inl (by show 2<_;omega)
theorem Zke:ZqQ Zdt 5 [⟨1,2,3,1⟩,⟨2,1,3,2⟩] = Zhu∧okH Zdt 5 [⟨1,2,3,1⟩,⟨2,1,3,2⟩] = true:=⟨rfl,by decide⟩
theorem Zos:ZfZ Zhu.walk Zhu.walk.length = [49,32,114,119,49,32,50,32,114,119,50,32,49]:=by decide +kernel
theorem ZkZ:∀ e ∈ Zhu.walk,Zfx e:=fun e he=>by
 rcases Yk.1 he with rfl | he
 ·unfold Zfx;decide
 ·rw [Yi.1 he];unfold Zfx;decide
theorem Zk4  : FnP prog 10 [] (.bool true):=by
 refine FnP.mk func10 rfl ntmps10 rfl fun B a w F Z hfr G=>Ya ?_
 refine rZ G qB Z [0] [0] fun G=>Ya ?_
 refine Zb G (qf (oP (Ztb) func32 Args.nil) trivial qz (qf (oH [.slice none 0 0,.slice none 0 0] 101) trivial qz (qf (oA 2 101 .same (.conv .t .agg)) r2 r1 qZ))) Z [1,0] [101,0] (fun _=>rfl) (fun _=>rfl) fun τ a w F G=>?_
 try dsimp only [RS.sub,SF.sub,CF.sub,csub,Anc.sub,List.map,Zf,xL,xM,Nat.reduceAdd,xD,xE,xT,xU,xC,xN,zCF,Zx,rTx,ZV,ZQ,Zo,rOp] at G
 generalize τ 1=v1 at G
 refine Za (Ya (Zb G (qe 2 101 r1 r1 (qf (oP (ZoZ Zdt ZcY.1 ZcY.2 5 [⟨1,2,3,1⟩,⟨2,1,3,2⟩] Zmx) func12 (Args.two (.pagg .t) qi)) r1 qz (qR rr (qf (Zh .t rfl) r1 qz (qf (Zh .t rfl) r1 qz (qf (oH [.int .i64 0,.slice none 0 0,.int .i64 0,.int .i64 0,.int .i64 0,.int .i64 0,.int .i64 0] 102) trivial qz (qf (oA 7 102 .same (.conv .t .agg)) r2 r1 (qO rr qZ)))))))) Z [3,2,1,0] [102,101,0] (fun _=>rfl) (fun _=>rfl) fun τ a w F G=>?_))
 try dsimp only [RS.sub,SF.sub,CF.sub,csub,Anc.sub,List.map,Zf,xL,xM,Nat.reduceAdd,xD,xE,xT,xU,xC,xN,zCF,ldSF,Zx,rTx,ZV,ZQ,Zo,rOp] at G
 generalize τ 2=v2 at G
 rw [Zke.1,Zke.2] at G
 try dsimp only [Zhr] at G
 refine Za (Ya (rZ G (qR rr (qR rr (qk rfl (fun h=>oL true 2 101 .is) r2 r1 (qk rfl (fun h=>oL true 7 102 .is) r2 r1 (qk rfl (fun h=>oP (ZsR) func33 (Args.two (.pagg (.w h)) (.pagg (.w h)))) r3 qz (qf (ZH .t .t) r2 qz (qR rr (qv 1 102 rfl r2 r1 (qw 102 rfl r2 r1 (qk rfl (fun h=>oP (Zr3 Zhu.walk (by decide) ZkZ) func34 (Args.one (.w h))) r2 qz (qk rfl (fun h=>Zph Ycc (.w h) (.cs kr)) r2 qz (qf (ZH .t .t) r2 qz (qO rr qZ))))))))))))) Z [0] [102,101,0] fun G=>Yh ?_))
 refine Zw hfr G rfl rfl rfl (.bool (by rw [Zos];rfl))
theorem Zkb {l:List Int} (hn:l.Nodup) {a b:Nat} (ha:a<l.length) (hb:b<l.length) (e:Nn l a=Nn l b):a=b:=by
 rw [nth_eq ha,nth_eq hb] at e
 rcases YbB a b with h9 | h9 | h9
 ·exact absurd e (Yah.1 hn a b ha hb h9)
 ·exact h9
 ·exact absurd e.symm (Yah.1 hn b a hb ha h9)
theorem ZkD {l:List Int} (hn:l.Nodup) (h1:∀ z ∈ l,1≤z) {x y:Int} (h:Zhs l x y):ZbX l x=(y,true):=by
 obtain ⟨j,hj,e1,e2⟩:=ZfJ.1 h
 unfold ZbX
 by_cases h0:j=0
 ·subst h0
  have e1:x=0:=e1
  subst e1
  rw [Yb (by simp),Ye rfl,Yb ow,← e2];rfl
 ·rw [Yb h0] at e1
  have hx:=h1 x (e1 ▸ nth_mem ow)
  have hi:Zc4 x l=((j - 1:Nat):Int):=ZiU ow e1 fun k hk e9=>absurd (Zkb hn ow ow (e9.trans e1.symm)) ow
  rw [Yb (by rw [hi];omega),Yb ow,hi,Yb ow,← e2,show (((j - 1:Nat):Int)+1).toNat=j by omega]
theorem ZjS {g:Zq} (hg:ZK g) {k x y:Int} (h:Zhs (getO g.orders k) x y):ZfW g k x y=true:=by
 unfold ZfW
 rw [ZkD (ZaJ hg k).1 (ZaJ hg k).2 h];simp
theorem Zpl {l:List Int} (hn:l.Nodup) {x y:Int} (h:Zcu l x y):x≠y:=by
 obtain ⟨i,h1,rfl,rfl⟩:=ZcH.1 h
 intro e
 have:=Zkb hn ow h1 e;omega
theorem ZqT {g:Zq} (hg:ZK g) {e:Ze} (h:EdS g e):e.src≠e.dst:=by
 rcases h with ⟨_,h⟩ | ⟨t,_,_,o,_,_,h1,_,h3⟩
 ·exact Zpl (ZaJ hg e.key).1 h
 ·rcases h3 with ⟨_,rfl⟩ | ⟨y,_,h4,rfl⟩
  ·exact h1
  ·exact fun e9=>h4 e9.symm
theorem ZnM {g:Zq} (hg:ZK g) {t:TxD} (ht:t ∈ g.txs) (hd:t.done=true):Zen g t.id=true:=by
 unfold Zen
 rw [Zdw (Zau hg).1 ht];exact hd
theorem Zls {g:Zq} (hg:ZK g) {e:Ze} (h:EdS g e):Zcx g e=true:=by
 obtain ⟨⟨t1,a1,a2,a3⟩,t2,b1,b2,b3⟩:=Zg9 hg h
 have d1:=ZnM hg a1 a3
 have d2:=ZnM hg b1 b3
 rw [a2] at d1
 rw [b2] at d2
 unfold Zcx
 rw [d1,d2,YI (ZqT hg h)]
 show Zhi g e=true
 have rd:∀ {t:TxD} {o:OpD} {p:ZbN→Bool},o ∈ t.ops→o.read=true→o.tx≠t.id→p (ofO o)=true→Zcp t o.key p=true:=fun {t o p} ho hr hn hp=>by
  unfold Zcp
  rw [YaJ]
  exact ⟨o,ho,by rw [hr,hp,YI hn];simp⟩
 have last:∀ {o:OpD},o.read=true→OkV g o→Zdj g (ofO o)=true:=fun {o} hr hv=>by
  have ev:ofO o = ⟨o.tx,o.key,o.nth⟩:=by unfold ofO;rw [Ye hr]
  rw [ev]
  unfold Zdj
  rcases hv with hv | ⟨u,u1,u2,u3⟩
  ·simp [hv]
  ·have hd:Zen g o.tx=true:=by unfold Zen;rw [u1];exact u2
   show (decide (o.tx=0) || (Zen g o.tx && decide (o.nth=_)))=true
   rw [hd,u1]
   unfold wcnt at u3
   simp [← u3]
 rcases h with ⟨k1,h⟩ | ⟨t,ht,hd,o,ho,hr,h1,h2,h3⟩
 ·unfold Zhi
  rw [Ye k1]
  exact ZjS hg (.inr h)
 ·have ev:(ofO o).tx=o.tx:=by unfold ofO;rw [Ye hr]
  have hf:=Zdw (Zau hg).1 ht
  rcases h3 with ⟨_,rfl⟩ | ⟨y,h4,_,rfl⟩
  ·unfold Zhi
   rw [Yb (show ¬ (2:Int)=1 by decide),Ye rfl]
   show Zcp ((Z0 g.txs t.id).getD zeroT) o.key _=true
   rw [hf]
   exact rd ho hr h1 (by rw [ev,last hr h2];simp)
  ·unfold Zhi
   rw [Yb (show ¬ (3:Int)=1 by decide),Yb (show ¬ (3:Int)=2 by decide),Ye rfl]
   show Zcp ((Z0 g.txs t.id).getD zeroT) o.key _=true
   rw [hf]
   exact rd ho hr h1 (by rw [ev,last hr h2];show ZfW g o.key o.tx y=true;exact ZjS hg h4)
theorem Zmt {B:Ze→Prop} : ∀ {w:List Ze} {a b:Int},Zbl B a w b → ∀ q,q<w.length→(Nn w q).dst=if q+1<w.length then (Nn w (q+1)).src else b
 | [],_,_,_,q,hq=>absurd hq (Y9 q)
 | [e],_,b,h,q,hq=>by
  have:q=0:=by simp at hq;exact hq
  subst this
  rw [Yb (by simp)];exact h.2.2
 | e :: f :: w,a,b,h,0,hq=>by
  rw [Ye (by simp)];exact h.2.2.2.1.symm
 | e :: f :: w,a,b,h,q+1,hq=>by
  have:=Zmt h.2.2 q (by simpa using hq)
  have e1:∀ r,r<(f :: w).length→Nn (e :: f :: w) (r+1)=Nn (f :: w) r:=fun r hr=>by rw [nth_eq (by simp at hr ⊢;omega),nth_eq hr];rfl
  rw [e1 q (by simpa using hq),this]
  by_cases h9:q+1<(f :: w).length
  ·rw [Ye h9,Ye (by simp at h9 ⊢;omega),e1 _ h9]
  ·rw [Yb h9,Yb (by simp at h9 ⊢;omega)]
theorem ZmY {B:Ze→Prop} {m:Ze→Bool} {need:Bool} {i:Int} {w:List Ze} (h:CwE B m need i w):Zcd w=true:=by
 have hl:0<w.length:=Yap.2 h.1
 unfold Zcd
 rw [Yu]
 refine ⟨fun q hq=>?_,hl⟩
 rw [Zmt h.2.1 q hq]
 by_cases h9:q+1<w.length
 ·rw [Ye h9,Nat.mod_eq_of_lt h9]
 ·rw [Yb h9,show q+1=w.length by omega,Nat.mod_self]
  obtain ⟨e,e1,_,e3⟩:=Zg6 h
  cases w with
  | nil=>cases e1
  | cons x w=>rw [nth_eq (by simp)];exact (e3.symm.trans (by rw [← YaA e1];rfl))
theorem Zss {g:Zq} (hg:ZK g) {mk:Int} {m:Ze→Bool} {need:Bool} {R:List Ze} (h:Za9 (· ∈ (Zap g).filter (kindOk mk)) m need R) :
  2≤R.length∧R.length≤(g.txs.filter TxD.done).length∧(R.map Ze.src).Nodup∧Zcd R=true ∧ ∀ e ∈ R,EdS g e:=by
 have hn:=h.simple
 obtain ⟨j,h1,_⟩:=h
 have hin:∀ e ∈ R,EdS g e:=fun e he=>(Ziu hg).1 (YV.1 (ZeK h1.2.1 e he)).1
 refine ⟨?_,?_,hn,ZmY h1,hin⟩
 ·cases hR:R with
  | nil=>exact absurd hR h1.1
  | cons e R'=>
   cases R' with
   | nil=>
    rw [hR] at h1
    have h2:=h1.2.1
    exact absurd (h2.2.1.trans h2.2.2.symm) (ZqT hg (hin e (by rw [hR];simp)))
   | cons f R'=>simp
 ·have h2:(R.map Ze.src).length≤((g.txs.filter TxD.done).map TxD.id).length:=List.Nodup.length_le_of_subset hn fun x hx=>by
   obtain ⟨e,he,rfl⟩:=Yv.1 hx
   obtain ⟨⟨t,t1,t2,t3⟩,_⟩:=Zg9 hg (hin e he)
   exact Yv.2 ⟨t,YV.2 ⟨t1,t3⟩,t2⟩
  rw [YF,YF] at h2;exact h2
theorem Zez {g:Zq} {p:Int} {R:List Ze} (h:¬ (p=2∨p=3)):(ZqQ g p R).walk=R∧okH g p R=decide (R≠[]):=by
 unfold ZqQ okH
 rw [Yb h,Yb h]
 refine ⟨?_,rfl⟩
 unfold ZrV
 by_cases hR:R = []
 ·rw [Ye hR,hR];rfl
 ·rw [Yb hR]
theorem Zl6 {g:Zq} {p:Int} {R:List Ze} (hR:Zb9 (Zap g) p R) (hok:okH g p R=true) (h:¬ (p=2∨p=3)) :
  ZK g∧2≤R.length∧R.length≤(g.txs.filter TxD.done).length∧(R.map Ze.src).Nodup∧Zcd R=true ∧ ∀ e ∈ R,EdS g e:=by
 rw [(Zez h).2,Yu] at hok
 unfold Zb9 at hR
 by_cases h0:(ZS p).1=0
 ·rw [Ye h0] at hR;exact absurd hR hok
 ·rw [Yb h0] at hR
  rcases hR with ⟨h1,_⟩ | h1
  ·exact absurd h1 hok
  ·have hg:ZK g:=Decidable.byContradiction fun hg=>by
    obtain ⟨j,h2,_⟩:=h1
    obtain ⟨e,_,e2,_⟩:=Zg6 h2
    rw [ZkB hg] at e2;cases e2
   exact ⟨hg,Zss hg h1⟩
theorem ZsG {l:List Ze} {R1 R4:List Ze} (h1:Zb9 l 1 R1) (h4:Zb9 l 4 R4) (hn:R1≠[]):R4≠[]∧R4.length≤R1.length:=by
 unfold Zb9 at h1 h4
 rw [Yb (by decide)] at h1 h4
 rcases h1 with ⟨k,_⟩ | h1
 ·exact absurd k hn
 ·obtain ⟨j,c1,_⟩:=h1
  have hsub:∀ e:Ze,e ∈ l.filter (kindOk (ZS 1).1)→e ∈ l.filter (kindOk (ZS 4).1):=fun e he=>by
   obtain ⟨e1,e2⟩:=YV.1 he
   refine YV.2 ⟨e1,?_⟩
   unfold kindOk at e2 ⊢
   rw [Yr,Yr,Yu,Yu] at e2 ⊢
   obtain ⟨⟨k1,k2⟩,k3⟩:=e2
   refine ⟨⟨k1,k2⟩,?_⟩
   rcases (show e.kind=1∨e.kind=2∨e.kind=3 by omega) with k | k | k <;> rw [k] at k3 ⊢ <;> revert k3 <;> decide +kernel
  have c4:CwE (· ∈ l.filter (kindOk (ZS 4).1)) (fun e=>ofB (ZS 4).2 e.kind) (!decide ((ZS 4).2=0)) j R1:=⟨c1.1,Ziz (fun e _=>hsub e) c1.2.1,c1.2.2.1,fun h=>by cases h⟩
  rcases h4 with ⟨_,k⟩ | h4
  ·exact absurd c4 (k j R1)
  ·exact ⟨h4.ne,h4.le c4⟩
theorem Zmd {g:Zq} (hg:ZK g) {e:Ze} (h:EdS g e):Zcx g e=true∧(e.kind=1→ZbX (getO g.orders e.key) e.src=(e.dst,true)):=by
 refine ⟨Zls hg h,fun hk=>?_⟩
 rcases h with ⟨_,h⟩ | ⟨t,_,_,o,_,_,_,_,h3⟩
 ·exact ZkD (ZaJ hg e.key).1 (ZaJ hg e.key).2 (.inr h)
 ·rcases h3 with ⟨_,rfl⟩ | ⟨y,_,_,rfl⟩
  ·exact absurd hk (show ¬ (2:Int)=1 by decide)
  ·exact absurd hk (show ¬ (3:Int)=1 by decide)
theorem ZnU {l:List TxD} {i:Nat} (hi:i<l.length) (h:(Nn l i).done=true):((l.take (i+1)).filter TxD.done).length=((l.take i).filter TxD.done).length+1:=by
 rw [Zt hi,Yaa,Yd];simp [h]
theorem Zpr {l:List TxD} {i:Nat} (hi:i<l.length) (h:(Nn l i).done=false):((l.take (i+1)).filter TxD.done).length=((l.take i).filter TxD.done).length:=by
 rw [Zt hi,Yaa,Yd];simp [h]
theorem Zqb (l:List TxD) (i:Nat):((l.take i).filter TxD.done).length≤i:=Y6 (Y3 _ _) (by rw [Yj];omega)
structure ZmQ (es:List (ZbA Int)) (N:List Int):Prop where
 len:es.length=N.length
 get:∀ x,(ZeQ x es).isSome=decide (x ∈ N)
theorem ZmQ.put {es:List (ZbA Int)} {ck:Nat} {N:List Int} {x v:Int} (h:ZmQ es N) (hx:x ∉ N):ZmQ (mPut x v (es,ck)).1 (N ++ [x]):=by
 have hi:(mIdx x es).isSome=false:=by rw [ZkK,h.get];simpa using hx
 refine ⟨?_,fun y=>?_⟩
 ·unfold mPut
  rw [hi]
  simp [h.len]
 ·rw [Zpa]
  by_cases e:y=x
  ·rw [Ye e];simp [e]
  ·rw [Yb e]
   show (ZeQ y es).isSome=_
   rw [h.get];simp [e]
theorem ZmA (l:List Ze) (hn:(l.map Ze.src).Nodup):FnP prog 13 [.sl Zn l] (.bool true):=by
 refine FnP.mk func13 rfl ntmps13 rfl fun B a w F Z hfr G=>?_
 have hll:=Sat.lenSl G (i:=0) rfl
 refine Ya (rZ G qB Z [2,0] [0] fun G=>Ya ?_)
 refine Zb G (qf (Zoe (vk:=.i64) (ok:=(fun _=>True)) (kv:=(fun n:Int=>Value.int .i64 n)) 101) trivial qz (qO rr qZ)) Z [3,2,0] [101,0] (fun _=>rfl) (fun _=>rfl) fun τ a w F G=>?_
 try dsimp only [RS.sub,SF.sub,CF.sub,csub,Anc.sub,List.map,Zf,xL,xM,Nat.reduceAdd,xD,xE,xT,xU,xC,xN,zCF,Zn] at G
 generalize τ 6=v6 at G
 refine Za (Ya (Ya (rZ G (qR rr (qu Yb0 r1 (qJ qZ))) Z [9,8,7,3,2,0] [101,0] fun G=>Yg ?_)))
 refine Zl (σ:=(Nat)×(List (ZbA Int))×(Nat)) [0,2,3,7,8] [0] (fun s=>[(9,.pv (.int .i64 (s.1:Int)))]) (fun s=>[(101,.ob (.val v6) (Zqc .i64 (fun _=>True) (fun n:Int=>Value.int .i64 n) s.2.1 s.2.2))]) (fun s=>s.1≤l.length∧(ZmQ s.2.1 ((l.take s.1).map Ze.src))) (fun s=>l.length - s.1) ((0),([]),(0)) G ⟨rfl,rfl,rfl,rfl,rfl,rfl,tv⟩ ⟨rfl,rfl,tv⟩ ⟨Yw _,⟨rfl,fun x=>by simp [ZeQ]⟩⟩ ?_
 clear G;intro s a w F hC G
 obtain ⟨i,es,ck⟩:=s
 try dsimp only at hC
 obtain ⟨F,G⟩:=G.nM [9,8,7,3,2,0] [101,0]
 try dsimp only at G
 obtain ⟨hi,hq⟩:=hC
 refine Ya (rZ G (qL r2) Z [10,9,8,7,3,2,0] [101,0] fun G=>Ya ?_)
 refine Zc G rfl (fun hc0=>?_) (fun hc0=>?_)
 ·have hil:i<l.length:=by simp at hc0;omega
  have hni:(Nn l i).src ∉ (l.take i).map Ze.src:=fun hm=>by obtain ⟨e,he,hee⟩:=Yv.1 hm;obtain ⟨q,hq1,hq2⟩:=YY he;rw [Yj] at hq1;rw [List.getElem_take] at hq2;have h9:=Yah.1 hn q i (by rw [YF];omega) (by rw [YF];omega) ow;rw [YbF,YbF,hq2] at h9;exact h9 (by rw [hee,nth_eq hil])
  have hR2:ZmQ (mPut (Nn l i).src (IntKind.wrap .i64 (mVal (Nn l i).src es+1)) (es,ck)).1 ((l.take (i+1)).map Ze.src):=by rw [Zt hil,YK];exact hq.put hni
  refine Yf (Za (Ya (Yg (Ya (Zb G (qy 4 Yb0 r2 (qf (oR true 4 .t) r1 qz (qf (oH [.int .i64 0,.int .i64 0,.int .i64 0,.int .i64 0] 102) trivial qz (qS 4 102 r2 r1 qZ)))) Z [9,8,7,5,3,2,0] [102,101,0] (fun _=>rfl) (fun _=>rfl) fun τ a w F G=>?_)))))
  try dsimp only [RS.sub,SF.sub,CF.sub,csub,Anc.sub,List.map,Zf,xL,xM,Nat.reduceAdd,xD,xE,xT,xU,xC,xN,zCF,ldSF,Zn] at G
  generalize τ 5=v5 at G
  try simp only [Yc] at G
  refine Za (Zg G (qR rr (qg 0 102 r1 r1 (qa 102 r1 r1 (qf (Zqa 101 underlying75 (Znp Yb4) kr .is (ZG.int .t rfl)) r2 r1 (qp r1 (qf (Zjl 101 underlying75 (Znp Yb4) .is (ZG.int .t rfl) .t) r3 r1 qZ)))))) Z [9,8,7,3,2,0] [101,0] rfl rfl fun a w F G=>?_)
  generalize (mPut (Nn l i).src (IntKind.wrap .i64 (mVal (Nn l i).src es+1)) (es,ck))=ms at G hR2
  obtain ⟨es2,ck2⟩:=ms
  dsimp only at G hR2
  refine Zk (Za (rZ G (qp r1 (qR rr qZ)) Z [9,8,7,3,2,0] [101,0] fun G=>?_))
  replace G:=G.ent (i:=9) (s':=.pv (.int .i64 ((i+1:Nat):Int))) rfl (.int (Zd ow))
  obtain ⟨F,G⟩:=G.nM [8,7,3,2,0,9] [0,101]
  exact ⟨((i+1),(es2),(ck2)),F,⟨by omega,hR2⟩,G,by omega⟩
 have hil:i=l.length:=by simp at hc0;omega
 refine Yx (Zj (Zj (Zr (Za (Ya (rZ G (qR rr (qf (ZnZ 101 underlying75 .is (by have h9:=hq.len;rw [YF,Yj] at h9;omega)) r1 r1 (qR rr (qu Yb0 r1 (qf (o_eql .t .t) r2 qz (qO rr qZ)))))) Z [2] [101,0] fun G=>Yh ?_))))))
 refine Zw hfr G rfl rfl rfl (.bool (by have h9:=hq.len;rw [YF,hil,YC] at h9;rw [Yu,h9]))
theorem Zq4 (g:Zq) (e:Ze) (hs:ZbY g):FnP prog 17 [.agg (Zx g),.agg (Zn e)] (.bool (decide (ZK g) && Zcx g e)):=by
 refine FnP.mk func17 rfl ntmps17 rfl fun B a w F Z hfr G=>Ya ?_
 refine Zb G (qx 101 r1 (qx 102 r1 qB)) Z [4,3,2] [102,101,0] (fun _=>rfl) (fun _=>rfl) fun τ a w F G=>?_
 try dsimp only [RS.sub,SF.sub,CF.sub,csub,Anc.sub,List.map,zCF,Zx,rTx,ZV,ZQ,Zo,rOp,Zn] at G
 generalize τ 2=v2,τ 3=v3 at G
 refine Za (Ya (rZ G (qe 2 101 r1 r1 (qf (oP (ZeA g hs) func19 (Args.one (.pagg .t))) r1 qz (qR rr (qk rfl (fun h=>oL true 2 101 .is) r2 r1 (qk rfl (fun h=>ZgM (r:=[(0,.tmp 8)]) (zs:=[.slice none 0 0,.slice none 0 0]) (pl:=[(0,2)]) kr kr (.agg rfl (.w h) kr kr .nil) (by rfl)) r2 qz (qk rfl (fun h=>oL true 4 102 .is) r2 r1 (qk rfl (fun h=>oP (ZmR g e hs) func43 (Args.two (.pagg (.w h)) (.pagg (.w h)))) r3 qz (qf (ZH .t .t) r2 qz (qO rr qZ))))))))) Z [4] [102,101,0] fun G=>Yh ?_))
 refine Zw hfr G rfl rfl rfl (.bool rfl)
end Go.Proofs.YtlkpllemoepamaaGreat
