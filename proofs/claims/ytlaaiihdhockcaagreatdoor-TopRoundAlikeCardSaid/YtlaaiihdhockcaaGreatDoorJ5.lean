/- Laws and walks. No condition beyond what each says. -/
import Derived.Test.YtlaaiihdhockcaaGreatDoorLibE
import Derived.Test.YtlaaiihdhockcaaGreatDoorJ1
namespace Go.Proofs.YtlaaiihdhockcaaGreatDoor
open Go Go.Gm Tryz
set_option linter.unusedVariables false
set_option linter.unusedSimpArgs false
set_option maxHeartbeats 4000000
set_option maxRecDepth 8000
def Zn4 (v rv:Value) (room:Int) (l:List Int):List RS:=[.pt (.val v) 112 [.pv (.is rv),.pv (.int .i64 room)],.ob (.val rv) (Zo 3 1 Zk l)]
def stH (v:Value) (room:Int) (l:List Int):HP:=.ex fun rv:Value=>.star (Zn4 v rv room l)
def Za7 (n:Int):Int:=if 65536<(if n<0 then 0 else n) then 65536 else (if n<0 then 0 else n)
theorem Zgh {n:Int} (h:0≤n∧n≤65536):Za7 n=n:=by unfold Za7;rw [Ye (show ¬ n<0 by omega),Ye ow]
theorem Zkg (n:Int):0≤Za7 n∧Za7 n≤65536:=by unfold Za7;split <;> split <;> omega
def Zl6 (room:Int) (l:List Int):Int:=if room - l.length=0 then 2 else 0
def Zjw (room:Int) (l:List Int) (x:Int):List Int:=if room - l.length=0 then l else l ++ [x]
theorem ZcS {v:Value} {room:Int} {l:List Int} {w:World} {f y:Ys} (h:(stH v room l).p w f y):∃ b,v = .pointer (some ⟨b,0,none⟩):=by
 obtain ⟨rv,g⟩:=h
 exact HP.star_pt g
theorem Zgt {room:Int} {l:List Int} (h:(l.length:Int)<room) (x:Int):Zl6 room l=0∧Zjw room l x=l ++ [x]:=⟨Ye ow,Ye ow⟩
theorem nth_last {α:Type} [Inhabited α] {l:List α} {x:α} : Nn (l ++ [x]) l.length=x:=by rw [nth_eq (by simp)];simp
theorem Zfk {k:IntKind} {a:Int} {b:Bool} (v:Value) (w:World) (y:Ys) (w':World) (y':Ys) (h:(PV.tup [.int k a,.bool b]).p v w y):(PV.tup [.int k a,.bool b]).p v w' y':=by
 obtain ⟨vs,e,h⟩:=h
 exact ⟨vs,e,by
  match vs,h with
  | [u1,u2],h=>exact h⟩
theorem ZiX (n:Int):FnP prog 65 [.int .i64 n] (.int .i64 (Za7 n)):=by
 refine FnP.mk func65 V ntmps65 V fun B a w F J hfr G=>Ya ?_
 refine rZ G (qI qZ) J [2,0] [0] fun G=>Ya ?_
 refine rZ G (qR rr (qf (Zhx .t qi) r1 qz (qf (o_min .t qi) r1 qz (qO rr qZ)))) J [2] [0] fun G=>Yl ?_
 refine Zz hfr G V V V .refl
theorem ZnR (n:Int):FnG prog 40 1 [.int .i64 n] [.star []] (PV.ptr) (fun v=>[stH v (Za7 n) []]):=by
 refine FnG.mk func40 V ntmps40 V kr fun B F0 a w F J hG G=>Ya ?_
 refine rZ G (qC qZ) J [2,0] [1,0] fun G=>Ya ?_
 refine Ze G (qR rr (qf (oP (ZiX n) func65 (Args.one .t)) r1 qz (qf (oB [(1,.tmp 4)] [.slice none 0 0,.int .i64 0] [(0,1),(1,1)] (.one V .t one_int kr .nil)) r1 qz (qf (oX 101 .t) r1 qz (qO rr qZ))))) J [2] [101,1,0] (fun _=>rfl) (fun _=>rfl) fun τ a w F G=>?_
 try dsimp only [RS.sub,SF.sub,CF.sub,csub,Anc.sub,List.map,Zh,xL,xM,Nat.reduceAdd,xD,xE,xT,xU,xC,xN,zCF,Zk] at G
 generalize τ 6=v6 at G
 refine Za (Yl ?_)
 obtain ⟨b,rfl⟩:=G.shape 101 rfl
 have G:=G.fresh 3 rfl
 have G:=G.turn 3 V (Z1 (T:=3) (sz:=1) (R:=Zk))
 obtain ⟨F,G⟩:=G.push 1 3 V V V kr
 obtain ⟨F,G⟩:=G.push 1 101 V V V kr
 have G:=G.turn 1 V (r':=RS.hp (stH (.pointer (some ⟨b,0,none⟩)) (Za7 n) [])) (fun _ _ _ _ h=>⟨_,h⟩)
 refine ZU (h':=fun v=>stH v (Za7 n) []) hG G V (.tmp V .nil) (.one .ptr) rfl
theorem Zoq (room:Int) (l:List Int):FnP prog 123 [.ref [.sl Zk l,.int .i64 room]] (.int .i64 l.length):=by
 refine FnP.mk func123 V ntmps123 V fun B a w F J hfr G=>Ya ?_
 refine rZ G (qI qZ) J [2,0] [0] fun G=>(Ya (Ya ?_))
 refine rZ G (qR rr (qf (Zab underlying82 .t) r1 qz qZ)) J [4,2,0] [0] fun G=>?_
 refine Zc G V (fun hc0=>?_) (fun hc0=>?_)
 ·simp at hc0
 refine Yg (Za (Ya (rZ G (qR rr (qf (o_nilCheck_ref .t) r1 qz (qf (oG 0 .t) r1 qz (qf (oG 0 .t) r1 qz (qf (oR false 1 .t) r1 qz (qu YbA r1 (qO rr qZ))))))) J [2] [0] fun G=>Yl ?_)))
 refine Zz hfr G V V V .refl
theorem Zm3 (room:Int) (l:List Int) (hr:0≤room∧room≤65536) (hn:(l.length:Int)≤room):FnP prog 110 [.ref [.sl Zk l,.int .i64 room]] (.int .i64 (room - l.length)):=by
 refine FnP.mk func110 V ntmps110 V fun B a w F J hfr G=>Ya ?_
 refine rZ G (qI qZ) J [2,0] [0] fun G=>(Ya (Ya ?_))
 refine rZ G (qR rr (qf (Zab underlying82 .t) r1 qz qZ)) J [4,2,0] [0] fun G=>?_
 refine Zc G V (fun hc0=>?_) (fun hc0=>?_)
 ·simp at hc0
 refine Yg (Za (Ya (Zp G (qR rr (qf (o_nilCheck_ref .t) r1 qz (qf (oG 1 .t) r1 qz (qf (oR false 1 .t) r1 qz (qR rr (qf (o_nilCheck_ref .t) r1 qz (qf (oG 0 .t) r1 qz (qf (oG 0 .t) r1 qz (qf (oR false 1 .t) r1 qz (qu YbA r1 (qf (o_sub .t .t) r2 qz (qO rr qZ)))))))))))) J [2] [0] V V fun a w F G=>?_)))
 try dsimp only [List.map,xD,xE,xT,xU,ldSF,Zk] at G
 refine Za (Yl (Zz hfr G V V V (.int (Zr ow))))
theorem ZoZ (b:Nat) (room:Int) (l:List Int) (x:Int) (hl:l.length≤70000):FnG prog 111 1 [.is (.pointer (some ⟨b,0,none⟩)),.int .i64 x] [stH (.pointer (some ⟨b,0,none⟩)) room l] (.tup []) (fun _=>[stH (.pointer (some ⟨b,0,none⟩)) room (l ++ [x])]):=by
 refine FnG.mk func111 V ntmps111 V kr fun B F0 a w F J hG G=>?_
 obtain ⟨rv,G⟩:=G.open_ex 1 rfl
 obtain ⟨F,G⟩:=G.peel 1 2 V rfl
 obtain ⟨F,G⟩:=G.peel 1 3 V rfl
 obtain ⟨F,G⟩:=G.nM [1,0] [3,2,0]
 refine Ze G (qR rr (qR rr (qf (o_nilCheck 2 .is (by rfl)) r1 r1 (qf (oF 0 2 .adr) r1 r1 (qa 2 r1 r1 (qR rr (qf (o_buildSliceE (sz:=1) (zs:=[.int .i64 0]) (r:=[(0,.tmp 9)]) (l:=[_]) YbA kr kr kr kr V V (.one V .t one_int kr .nil) V) r1 qz (qf (ZB (sz:=1) (bs:=8) 3 (.mk' YbA kr kr) (by intro x;rfl) .is (.arr (l':=[_]) .t) (by simp only [Yx,YS];omega) (by decide)) ⟨rfl,rfl,tv⟩ ⟨rfl,tv⟩ (qf (o_nilCheck 2 .is (by rfl)) r1 r1 (qf (oF 0 2 .adr) r1 r1 (qf (o_storeS 2 .adr kr kr) r2 r1 qZ))))))))))) J [] [3,2,0] (fun _=>rfl) (fun _=>rfl) fun τ a w F G=>?_
 try dsimp only [RS.sub,SF.sub,CF.sub,csub,Anc.sub,List.map,Zh,xL,xM,Nat.reduceAdd,xD,xE,xT,xU,xC,xN,zCF,ldSF,Zk] at G
 generalize τ 11=v11 at G
 have G:=G.fresh 1 rfl
 obtain ⟨F,G⟩:=G.push 1 3 V V V kr
 obtain ⟨F,G⟩:=G.push 1 2 V V V kr
 have G:=G.turn 1 V (r':=RS.hp (stH (.pointer (some ⟨b,0,none⟩)) room (l ++ [x]))) (fun _ _ _ _ h=>⟨_,h⟩)
 refine Zy hG G V .nil Zdk.none rfl
theorem ZmI (b:Nat) (room:Int) (l:List Int) (x:Int) (hr:0≤room∧room≤65536) (hn:(l.length:Int)≤room):FnG prog 88 1 [.is (.pointer (some ⟨b,0,none⟩)),.int .i64 x] [stH (.pointer (some ⟨b,0,none⟩)) room l] (.int .i64 (Zl6 room l)) (fun _=>[stH (.pointer (some ⟨b,0,none⟩)) room (Zjw room l x)]):=by
 refine FnG.mk func88 V ntmps88 V kr fun B F0 a w F J hG G=>?_
 obtain ⟨rv,G⟩:=G.open_ex 1 rfl
 obtain ⟨F,G⟩:=G.peel 1 2 V rfl
 obtain ⟨F,G⟩:=G.peel 1 3 V rfl
 obtain ⟨F,G⟩:=G.nM [1,0] [3,2,0]
 refine Ya (rZ G (qI qZ) J [4,1,0] [3,2,0] fun G=>(Ya (Ya ?_)))
 refine rZ G (qR rr (qf (ZaU (cells:=[.pv (.is rv),.pv _]) 2 3 0 (Zm3 room l hr hn) (fun _ _ _ _ _ h=>h) V func110 V kr V V (ZJ.one .is)) r1 r2 (qf (o_eql .t qi) r1 qz qZ))) J [7,4,1,0] [3,2,0] fun G=>?_
 refine Zc G V (fun hc0=>?_) (fun hc0=>?_)
 ·have hf:room - (l.length:Int)=0:=by simpa using hc0
  have hg:2=Zl6 room l:=(Yf hf).symm
  have hg2:Zjw room l x=l:=Yf hf
  refine Ya (rZ G (qI qZ) J [4,1,0] [3,2,0] fun G=>(Yl (Zw ?_)))
  have G:=G.fresh 1 rfl
  obtain ⟨F,G⟩:=G.push 1 3 V V V kr
  obtain ⟨F,G⟩:=G.push 1 2 V V V kr
  have G:=G.turn 1 V (r':=RS.hp (stH (.pointer (some ⟨b,0,none⟩)) room (Zjw room l x))) (fun _ _ _ _ h=>⟨_,(by rw [hg2];exact h)⟩)
  refine Zy hG G V (.tmp V .nil) (.one (.int (by rw [hg]))) rfl
 have hf:¬ room - (l.length:Int)=0:=by simpa using hc0
 have hg:0=Zl6 room l:=(Ye hf).symm
 have hg2:Zjw room l x=l ++ [x]:=Ye hf
 refine Yg (Za (Ya (Zar 3 G kr (cG V (oM .t) r1 trivial (cG V (o_nilCheck 2 .is (by rfl)) r1 r1 (cG V (oF 0 2 .adr) r1 r1 ChainN.nil))) kr (by rw [J];kernel_rfl) fun a w F G=>?_)))
 obtain ⟨F,G⟩:=G.nM [10,4,1] [3,2,0]
 try dsimp only [Zk] at G
 have G:=G.fresh 1 rfl
 obtain ⟨F,G⟩:=G.push 1 3 V V V kr
 obtain ⟨F,G⟩:=G.push 1 2 V V V kr
 have G:=G.turn 1 V (r':=RS.hp (stH (.pointer (some ⟨b,0,none⟩)) room l)) (fun _ _ _ _ h=>⟨_,h⟩)
 obtain ⟨F,G⟩:=G.nM [10,4,1] [1,0]
 refine ZaJ G kr (cG V (oM .t) r1 trivial (cG V (o_callG1 1 (ZoZ b room l x ow) func111 V kr (Args.two (.conv .t (Ent.adr0)) .t)) r2 r1 ChainN.nil)) kr (by rw [J];kernel_rfl) fun a w F G=>?_
 obtain ⟨F,G⟩:=G.nM [4] [1,0]
 try dsimp only [Zk] at G
 refine Za (Ya (rZ G (qI qZ) J [4] [1,0] fun G=>Yl ?_))
 have G:=G.turn 1 V (r':=RS.hp (stH (.pointer (some ⟨b,0,none⟩)) room (Zjw room l x))) (fun _ _ _ _ h=>by rw [hg2];exact h)
 refine Zy hG G V (.tmp V .nil) (.one (.int (by rw [hg]))) rfl
theorem Zkw (b:Nat) (room:Int) (l:List Int) (x:Int) (hr:0≤room∧room≤65536) (h:(l.length:Int)<room):FnG prog 88 1 [.is (.pointer (some ⟨b,0,none⟩)),.int .i64 x] [stH (.pointer (some ⟨b,0,none⟩)) room l] (.int .i64 0) (fun _=>[stH (.pointer (some ⟨b,0,none⟩)) room (l ++ [x])]):=by
 have:=ZmI b room l x hr ow
 rw [(Zgt h x).1,(Zgt h x).2] at this;exact this
theorem ZkY (room:Int) (l:List Int) (x:Int) (hl:l.length≤70000):FnP prog 112 [.ref [.sl Zk (l ++ [x]),.int .i64 room]] (.tup [.int .i64 x,.bool true]):=by
 refine FnP.mk func112 V ntmps112 V fun B a w F J hfr G=>?_
 have hw1:IntKind.wrap .i64 (((l ++ [x]).length:Int) - 1)=((l.length:Nat):Int):=by rw [Zr (by rw [Yc,Yp];omega),Yc,Yp];omega
 refine Ya (rZ G (qI qB) J [3,2,0] [0] fun G=>(Ya (Ya ?_)))
 refine rZ G (qR rr (qf (oP (Zoq room (l ++ [x])) func123 (Args.one .t)) r1 qz (qf (o_eql .t qi) r1 qz qZ))) J [6,3,2,0] [0] fun G=>?_
 refine Zc G V (fun hc0=>?_) (fun hc0=>?_)
 ·simp at hc0;try omega
 refine Yg (Za (Ya (Zp G (qR rr (qf (o_nilCheck_ref .t) r1 qz (qf (oG 0 .t) r1 qz (qf (oG 0 .t) r1 qz (qf (oR false 1 .t) r1 qz (qR rr (qf (o_nilCheck_ref .t) r1 qz (qf (oG 0 .t) r1 qz (qf (oG 0 .t) r1 qz (qf (oR false 1 .t) r1 qz (qu YbA r1 (qf (o_sub .t qi) r1 qz (qf (o_indexAddr_sl (sz:=1) (.mk YbA kr) (by intro x;rfl) .t .t (by rw [hw1];omega) (by rw [hw1,Yc,Yp];omega)) r2 qz (qf (oR false 1 .t) r1 qz (qO rr qB))))))))))))))) J [3,2] [0] V V fun a w F G=>?_)))
 try dsimp only [List.map,xD,xE,xT,xU,ldSF,Zk] at G
 try simp only [Yb] at G
 rw [hw1,Yb,nth_last] at G
 refine Za (Yl (Zdj hfr G V (.tmp V (.tmp V .nil)) (.two .refl .refl)))
theorem Zoe (b:Nat) (room:Int) (l:List Int) (x:Int) (hl:l.length≤70000):FnG prog 113 1 [.is (.pointer (some ⟨b,0,none⟩))] [stH (.pointer (some ⟨b,0,none⟩)) room (l ++ [x])] (.tup []) (fun _=>[stH (.pointer (some ⟨b,0,none⟩)) room l]):=by
 refine FnG.mk func113 V ntmps113 V kr fun B F0 a w F J hG G=>?_
 obtain ⟨rv,G⟩:=G.open_ex 1 rfl
 obtain ⟨F,G⟩:=G.peel 1 2 V rfl
 obtain ⟨F,G⟩:=G.peel 1 3 V rfl
 obtain ⟨F,G⟩:=G.nM [0] [3,2,0]
 have hw1:IntKind.wrap .i64 (((l ++ [x]).length:Int) - 1)=((l.length:Nat):Int):=by rw [Zr (by rw [Yc,Yp];omega),Yc,Yp];omega
 refine Zac G (qR rr (qR rr (qf (o_nilCheck 2 .is (by rfl)) r1 r1 (qf (oF 0 2 .adr) r1 r1 (qa 2 r1 r1 (qR rr (qf (o_nilCheck 2 .is (by rfl)) r1 r1 (qf (oF 0 2 .adr) r1 r1 (qa 2 r1 r1 (qf (Zx 3 YbA .is) r1 r1 (qf (o_sub .t qi) r1 qz (qf (Zck (sz:=1) 3 (.mk YbA kr) (by intro x;rfl) .is .t (by rw [hw1];omega) (by rw [hw1,Yc,Yp];omega)) r2 r1 (qf (o_nilCheck 2 .is (by rfl)) r1 r1 (qf (oF 0 2 .adr) r1 r1 (qf (o_storeS 2 .adr kr kr) r2 r1 qZ))))))))))))))) J [] [3,2,0] (fun _=>rfl) (fun _=>rfl) fun τ a w F G=>?_
 try dsimp only [RS.sub,SF.sub,CF.sub,csub,Anc.sub,List.map,Zh,xL,xM,Nat.reduceAdd,xD,xE,xT,xU,xC,xN,zCF,ldSF,Zk] at G
 generalize τ 13=v13 at G
 rw [hw1,Yb,List.take_left] at G
 have G:=G.fresh 1 rfl
 obtain ⟨F,G⟩:=G.push 1 3 V V V kr
 obtain ⟨F,G⟩:=G.push 1 2 V V V kr
 have G:=G.turn 1 V (r':=RS.hp (stH (.pointer (some ⟨b,0,none⟩)) room l)) (fun _ _ _ _ h=>⟨_,h⟩)
 refine Zy hG G V .nil Zdk.none rfl
theorem Zok (b:Nat) (room:Int) (l:List Int) (x:Int) (hl:l.length≤70000):FnG prog 89 1 [.is (.pointer (some ⟨b,0,none⟩))] [stH (.pointer (some ⟨b,0,none⟩)) room (l ++ [x])] (.tup [.int .i64 x,.bool true]) (fun _=>[stH (.pointer (some ⟨b,0,none⟩)) room l]):=by
 refine FnG.mk func89 V ntmps89 V kr fun B F0 a w F J hG G=>?_
 obtain ⟨rv,G⟩:=G.open_ex 1 rfl
 obtain ⟨F,G⟩:=G.peel 1 2 V rfl
 obtain ⟨F,G⟩:=G.peel 1 3 V rfl
 obtain ⟨F,G⟩:=G.nM [0] [3,2,0]
 refine Ya (rZ G (qI qB) J [3,2,0] [3,2,0] fun G=>Ya ?_)
 refine rZ G (qR rr (qf (ZaU (cells:=[.pv (.is rv),.pv _]) 2 3 0 (ZkY room l x hl) Zfk V func112 V kr V V (ZJ.one .is)) r1 r2 (qR rr (qf (o_extract .t V) r1 qz (qf (o_extract .t V) r1 qz (qO rr (qO rr qZ))))))) J [5,4,3,2,0] [3,2,0] fun G=>(Ya (Ya ?_))
 refine rZ G (qR rr qZ) J [11,5,4,3,2,0] [3,2,0] fun G=>?_
 refine Zc G V (fun hc0=>?_) (fun hc0=>?_)
 ·refine Zar 3 G kr (cG V (oM .t) r1 trivial (cG V (o_nilCheck 2 .is (by rfl)) r1 r1 (cG V (oF 0 2 .adr) r1 r1 ChainN.nil))) kr (by rw [J];kernel_rfl) fun a w F G=>?_
  obtain ⟨F,G⟩:=G.nM [14,5,4,3,2] [3,2,0]
  try dsimp only [Zk] at G
  have G:=G.fresh 1 rfl
  obtain ⟨F,G⟩:=G.push 1 3 V V V kr
  obtain ⟨F,G⟩:=G.push 1 2 V V V kr
  have G:=G.turn 1 V (r':=RS.hp (stH (.pointer (some ⟨b,0,none⟩)) room (l ++ [x]))) (fun _ _ _ _ h=>⟨_,h⟩)
  obtain ⟨F,G⟩:=G.nM [14,5,4,3,2] [1,0]
  refine ZaJ G kr (cG V (o_callG1 1 (Zoe b room l x hl) func113 V kr (Args.one (.conv .t (Ent.adr0)))) r1 r1 ChainN.nil) kr (by rw [J];kernel_rfl) fun a w F G=>?_
  obtain ⟨F,G⟩:=G.nM [5,4,3,2] [1,0]
  try dsimp only [Zk] at G
  refine Za (Ya (rZ G (qR rr (qR rr (qO rr (qO rr qZ)))) J [3,2] [1,0] fun G=>Yl ?_))
  refine Zy hG G V (.tmp V (.tmp V .nil)) (.two .refl .refl) rfl
 simp at hc0
def Ze0 (n:Nat) (x:List Int) (v:Value):HP:=.ex fun ws:List Int=>.and (ZA n ws x) (Zay v n ws)
def ZpH (n:Nat) (x:List Int):PV:=⟨fun u w y=>∃ ws,ZA n ws x∧(PV.ref [.int .i64 n,.sl rU64 ws]).p u w y,fun h ⟨ws,h1,h2⟩=>⟨ws,h1,PV.mono _ h h2⟩⟩
theorem ZbH {v:Value} {n:Nat} {x:List Int} {w:World} {f y:Ys} (h:(Ze0 n x v).p w f y):∃ b,v = .pointer (some ⟨b,0,none⟩):=by
 obtain ⟨ws,_,h⟩:=h
 exact (Zgq h).2
theorem Zmg {v:Value} {n:Nat} {x:List Int} : Zlr (Ze0 n x v) v (ZpH n x):=by
 intro w f y y' h hle hf hb
 obtain ⟨ws,h1,h2⟩:=h
 refine ⟨ws,h1,?_⟩
 obtain ⟨wv,hI,f1,f2,e1,e2,e3,⟨b,vs,k1,k2,k3,k4⟩,f3,f4,e4,e5,e6,⟨xs,k5,k6,k7⟩,k8⟩:=h2
 refine ⟨b,0,vs.toList,k1,hf b ((e1 b).2 (.inl ((k3 b).2 V))),hb b ((e1 b).2 (.inl ((k3 b).2 V))),Zn.mk fun j u hj=>?_,?_⟩
 ·simp only [YG]
  simp [World.cell?,k2]
  simpa using hj
 ·generalize vs.toList=us at k4
  match us,k4 with
  | [u1,u2],k4=>
   refine ⟨k4.1,⟨k4.2.1.1,?_⟩,tv⟩
   have e:u2=wv:=k4.2.1.2.1
   subst e
   obtain ⟨ad,cap,e8,h8,h9,h10⟩:=Zs k5
   refine ⟨ad,cap,e8,h8,h9,?_⟩
   rcases h10 with h10 | ⟨b',rfl,h11,h12⟩
   ·exact .inl (YC h10)
   ·have hb':f b':=(e1 b').2 (.inr ((e4 b').2 (.inl ((k7 b').2 h11))))
    exact .inr ⟨b',0,xs,rfl,hf b' hb',hb b' hb',h12,PVs.mono (Ev.less w hle) k6⟩
theorem Zms (n:Nat) (x:List Int) (i:Int):FnP prog 26 [ZpH n x,.int .i64 i] (.bool (decide (i ∈ x))):=fun w y vs hy hv=>by
 match vs,hv with
 | u :: us,hv=>
  obtain ⟨ws,h1,h2⟩:=hv.1
  rw [← h1.in i]
  exact Zn6 n ws h1.ok i w y (u :: us) hy ⟨h2,hv.2⟩
theorem Ziv (b n:Nat) (x:List Int) (i:Int) (on:Bool):FnG prog 25 1 [.is (.pointer (some ⟨b,0,none⟩)),.int .i64 i,.bool on] [Ze0 n x (.pointer (some ⟨b,0,none⟩))] .any (fun _=>[Ze0 n (putL x n i on) (.pointer (some ⟨b,0,none⟩))]):=fun w F vs hw hle hv hp=>by
 obtain ⟨ws,h1,h2⟩:=hp 0 _ rfl
 refine (set_c b n ws i on w F vs hw hle hv (fun i k hi=>by
  match i,hi with
  | 0,hi=>simp at hi;subst hi;exact h2)).mono ?_
 rintro e w' ⟨u,F',rfl,a1,a2,a3,a4,a5⟩
 refine ⟨u,F',rfl,a1,a2,a3,tv,fun j k hj=>?_⟩
 match j,hj with
 | 0,hj=>
  simp at hj;subst hj
  exact ⟨_,h1.set i on,a5 0 _ rfl⟩
theorem Zl7 (m:Int):FnG prog 21 1 [.int .i64 m] [HP.star []] PV.ptr (fun v=>[Ze0 (rowN m) [] v]):=fun w F vs hw hle hv hp=>by
 refine (Znl m w F vs hw hle hv hp).mono ?_
 rintro e w' ⟨u,F',rfl,a1,a2,a3,a4,a5⟩
 refine ⟨u,F',rfl,a1,a2,a3,a4,fun i k hi=>?_⟩
 match i,hi with
 | 0,hi=>simp at hi;subst hi;exact ⟨_,ZA.zero m,a5 0 _ rfl⟩
def EJ (adj:Int→List Int) (x y:Int):Prop:=y ∈ adj x
def Zbp (f:Int→Int) (x c:Int):Int→Int:=fun y=>if y=x then c else f y
theorem Zv {f:Int→Int} {x c:Int} : Zbp f x c x=c:=Yf rfl
theorem ZZ {f:Int→Int} {x c y:Int} (h:y≠x):Zbp f x c y=f y:=Ye h
def Za2 (wh:Int→Int) (st:List Int) (d:Int):Prop:=wh d≠0∧d ∉ st
def Zfl (adj:Int→List Int) (u x:Int):Prop:=x=u∨(Rch (EJ adj) u x∧Rch (EJ adj) x u)
def Zkk (adj:Int→List Int) (u m:Int):Prop:=Zfl adj u m ∧ ∀ x,Zfl adj u x→m≤x
abbrev ZjE:Type:=List (Int×List Int)
def NxT (wh:Int→Int) (way:ZjE) (v y:Int):Prop:=(∃ q ∈ way,q.1=y)∧wh v<wh y ∧ ∀ p ∈ way,¬ (wh v<wh p.1∧wh p.1<wh y)
structure Tj (adj:Int→List Int) (wh lo out:Int→Int) (ck:Int) (st:List Int) (way:ZjE):Prop where
 pos:∀ u ∈ st,0<wh u
 dec:st.Pairwise fun a b=>wh b<wh a
 vis:∀ u,0≤wh u∧wh u≤ck
 low:∀ u ∈ st,lo u≤wh u ∧ ∃ w ∈ st,wh w=lo u∧(w=u∨Rch (EJ adj) u w)
 fin:∀ u ∈ st,(∀ p ∈ way,p.1≠u)→lo u<wh u ∧ ∀ y ∈ adj u,Za2 wh st y∨(y ∈ st∧lo u≤wh y)
 done:∀ d,Za2 wh st d→(∀ y ∈ adj d,Za2 wh st y)∧Zkk adj d (out d)
 onst:∀ r ∈ way,r.1 ∈ st
 sub:∀ r ∈ way,∀ y ∈ r.2,y ∈ adj r.1
 wdec:way.Pairwise fun a b=>wh b.1<wh a.1
 arcs:∀ r ∈ way,∀ y ∈ adj r.1,y ∉ r.2→Za2 wh st y∨(y ∈ st∧lo r.1≤wh y)∨NxT wh way r.1 y
 lows:∀ r ∈ way,∀ u ∈ st,(∀ p ∈ way,p.1≠u)→wh r.1<wh u→(∀ p ∈ way,¬ (wh r.1<wh p.1∧wh p.1<wh u))→lo r.1≤lo u
 reach:∀ r ∈ way,∀ u ∈ st,wh r.1≤wh u→u=r.1∨Rch (EJ adj) r.1 u
 root:∀ u ∈ st,∃ r,way.getLast? = some r∧wh r.1≤wh u
section
variable {adj:Int→List Int} {wh lo out:Int→Int} {ck:Int} {st:List Int} {rest:ZjE} {v x:Int} {next:List Int}
theorem Zkl (h:st.Pairwise fun a b=>wh b<wh a) {a b:Int} (ha:a ∈ st) (hb:b ∈ st) (e:wh a=wh b):a=b:=by
 induction st with
 | nil=>cases ha
 | cons x l ih=>
  rw [Yq] at h
  rcases Yh.1 ha with e1 | ha2 <;> rcases Yh.1 hb with e2 | hb2
  ·rw [e1,e2]
  ·have:=h.1 b hb2;rw [e1] at e;omega
  ·have:=h.1 a ha2;rw [e2] at e;omega
  ·exact ih h.2 ha2 hb2
theorem Tj.zero:Tj adj (fun _=>0) lo out 0 [] []:=
 ⟨by simp,.nil,fun _=>⟨Yak _,Yak _⟩,by simp,by simp,fun d h=>absurd rfl h.1,by simp,by simp,.nil,by simp,by simp,by simp,by simp⟩
theorem Tj.first (h:Tj adj wh lo out ck [] []) (hx:wh x=0):Tj adj (Zbp wh x (ck+1)) (Zbp lo x (ck+1)) out (ck+1) [x] [(x,adj x)]:=by
 have hck:=(h.vis x).2
 have hd:∀ y,Za2 (Zbp wh x (ck+1)) [x] y ↔ Za2 wh [] y:=fun y=>by
  unfold Za2
  by_cases e:y=x
  ·subst e;simp [hx]
  ·rw [ZZ e];simp [e]
 have v0:=h.vis x
 refine ⟨fun u hu=>?_,by simp,fun u=>?_,fun u hu=>?_,fun u hu hp=>?_,fun d hdd=>?_,fun r hr=>?_,fun r hr y hy=>?_,by simp,fun r hr y hy hn=>?_,fun r hr u hu hp=>?_,fun r hr u hu _=>?_,fun u hu=>?_⟩
 ·obtain rfl:=Yd.1 hu;rw [Zv];omega
 ·by_cases e:u=x
  ·rw [e,Zv];omega
  ·rw [ZZ e];have:=h.vis u;omega
 ·obtain rfl:=Yd.1 hu;exact ⟨by rw [Zv,Zv];exact Yak _,u,by simp,by rw [Zv,Zv],.inl rfl⟩
 ·obtain rfl:=Yd.1 hu;exact absurd rfl (hp (u,adj u) (by simp))
 ·obtain ⟨h1,h2⟩:=h.done d ((hd d).1 hdd)
  exact ⟨fun y hy=>(hd y).2 (h1 y hy),h2⟩
 ·obtain rfl:=Yd.1 hr;simp
 ·obtain rfl:=Yd.1 hr;exact hy
 ·obtain rfl:=Yd.1 hr;exact absurd hy hn
 ·obtain rfl:=Yd.1 hr;obtain rfl:=Yd.1 hu;exact absurd rfl (hp (u,adj u) (by simp))
 ·obtain rfl:=Yd.1 hr;obtain rfl:=Yd.1 hu;exact .inl rfl
 ·obtain rfl:=Yd.1 hu;exact ⟨(u,adj u),rfl,Yak _⟩
theorem Tj.top (h:Tj adj wh lo out ck st ((v,next) :: rest)):(∀ r ∈ rest,wh r.1<wh v) ∧ ∀ p ∈ (v,next) :: rest,wh p.1≤wh v:=by
 have h1:=(Yq.1 h.wdec).1
 refine ⟨h1,fun p hp=>?_⟩
 rcases Yh.1 hp with rfl | hp
 ·exact Yak _
 ·exact Ybx (h1 p hp)
theorem Tj.meet (h:Tj adj wh lo out ck st ((v,x :: next) :: rest)) (hx:wh x=0):Tj adj (Zbp wh x (ck+1)) (Zbp lo x (ck+1)) out (ck+1) (x :: st) ((x,adj x) :: (v,next) :: rest):=by
 have v0:=h.vis x
 have hxs:x ∉ st:=fun hm=>by have:=h.pos x hm;omega
 have hne:∀ u ∈ st,u≠x:=fun u hu e=>hxs (e ▸ hu)
 have hw:∀ u ∈ st,Zbp wh x (ck+1) u=wh u:=fun u hu=>ZZ (hne u hu)
 have hl:∀ u ∈ st,Zbp lo x (ck+1) u=lo u:=fun u hu=>ZZ (hne u hu)
 have hd:∀ y,Za2 (Zbp wh x (ck+1)) (x :: st) y ↔ Za2 wh st y:=fun y=>by
  unfold Za2
  by_cases e:y=x
  ·subst e;simp [hx]
  ·rw [ZZ e];simp [e]
 have hon:∀ r ∈ (v,next) :: rest,r.1 ∈ st:=fun r hr=>by
  rcases Yh.1 hr with rfl | hr
  ·exact h.onst (v,x :: next) (by simp)
  ·exact h.onst r (by simp [hr])
 have hfs:∀ p ∈ (v,next) :: rest,∃ q ∈ (v,x :: next) :: rest,q.1=p.1:=fun p hp=>by
  rcases Yh.1 hp with rfl | hp
  ·exact ⟨_,Y0,rfl⟩
  ·exact ⟨p,by simp [hp],rfl⟩
 have hfs2:∀ p ∈ (v,x :: next) :: rest,∃ q ∈ (v,next) :: rest,q.1=p.1:=fun p hp=>by
  rcases Yh.1 hp with rfl | hp
  ·exact ⟨_,Y0,rfl⟩
  ·exact ⟨p,by simp [hp],rfl⟩
 obtain ⟨ht1,ht2⟩:=h.top
 have hvs:v ∈ st:=h.onst (v,x :: next) (by simp)
 have hxv:x ∈ adj v:=h.sub (v,x :: next) (by simp) x (by simp)
 have hnx:∀ r ∈ (v,next) :: rest,∀ y ∈ st,NxT wh ((v,x :: next) :: rest) r.1 y→NxT (Zbp wh x (ck+1)) ((x,adj x) :: (v,next) :: rest) r.1 y:=fun r hr y hy ⟨⟨q,hq,e⟩,h2,h3⟩=>by
  obtain ⟨q',hq',e'⟩:=hfs2 q hq
  refine ⟨⟨q',Yw _ hq',e'.trans e⟩,by rw [hw _ (hon r hr),hw y hy];exact h2,fun p hp=>?_⟩
  rw [hw _ (hon r hr),hw y hy]
  rcases Yh.1 hp with rfl | hp
  ·rw [Zv];have:=(h.vis y).2;omega
  ·rw [hw _ (hon p hp)]
   obtain ⟨p',hp',e2⟩:=hfs p hp
   rw [← e2];exact h3 p' hp'
 refine ⟨fun u hu=>?_,?_,fun u=>?_,fun u hu=>?_,fun u hu hp=>?_,fun d hdd=>?_,fun r hr=>?_,fun r hr y hy=>?_,?_,fun r hr y hy hn=>?_,fun r hr u hu hp hlt hb=>?_,fun r hr u hu hle=>?_,fun u hu=>?_⟩
 ·rcases Yh.1 hu with rfl | hu
  ·rw [Zv];omega
  ·rw [hw u hu];exact h.pos u hu
 ·refine Yq.2 ⟨fun u hu=>?_,?_⟩
  ·rw [Zv,hw u hu];have:=(h.vis u).2;omega
  ·refine List.Pairwise.imp_of_mem (fun {a b} ha hb k=>?_) h.dec
   rw [hw a ha,hw b hb];exact k
 ·by_cases e:u=x
  ·rw [e,Zv];omega
  ·rw [ZZ e];have:=h.vis u;omega
 ·rcases Yh.1 hu with rfl | hu
  ·exact ⟨by rw [Zv,Zv];exact Yak _,u,by simp,by rw [Zv,Zv],.inl rfl⟩
  ·obtain ⟨h1,w,hws,h2,h3⟩:=h.low u hu
   rw [hl u hu,hw u hu]
   exact ⟨h1,w,by simp [hws],by rw [hw w hws];exact h2,h3⟩
 ·have hux:u≠x:=fun e=>hp (x,adj x) (by simp) e.symm
  have hu:=(Yh.1 hu).resolve_left hux
  obtain ⟨h1,h2⟩:=h.fin u hu fun p hp2=>by
   obtain ⟨q,hq,e⟩:=hfs2 p hp2
   rw [← e];exact hp q (Yw _ hq)
  rw [hl u hu,hw u hu]
  refine ⟨h1,fun y hy=>?_⟩
  rcases h2 y hy with h3 | ⟨h3,h4⟩
  ·exact .inl ((hd y).2 h3)
  ·exact .inr ⟨by simp [h3],by rw [hw y h3];exact h4⟩
 ·obtain ⟨h1,h2⟩:=h.done d ((hd d).1 hdd)
  exact ⟨fun y hy=>(hd y).2 (h1 y hy),h2⟩
 ·rcases Yh.1 hr with rfl | hr
  ·simp
  ·simp [hon r hr]
 ·rcases Yh.1 hr with rfl | hr
  ·exact hy
  ·rcases Yh.1 hr with rfl | hr
   ·exact h.sub (v,x :: next) (by simp) y (by simp at hy ⊢;exact .inr hy)
   ·exact h.sub r (by simp [hr]) y hy
 ·refine Yq.2 ⟨fun r hr=>?_,?_⟩
  ·show Zbp wh x (ck+1) r.1<Zbp wh x (ck+1) x
   rw [Zv,hw _ (hon r hr)];have:=(h.vis r.1).2;omega
  ·have h9:((v,next) :: rest).Pairwise fun a b=>wh b.1<wh a.1:=Yq.2 (Yq.1 h.wdec)
   refine List.Pairwise.imp_of_mem (fun {a b} ha hb k=>?_) h9
   rw [hw _ (hon a ha),hw _ (hon b hb)];exact k
 ·rcases Yh.1 hr with rfl | hr
  ·exact absurd hy hn
  ·rcases Yh.1 hr with rfl | hr
   ·by_cases e:y=x
    ·subst e
     refine .inr (.inr ⟨⟨_,Y0,rfl⟩,by show Zbp wh y (ck+1) v<Zbp wh y (ck+1) y;rw [Zv,hw v hvs];have:=(h.vis v).2;omega,fun p hp=>?_⟩)
     show ¬ (Zbp wh y (ck+1) v<Zbp wh y (ck+1) p.1∧Zbp wh y (ck+1) p.1<Zbp wh y (ck+1) y)
     rcases Yh.1 hp with rfl | hp
     ·exact fun h9=>absurd h9.2 (Int.lt_irrefl _)
     ·rw [hw v hvs,hw _ (hon p hp)]
      obtain ⟨p',hp',e2⟩:=hfs p hp
      have:=ht2 p' hp'
      rw [e2] at this
      omega
    ·rcases h.arcs (v,x :: next) (by simp) y hy (by simp at hn ⊢;exact ⟨e,hn⟩) with h1 | ⟨h1,h2⟩ | ⟨⟨q,hq,e2⟩,h2,_⟩
     ·exact .inl ((hd y).2 h1)
     ·exact .inr (.inl ⟨by simp [h1],by show Zbp lo x (ck+1) v≤_;rw [hl v hvs,hw y h1];exact h2⟩)
     ·have:=ht2 q hq
      rw [e2] at this
      have h2:wh v<wh y:=h2
      omega
   ·have hrs:=h.onst r (by simp [hr])
    rcases h.arcs r (by simp [hr]) y hy hn with h1 | ⟨h1,h2⟩ | h3
    ·exact .inl ((hd y).2 h1)
    ·exact .inr (.inl ⟨by simp [h1],by rw [hl _ hrs,hw y h1];exact h2⟩)
    ·obtain ⟨⟨q,hq,e⟩,_⟩:=id h3
     exact .inr (.inr (hnx r (by simp [hr]) y (e ▸ h.onst q hq) h3))
 ·have hux:u≠x:=fun e=>hp (x,adj x) (by simp) e.symm
  have hu:=(Yh.1 hu).resolve_left hux
  rcases Yh.1 hr with rfl | hr
  ·have hlt:Zbp wh x (ck+1) x<Zbp wh x (ck+1) u:=hlt
   rw [Zv,hw u hu] at hlt
   have:=(h.vis u).2;omega
  ·have hrs:=hon r hr
   rw [hl _ hrs,hl u hu]
   rw [hw _ hrs,hw u hu] at hlt
   obtain ⟨r',hr',e⟩:=hfs r hr
   rw [← e] at hlt ⊢
   refine h.lows r' hr' u hu (fun p hp2=>?_) hlt fun p hp2=>?_
   ·obtain ⟨q,hq,e3⟩:=hfs2 p hp2
    rw [← e3];exact hp q (Yw _ hq)
   ·obtain ⟨q,hq,e3⟩:=hfs2 p hp2
    have:=hb q (Yw _ hq)
    rw [hw _ hrs,hw u hu,hw _ (hon q hq),e3,← e] at this
    exact this
 ·rcases Yh.1 hr with rfl | hr
  ·rcases Yh.1 hu with rfl | hu
   ·exact .inl rfl
   ·have hle:Zbp wh x (ck+1) x≤Zbp wh x (ck+1) u:=hle
    rw [Zv,hw u hu] at hle
    have:=(h.vis u).2;omega
  ·obtain ⟨r',hr',e⟩:=hfs r hr
   rcases Yh.1 hu with rfl | hu
   ·refine .inr ?_
    have hvx:Rch (EJ adj) v u:=.one hxv
    rw [← e]
    rcases h.reach r' hr' v hvs (ht2 r' hr') with h9 | h9
    ·rw [← h9];exact hvx
    ·exact h9.trans hvx
   ·rw [hw _ (hon r hr),hw u hu,← e] at hle
    rw [← e];exact h.reach r' hr' u hu hle
 ·have hlast:∀ r,((v,x :: next) :: rest).getLast? = some r → ∃ r',((x,adj x) :: (v,next) :: rest).getLast? = some r' ∧ r'.1=r.1:=fun r hr=>by
   cases rest with
   | nil=>exact ⟨(v,next),rfl,by have:(v,x :: next)=r:=(by simpa using hr);rw [← this]⟩
   | cons y l=>exact ⟨r,by simpa using hr,rfl⟩
  obtain ⟨r,h1,h2⟩:=h.root v hvs
  obtain ⟨r',h3,h4⟩:=hlast r h1
  refine ⟨r',h3,?_⟩
  have hrs:r'.1 ∈ st:=by rw [h4];exact h.onst r (List.mem_of_getLast? h1)
  rw [hw _ hrs]
  rcases Yh.1 hu with rfl | hu
  ·rw [Zv];have:=(h.vis r'.1).2;omega
  ·rw [hw u hu,h4]
   obtain ⟨r2,h5,h6⟩:=h.root u hu
   rw [h1] at h5
   rw [Ybc h5];exact h6
theorem Tj.pass {c:Int} (h:Tj adj wh lo out ck st ((v,x :: next) :: rest)) (hc:(Za2 wh st x∧c=lo v)∨(x ∈ st∧c=min (lo v) (wh x))):Tj adj wh (Zbp lo v c) out ck st ((v,next) :: rest):=by
 have hvs:v ∈ st:=h.onst (v,x :: next) (by simp)
 have hxv:x ∈ adj v:=h.sub (v,x :: next) (by simp) x (by simp)
 obtain ⟨ht1,ht2⟩:=h.top
 have hcl:c≤lo v:=by rcases hc with ⟨_,h1⟩ | ⟨_,h1⟩ <;> omega
 have hfs:∀ p ∈ (v,next) :: rest,∃ q ∈ (v,x :: next) :: rest,q.1=p.1:=fun p hp=>by
  rcases Yh.1 hp with rfl | hp
  ·exact ⟨_,Y0,rfl⟩
  ·exact ⟨p,by simp [hp],rfl⟩
 have hfs2:∀ p ∈ (v,x :: next) :: rest,∃ q ∈ (v,next) :: rest,q.1=p.1:=fun p hp=>by
  rcases Yh.1 hp with rfl | hp
  ·exact ⟨_,Y0,rfl⟩
  ·exact ⟨p,by simp [hp],rfl⟩
 have hnx:∀ a y,NxT wh ((v,x :: next) :: rest) a y→NxT wh ((v,next) :: rest) a y:=fun a y ⟨⟨q,hq,e⟩,h2,h3⟩=>by
  obtain ⟨q',hq',e'⟩:=hfs2 q hq
  refine ⟨⟨q',hq',e'.trans e⟩,h2,fun p hp=>?_⟩
  obtain ⟨p',hp',e2⟩:=hfs p hp
  rw [← e2];exact h3 p' hp'
 have hrv:∀ r ∈ rest,r.1≠v:=fun r hr e=>by have:=ht1 r hr;rw [e] at this;omega
 refine ⟨h.pos,h.dec,h.vis,fun u hu=>?_,fun u hu hp=>?_,h.done,fun r hr=>?_,fun r hr y hy=>?_,Yq.2 (Yq.1 h.wdec),fun r hr y hy hn=>?_,fun r hr u hu hp hlt hb=>?_,fun r hr u hu hle=>?_,fun u hu=>?_⟩
 ·by_cases e:u=v
  ·subst e
   rw [Zv]
   obtain ⟨h1,w,hws,h2,h3⟩:=h.low u hu
   refine ⟨by omega,?_⟩
   rcases hc with ⟨_,h4⟩ | ⟨h5,h4⟩
   ·exact ⟨w,hws,by omega,h3⟩
   ·by_cases h6:lo u≤wh x
    ·exact ⟨w,hws,by omega,h3⟩
    ·exact ⟨x,h5,by omega,.inr (.one hxv)⟩
  ·rw [ZZ e];exact h.low u hu
 ·have huv:u≠v:=fun e=>hp (v,next) (by simp) e.symm
  rw [ZZ huv]
  exact h.fin u hu fun p hp2=>by
   obtain ⟨q,hq,e⟩:=hfs2 p hp2
   rw [← e];exact hp q hq
 ·obtain ⟨q,hq,e⟩:=hfs r hr
  rw [← e];exact h.onst q hq
 ·rcases Yh.1 hr with rfl | hr
  ·exact h.sub (v,x :: next) (by simp) y (by simp at hy ⊢;exact .inr hy)
  ·exact h.sub r (by simp [hr]) y hy
 ·rcases Yh.1 hr with rfl | hr
  ·show Za2 wh st y∨(y ∈ st∧Zbp lo v c v≤wh y)∨_
   rw [Zv]
   by_cases e:y=x
   ·subst e
    rcases hc with ⟨h1,_⟩ | ⟨h1,h2⟩
    ·exact .inl h1
    ·exact .inr (.inl ⟨h1,by omega⟩)
   ·rcases h.arcs (v,x :: next) (by simp) y hy (by simp at hn ⊢;exact ⟨e,hn⟩) with h1 | ⟨h1,h2⟩ | h3
    ·exact .inl h1
    ·have h2:lo v≤wh y:=h2
     exact .inr (.inl ⟨h1,by omega⟩)
    ·exact .inr (.inr (hnx _ _ h3))
  ·rw [ZZ (hrv r hr)]
   rcases h.arcs r (by simp [hr]) y hy hn with h1 | h1 | h3
   ·exact .inl h1
   ·exact .inr (.inl h1)
   ·exact .inr (.inr (hnx _ _ h3))
 ·have huv:u≠v:=fun e=>hp (v,next) (by simp) e.symm
  rw [ZZ huv]
  obtain ⟨r',hr',e⟩:=hfs r hr
  have h9:=h.lows r' hr' u hu (fun p hp2=>by
   obtain ⟨q,hq,e3⟩:=hfs2 p hp2
   rw [← e3];exact hp q hq) (by rw [e];exact hlt) fun p hp2=>by
   obtain ⟨q,hq,e3⟩:=hfs2 p hp2
   have:=hb q hq
   rwa [e3,← e] at this
  rw [e] at h9
  by_cases e2:r.1=v
  ·rw [e2] at h9 ⊢;rw [Zv];omega
  ·rw [ZZ e2];exact h9
 ·obtain ⟨r',hr',e⟩:=hfs r hr
  rw [← e] at hle ⊢
  exact h.reach r' hr' u hu hle
 ·obtain ⟨r,h1,h2⟩:=h.root u hu
  cases rest with
  | nil=>simp at h1;exact ⟨(v,next),rfl,by rw [← h1] at h2;exact h2⟩
  | cons y l=>simp at h1;exact ⟨r,by simp [h1],h2⟩
theorem Tj.above {u0:Int} {nx:List Int} (h:Tj adj wh lo out ck st ((v,next) :: (u0,nx) :: rest)):wh u0<wh v∧(∀ r ∈ rest,wh r.1<wh u0):=by
 have h1:=Yq.1 h.wdec
 exact ⟨h1.1 (u0,nx) (by simp),(Yq.1 h1.2).1⟩
theorem Tj.stay {u0:Int} {nx:List Int} (h:Tj adj wh lo out ck st ((v,[]) :: (u0,nx) :: rest)) (hlo:lo v≠wh v):Tj adj wh (Zbp lo u0 (min (lo u0) (lo v))) out ck st ((u0,nx) :: rest):=by
 obtain ⟨a1,a2⟩:=h.above
 obtain ⟨ht1,ht2⟩:=h.top
 have hvs:v ∈ st:=h.onst (v,[]) (by simp)
 have hus:u0 ∈ st:=h.onst (u0,nx) (by simp)
 have hvu:v≠u0:=fun e=>by rw [e] at a1;omega
 have hr0:∀ r ∈ rest,r.1≠u0:=fun r hr e=>by have:=a2 r hr;rw [e] at this;omega
 have hlv:=h.low v hvs
 refine ⟨h.pos,h.dec,h.vis,fun u hu=>?_,fun u hu hp=>?_,h.done,fun r hr=>h.onst r (Yw _ hr),fun r hr=>h.sub r (Yw _ hr),(Yq.1 h.wdec).2,fun r hr y hy hn=>?_,fun r hr u hu hp hlt hb=>?_,fun r hr=>h.reach r (Yw _ hr),fun u hu=>?_⟩
 ·by_cases e:u=u0
  ·subst e
   rw [Zv]
   obtain ⟨h1,w,hws,h2,h3⟩:=h.low u hu
   refine ⟨by omega,?_⟩
   by_cases h4:lo u≤lo v
   ·exact ⟨w,hws,by omega,h3⟩
   ·obtain ⟨h5,w2,hw2,h6,h7⟩:=hlv
    refine ⟨w2,hw2,by omega,.inr ?_⟩
    have h8:=(h.reach (u,nx) (by simp) v hvs (Ybx a1)).resolve_left hvu
    rcases h7 with rfl | h7
    ·exact h8
    ·exact h8.trans h7
  ·rw [ZZ e];exact h.low u hu
 ·have hu0:u≠u0:=fun e=>hp (u0,nx) (by simp) e.symm
  rw [ZZ hu0]
  by_cases e:u=v
  ·subst e
   refine ⟨by have:=hlv.1;omega,fun y hy=>?_⟩
   rcases h.arcs (u,[]) (by simp) y hy (by simp) with h1 | h1 | ⟨⟨q,hq,e2⟩,h2,_⟩
   ·exact .inl h1
   ·exact .inr h1
   ·have:=ht2 q hq
    rw [e2] at this
    have h2:wh u<wh y:=h2
    omega
  ·refine h.fin u hu fun p hp2=>?_
   rcases Yh.1 hp2 with rfl | hp2
   ·exact fun e2=>e e2.symm
   ·exact hp p hp2
 ·rcases Yh.1 hr with rfl | hr2
  ·show Za2 wh st y∨(y ∈ st∧Zbp lo u0 _ u0≤wh y)∨_
   rw [Zv]
   rcases h.arcs (u0,nx) (by simp) y hy hn with h1 | ⟨h1,h2⟩ | ⟨⟨q,hq,e2⟩,h2,h3⟩
   ·exact .inl h1
   ·have h2:lo u0≤wh y:=h2
    exact .inr (.inl ⟨h1,by omega⟩)
   ·have h2:wh u0<wh y:=h2
    have h4:¬ (wh u0<wh v∧wh v<wh y):=h3 (v,[]) (by simp)
    have hy2:y=v:=by
     rcases Yh.1 hq with rfl | hq
     ·exact e2.symm
     ·rcases Yh.1 hq with rfl | hq
      ·have e2:u0=y:=e2
       rw [← e2] at h2;omega
      ·have:=a2 q hq
       rw [e2] at this;omega
    subst hy2
    exact .inr (.inl ⟨hvs,by have:=hlv.1;omega⟩)
  ·rw [ZZ (hr0 r hr2)]
   rcases h.arcs r (by simp [hr2]) y hy hn with h1 | h1 | ⟨⟨q,hq,e2⟩,h2,h3⟩
   ·exact .inl h1
   ·exact .inr (.inl h1)
   ·refine .inr (.inr ⟨?_,h2,fun p hp=>h3 p (Yw _ hp)⟩)
    rcases Yh.1 hq with rfl | hq
    ·have e2:v=y:=e2
     have h4:¬ (wh r.1<wh u0∧wh u0<wh y):=h3 (u0,nx) (by simp)
     exact absurd ⟨a2 r hr2,by rw [← e2];exact a1⟩ h4
    ·exact ⟨q,hq,e2⟩
 ·have hu0:u≠u0:=fun e=>hp (u0,nx) (by simp) e.symm
  rw [ZZ hu0]
  rcases Yh.1 hr with rfl | hr2
  ·show Zbp lo u0 _ u0≤lo u
   rw [Zv]
   by_cases e:u=v
   ·subst e;omega
   ·have hp2:∀ p ∈ (v,[]) :: (u0,nx) :: rest,p.1≠u:=fun p hp3=>by
     rcases Yh.1 hp3 with rfl | hp3
     ·exact fun e2=>e e2.symm
     ·exact hp p hp3
    rcases Int.lt_or_le (wh u) (wh v) with h1 | h1
    ·have:=h.lows (u0,nx) (by simp) u hu hp2 hlt fun p hp3=>by
      rcases Yh.1 hp3 with rfl | hp3
      ·exact fun h9=>by have h9:wh v<wh u:=h9.2;omega
      ·exact hb p hp3
     have this:lo u0≤lo u:=this
     omega
    ·have h2:wh v<wh u:=by
      rcases Int.lt_or_eq_of_le h1 with h2 | h2
      ·exact h2
      ·exact absurd (Zkl h.dec hu hvs h2.symm) e
     have:=h.lows (v,[]) (by simp) u hu hp2 h2 fun p hp3 h9=>by
      have h10:=ht2 p hp3
      have h9:wh v<wh p.1:=h9.1
      omega
     have this:lo v≤lo u:=this
     omega
  ·rw [ZZ (hr0 r hr2)]
   have h1:wh u<wh u0:=by
    have h2:¬ (wh r.1<wh u0∧wh u0<wh u):=hb (u0,nx) (by simp)
    have h3:=a2 r hr2
    rcases Int.lt_or_le (wh u) (wh u0) with h4 | h4
    ·exact h4
    ·have h5:wh u=wh u0:=by omega
     exact absurd (Zkl h.dec hu hus h5) hu0
   refine h.lows r (by simp [hr2]) u hu (fun p hp3=>?_) hlt fun p hp3=>?_
   ·rcases Yh.1 hp3 with rfl | hp3
    ·exact fun e2=>by have e2:v=u:=e2;rw [e2] at a1;omega
    ·exact hp p hp3
   ·rcases Yh.1 hp3 with rfl | hp3
    ·exact fun h9=>by have h9:wh v<wh u:=h9.2;omega
    ·exact hb p hp3
 ·obtain ⟨r,h1,h2⟩:=h.root u hu
  exact ⟨r,by simpa using h1,h2⟩
theorem Tj.part {A B:List Int} {m:Int} (h:Tj adj wh lo out ck (A++v :: B) ((v,[]) :: rest)) (hlo:lo v=wh v) (hm:m ∈ A ++ [v]) (hmin:∀ x ∈ A ++ [v],m≤x) :
  Tj adj wh lo (fun u=>if u ∈ A ++ [v] then m else out u) ck B rest:=by
 obtain ⟨ht1,ht2⟩:=h.top
 have hdec:=Ybs.1 h.dec
 have hdB:=Yq.1 hdec.2.1
 have hP:∀ u ∈ A ++ [v],wh v≤wh u∧u ∈ A++v :: B:=fun u hu=>by
  rcases Yu.1 hu with h1 | h1
  ·exact ⟨Ybx (hdec.2.2 u h1 v (by simp)),by simp [h1]⟩
  ·obtain rfl:=Yd.1 h1
   exact ⟨Yak _,by simp⟩
 have J:∀ u ∈ B,wh u<wh v∧u ∈ A++v :: B:=fun u hu=>⟨hdB.1 u hu,by simp [hu]⟩
 have hsplit:∀ u ∈ A++v :: B,u ∈ A ++ [v]∨u ∈ B:=fun u hu=>by
  rcases Yu.1 hu with h1 | h1
  ·exact .inl (Yu.2 (.inl h1))
  ·rcases Yh.1 h1 with h1 | h1
   ·exact .inl (by simp [h1])
   ·exact .inr h1
 have hvs:v ∈ A++v :: B:=by simp
 have hPt:∀ u ∈ A ++ [v],u≠v → ∀ p ∈ (v,[]) :: rest,p.1≠u:=fun u hu hne p hp e=>by
  rcases Yh.1 hp with rfl | hp
  ·exact hne e.symm
  ·have h1:=ht1 p hp
   rw [e] at h1
   have:=(hP u hu).1
   omega
 have hno:∀ u ∈ A ++ [v],wh v<wh u → ∀ p ∈ (v,[]) :: rest,¬ (wh v<wh p.1∧wh p.1<wh u):=fun u hu _ p hp h9=>by
  have:=ht2 p hp
  omega
 have hlow:∀ u ∈ A ++ [v],wh v≤lo u:=fun u hu=>by
  by_cases e:u=v
  ·rw [e,hlo];exact Yak _
  ·have h1:wh v<wh u:=by
    rcases Int.lt_or_eq_of_le (hP u hu).1 with h1 | h1
    ·exact h1
    ·exact absurd (Zkl h.dec (hP u hu).2 hvs h1.symm) e
   have:=h.lows (v,[]) (by simp) u (hP u hu).2 (hPt u hu e) h1 (hno u hu h1)
   rw [← hlo];exact this
 have hback:∀ (k:Nat) (u:Int),u ∈ A ++ [v]→(wh u).toNat=k→u=v∨Rch (EJ adj) u v:=by
  intro k
  induction k using Nat.strongRecOn with
  | _ k ih=>
   intro u hu hk
   by_cases e:u=v
   ·exact .inl e
   ·refine .inr ?_
    have h1:=(h.fin u (hP u hu).2 (hPt u hu e)).1
    obtain ⟨_,w,hws,h2,h3⟩:=h.low u (hP u hu).2
    have h4:=hlow u hu
    have hwP:w ∈ A ++ [v]:=(hsplit w hws).resolve_right fun h9=>by have:=(J w h9).1;omega
    have h5:Rch (EJ adj) u w:=h3.resolve_left fun e2=>by rw [e2] at h2;omega
    have h6:=h.pos w hws
    rcases ih (wh w).toNat ow w hwP rfl with h7 | h7
    ·rw [← h7];exact h5
    ·exact h5.trans h7
 have hfwd:∀ u ∈ A ++ [v],u=v∨Rch (EJ adj) v u:=fun u hu=>h.reach (v,[]) (by simp) u (hP u hu).2 (hP u hu).1
 have hcl:∀ u ∈ A ++ [v],∀ y ∈ adj u,Za2 wh (A++v :: B) y∨y ∈ A ++ [v]:=fun u hu y hy=>by
  have key:Za2 wh (A++v :: B) y∨(y ∈ A++v :: B∧wh v≤wh y):=by
   by_cases e:u=v
   ·rw [e] at hy
    rcases h.arcs (v,[]) (by simp) y hy (by simp) with h1 | ⟨h1,h2⟩ | ⟨⟨q,hq,e2⟩,h2,_⟩
    ·exact .inl h1
    ·exact .inr ⟨h1,by have h2:lo v≤wh y:=h2;omega⟩
    ·have h3:=ht2 q hq
     rw [e2] at h3
     have h2:wh v<wh y:=h2
     omega
   ·rcases (h.fin u (hP u hu).2 (hPt u hu e)).2 y hy with h1 | ⟨h1,h2⟩
    ·exact .inl h1
    ·exact .inr ⟨h1,by have:=hlow u hu;omega⟩
  rcases key with h1 | ⟨h1,h2⟩
  ·exact .inl h1
  ·exact .inr ((hsplit y h1).resolve_right fun h9=>by have:=(J y h9).1;omega)
 have hdr:∀ {d y:Int},Za2 wh (A++v :: B) d→Rch (EJ adj) d y→Za2 wh (A++v :: B) y:=fun {d y} hd hr=>by
  induction hr with
  | one k=>exact (h.done _ hd).1 _ k
  | step _ k ih=>exact (h.done _ ih).1 _ k
 have hCr:∀ {u y:Int},u ∈ A ++ [v]→Rch (EJ adj) u y→Za2 wh (A++v :: B) y∨y ∈ A ++ [v]:=fun {u y} hu hr=>by
  induction hr with
  | one k=>exact hcl _ hu _ k
  | step _ k ih=>
   rcases ih with h1 | h1
   ·exact .inl ((h.done _ h1).1 _ k)
   ·exact hcl _ h1 _ k
 have hmut:∀ u ∈ A ++ [v],∀ x,Zfl adj u x ↔ x ∈ A ++ [v]:=fun u hu x=>by
  constructor
  ·rintro (rfl | ⟨h1,h2⟩)
   ·exact hu
   ·rcases hCr hu h1 with h3 | h3
    ·exact absurd (hP u hu).2 (hdr h3 h2).2
    ·exact h3
  ·intro hx
   by_cases e:x=u
   ·exact .inl e
   ·refine .inr ?_
    have key:∀ a ∈ A ++ [v],∀ b ∈ A ++ [v],b≠a→Rch (EJ adj) a b:=fun a ha b hb hne=>by
     rcases hback _ a ha rfl with h1 | h1 <;> rcases hfwd b hb with h2 | h2
     ·exact absurd (h2.trans h1.symm) hne
     ·rw [h1];exact h2
     ·rw [h2];exact h1
     ·exact h1.trans h2
    exact ⟨key u hu x hx e,key x hx u hu fun e2=>e e2.symm⟩
 have hlab:∀ u ∈ A ++ [v],Zkk adj u m:=fun u hu=>⟨(hmut u hu m).2 hm,fun x hx=>hmin x ((hmut u hu x).1 hx)⟩
 have hdn:∀ d,Za2 wh B d ↔ Za2 wh (A++v :: B) d∨d ∈ A ++ [v]:=fun d=>by
  constructor
  ·rintro ⟨h1,h2⟩
   by_cases h3:d ∈ A++v :: B
   ·exact .inr ((hsplit d h3).resolve_right h2)
   ·exact .inl ⟨h1,h3⟩
  ·rintro (⟨h1,h2⟩ | h1)
   ·exact ⟨h1,fun h3=>h2 (J d h3).2⟩
   ·refine ⟨by have:=h.pos d (hP d h1).2;omega,fun h3=>?_⟩
    have:=(J d h3).1
    have:=(hP d h1).1
    omega
 have hrB:∀ r ∈ rest,r.1 ∈ B:=fun r hr=>(hsplit r.1 (h.onst r (by simp [hr]))).resolve_left fun h9=>by
  have:=(hP _ h9).1
  have:=ht1 r hr
  omega
 refine ⟨fun u hu=>h.pos u (J u hu).2,hdB.2,h.vis,fun u hu=>?_,fun u hu hp=>?_,fun d hd=>?_,hrB,fun r hr=>h.sub r (Yw _ hr),(Yq.1 h.wdec).2,fun r hr y hy hn=>?_,fun r hr u hu hp hlt hb=>?_,fun r hr u hu hle=>h.reach r (Yw _ hr) u (J u hu).2 hle,fun u hu=>?_⟩
 ·obtain ⟨h1,w,hws,h2,h3⟩:=h.low u (J u hu).2
  refine ⟨h1,w,(hsplit w hws).resolve_left fun h9=>?_,h2,h3⟩
  have:=(hP w h9).1
  have:=(J u hu).1
  omega
 ·have huv:u≠v:=fun e=>by have:=(J u hu).1;rw [e] at this;omega
  obtain ⟨h1,h2⟩:=h.fin u (J u hu).2 fun p hp2=>by
   rcases Yh.1 hp2 with rfl | hp2
   ·exact fun e=>huv e.symm
   ·exact hp p hp2
  refine ⟨h1,fun y hy=>?_⟩
  rcases h2 y hy with h3 | ⟨h3,h4⟩
  ·exact .inl ((hdn y).2 (.inl h3))
  ·rcases hsplit y h3 with h5 | h5
   ·exact .inl ((hdn y).2 (.inr h5))
   ·exact .inr ⟨h5,h4⟩
 ·rcases (hdn d).1 hd with h1 | h1
  ·have hnp:d ∉ A ++ [v]:=fun h9=>h1.2 (hP d h9).2
   obtain ⟨h2,h3⟩:=h.done d h1
   refine ⟨fun y hy=>(hdn y).2 (.inl (h2 y hy)),?_⟩
   show Zkk adj d (if d ∈ A ++ [v] then m else out d)
   rw [Ye hnp];exact h3
  ·refine ⟨fun y hy=>(hdn y).2 (hcl d h1 y hy),?_⟩
   show Zkk adj d (if d ∈ A ++ [v] then m else out d)
   rw [Yf h1];exact hlab d h1
 ·rcases h.arcs r (by simp [hr]) y hy hn with h1 | ⟨h1,h2⟩ | ⟨⟨q,hq,e2⟩,h2,h3⟩
  ·exact .inl ((hdn y).2 (.inl h1))
  ·rcases hsplit y h1 with h5 | h5
   ·exact .inl ((hdn y).2 (.inr h5))
   ·exact .inr (.inl ⟨h5,h2⟩)
  ·rcases Yh.1 hq with rfl | hq
   ·have e2:v=y:=e2
    exact .inl ((hdn y).2 (.inr (by rw [← e2];simp)))
   ·exact .inr (.inr ⟨⟨q,hq,e2⟩,h2,fun p hp=>h3 p (Yw _ hp)⟩)
 ·refine h.lows r (by simp [hr]) u (J u hu).2 (fun p hp2=>?_) hlt fun p hp2=>?_
  ·rcases Yh.1 hp2 with rfl | hp2
   ·exact fun e=>by have e:v=u:=e;have:=(J u hu).1;rw [e] at this;omega
   ·exact hp p hp2
  ·rcases Yh.1 hp2 with rfl | hp2
   ·exact fun h9=>by have h9:wh v<wh u:=h9.2;have:=(J u hu).1;omega
   ·exact hb p hp2
 ·obtain ⟨r,h1,h2⟩:=h.root u (J u hu).2
  cases rest with
  | nil=>simp at h1;rw [← h1] at h2;have:=(J u hu).1;have h2:wh v≤wh u:=h2;omega
  | cons y l=>exact ⟨r,by simpa using h1,h2⟩
end
structure ZaH where
 wh:List Int
 lo:List Int
 wait:List Int
 inn:List Int
 ck:Int
 out:List Int
def fI (l:List Int):Int→Int:=fun x=>if 0≤x then Nn l x.toNat else 0
theorem Zax {l:List Int} {x:Int} (h:0≤x):fI l x=Nn l x.toNat:=Yf h
theorem ZfB {l:List Int} {i j:Nat} {c:Int} (hi:i<l.length):Nn (l.set i c) j=if j=i then c else Nn l j:=by
 by_cases hj:j<l.length
 ·rw [nth_eq (by simpa using hj),YaK,nth_eq hj]
  by_cases e:j=i
  ·rw [Yf e,Yf e.symm]
  ·rw [Ye e,Ye fun h=>e h.symm]
 ·rw [Ye ow]
  have e1:∀ (m:List Int),m.length≤j→Nn m j=(default:Int):=fun m hm=>by
   unfold Nn
   simp [Yaf,hm]
  rw [e1 _ (by simp;omega),e1 _ ow]
theorem Zbn {l:List Int} {x c:Int} (h:0≤x∧x<l.length):fI (l.set x.toNat c)=Zbp (fI l) x c:=by
 funext y
 show (if 0≤y then Nn (l.set x.toNat c) y.toNat else 0)=if y=x then c else (if 0≤y then Nn l y.toNat else 0)
 by_cases hy:0≤y
 ·rw [Yf hy,Yf hy,ZfB ow]
  by_cases e:y=x
  ·rw [Yf e,Yf (by rw [e])]
  ·rw [Ye e,Ye ow]
 ·rw [Ye hy,Ye hy,Ye ow]
def Zj1 (n:Nat) (wh:List Int):List Nat:=(List.range n).filter fun i=>decide (Nn wh i=0)
def muW (way:ZjE):Nat:=(way.map fun r=>r.2.length+1).sum
def muU (n:Nat) (adj:Int→List Int) (wh:List Int):Nat:=((Zj1 n wh).map fun i:Nat=>(adj (i:Int)).length+2).sum
structure TI (n:Nat) (adj:Int→List Int) (s:ZaH) (way:ZjE):Prop where
 tj:Tj adj (fI s.wh) (fI s.lo) (fI s.out) s.ck s.wait.reverse way.reverse
 lw:s.wh.length=n
 ll:s.lo.length=n
 lout:s.out.length=n
 rng:∀ u ∈ s.wait,0≤u∧u<n
 up:Up n s.inn
 mem:∀ u,u ∈ s.inn ↔ u ∈ s.wait
 cnt:s.ck+(Zj1 n s.wh).length=n
def ZaC (n:Nat) (s:ZaH) (x:Int):ZaH:=⟨s.wh.set x.toNat (s.ck+1),s.lo.set x.toNat (s.ck+1),s.wait ++ [x],putL s.inn n x true,s.ck+1,s.out⟩
theorem ZhX {n:Nat} {wh:List Int} {x c:Int} (hl:wh.length=n) (hx:0≤x∧x<n) (h0:Nn wh x.toNat=0) (hc:c≠0) (f:Nat→Nat) :
  ((Zj1 n (wh.set x.toNat c)).map f).sum+f x.toNat=((Zj1 n wh).map f).sum:=by
 have hlt:x.toNat<n:=by omega
 have e:Zj1 n (wh.set x.toNat c)=(Zj1 n wh).erase x.toNat:=by
  have hn:(Zj1 n wh).Nodup:=(List.nodup_range).filter _
  rw [hn.erase_eq_filter]
  unfold Zj1
  rw [List.filter_filter]
  refine Ybq fun i hi=>?_
  rw [ZfB ow]
  by_cases e:i=x.toNat
  ·rw [Yf e];simp [e,hc]
  ·rw [Ye e];simp [e]
 have hm:x.toNat ∈ Zj1 n wh:=YH.2 ⟨Yae.2 hlt,by simpa using h0⟩
 rw [e]
 have hp:=(List.perm_cons_erase hm).map f
 have:=hp.sum_nat
 rw [this,Y8,List.sum_cons,Nat.add_comm]
theorem ZfF {n:Nat} {l:List Int} {i j:Int} {on:Bool} (hi:0≤i∧i<n):j ∈ putL l n i on ↔ (j≠i∧j ∈ l)∨(j=i∧on=true):=by
 have e:(!on || decide (i<0) || decide ((n:Int)≤i)) = !on:=by
  rw [YW ow,YW ow,Bool.or_false,Bool.or_false]
 unfold putL
 rw [Zcy,e]
 simp
theorem ZiV {n:Nat} {l:List Int} {i:Int} {on:Bool} (h:Up n l) (hi:0≤i∧i<n):Up n (putL l n i on):=by
 refine ⟨?_,fun j hj=>?_⟩
 ·unfold putL;exact Zhl _ _ _ h.1
 ·rcases (ZfF hi).1 hj with h1 | h1
  ·exact h.2 j h1.2
  ·rw [h1.1];exact hi
section
variable {n:Nat} {adj:Int→List Int} {s:ZaH} {way:ZjE} {v x:Int} {next:List Int}
theorem TI.zero (n:Nat) (adj:Int→List Int):TI n adj ⟨List.replicate n 0,List.replicate n 0,[],[],0,List.replicate n 0⟩ []:=by
 have e:fI (List.replicate n 0)=fun _=>0:=by
  funext y
  unfold fI
  split
  ·by_cases h:y.toNat<n
   ·rw [nth_eq (by simpa using h)];simp
   ·unfold Nn;simp [Yaf,show n≤y.toNat by omega]
  ·rfl
 have hu:Zj1 n (List.replicate n 0)=List.range n:=List.filter_eq_self.2 fun i hi=>by
  rw [nth_eq (by simpa using hi)];simp
 refine ⟨?_,by simp,by simp,by simp,by simp,⟨.nil,by simp⟩,by simp,?_⟩
 ·show Tj adj (fI (List.replicate n 0)) _ _ 0 [] []
  rw [e];exact Tj.zero
 ·show (0:Int)+((Zj1 n (List.replicate n 0)).length:Int)=n
  rw [hu];simp
theorem TI.unv (h:TI n adj s way) {u:Int} (hu:fI s.wh u=0):u ∉ s.wait:=fun hm=>by
 have:=h.tj.pos u (Y5.2 hm)
 omega
theorem Zfe (hx:0≤x∧x<n) (h:TI n adj s way) (h0:fI s.wh x=0):(ZaC n s x).ck+(Zj1 n (ZaC n s x).wh).length=n∧muU n adj (ZaC n s x).wh+((adj x).length+2)=muU n adj s.wh:=by
 rw [Zax hx.1] at h0
 have hc:s.ck+1≠0:=by have:=(h.tj.vis x);omega
 have h1:=ZhX h.lw hx h0 hc (fun _=>1)
 have h2:=ZhX h.lw hx h0 hc (fun i:Nat=>(adj (i:Int)).length+2)
 have e:∀ l:List Nat,(l.map fun _=>1).sum=l.length:=fun l=>by
  induction l with
  | nil=>rfl
  | cons y l ih=>rw [Y8,List.sum_cons,ih,Yx];omega
 rw [e,e] at h1
 have hx2:((x.toNat:Nat):Int)=x:=by omega
 rw [hx2] at h2
 have:=h.cnt
 unfold ZaC muU
 dsimp only
 exact ⟨by omega,h2⟩
theorem Zf7 (hx:0≤x∧x<n) (h:TI n adj s way):(∀ u ∈ (ZaC n s x).wait,0≤u∧u<n)∧Up n (ZaC n s x).inn ∧ ∀ u,u ∈ (ZaC n s x).inn ↔ u ∈ (ZaC n s x).wait:=by
 refine ⟨fun u hu=>?_,ZiV h.up hx,fun u=>?_⟩
 ·rcases Yu.1 hu with h1 | h1
  ·exact h.rng u h1
  ·rw [Yd.1 h1];exact hx
 ·show u ∈ putL s.inn n x true ↔ u ∈ s.wait ++ [x]
  rw [ZfF hx,h.mem u,Yu,Yd]
  by_cases e:u=x
  ·simp [e]
  ·simp [e]
theorem TI.first (hx:0≤x∧x<n) (h:TI n adj s []) (h0:fI s.wh x=0):TI n adj (ZaC n s x) [(x,adj x)]:=by
 have hw:s.wait = []:=by
  cases hc:s.wait with
  | nil=>rfl
  | cons y l=>
   obtain ⟨r,hr,_⟩:=h.tj.root y (Y5.2 (by rw [hc];simp))
   cases hr
 have htj:=h.tj
 rw [hw] at htj
 obtain ⟨r1',r2',r3'⟩:=Zf7 hx h
 refine ⟨?_,by simp [ZaC,h.lw],by simp [ZaC,h.ll],h.lout,r1',r2',r3',(Zfe hx h h0).1⟩
 show Tj adj (fI (s.wh.set _ _)) (fI (s.lo.set _ _)) _ _ (s.wait ++ [x]).reverse _
 rw [hw,Zbn (by rw [h.lw];exact hx),Zbn (by rw [h.ll];exact hx)]
 exact htj.first h0
theorem TI.meet (hadj:∀ u y,y ∈ adj u→0≤y∧y<(n:Int)) (h:TI n adj s (way ++ [(v,x :: next)])) (h0:fI s.wh x=0):TI n adj (ZaC n s x) (way ++ [(v,next)] ++ [(x,adj x)]):=by
 have hx:0≤x∧x<n:=hadj v x (h.tj.sub (v,x :: next) (by simp) x (by simp))
 have htj:=h.tj
 rw [Y3] at htj
 obtain ⟨r1',r2',r3'⟩:=Zf7 hx h
 refine ⟨?_,by simp [ZaC,h.lw],by simp [ZaC,h.ll],h.lout,r1',r2',r3',(Zfe hx h h0).1⟩
 show Tj adj (fI (s.wh.set _ _)) (fI (s.lo.set _ _)) _ _ (s.wait ++ [x]).reverse _
 rw [Zbn (by rw [h.lw];exact hx),Zbn (by rw [h.ll];exact hx),Y3,Y3,Y3]
 exact htj.meet h0
theorem TI.wait (hv:0≤v∧v<n) (h:TI n adj s (way ++ [(v,x :: next)])) (hx:x ∈ s.inn):TI n adj { s with lo:=s.lo.set v.toNat (min (fI s.lo v) (fI s.wh x)) } (way ++ [(v,next)]):=by
 have htj:=h.tj
 rw [Y3] at htj
 refine ⟨?_,h.lw,by simp [h.ll],h.lout,h.rng,h.up,h.mem,h.cnt⟩
 show Tj adj _ (fI (s.lo.set _ _)) _ _ _ _
 rw [Zbn (by rw [h.ll];exact hv),Y3]
 exact htj.pass (.inr ⟨Y5.2 ((h.mem x).1 hx),rfl⟩)
theorem TI.past (h:TI n adj s (way ++ [(v,x :: next)])) (h0:fI s.wh x≠0) (hx:x ∉ s.inn):TI n adj s (way ++ [(v,next)]):=by
 have htj:=h.tj
 rw [Y3] at htj
 refine ⟨?_,h.lw,h.ll,h.lout,h.rng,h.up,h.mem,h.cnt⟩
 have h1:=htj.pass (c:=fI s.lo v) (.inl ⟨⟨h0,fun hm=>hx ((h.mem x).2 (Y5.1 hm))⟩,rfl⟩)
 have e:Zbp (fI s.lo) v (fI s.lo v)=fI s.lo:=by
  funext y;unfold Zbp;split
  ·rename_i e;rw [e]
  ·rfl
 rw [e] at h1
 rw [Y3];exact h1
def partL (wait:List Int) (v:Int):List Int:=(wait.reverse.takeWhile fun y=>decide (y≠v)) ++ [v]
def keepL (wait:List Int) (v:Int):List Int:=((wait.reverse.dropWhile fun y=>decide (y≠v)).drop 1).reverse
theorem Ze6 {wait:List Int} {v:Int} (h:v ∈ wait):wait.reverse=(wait.reverse.takeWhile fun y=>decide (y≠v))++v :: (keepL wait v).reverse:=by
 have h1:=List.takeWhile_append_dropWhile (p:=fun y=>decide (y≠v)) (l:=wait.reverse)
 have h2:∃ t,wait.reverse.dropWhile (fun y=>decide (y≠v))=v :: t:=by
  have key:∀ l:List Int,v ∈ l → ∃ t,l.dropWhile (fun y=>decide (y≠v))=v :: t:=by
   intro l
   induction l with
   | nil=>intro h;cases h
   | cons y l ih=>
    intro h
    by_cases e:y=v
    ·rw [List.dropWhile_cons_of_neg (by simpa using e),e];exact ⟨l,rfl⟩
    ·rw [List.dropWhile_cons_of_pos (by simpa using e)]
     exact ih ((Yh.1 h).resolve_left fun h9=>e h9.symm)
  exact key _ (Y5.2 h)
 obtain ⟨t,h2⟩:=h2
 unfold keepL
 rw [h2] at h1 ⊢
 rw [List.reverse_reverse]
 exact h1.symm
def Zpf (m:Int) (l:List Int):Prop:=m ∈ l ∧ ∀ x ∈ l,m≤x
def outL (part:List Int) (m:Int) (out:List Int):List Int:=part.foldl (fun o y=>o.set y.toNat m) out
def innL (n:Nat) (part:List Int) (inn:List Int):List Int:=part.foldl (fun l y=>putL l n y false) inn
theorem ZfR (m:Int):∀ (part out:List Int),(outL part m out).length=out.length
 | [],out=>rfl
 | y :: part,out=>by
  have:=ZfR m part (out.set y.toNat m)
  rw [YM] at this
  exact this
theorem ZlB (m:Int):∀ (part out:List Int),(∀ y ∈ part,0≤y∧y<out.length)→fI (outL part m out)=fun u=>if u ∈ part then m else fI out u
 | [],out,_=>by funext u;simp [outL]
 | y :: part,out,h=>by
  have h1:=h y (by simp)
  have ih:=ZlB m part (out.set y.toNat m) fun z hz=>by rw [YM];exact h z (by simp [hz])
  have e:outL (y :: part) m out=outL part m (out.set y.toNat m):=rfl
  rw [e,ih,Zbn h1]
  funext u
  unfold Zbp
  by_cases e1:u ∈ part
  ·rw [Yf e1,Yf (by simp [e1])]
  ·rw [Ye e1]
   by_cases e2:u=y
   ·rw [Yf e2,Yf (by simp [e2])]
   ·rw [Ye e2,Ye (by simp [e1,e2])]
theorem ZkD (n:Nat):∀ (part inn:List Int),(∀ y ∈ part,0≤y∧y<(n:Int))→Up n inn→Up n (innL n part inn) ∧ ∀ u,u ∈ innL n part inn ↔ u ∈ inn∧u ∉ part
 | [],inn,_,hu=>⟨hu,fun u=>by simp [innL]⟩
 | y :: part,inn,h,hu=>by
  have h1:=h y (by simp)
  obtain ⟨i1,i2⟩:=ZkD n part (putL inn n y false) (fun z hz=>h z (by simp [hz])) (ZiV hu h1)
  have e:innL n (y :: part) inn=innL n part (putL inn n y false):=rfl
  rw [e]
  refine ⟨i1,fun u=>?_⟩
  rw [i2,ZfF h1]
  simp
  constructor
  ·rintro ⟨⟨h2,h3⟩,h4⟩;exact ⟨h3,h2,h4⟩
  ·rintro ⟨h3,h2,h4⟩;exact ⟨⟨h2,h3⟩,h4⟩
def ZkO (n:Nat) (s:ZaH) (v m:Int):ZaH:={ s with wait:=keepL s.wait v,inn:=innL n (partL s.wait v) s.inn,out:=outL (partL s.wait v) m s.out }
theorem TI.part {m:Int} (h:TI n adj s (way ++ [(v,[])])) (hlo:fI s.lo v=fI s.wh v) (hm:Zpf m (partL s.wait v)):TI n adj (ZkO n s v m) way:=by
 have htj:=h.tj
 rw [Y3] at htj
 have hvw:v ∈ s.wait:=Y5.1 (htj.onst (v,[]) (by simp))
 have hsp:=Ze6 hvw
 rw [hsp] at htj
 have hpr:∀ y ∈ partL s.wait v,0≤y∧y<(n:Int):=fun y hy=>by
  refine h.rng y (Y5.1 ?_)
  rw [hsp]
  unfold partL at hy
  rcases Yu.1 hy with h1 | h1
  ·exact Y6 _ h1
  ·rw [Yd.1 h1];simp
 have hnew:=htj.part hlo hm.1 hm.2
 obtain ⟨i1,i2⟩:=ZkD n (partL s.wait v) s.inn hpr h.up
 have hsub:∀ u ∈ keepL s.wait v,u ∈ s.wait:=fun u hu=>Y5.1 (by rw [hsp];simp [hu])
 refine ⟨?_,h.lw,h.ll,by show (outL _ _ _).length=n;rw [ZfR];exact h.lout,fun u hu=>h.rng u (hsub u hu),i1,fun u=>?_,h.cnt⟩
 ·show Tj adj (fI s.wh) (fI s.lo) (fI (outL (partL s.wait v) m s.out)) s.ck (keepL s.wait v).reverse way.reverse
  rw [ZlB m _ _ fun y hy=>by rw [h.lout];exact hpr y hy]
  exact hnew
 ·show u ∈ innL n (partL s.wait v) s.inn ↔ u ∈ keepL s.wait v
  rw [i2,h.mem]
  have hd:=htj.dec
  constructor
  ·rintro ⟨h1,h2⟩
   have h3:u ∈ s.wait.reverse:=Y5.2 h1
   rw [hsp] at h3
   unfold partL at h2
   rcases Yu.1 h3 with h4 | h4
   ·exact absurd (Y6 _ h4) h2
   ·rcases Yh.1 h4 with h4 | h4
    ·exact absurd (YO _ (by simp [h4])) h2
    ·exact Y5.1 h4
  ·intro hu
   refine ⟨hsub u hu,fun h2=>?_⟩
   have hur:u ∈ (keepL s.wait v).reverse:=Y5.2 hu
   obtain ⟨_,d2,d3⟩:=Ybs.1 hd
   unfold partL at h2
   rcases Yu.1 h2 with h4 | h4
   ·have:=d3 u h4 u (Yw _ hur);omega
   ·have:=(Yq.1 d2).1 u hur
    rw [Yd.1 h4] at this;omega
theorem TI.stay {u0:Int} {nx:List Int} (hu:0≤u0∧u0<n) (h:TI n adj s (way ++ [(u0,nx)] ++ [(v,[])])) (hlo:fI s.lo v≠fI s.wh v):TI n adj { s with lo:=s.lo.set u0.toNat (min (fI s.lo u0) (fI s.lo v)) } (way ++ [(u0,nx)]):=by
 have htj:=h.tj
 rw [Y3,Y3] at htj
 refine ⟨?_,h.lw,by simp [h.ll],h.lout,h.rng,h.up,h.mem,h.cnt⟩
 show Tj adj _ (fI (s.lo.set _ _)) _ _ _ _
 rw [Zbn (by rw [h.ll];exact hu),Y3]
 exact htj.stay hlo
theorem TI.root (h:TI n adj s [(v,[])]):fI s.lo v=fI s.wh v:=by
 have hvs:=h.tj.onst (v,[]) (by simp)
 obtain ⟨h1,w,hw,h2,_⟩:=h.tj.low v hvs
 obtain ⟨r,h3,h4⟩:=h.tj.root w hw
 have:r=(v,[]):=by simpa using h3.symm
 rw [this] at h4
 have h4:fI s.wh v≤fI s.wh w:=h4
 omega
theorem TI.same {u0:Int} {nx:List Int} (h:TI n adj s (way ++ [(u0,nx)] ++ [(v,[])])) (hlo:fI s.lo v=fI s.wh v):min (fI s.lo u0) (fI s.lo v)=fI s.lo u0:=by
 have htj:=h.tj
 rw [Y3,Y3] at htj
 have h1:=htj.above.1
 have h2:=(htj.low u0 (htj.onst (u0,nx) (by simp))).1
 omega
end
theorem Znw {P:Int→Prop} (h0:∀ x,P x→0≤x) {u:Int} (hu:P u):∃ m,P m ∧ ∀ x,P x→m≤x:=by
 apply Classical.byContradiction
 intro hn
 have key:∀ k:Nat,∀ x,P x→(k:Int)≤x:=by
  intro k
  induction k with
  | zero=>intro x hx;exact h0 x hx
  | succ k ih=>
   intro x hx
   have h1:=ih x hx
   by_cases e:x=k
   ·exact absurd ⟨x,hx,fun y hy=>by have:=ih y hy;omega⟩ hn
   ·omega
 have h1:=key (u.toNat+1) u hu
 have h2:=h0 u hu
 omega
theorem Zhs {P:Nat→Int→Prop} : ∀ n:Nat,(∀ u,u<n → ∃ m,P u m) → ∃ L:List Int,L.length=n ∧ ∀ u,u<n→P u (Nn L u)
 | 0,_=>⟨[],rfl,fun u hu=>absurd hu (YaH u)⟩
 | n+1,h=>by
  obtain ⟨L,h1,h2⟩:=Zhs n fun u hu=>h u ow
  obtain ⟨m,hm⟩:=h n ow
  refine ⟨L ++ [m],by simp [h1],fun u hu=>?_⟩
  rw [nth_eq (by simp;omega)]
  by_cases e:u<n
  ·rw [Yaq ow,← nth_eq ow];exact h2 u e
  ·have e:u=L.length:=by omega
   subst e
   rw [List.getElem_append_right ow];simpa [h1] using hm
def ZcQ (adj:Int→List Int) (n:Nat) (L:List Int):Prop:=L.length=n ∧ ∀ u:Nat,u<n→Zkk adj (u:Int) (Nn L u)
theorem ZfH {E:Int→Int→Prop} {a b:Int} (h:Rch E a b):∃ c,E c b:=by
 cases h with
 | one k=>exact ⟨_,k⟩
 | step _ k=>exact ⟨_,k⟩
theorem Zom {adj:Int→List Int} (n:Nat) (hadj:∀ u y,y ∈ adj u→0≤y):∃ L,ZcQ adj n L:=by
 refine Zhs n fun u _=>Znw (P:=Zfl adj (u:Int)) (fun x hx=>?_) (.inl V)
 rcases hx with h | ⟨h,_⟩
 ·omega
 ·obtain ⟨c,k⟩:=ZfH h;exact hadj c x k
theorem Zkk.one {adj:Int→List Int} {u a b:Int} (h:Zkk adj u a) (k:Zkk adj u b):a=b:=Int.le_antisymm (h.2 b k.1) (k.2 a h.1)
theorem Zfl.symm {adj:Int→List Int} {u x:Int} (h:Zfl adj u x):Zfl adj x u:=h.elim (fun e=>.inl e.symm) fun e=>.inr ⟨e.2,e.1⟩
theorem Zfl.trans {adj:Int→List Int} {u x y:Int} (h:Zfl adj u x) (k:Zfl adj x y):Zfl adj u y:=by
 rcases h with rfl | ⟨h1,h2⟩
 ·exact k
 ·rcases k with rfl | ⟨k1,k2⟩
  ·exact .inr ⟨h1,h2⟩
  ·exact .inr ⟨h1.trans k1,k2.trans h2⟩
theorem Zkk.same {adj:Int→List Int} {u v a b:Int} (h:Zkk adj u a) (k:Zkk adj v b):a=b ↔ Zfl adj u v:=by
 constructor
 ·intro e;subst e;exact h.1.trans k.1.symm
 ·intro m
  exact Int.le_antisymm (h.2 b (m.trans k.1)) (k.2 a (m.symm.trans h.1))
theorem ZcQ.one {adj:Int→List Int} {n:Nat} {L M:List Int} (h:ZcQ adj n L) (k:ZcQ adj n M):L=M:=by
 refine Zcj (by rw [h.1,k.1]) fun j hj=>?_
 rw [h.1] at hj
 exact (h.2 j hj).one (k.2 j hj)
theorem TI.labs {n:Nat} {adj:Int→List Int} {s:ZaH} (h:TI n adj s []) (hv:∀ u:Nat,u<n→Nn s.wh u≠0):ZcQ adj n s.out:=by
 refine ⟨h.lout,fun u hu=>?_⟩
 have hd:Za2 (fI s.wh) s.wait.reverse (u:Int):=by
  refine ⟨by rw [Zax ow];exact hv u ow,fun hm=>?_⟩
  obtain ⟨r,hr,_⟩:=h.tj.root _ hm
  cases hr
 have:=(h.tj.done _ hd).2
 rw [Zax ow] at this
 exact this
theorem ZcZ {n:Nat} {l:List Int} (hnd:l.Nodup) (h:∀ y ∈ l,0≤y∧y<n):l.length≤n:=by
 have hn2:l.Nodup→(∀ y ∈ l,y ∈ (List.range n).map fun i:Nat=>(i:Int))→l.length≤((List.range n).map fun i:Nat=>(i:Int)).length:=fun a b=>List.Nodup.length_le_of_subset a b
 have:=hn2 hnd fun y hy=>YD.2 ⟨y.toNat,Yae.2 (by have:=h y hy;omega),by have:=h y hy;omega⟩
 simpa using this
def Zg7:List Int→Int
 | []=>0
 | x :: l=>l.foldl min x
theorem ZkH {l:List Int} (h:l≠[]):Zpf (Zg7 l) l:=by
 have key:∀ (l:List Int) (x:Int),(l.foldl min x=x∨l.foldl min x ∈ l)∧l.foldl min x≤x ∧ ∀ y ∈ l,l.foldl min x≤y:=by
  intro l
  induction l with
  | nil=>intro x;exact ⟨.inl rfl,Yak _,by simp⟩
  | cons a l ih=>
   intro x
   obtain ⟨h1,h2,h3⟩:=ih (min x a)
   rw [Ybd]
   refine ⟨?_,by omega,fun y hy=>?_⟩
   ·rcases h1 with h1 | h1
    ·rw [h1]
     by_cases e:x≤a
     ·left;omega
     ·right;have:min x a=a:=by omega
      rw [this];simp
    ·right;simp [h1]
   ·rcases Yh.1 hy with rfl | hy
    ·omega
    ·exact h3 y hy
 cases l with
 | nil=>exact absurd rfl h
 | cons x l=>
  obtain ⟨h1,h2,h3⟩:=key l x
  refine ⟨?_,fun y hy=>?_⟩
  ·show l.foldl min x ∈ x :: l
   rcases h1 with h1 | h1
   ·rw [h1];simp
   ·simp [h1]
  ·rcases Yh.1 hy with rfl | hy
   ·exact h2
   ·exact h3 y hy
def leaveD (n:Nat) (s:ZaH) (v:Int):ZaH:=if fI s.lo v=fI s.wh v then ZkO n s v (Zg7 (partL s.wait v)) else s
theorem Zem (n:Nat) (s:ZaH) (v:Int):(leaveD n s v).wh=s.wh∧(leaveD n s v).lo=s.lo:=by unfold leaveD;split <;> exact ⟨rfl,rfl⟩
theorem Ze8 (w:List Int) (v:Int):partL w v≠[]:=by unfold partL;simp
theorem ZnQ {w:List Int} {k:Nat} {v:Int} (hk:k<w.length) (hn:v ∉ w.reverse.take k) (hv:Nn w (w.length - (k+1))=v):w.reverse.take k ++ [v] = partL w v∧w.take (w.length - (k+1))=keepL w v:=by
 have e0:Nn w.reverse k=v:=by
  rw [nth_eq (by simpa using hk),List.getElem_reverse,← hv,nth_eq ow]
  congr 1;omega
 have e1:w.reverse=w.reverse.take k++v :: w.reverse.drop (k+1):=by
  conv=>lhs;rw [← YaC k w.reverse]
  rw [Ya7 (by simpa using hk),← nth_eq (by simpa using hk),e0]
 have key:∀ (a b:List Int),v ∉ a→(a++v :: b).takeWhile (fun y=>decide (y≠v))=a∧(a++v :: b).dropWhile (fun y=>decide (y≠v))=v :: b:=by
  intro a b
  induction a with
  | nil=>intro _;simp
  | cons x a ih=>
   intro h
   have h1:x≠v:=fun e=>h (by simp [e])
   obtain ⟨i1,i2⟩:=ih fun h2=>h (by simp [h2])
   rw [YaV,Ya2 (by simpa using h1),List.dropWhile_cons_of_pos (by simpa using h1),i1,i2]
   exact ⟨rfl,rfl⟩
 obtain ⟨k1,k2⟩:=key _ (w.reverse.drop (k+1)) hn
 rw [← e1] at k1 k2
 unfold partL keepL
 rw [k1,k2]
 refine ⟨rfl,?_⟩
 show _=(w.reverse.drop (k+1)).reverse
 rw [List.drop_reverse,List.reverse_reverse]
theorem Zh5 {w:List Int} {k:Nat} (hk:k<w.length):w.reverse.take k ++ [Nn w (w.length - (k+1))] = w.reverse.take (k+1)∧w.take (w.length - k)=w.take (w.length - (k+1)) ++ [Nn w (w.length - (k+1))]:=by
 constructor
 ·rw [ZE (by simpa using hk)]
  congr 2
  rw [nth_eq ow,nth_eq (by simpa using hk),List.getElem_reverse]
  congr 1;omega
 ·conv=>lhs;rw [show w.length - k=w.length - (k+1)+1 by omega]
  exact ZE ow
section
variable {n:Nat} {adj:Int→List Int} {s:ZaH} {way:ZjE} {v u:Int} {nx:List Int}
theorem ZmK {l:List Int} {i:Nat} : l.set i (Nn l i)=l:=by
 apply Y4 (by simp)
 intro j h1 h2
 rw [YaK]
 split
 ·rename_i e;subst e;rw [nth_eq h2]
 ·rfl
theorem TI.leftRoot (h:TI n adj s [(v,[])]):TI n adj (leaveD n s v) []:=by
 unfold leaveD
 rw [Yf h.root]
 exact TI.part (way:=[]) h h.root (ZkH (Ze8 _ _))
theorem TI.left (hu:0≤u∧u<n) (h:TI n adj s (way ++ [(u,nx)] ++ [(v,[])])):TI n adj { leaveD n s v with lo:=(leaveD n s v).lo.set u.toNat (min (fI s.lo u) (fI s.lo v)) } (way ++ [(u,nx)]):=by
 unfold leaveD
 by_cases e:fI s.lo v=fI s.wh v
 ·rw [Yf e]
  have h1:=TI.part (way:=way ++ [(u,nx)]) h e (ZkH (Ze8 _ _))
  have h2:=h.same e
  rw [h2,Zax hu.1]
  have:(ZkO n s v (Zg7 (partL s.wait v))).lo=s.lo:=rfl
  rw [this,ZmK]
  exact h1
 ·rw [Ye e];exact h.stay hu e
theorem TI.nodes (h:TI n adj s way):∀ r ∈ way,r.1 ∈ s.wait∧0≤r.1∧r.1<n:=fun r hr=>by
 have:=Y5.1 (h.tj.onst r (Y5.2 hr))
 exact ⟨this,h.rng _ this⟩
theorem TI.wayLen (h:TI n adj s way):way.length≤n:=by
 have h1:(way.reverse.map Prod.fst).Nodup:=by
  rw [List.Nodup,List.pairwise_map]
  exact h.tj.wdec.imp fun h e=>by rw [e] at h;omega
 have:=ZcZ h1 fun y hy=>by
  obtain ⟨r,hr,rfl⟩:=YD.1 hy
  exact (h.nodes r (Y5.1 hr)).2
 simpa using this
theorem TI.waitNd (h:TI n adj s way):s.wait.Nodup:=by
 have:s.wait.reverse.Nodup:=h.tj.dec.imp fun h e=>by rw [e] at h;omega
 exact (List.pairwise_reverse.1 this).imp fun h=>h.symm
theorem TI.waitLe (h:TI n adj s way):s.wait.length≤n:=ZcZ h.waitNd h.rng
theorem TI.waitLt (h:TI n adj s way) (hu:0≤u∧u<n) (h0:fI s.wh u=0):s.wait.length<n:=by
 have:=ZcZ (n:=n) (l:=u :: s.wait) (YaF.2 ⟨h.unv h0,h.waitNd⟩) fun y hy=>by
  rcases Yh.1 hy with rfl | hy
  ·exact hu
  ·exact h.rng y hy
 rw [Yx] at this;omega
theorem TI.ckLe (h:TI n adj s way):0≤s.ck∧s.ck≤n:=by
 have h1:=h.cnt
 have h2:=h.tj.vis 0
 omega
theorem ZaT (way:ZjE) (r:Int×List Int):muW (way ++ [r])=muW way+(r.2.length+1):=by
 unfold muW;simp
theorem Zkr (hx:0≤v∧v<n) (h:TI n adj s way) (y:Int):fI (ZaC n s v).wh y=if y=v then s.ck+1 else fI s.wh y:=by
 show fI (s.wh.set _ _) y=_
 rw [Zbn (by rw [h.lw];exact hx)];rfl
end
theorem Zm6 {α:Type} {l:List α} {x y:α} : (l ++ [x]).set l.length y=l ++ [y]:=by simp
theorem ZkW {part:List Int} {m:Int} {out:List Int} {i:Nat} (h:i<part.length):(outL (part.take i) m out).set (Nn part i).toNat m=outL (part.take (i+1)) m out:=by
 unfold outL
 rw [ZE h,List.foldl_append];rfl
theorem ZlF {n:Nat} {part:List Int} {y:Int} {inn:List Int} : putL (innL n part inn) n y false=innL n (part ++ [y]) inn:=by
 unfold innL
 rw [List.foldl_append];rfl
theorem ZmE {w:List Int} {v y:Int} (hv:v ∈ w) (h:y ∈ partL w v):y ∈ w:=by
 have hs:=Ze6 hv
 refine Y5.1 ?_
 rw [hs]
 unfold partL at h
 rcases Yu.1 h with h1 | h1
 ·exact Y6 _ h1
 ·rw [Yd.1 h1];simp
theorem ZkT {w:List Int} {v:Int} {j:Nat} (hv:v ∈ w) (h:v ∉ w.reverse.take j):j<w.length:=by
 refine Nat.lt_of_not_le fun hj=>h ?_
 rw [YL (by simpa using hj)];exact Y5.2 hv
theorem Zk9 {l:List Int} {i:Nat} (h1:1≤i) (h2:i<l.length):(if Nn l i<Zg7 (l.take i) then Nn l i else Zg7 (l.take i))=Zg7 (l.take (i+1)):=by
 rw [ZE h2]
 cases l with
 | nil=>simp at h2
 | cons x l=>
  obtain ⟨j,rfl⟩:∃ j,i=j+1:=⟨i - 1,by omega⟩
  rw [List.take_succ_cons,YaV]
  show _=(l.take j ++ [_]).foldl min x
  rw [List.foldl_append]
  show (if _<(l.take j).foldl min x then _ else (l.take j).foldl min x)=min ((l.take j).foldl min x) _
  split <;> omega
theorem ZmS {l:List Int} (h:l≠[]):Nn l 0=Zg7 (l.take 1):=by
 cases l with
 | nil=>exact absurd rfl h
 | cons x l=>rw [nth_eq (by simp)];rfl
theorem Znm (a b:Int):(if b<a then b else a)=min a b:=by split <;> omega
theorem Zk0 {α:Type} {l:List α} (h:l≠[]):∃ m r,l=m ++ [r]:=⟨l.dropLast,l.getLast h,(List.dropLast_concat_getLast h).symm⟩
theorem Zmc {α:Type} [Inhabited α] {l:List α} {x:α} : Nn (x :: l) 0=x:=by rw [nth_eq (by simp)];rfl
def FrI (n:Nat) (adj:Int→List Int) (w0:List Int) (x:Int) (q:ZaH) (way:ZjE):Prop:=TI n adj q way∧fI q.wh x≠0 ∧ ∀ y,fI w0 y≠0→fI q.wh y≠0
def muF (n:Nat) (adj:Int→List Int) (q:ZaH) (way:ZjE):Nat:=muW way+muU n adj q.wh
section
variable {n:Nat} {adj:Int→List Int} {w0:List Int} {x:Int} {q:ZaH} {way:ZjE} {v u y:Int} {nx nu:List Int}
theorem Zdw (hx:0≤v∧v<n) (h:TI n adj q way):fI (ZaC n q v).wh v≠0 ∧ ∀ y,fI q.wh y≠0→fI (ZaC n q v).wh y≠0:=by
 have hc:=h.ckLe
 refine ⟨by rw [Zkr hx h,Yf rfl];omega,fun y hy=>?_⟩
 rw [Zkr hx h]
 split
 ·omega
 ·exact hy
theorem FrI.start (hx:0≤x∧x<n) (h:TI n adj q []) (h0:fI q.wh x=0):FrI n adj q.wh x (ZaC n q x) [(x,adj x)]:=⟨h.first hx h0,(Zdw hx h).1,(Zdw hx h).2⟩
theorem FrI.root (h:FrI n adj w0 x q [(v,[])]):FrI n adj w0 x (leaveD n q v) []∧muF n adj (leaveD n q v) [] < muF n adj q [(v,[])]:=by
 obtain ⟨h1,h2,h3⟩:=h
 have e:=(Zem n q v).1
 refine ⟨⟨h1.leftRoot,by rw [e];exact h2,fun y hy=>by rw [e];exact h3 y hy⟩,?_⟩
 unfold muF muW
 rw [e];simp
theorem FrI.left (h:FrI n adj w0 x q (way ++ [(u,nu)] ++ [(v,[])])):FrI n adj w0 x { leaveD n q v with lo:=(leaveD n q v).lo.set u.toNat (min (fI q.lo u) (fI q.lo v)) } (way ++ [(u,nu)])∧muF n adj { leaveD n q v with lo:=(leaveD n q v).lo.set u.toNat (min (fI q.lo u) (fI q.lo v)) } (way ++ [(u,nu)])<muF n adj q (way ++ [(u,nu)] ++ [(v,[])]):=by
 obtain ⟨h1,h2,h3⟩:=h
 have e:=(Zem n q v).1
 refine ⟨⟨h1.left (h1.nodes (u,nu) (by simp)).2,by show fI (leaveD n q v).wh x≠0;rw [e];exact h2,fun y hy=>by show fI (leaveD n q v).wh y≠0;rw [e];exact h3 y hy⟩,?_⟩
 show muW _+muU n adj (leaveD n q v).wh<muW _+muU n adj q.wh
 rw [e,ZaT (way ++ [(u,nu)])];omega
theorem FrI.meet (hadj:∀ u y,y ∈ adj u→0≤y∧y<(n:Int)) (h:FrI n adj w0 x q (way ++ [(v,y :: nx)])) (h0:fI q.wh y=0):FrI n adj w0 x (ZaC n q y) (way ++ [(v,nx)] ++ [(y,adj y)])∧muF n adj (ZaC n q y) (way ++ [(v,nx)] ++ [(y,adj y)])<muF n adj q (way ++ [(v,y :: nx)]):=by
 obtain ⟨h1,h2,h3⟩:=h
 have hy:0≤y∧y<n:=hadj v y (h1.tj.sub (v,y :: nx) (by simp) y (by simp))
 refine ⟨⟨h1.meet hadj h0,(Zdw hy h1).2 x h2,fun z hz=>(Zdw hy h1).2 z (h3 z hz)⟩,?_⟩
 have:=(Zfe hy h1 h0).2
 unfold muF
 rw [ZaT,ZaT,ZaT,Yx]
 dsimp only
 omega
theorem FrI.wait (h:FrI n adj w0 x q (way ++ [(v,y :: nx)])) (hx:y ∈ q.inn):FrI n adj w0 x { q with lo:=q.lo.set v.toNat (min (fI q.lo v) (fI q.wh y)) } (way ++ [(v,nx)])∧muF n adj { q with lo:=q.lo.set v.toNat (min (fI q.lo v) (fI q.wh y)) } (way ++ [(v,nx)])<muF n adj q (way ++ [(v,y :: nx)]):=by
 obtain ⟨h1,h2,h3⟩:=h
 refine ⟨⟨h1.wait (h1.nodes (v,y :: nx) (by simp)).2 hx,h2,h3⟩,?_⟩
 show muW _+muU n adj q.wh<muW _+muU n adj q.wh
 rw [ZaT,ZaT,Yx];dsimp only;omega
theorem FrI.past (h:FrI n adj w0 x q (way ++ [(v,y :: nx)])) (h0:fI q.wh y≠0) (hx:y ∉ q.inn):FrI n adj w0 x q (way ++ [(v,nx)])∧muF n adj q (way ++ [(v,nx)])<muF n adj q (way ++ [(v,y :: nx)]):=by
 obtain ⟨h1,h2,h3⟩:=h
 refine ⟨⟨h1.past h0 hx,h2,h3⟩,?_⟩
 unfold muF
 rw [ZaT,ZaT,Yx];dsimp only;omega
end
def Zex (x:Int):List PV:=[.int .i32 x]
def Zg6 (p:Int×List Int):List PV:=[.int .i64 p.1,.sl Zk p.2]
def ZoX (cl:PV) (n:Nat) (s:ZaH) (v wv lv sv iv ov:Value):List RS:=[.pt (.val v) 85 [.pv cl,.pv (.is wv),.pv (.is lv),.pv (.is sv),.pv (.is iv),.pv (.int .i32 s.ck),.pv (.is ov)],.ob (.val wv) (Zo 21 1 Zex s.wh),.ob (.val lv) (Zo 21 1 Zex s.lo),RS.hp (stH sv n s.wait),RS.hp (Ze0 n s.inn iv),.ob (.val ov) (Zo 3 1 Zk s.out)]
def Zbk (cl:PV) (n:Nat) (s:ZaH) (v:Value):HP:=.ex fun wv:Value=>.ex fun lv:Value=>.ex fun sv:Value=>.ex fun iv:Value=>.ex fun ov:Value=>.star (ZoX cl n s v wv lv sv iv ov)
theorem ZlO {x:Int} (h : -2147483648≤x∧x≤2147483647):IntKind.wrap .i32 x=x:=ZdG ⟨by simp [IntKind.min,IntKind.signed,IntKind.bits];omega,by simp [IntKind.max,IntKind.signed,IntKind.bits];omega⟩
theorem Zny (b : Nat) (n : Nat) (adj : Int → List Int) (f : FuncId) (fn : Func) (cps : List PV) (hf : prog.funcs[f]? = some fn) (hb : fn.body.isSome = true) (hnn : (fn.name == "runtime.NumGoroutine") = false) (hw : ∀ u, 0 ≤ u ∧ u < (n : Int) → FnP prog f ([.int .i64 u] ++ cps) (.sl Zk (adj u))) (sd : ZaH) (x : Int) (hx1 : 0 ≤ x) (hx2 : x < n) (hn : n ≤ 4096) (hlw : sd.wh.length = n) (hll : sd.lo.length = n) (hck : 0 ≤ sd.ck ∧ sd.ck ≤ n) (hwt : sd.wait.length < n) : FnG prog 66 1 [.is (.pointer (some ⟨b, 0, none⟩)), .int .i64 x] [Zbk (.clos f cps) n sd (.pointer (some ⟨b, 0, none⟩))] (.agg (Zg6 (x, adj x))) (fun _ => [Zbk (.clos f cps) n (ZaC n sd x) (.pointer (some ⟨b, 0, none⟩))]) := by
 refine FnG.mk func66 V ntmps66 V kr fun B F0 a w F J hG G=>Ya ?_
 obtain ⟨wv,G⟩:=G.open_ex 1 rfl
 obtain ⟨lv,G⟩:=G.open_ex 1 rfl
 obtain ⟨sv,G⟩:=G.open_ex 1 rfl
 obtain ⟨iv,G⟩:=G.open_ex 1 rfl
 obtain ⟨ov,G⟩:=G.open_ex 1 rfl
 obtain ⟨F,G⟩:=G.peel 1 2 V rfl
 obtain ⟨F,G⟩:=G.peel 1 3 V rfl
 obtain ⟨F,G⟩:=G.peel 1 4 V rfl
 obtain ⟨F,G⟩:=G.peel 1 5 V rfl
 obtain ⟨F,G⟩:=G.peel 1 6 V rfl
 obtain ⟨F,G⟩:=G.peel 1 7 V rfl
 replace G:=G.turn 5 V (r':=.ob (.val sv) (fun v=>stH v n sd.wait)) (fun _ _ _ _ h=>h)
 obtain ⟨_,_,_,ho⟩:=G.obGet 5 rfl
 obtain ⟨sb,rfl⟩:=ZcS ho
 clear ho
 replace G:=G.turn 6 V (r':=.ob (.val iv) (Ze0 n sd.inn)) (fun _ _ _ _ h=>h)
 obtain ⟨_,_,_,ho⟩:=G.obGet 6 rfl
 obtain ⟨ib,rfl⟩:=ZbH ho
 clear ho
 replace G:=G.turn 5 V (r':=RS.hp (stH (.pointer (some ⟨sb,0,none⟩)) n sd.wait)) (fun _ _ _ _ h=>h)
 replace G:=G.turn 6 V (r':=RS.hp (Ze0 n sd.inn (.pointer (some ⟨ib,0,none⟩)))) (fun _ _ _ _ h=>h)
 obtain ⟨F,G⟩:=G.nM [1,0] [7,6,5,4,3,2,0]
 refine Ze G (qf (oH [.int .i64 0,.slice none 0 0] 101) trivial qz qZ) J [4,1,0] [101,7,6,5,4,3,2,0] (fun _=>rfl) (fun _=>rfl) fun τ a w F G=>?_
 try dsimp only [RS.sub,SF.sub,CF.sub,csub,Anc.sub,List.map,zCF,Zk,Zex,Zg6] at G
 generalize τ 4=v4 at G
 refine Za (Ya (Zb G (qR rr (qf (o_nilCheck 2 .is (by rfl)) r1 r1 (qf (oF 5 2 .adr) r1 r1 (qa 2 r1 r1 (qp r1 (qf (o_nilCheck 2 .is (by rfl)) r1 r1 (qf (oF 5 2 .adr) r1 r1 (qf (ZaG 2 .adr .t one_int kr kr) r2 r1 qZ)))))))) J [4,1,0] [101,7,6,5,4,3,2,0] V V fun a w F G=>?_))
 rw [ZlO ow] at G
 refine Za (Ya (Zp G (qR rr (qf (o_nilCheck 2 .is (by rfl)) r1 r1 (qf (oF 1 2 .adr) r1 r1 (qa 2 r1 r1 (qR rr (qR rr (qf (o_nilCheck 2 .is (by rfl)) r1 r1 (qf (oF 2 2 .adr) r1 r1 (qa 2 r1 r1 (qR rr (qR rr (qf (o_nilCheck 2 .is (by rfl)) r1 r1 (qf (oF 5 2 .adr) r1 r1 (qa 2 r1 r1 (qR rr (qf (o_nilCheck 2 .is (by rfl)) r1 r1 (qf (oF 5 2 .adr) r1 r1 (qa 2 r1 r1 (qf (o_indexAddr_row (sz:=1) 3 (.mk YbE kr) .is .t ow ow (by rfl)) r2 r1 (qf (Zt (R:=Zex) (sz:=1) (v:=(sd.ck+1)) 3 .t (by intro x;rfl) ow .t V one_int kr) r2 r1 (qf (o_indexAddr_row (sz:=1) 4 (.mk YbE kr) .is .t ow ow (by rfl)) r2 r1 (qf (Zt (R:=Zex) (sz:=1) (v:=(sd.ck+1)) 4 .t (by intro x;rfl) ow .t V one_int kr) r2 r1 qZ)))))))))))))))))))))) J [4,1,0] [101,7,6,5,4,3,2,0] V V fun a w F G=>?_))
 try dsimp only [List.map,Zh,xL,xM,Nat.reduceAdd,xD,xE,xT,xU,xC,xN,zCF,ldSF,Zk,Zex,Zg6] at G
 try simp only [Yb] at G
 refine Za (Ya (rZ G (qR rr (qf (o_nilCheck 2 .is (by rfl)) r1 r1 (qf (oF 3 2 .adr) r1 r1 (qa 2 r1 r1 (qR rr (qf (o_callG1 5 (Zkw sb n sd.wait x ⟨by omega,by omega⟩ ow) func88 V kr (Args.two .t .t)) r2 r1 qZ)))))) J [4,1,0] [101,7,6,5,4,3,2,0] fun G=>Ya ?_))
 refine rZ G (qR rr (qf (o_nilCheck 2 .is (by rfl)) r1 r1 (qf (oF 4 2 .adr) r1 r1 (qa 2 r1 r1 (qR rr (qf (o_callG1 6 (Ziv ib n sd.inn x true) func25 V kr (Args.three .t .t .cb)) r2 r1 qZ)))))) J [4,1,0] [101,7,6,5,4,3,2,0] fun G=>Ya ?_
 refine rZ G (qR rr (qR rr (qf (o_nilCheck 2 .is (by rfl)) r1 r1 (qf (oF 0 2 .adr) r1 r1 (qa 2 r1 r1 (qR rr (qf (Zb5 .t (hw x ⟨hx1,hx2⟩) hf hb hnn (Args.one .t)) r2 qz (qf (oB [(0,.tmp 44),(1,.tmp 50)] [.int .i64 0,.slice none 0 0] [(0,1),(1,1)] (.one V .t one_int kr (.one V .t one_sl kr .nil))) r2 qz (qs 2 101 r2 r1 qZ))))))))) J [4] [101,7,6,5,4,3,2,0] fun G=>Yl ?_
 have G:=G.fresh 1 rfl
 obtain ⟨F,G⟩:=G.push 1 7 V V V kr
 obtain ⟨F,G⟩:=G.push 1 6 V V V kr
 obtain ⟨F,G⟩:=G.push 1 5 V V V kr
 obtain ⟨F,G⟩:=G.push 1 4 V V V kr
 obtain ⟨F,G⟩:=G.push 1 3 V V V kr
 obtain ⟨F,G⟩:=G.push 1 2 V V V kr
 have G:=G.turn 1 V (r':=RS.hp (Zbk (.clos f cps) n (ZaC n sd x) (.pointer (some ⟨b,0,none⟩)))) (fun _ _ _ _ h=>⟨_,_,_,_,_,h⟩)
 refine Zy hG G V (.cl 101 true 2 V V .nil) (.one (.aggU V V)) rfl
theorem ZoW (l:List Int) (hl:l≠[]):FnP prog 90 [.sl Zk l] (.int .i64 (Zg7 l)):=by
 refine FnP.mk func90 V ntmps90 V fun B a w F J hfr G=>?_
 have hxl:=Sat.lenSl G (i:=0) rfl
 have hl0:0<l.length:=YaL.2 hl
 refine Ya (rZ G (qI qZ) J [2,0] [0] fun G=>(Ya (Ya ?_)))
 refine rZ G (qR rr (qu YbA r1 (qf (Zbg .t qi) r1 qz qZ))) J [7,2,0] [0] fun G=>?_
 refine Zc G V (fun hc0=>?_) (fun hc0=>?_)
 ·have:=Yr hc0;omega
 refine Yg (Za (Ya (Zb G (qR rr (qf (o_indexAddr_sl (sz:=1) (.mk YbA kr) (by intro x;rfl) .t qi ow ow) r1 qz (qf (oR false 1 .t) r1 qz (qO rr qZ)))) J [3,2,0] [0] V V fun a w F G=>?_)))
 try simp only [Yb] at G
 try rw [show (0:Int).toNat=0 from rfl] at G
 refine Za (Ya (Ya (rZ G (qI qZ) J [4,3,2,0] [0] fun G=>Yk ?_)))
 replace G:=G.ent (i:=3) (s':=.pv (.int .i64 (Zg7 (l.take 1)))) V (.int (ZmS hl))
 replace G:=G.ent (i:=4) (s':=.pv (.int .i64 ((1:Nat):Int))) V (.int V)
 refine Zl (σ:=Nat) [0,2] [0] (fun s=>[(3,.pv (.int .i64 (Zg7 (l.take s)))),(4,.pv (.int .i64 (s:Int)))]) (fun s=>[]) (fun s=>1≤s∧s≤l.length) (fun s=>l.length - s) (1) G ⟨rfl,rfl,rfl,rfl,tv⟩ ⟨rfl,tv⟩ ⟨YT _,hl0⟩ ?_
 clear G;intro i a w F hC G
 try dsimp only at hC
 obtain ⟨F,G⟩:=G.nM [4,3,2,0] [0]
 try dsimp only at G
 obtain ⟨hi1,hi2⟩:=hC
 refine Ya (Ya (rZ G (qR rr (qR rr (qu YbA r1 (qL r2)))) J [15,4,3,2,0] [0] fun G=>?_))
 refine Zc G V (fun hc1=>?_) (fun hc1=>?_)
 ·have hil:i<l.length:=by have:=Yr hc1;omega
  refine Yg (Za (Ya (Yk (Zb G (qR rr (qR rr (qR rr (qy 1 YbA r2 (qf (oR false 1 .t) r1 qz (qf (o_min .t .t) r2 qz (qO rr qZ))))))) J [4,3,2,0] [0] V V fun a w F G=>?_))))
  try simp only [Yb] at G
  refine Zi (Za (rZ G (qR rr (qp r1 (qO rr qZ))) J [4,3,2,0] [0] fun G=>?_))
  replace G:=G.ent (i:=3) (s':=.pv (.int .i64 (Zg7 (l.take (i+1))))) V (.int (Zk9 hi1 hil))
  replace G:=G.ent (i:=4) (s':=.pv (.int .i64 ((i+1:Nat):Int))) V (.int (Zf ow))
  obtain ⟨F,G⟩:=G.nM [2,0,4,3] [0]
  exact ⟨(i+1),F,⟨by omega,by omega⟩,G,by omega⟩
 have hil:i=l.length:=by have:=Yag hc1;omega
 refine YI (Zm (Zm (Zu (Za (Ya (rZ G (qR rr (qO rr qZ)) J [2] [0] fun G=>Yl ?_))))))
 refine Zz hfr G V V V (.int (by rw [hil,Yac]))
theorem Zoy (b:Nat) (cps:List PV) (f:FuncId) (n:Nat) (sd:ZaH) (x:Int) (hx:x ∈ sd.wait) (hrng:∀ u ∈ sd.wait,0≤u∧u<(n:Int)) (hn:n≤4096) (hlw:sd.wh.length=n) (hll:sd.lo.length=n) (hlo:sd.out.length=n) (hwl:sd.wait.length≤n):FnG prog 67 1 [.is (.pointer (some ⟨b,0,none⟩)),.int .i64 x] [Zbk (.clos f cps) n sd (.pointer (some ⟨b,0,none⟩))] (.tup []) (fun _=>[Zbk (.clos f cps) n (leaveD n sd x) (.pointer (some ⟨b,0,none⟩))]):=by
 refine FnG.mk func67 V ntmps67 V kr fun B F0 a w F J hG G=>?_
 obtain ⟨hx1,hx2⟩:=hrng x hx
 refine Ya (Ya ?_)
 obtain ⟨wv,G⟩:=G.open_ex 1 rfl
 obtain ⟨lv,G⟩:=G.open_ex 1 rfl
 obtain ⟨sv,G⟩:=G.open_ex 1 rfl
 obtain ⟨iv,G⟩:=G.open_ex 1 rfl
 obtain ⟨ov,G⟩:=G.open_ex 1 rfl
 obtain ⟨F,G⟩:=G.peel 1 2 V rfl
 obtain ⟨F,G⟩:=G.peel 1 3 V rfl
 obtain ⟨F,G⟩:=G.peel 1 4 V rfl
 obtain ⟨F,G⟩:=G.peel 1 5 V rfl
 obtain ⟨F,G⟩:=G.peel 1 6 V rfl
 obtain ⟨F,G⟩:=G.peel 1 7 V rfl
 replace G:=G.turn 5 V (r':=.ob (.val sv) (fun v=>stH v n sd.wait)) (fun _ _ _ _ h=>h)
 obtain ⟨_,_,_,ho⟩:=G.obGet 5 rfl
 obtain ⟨sb,rfl⟩:=ZcS ho
 clear ho
 replace G:=G.turn 6 V (r':=.ob (.val iv) (Ze0 n sd.inn)) (fun _ _ _ _ h=>h)
 obtain ⟨_,_,_,ho⟩:=G.obGet 6 rfl
 obtain ⟨ib,rfl⟩:=ZbH ho
 clear ho
 replace G:=G.turn 5 V (r':=RS.hp (stH (.pointer (some ⟨sb,0,none⟩)) n sd.wait)) (fun _ _ _ _ h=>h)
 replace G:=G.turn 6 V (r':=RS.hp (Ze0 n sd.inn (.pointer (some ⟨ib,0,none⟩)))) (fun _ _ _ _ h=>h)
 obtain ⟨F,G⟩:=G.nM [1,0] [7,6,5,4,3,2,0]
 refine Zp G (qR rr (qf (o_nilCheck 2 .is (by rfl)) r1 r1 (qf (oF 2 2 .adr) r1 r1 (qa 2 r1 r1 (qR rr (qf (o_indexAddr_row (sz:=1) 4 (.mk YbE kr) .is .t ow ow (by rfl)) r2 r1 (qf (Zg (ag:=false) (sz':=1) (sz:=1) 4 .t (by intro x;rfl) ow kr kr kr) r1 r1 (qR rr (qf (o_nilCheck 2 .is (by rfl)) r1 r1 (qf (oF 1 2 .adr) r1 r1 (qa 2 r1 r1 (qR rr (qf (o_indexAddr_row (sz:=1) 3 (.mk YbE kr) .is .t ow ow (by rfl)) r2 r1 (qf (Zg (ag:=false) (sz':=1) (sz:=1) 3 .t (by intro x;rfl) ow kr kr kr) r1 r1 (qf (o_neq .t .t) r2 qz qZ))))))))))))))) J [24,1,0] [7,6,5,4,3,2,0] V V fun a w F G=>?_
 try dsimp only [List.map,xD,xE,xT,xU,ldSF,Zk,Zex,Zg6] at G
 try simp only [Yb] at G
 refine Za (Zc G V (fun hc0=>?_) (fun hc0=>?_))
 ·have hg:leaveD n sd x=sd:=by unfold leaveD;rw [Ye];rw [Zax hx1,Zax hx1];simpa using hc0
  refine Yl (Zw ?_)
  have G:=G.fresh 1 rfl
  obtain ⟨F,G⟩:=G.push 1 7 V V V kr
  obtain ⟨F,G⟩:=G.push 1 6 V V V kr
  obtain ⟨F,G⟩:=G.push 1 5 V V V kr
  obtain ⟨F,G⟩:=G.push 1 4 V V V kr
  obtain ⟨F,G⟩:=G.push 1 3 V V V kr
  obtain ⟨F,G⟩:=G.push 1 2 V V V kr
  have G:=G.turn 1 V (r':=RS.hp (Zbk (.clos f cps) n sd (.pointer (some ⟨b,0,none⟩)))) (fun _ _ _ _ h=>⟨_,_,_,_,_,h⟩)
  rw [hg]
  refine Zy hG G V .nil .none rfl
 have hg:leaveD n sd x=ZkO n sd x (Zg7 (partL sd.wait x)):=by unfold leaveD;rw [Yf];rw [Zax hx1,Zax hx1];simpa using hc0
 refine Yg (Za (Ya (rZ G (qC qZ) J [4,1,0] [7,6,5,4,3,2,0] fun G=>(Ya (Yk ?_)))))
 replace G:=G.fresh 50 rfl
 replace G:=G.turn 50 V (Z1 (T:=3) (sz:=1) (R:=Zk))
 replace G:=G.turn 5 V (r':=RS.hp (stH (.pointer (some ⟨sb,0,none⟩)) n (sd.wait.take (sd.wait.length - 0)))) (by rw [Ybl,Yac];exact fun _ _ _ _ h=>h)
 refine Zl (σ:=Nat×Value×List Int) [0,1] [0,2,3,4,7] (fun s=>[(4,.pv (.is s.2.1))]) (fun s=>[(5,RS.hp (stH (.pointer (some ⟨sb,0,none⟩)) n (sd.wait.take (sd.wait.length - s.1)))),(6,RS.hp (Ze0 n (innL n s.2.2 sd.inn) (.pointer (some ⟨ib,0,none⟩)))),(50,.ob (.val s.2.1) (Zo 3 1 Zk s.2.2))]) (fun s=>s.1<sd.wait.length∧s.2.2=sd.wait.reverse.take s.1∧x ∉ s.2.2) (fun s=>sd.wait.length - s.1) ((0),(.slice none 0 0),([])) G ⟨rfl,rfl,rfl,tv⟩ ⟨rfl,rfl,rfl,rfl,rfl,rfl,rfl,rfl,tv⟩ ⟨Ybk hx,rfl,by simp⟩ ?_
 clear G;intro s a w F hC G
 obtain ⟨k,v4,out⟩:=s
 try dsimp only at hC
 obtain ⟨F,G⟩:=G.nM [4,1,0] [50,7,6,5,4,3,2,0]
 try dsimp only at G
 obtain ⟨hk,hq,hxo⟩:=hC
 have hol:out.length≤k:=by rw [hq,Ym];omega
 rw [(Zh5 hk).2] at G
 have hyr:=hrng _ (nth_mem (show sd.wait.length - (k+1)<sd.wait.length by omega))
 refine Yk (Ya (rZ G (qR rr (qf (o_nilCheck 2 .is (by rfl)) r1 r1 (qf (oF 3 2 .adr) r1 r1 (qa 2 r1 r1 (qf (o_callG1 5 (Zok sb n (sd.wait.take (sd.wait.length - (k+1))) (Nn sd.wait (sd.wait.length - (k+1))) (by rw [Ym];omega)) func89 V kr (Args.one .t)) r1 r1 (qR rr (qf (o_extract .t V) r1 qz (qf (o_extract .t V) r1 qz (qO rr (qO rr qZ)))))))))) J [6,5,4,1,0] [50,7,6,5,4,3,2,0] fun G=>(Ya (Ya ?_))))
 refine rZ G (qR rr (qf (o_not .t) r1 qz qZ)) J [34,5,4,1,0] [50,7,6,5,4,3,2,0] fun G=>?_
 refine Zc G V (fun hc1=>?_) (fun hc1=>?_)
 ·simp at hc1
 refine Yg (Za (Ya (Zb G (qR rr (qf (o_nilCheck 2 .is (by rfl)) r1 r1 (qf (oF 4 2 .adr) r1 r1 (qa 2 r1 r1 (qR rr (qf (o_callG1 6 (Ziv ib n (innL n out sd.inn) (Nn sd.wait (sd.wait.length - (k+1))) false) func25 V kr (Args.three .t .t .cb)) r2 r1 qZ)))))) J [5,4,1,0] [50,7,6,5,4,3,2,0] V V fun a w F G=>?_)))
 rw [ZlF] at G
 refine Za (Ya (Ze G (qR rr (qR rr (qf (o_buildSliceE (sz:=1) (zs:=[.int .i64 0]) (r:=[(0,.tmp 42)]) (l:=[_]) YbA kr kr kr kr V V (.one V .t one_int kr .nil) V) r1 qz (qf (ZB (sz:=1) (bs:=8) 50 (.mk' YbA kr kr) (by intro x;rfl) .is (.arr (l':=[(Nn sd.wait (sd.wait.length - (k+1)))]) .t) (by simp only [Yc,Yx,YS];omega) (by decide)) ⟨rfl,rfl,tv⟩ ⟨rfl,tv⟩ (qO rr qZ))))) J [5,4,1,0] [50,7,6,5,4,3,2,0] (fun _=>rfl) (fun _=>rfl) fun τ a w F G=>?_))
 try dsimp only [RS.sub,SF.sub,CF.sub,csub,Anc.sub,List.map,Zh,xL,xM,Nat.reduceAdd,xD,xE,xT,xU,xC,xN,zCF,Zk,Zex,Zg6] at G
 generalize τ 44=v44 at G
 refine Za (Ya (rZ G (qR rr (qR rr (qf (o_eql .t .t) r2 qz qZ))) J [47,4,1,0] [50,7,6,5,4,3,2,0] fun G=>?_))
 refine Zc G V (fun hc2=>?_) (fun hc2=>?_)
 ·have hyx:(Nn sd.wait (sd.wait.length - (k+1)))=x:=by simpa using hc2
  obtain ⟨hp1,hp2⟩:=ZnQ hk (by rw [← hq];exact hxo) hyx
  rw [hyx] at G
  subst hq
  rw [hp1,hp2] at G
  have hpl:(partL sd.wait x).length≤4096:=by rw [← hp1,Yc,Ym,List.length_reverse,Yp];omega
  refine YI (Zoc (by decide) ?_)
  refine Zm (Zu (Za (Ya ?_)))
  obtain ⟨F,G⟩:=G.give 50 4 V rfl
  obtain ⟨F,G⟩:=G.nM [47,4,1,0] [7,6,5,4,3,2,0]
  refine rZ G (qR rr (qf (oP (ZoW (partL sd.wait x) (Ze8 _ _)) func90 (Args.one .t)) r1 qz (qO rr qZ))) J [7,4,0] [7,6,5,4,3,2,0] fun G=>Ya ?_
  refine rZ G (qR rr (qu YbA r1 (qJ qZ))) J [52,51,50,7,0] [7,6,5,4,3,2,0] fun G=>Yk ?_
  refine Zl (σ:=(Nat)) [0,7,50,51] [0,2,3,4,5,6] (fun s=>[(52,.pv (.int .i64 (s:Int)))]) (fun s=>[(7,.ob (.val ov) (Zo 3 1 Zk (outL ((partL sd.wait x).take s) (Zg7 (partL sd.wait x)) sd.out)))]) (fun s=>s≤(partL sd.wait x).length∧(True)) (fun s=>(partL sd.wait x).length - s) (0) G ⟨rfl,rfl,rfl,rfl,rfl,tv⟩ ⟨rfl,rfl,rfl,rfl,rfl,rfl,rfl,tv⟩ ⟨YA _,tv⟩ ?_
  clear G;intro i a w F hC G
  try dsimp only at hC
  obtain ⟨F,G⟩:=G.nM [52,51,50,7,0] [7,6,5,4,3,2,0]
  try dsimp only at G
  obtain ⟨hi,hq⟩:=hC
  refine Ya (rZ G (qL r2) J [53,52,51,50,7,0] [7,6,5,4,3,2,0] fun G=>Ya ?_)
  refine Zc G V (fun hc3=>?_) (fun hc3=>?_)
  ·have hil:i<(partL sd.wait x).length:=by simp at hc3;omega
   have hyr2:=hrng _ (ZmE hx (nth_mem hil))
   have hol2:(outL ((partL sd.wait x).take i) (Zg7 (partL sd.wait x)) sd.out).length=n:=by rw [ZfR];exact hlo
   refine Yg (Za (Ya (Yk (Ya (Zb G (qy 1 YbA r2 (qf (oR false 1 .t) r1 qz (qO rr qZ))) J [52,51,50,9,7,0] [7,6,5,4,3,2,0] V V fun a w F G=>?_)))))
   try simp only [Yb] at G
   refine Za (Zb G (qR rr (qf (o_nilCheck 2 .is (by rfl)) r1 r1 (qf (oF 6 2 .adr) r1 r1 (qa 2 r1 r1 (qR rr (qR rr (qf (o_indexAddr_row (sz:=1) 7 (.mk YbA kr) .is .t ow ow (by rfl)) r2 r1 (qf (Zt (R:=Zk) (sz:=1) (v:=(Zg7 (partL sd.wait x))) 7 .t (by intro x;rfl) ow .t V one_int kr) r2 r1 qZ)))))))) J [52,51,50,7,0] [7,6,5,4,3,2,0] V V fun a w F G=>?_)
   try simp only [Yb] at G
   refine Zi (Za (rZ G (qp r1 (qR rr qZ)) J [52,51,50,7,0] [7,6,5,4,3,2,0] fun G=>?_))
   rw [ZkW hil] at G
   replace G:=G.ent (i:=52) (s':=.pv (.int .i64 ((i+1:Nat):Int))) V (.int (Zf ow))
   obtain ⟨F,G⟩:=G.nM [51,50,7,0,52] [6,5,4,3,2,0,7]
   exact ⟨(i+1),F,⟨by omega,tv⟩,G,by omega⟩
  have hil:i=(partL sd.wait x).length:=by simp at hc3;omega
  refine YI (Zm (Zm (Zu ?_)))
  rw [hil,Yac] at G
  have G:=G.fresh 1 rfl
  obtain ⟨F,G⟩:=G.push 1 7 V V V kr
  obtain ⟨F,G⟩:=G.push 1 6 V V V kr
  obtain ⟨F,G⟩:=G.push 1 5 V V V kr
  obtain ⟨F,G⟩:=G.push 1 4 V V V kr
  obtain ⟨F,G⟩:=G.push 1 3 V V V kr
  obtain ⟨F,G⟩:=G.push 1 2 V V V kr
  have G:=G.turn 1 V (r':=RS.hp (Zbk (.clos f cps) n (ZkO n sd x (Zg7 (partL sd.wait x))) (.pointer (some ⟨b,0,none⟩)))) (fun _ _ _ _ h=>⟨_,_,_,_,_,h⟩)
  rw [hg]
  refine Zy hG G V .nil .none rfl
 have hyx:¬ (Nn sd.wait (sd.wait.length - (k+1)))=x:=by simpa using hc2
 refine Yg (Zi (Za ?_))
 have hno:x ∉ out ++ [(Nn sd.wait (sd.wait.length - (k+1)))]:=by rw [Yu,Yd];exact fun h9=>h9.elim hxo fun h8=>hyx h8.symm
 have hq2:out ++ [(Nn sd.wait (sd.wait.length - (k+1)))] = sd.wait.reverse.take (k+1):=by rw [hq];exact (Zh5 hk).1
 obtain ⟨F,G⟩:=G.nM [1,0,4] [7,4,3,2,0,50,6,5]
 exact ⟨((k+1),_,_),F,⟨ZkT hx (by rw [← hq2];exact hno),hq2,hno⟩,G,by omega⟩
end Go.Proofs.YtlaaiihdhockcaaGreatDoor
