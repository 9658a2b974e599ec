import Derived.Test.YtldmkbhgdbafhaaGreatL24
import Derived.Test.YtldmkbhgdbafhaaGreatL32
namespace Go.Proofs.YtldmkbhgdbafhaaGreat
open Go.RowKit
set_option linter.unusedSimpArgs false
set_option linter.unusedVariables false
set_option maxRecDepth 100000
set_option maxHeartbeats 64000000
theorem gC (w:World) (m:Int) (h:0<=m/\m<=3):Calls Tryz.prog 56 #[I m] w (RoP w (.bool (psM m))):=by
 have a:=bZ (ad.refl [] w);rcases(by omega:m=0\/m=1\/m=2\/m=3) with rfl | rfl | rfl | rfl
 all_goals
  go_enter Tryz.func56,Tryz.ntmps56;go_wp2_with fail;go_ret;exact⟨rfl,a⟩
theorem rG (w:World) (m:Int) (h:0<=m/\m<=3):Calls Tryz.prog 57 #[I m] w (RoP w (I (ngM m))):=by
 have a:=bZ (ad.refl [] w);have b:∀W,Sem.run Tryz.prog (Instr.index 184 (.agg #[I 1,I 0,I 3,I 2]) (I 0)) W=.ok (I 1) W:=fun W=>by kernel_rfl
 have c:∀W,Sem.run Tryz.prog (Instr.index 184 (.agg #[I 1,I 0,I 3,I 2]) (I 1)) W=.ok (I 0) W:=fun W=>by kernel_rfl
 have d:∀W,Sem.run Tryz.prog (Instr.index 184 (.agg #[I 1,I 0,I 3,I 2]) (I 2)) W=.ok (I 3) W:=fun W=>by kernel_rfl
 have e:∀W,Sem.run Tryz.prog (Instr.index 184 (.agg #[I 1,I 0,I 3,I 2]) (I 3)) W=.ok (I 2) W:=fun W=>by kernel_rfl
 rcases(by omega:m=0\/m=1\/m=2\/m=3) with rfl | rfl | rfl | rfl
 all_goals
  go_enter Tryz.func57,Tryz.ntmps57;go_wp2_with fail;go_ret;exact⟨rfl,a⟩
theorem xC (w:World) (m:Int) (h:0<=m/\m<=3):Calls Tryz.prog 63 #[I m] w (RoP w (.bool (wkM m))):=by
 have a:=bZ (ad.refl [] w);rcases(by omega:m=0\/m=1\/m=2\/m=3) with rfl | rfl | rfl | rfl
 all_goals
  go_enter Tryz.func63,Tryz.ntmps63;go_wp2_with fail;go_ret;exact⟨rfl,a⟩
theorem uX (w:World) (n:Int):Calls Tryz.prog 183 #[I n] w (RoP w (I (ai n 0))):=by
 have b:=bZ (ad.refl [] w);by_cases a:n<0
 ·rw[show ai n 0= -1 by unfold ai;rw[if_pos a]];go_enter Tryz.func183,Tryz.ntmps183;go_wp2_with fail;go_ret;exact⟨rfl,b⟩
 by_cases c:0<n
 ·rw[show ai n 0=1 by unfold ai;rw[if_neg a,if_pos c]];go_enter Tryz.func183,Tryz.ntmps183;go_wp2_with fail;go_ret;exact⟨rfl,b⟩
 rw[show ai n 0=0 by unfold ai;rw[if_neg a,if_neg c]];go_enter Tryz.func183,Tryz.ntmps183;go_wp2_with fail;go_ret;exact⟨rfl,b⟩
theorem nu (w:World) (o:Int) (h:10<=o/\o<=15):Calls Tryz.prog 135 #[I o] w (RoP w (I (jt o))):=by
 have a:=bZ (ad.refl [] w);rcases(by omega:o=10\/o=11\/o=12\/o=13\/o=14\/o=15) with rfl | rfl | rfl | rfl | rfl | rfl
 all_goals
  go_enter Tryz.func135,Tryz.ntmps135;go_wp2_with fail;go_ret;exact⟨rfl,a⟩
theorem ni (w:World) (o:Int) (h:10<=o/\o<=15):Calls Tryz.prog 180 #[I o] w (RoP w (I (gw o))):=by
 have a:=bZ (ad.refl [] w);rcases(by omega:o=10\/o=11\/o=12\/o=13\/o=14\/o=15) with rfl | rfl | rfl | rfl | rfl | rfl
 all_goals
  go_enter Tryz.func180,Tryz.ntmps180;go_wp2_with fail;go_ret;exact⟨rfl,a⟩
theorem jo (w:World) (o c:Int) (h:10<=o/\o<=15):Calls Tryz.prog 179 #[I o,I c] w (RoP w (.bool (be o c))):=by
 have d:=bZ (ad.refl [] w);obtain⟨b,a⟩:∃b,b=be o c:=⟨_,rfl⟩;rw[<-a];rcases(by omega:o=10\/o=11\/o=12\/o=13\/o=14\/o=15) with rfl | rfl | rfl | rfl | rfl | rfl
 all_goals
  replace a:=bZ a;go_enter Tryz.func179,Tryz.ntmps179;go_wp2_with fail;go_ret;exact⟨by rw[a.o];first | rfl | (congr 2;simp[be,bne];rfl),d⟩
theorem gE (w:World) (b:Bool):Calls Tryz.prog 177 #[.bool b] w (RoP w (.agg #[.bool true,.bool b,I 0,I 0,I 0,I 0,.slice none 0 0,I 0,I 0,.bool false,.string ⟨#[]⟩])):=by
 have c:=Blk.new w 189 #[.bool true,.bool b,I 0,I 0,I 0,I 0,.slice none 0 0,I 0,I 0,.bool false,.string ⟨#[]⟩];have d:Z (∀o,ad [] w (w.alloc o)):=bZ (fun o=>(ad.refl [] w).alloc o);have a:∀i,(w.alloc (.cells #[.bool true,.bool b,I 0,I 0,I 0,I 0,.slice none 0 0,I 0,I 0,.bool false,.string ⟨#[]⟩] 189)).cell? (U w.heap.size i)=(#[Value.bool true,.bool b,I 0,I 0,I 0,I 0,.slice none 0 0,I 0,I 0,.bool false,.string ⟨#[]⟩])[i]?:=c.cell;go_enter Tryz.func177,Tryz.ntmps177;go_wp2_with fail;refine bodyPost_ret (v:=.agg #[.bool true,.bool b,I 0,I 0,I 0,I 0,.slice none 0 0,I 0,I 0,.bool false,.string ⟨#[]⟩]) (by simp[results,Tryz.results177,go_sem,a]) rfl ?_;exact⟨rfl,bZ (d.o _)⟩
def tsV (t:Ts):Value:=.agg #[I t.v,I t.kd,.bool t.ng,.string t.s]
theorem qg (w:World) (o:Int) (s:ByteArray) (h:10<=o/\o<=15):Calls Tryz.prog 181 #[I o,.string s] w (RoP w (tsV (db o s))):=by
 have b:Z (∀o,ad [] w (w.alloc o)):=bZ (fun o=>(ad.refl [] w).alloc o);have a:∀k n i,(w.alloc (.cells #[I 0,I k,.bool n,.string s] 40)).cell? (U w.heap.size i)=(#[I 0,I k,.bool n,.string s])[i]?:=fun k n=>(Blk.new w 40 #[I 0,I k,.bool n,.string s]).cell;rcases(by omega:o=10\/o=11\/o=12\/o=13\/o=14\/o=15) with rfl | rfl | rfl | rfl | rfl | rfl
 ·rw[show tsV (db 10 s)=.agg #[I 0,I 0,.bool false,.string s] from rfl];go_enter Tryz.func181,Tryz.ntmps181;go_wp2_with fail;refine bodyPost_ret (v:=.agg #[I 0,I 0,.bool false,.string s]) (by simp[results,Tryz.results181,go_sem,a]) rfl ?_;exact⟨rfl,bZ (b.o _)⟩
 ·rw[show tsV (db 11 s)=.agg #[I 0,I 0,.bool true,.string s] from rfl];go_enter Tryz.func181,Tryz.ntmps181;go_wp2_with fail;refine bodyPost_ret (v:=.agg #[I 0,I 0,.bool true,.string s]) (by simp[results,Tryz.results181,go_sem,a]) rfl ?_;exact⟨rfl,bZ (b.o _)⟩
 ·rw[show tsV (db 12 s)=.agg #[I 0,I 2,.bool false,.string s] from rfl];go_enter Tryz.func181,Tryz.ntmps181;go_wp2_with fail;refine bodyPost_ret (v:=.agg #[I 0,I 2,.bool false,.string s]) (by simp[results,Tryz.results181,go_sem,a]) rfl ?_;exact⟨rfl,bZ (b.o _)⟩
 ·rw[show tsV (db 13 s)=.agg #[I 0,I 3,.bool false,.string s] from rfl];go_enter Tryz.func181,Tryz.ntmps181;go_wp2_with fail;refine bodyPost_ret (v:=.agg #[I 0,I 3,.bool false,.string s]) (by simp[results,Tryz.results181,go_sem,a]) rfl ?_;exact⟨rfl,bZ (b.o _)⟩
 ·rw[show tsV (db 14 s)=.agg #[I 0,I 3,.bool true,.string s] from rfl];go_enter Tryz.func181,Tryz.ntmps181;go_wp2_with fail;refine bodyPost_ret (v:=.agg #[I 0,I 3,.bool true,.string s]) (by simp[results,Tryz.results181,go_sem,a]) rfl ?_;exact⟨rfl,bZ (b.o _)⟩
 rw[show tsV (db 15 s)=.agg #[I 0,I 2,.bool true,.string s] from rfl];go_enter Tryz.func181,Tryz.ntmps181;go_wp2_with fail;refine bodyPost_ret (v:=.agg #[I 0,I 2,.bool true,.string s]) (by simp[results,Tryz.results181,go_sem,a]) rfl ?_;exact⟨rfl,bZ (b.o _)⟩
theorem kh:(Tryz.prog.info? 45).map (fun i=>(i.zero,i.size,i.bytes))=some (some (.agg #[I 0,I 0,I 0,I 0,I 0,.slice none 0 0,I 0,I 0,.bool false,.string ⟨#[]⟩,.slice none 0 0]),11,128):=by kernel_rfl
def GrP {α:Type} (f:α->Tr) (k:Nat) (e:TypeId) (w:World) (l:List α) (E:Ending) (a:World):Prop:=
 ∃A c,E=.returned (.slice A l.length c)/\Z (af f k e (fun g=>w.heap.size<=g) w.heap.size a A c l)/\Z (ad [] w a)
theorem pI {w d:World} {C:Nat->Prop} {f:F} {a A:Option Addr} {b c:Nat} (h:bQ d C f a b A c) (e:ad [] w d):FoP w C f (.returned (fmV f a b A c)) d:=⟨a,b,A,c,rfl,bZ h,bZ e⟩
theorem kt (w:World) (C:Nat->Prop) (b:Bool):Calls Tryz.prog 59 #[.bool b] w (FoP w C (aD b)):=by
 have d:Z (∀o,ad [] w (w.alloc o)):=bZ (fun o=>(ad.refl [] w).alloc o);have a:∀cs i,(w.alloc (.cells cs 45)).cell? (U w.heap.size i)=cs[i]?:=fun cs=>(Blk.new w 45 cs).cell;have c:Z (∀b W,ad [] w W->FoP w C (aD b) (.returned (.agg #[I (if b then 0 else 1),I 0,I 0,I 0,I 0,.slice none 0 0,I 0,I 0,.bool false,.string ⟨#[]⟩,.slice none 0 0])) W):=bZ (fun b W e=>pI pu e);cases b
 ·go_enter Tryz.func59,Tryz.ntmps59;go_wp2_with fail;refine bodyPost_ret (v:=.agg #[I 1,I 0,I 0,I 0,I 0,.slice none 0 0,I 0,I 0,.bool false,.string ⟨#[]⟩,.slice none 0 0]) (by simp[results,Tryz.results59,go_sem,a]) rfl ?_;exact c.o false _ (d.o _)
 go_enter Tryz.func59,Tryz.ntmps59;go_wp2_with fail;refine bodyPost_ret (v:=.agg #[I 0,I 0,I 0,I 0,I 0,.slice none 0 0,I 0,I 0,.bool false,.string ⟨#[]⟩,.slice none 0 0]) (by simp[results,Tryz.results59,go_sem,a]) rfl ?_;exact c.o true _ (d.o _)
theorem tD (w:World) (C:Nat->Prop) (kd:Int) (fs:List F) (A:Option Addr) (c n:Nat) (b:n=fs.length) (D:n<=c/\c<=maxLen) (h:ag F.tr w C A fs):Calls Tryz.prog 60 #[I kd,.slice A n c] w (FoP w C (aN kd fs)):=by
 have u:Z (∀o,ad [] w (w.alloc o)):=bZ (fun o=>(ad.refl [] w).alloc o);have p:∀cs i,(w.alloc (.cells cs 45)).cell? (U w.heap.size i)=cs[i]?:=fun cs=>(Blk.new w 45 cs).cell;by_cases l:n=1
 ·obtain⟨f,rfl⟩:∃f,fs=[f]:=by
   match fs,b with
   | [f],_=>exact⟨f,rfl⟩
   | [],b=>simp at b;omega
   | _::_::_,b=>simp at b;omega
  subst l;rw[show aN kd [f]=f from rfl];obtain⟨g,J,O,rfl,M,N,r,a⟩:=h.get F.tr_len (by decide) (j:=0) rfl;obtain⟨x,y,B,d,rfl,q⟩:=fI.1 r;simp only[Nat.zero_mul,Fg] at a;have K:=a 0 _ rfl;have P:=a 1 _ rfl;have Q:=a 2 _ rfl;have R:=a 3 _ rfl;have S:=a 4 _ rfl;have X:=a 5 _ rfl;have Y:=a 6 _ rfl;have x7:=a 7 _ rfl;have x8:=a 8 _ rfl;have x9:=a 9 _ rfl;have L:=a 10 _ rfl;rw[Fg] at K;have e:Z (∀W,ad [] w W->FoP w C f (.returned (fmV f x y B d)) W):=bZ (fun W k=>pI (q.keep0 k) k);have z:g<w.heap.size+1:=by omega
  unfold fmV fmL amL at e;dsimp only[List.cons_append,List.nil_append] at e;generalize f.am.t.con=con at*;generalize f.am.t.pts.length=m at*;generalize f.am.te.v=tv at*;generalize f.am.te.kd=tk at*;generalize f.am.te.ng=tn at*;generalize f.am.te.s=ts at*;generalize f.am.kd=ak at*;generalize f.am.v=av at*;generalize f.am.o=ao at*;generalize f.args.length=an at*;generalize f.kd=fk at*;clear h q r a b;go_enter Tryz.func60,Tryz.ntmps60;go_wp2_with fail;refine bodyPost_ret (v:=.agg #[I fk,I ak,I av,I ao,I con,.slice x m y,I tv,I tk,.bool tn,.string ts,.slice B an d]) (by simp[results,Tryz.results60,go_sem,p]) rfl ?_;exact e.o _ (u.o _)
 have E:aN kd fs=.nd kd fs:=by
  match fs,b with
  | [],_=>rfl
  | [f],b=>exact absurd b l
  | _::_::_,_=>rfl
 rw[E];have H:((n:Int)==1)=false:=beq_false_of_ne (by omega);have e:Z (∀W,ad [] w W->FoP w C (.nd kd fs) (.returned (fmV (.nd kd fs) none 0 A c)) W):=bZ (fun W k=>pI (qH (by rw[<-b];exact D) (h.keep0 k)) k);unfold fmV fmL amL at e;dsimp only[F.kd,F.am,F.args,am0,ts0,T.con,T.pts,List.length_nil,List.cons_append,List.nil_append] at e;rw[<-b] at e;clear h b l;go_enter Tryz.func60,Tryz.ntmps60;go_wp2_with fail;refine bodyPost_ret (v:=.agg #[I kd,I 0,I 0,I 0,I 0,.slice none 0 0,I 0,I 0,.bool false,.string ⟨#[]⟩,.slice A n c]) (by simp[results,Tryz.results60,go_sem,p]) rfl ?_;exact e.o _ (u.o _)
theorem qF (w:World) (C:Nat->Prop) (kd:Int) (vs:List Int) (A:Option Addr) (c n:Nat) (R:n=vs.length) (hc:n<=c/\c<=maxLen) (hb:n<=100000) (h:ag a8 w C A vs):
 Calls Tryz.prog 61 #[I kd,.slice A n c] w (GrP F.tr 11 45 w (ay kd vs)):=by
  have H:=bZ (ad.refl [] w);have d:=bZ R;replace h:=bZ h;obtain⟨D,p⟩:∃D:Nat->Prop,D=fun g=>w.heap.size<=g:=⟨_,rfl⟩;replace p:=bZ p;have HC:Z (∀W v,Calls Tryz.prog 92 #[.agg #[I kd,I v,I 0,I 0,.slice none 0 0,I 0,I 0,.bool false,.string ⟨#[]⟩]] W fun e W'=>e=.returned (.agg #[I 2,I kd,I v,I 0,I 0,.slice none 0 0,I 0,I 0,.bool false,.string ⟨#[]⟩,.slice none 0 0])/\Z (ad [] W W')):=bZ (fun W v=>by
   go_enter Tryz.func92,Tryz.ntmps92;have d1:∀o cs i,((W.alloc o).alloc (.cells cs 45)).cell? (U (W.heap.size+1) i)=cs[i]?:=fun o cs i=>by simp
   have H:Z (∀o J,ad [] W ((W.alloc o).alloc J)):=bZ (fun o J=>((ad.refl [] W).alloc o).alloc J);go_wp2_with fail;refine bodyPost_ret (v:=.agg #[I 2,I kd,I v,I 0,I 0,.slice none 0 0,I 0,I 0,.bool false,.string ⟨#[]⟩,.slice none 0 0]) (by simp[results,Tryz.results92,go_sem,d1]) rfl ?_;exact⟨rfl,bZ (H.o _ _)⟩)
  clear R;go_enter Tryz.func61,Tryz.ntmps61;go_wp2_with fail;go_loopw [5,10] (fun s5 b wr=>∃(j:Nat) (L:List F) (k:Option Addr) (m:Nat),j<=n/\s5=.slice k j m/\b=I j/\Z (L.length=j)/\Z (L=ay kd (vs.take j))/\Z (af F.tr 11 45 D w.heap.size wr k m L)/\Z (ad [] w wr)) (fun _ b _=>n - (intOf b).toNat)
  case atStart=>exact⟨0,[],none,0,C3 _,rfl,rfl,bZ rfl,bZ (by simp[ay]),bZ af.nil,H⟩
  obtain⟨j,L,k,m,hj,rfl,rfl,a,s,P,r⟩:=hrel;obtain⟨wo,B⟩:∃x,x=wr:=⟨_,rfl⟩;subst B;by_cases u:j<n
  ·obtain⟨v,y⟩:=aI (l:=vs) (j:=j) (by rw[<-d.o];exact u);obtain⟨g,a1,rc,rfl,hC,hg,Q,S⟩:=(h.o.keep0 r.o).get bN (by decide) y;obtain rfl:=cU.1 Q;have x0:=S 0 _ rfl;rw[EU,Fg] at x0;have a0:(j:Int)<(n:Int):=by omega
   have wj:IntKind.i64.wrap ((j:Int)+1)=(j:Int)+1:=C0 _ (by omega);have z:=bZ y;clear Q S y hC;go_wp2_with (first | (go_at_call 92;refine(HC.o _ v).mono ?_;rintro e Y ⟨rfl,T⟩) | (at_builtin;refine aw (f:=F.tr) (W0:=w) (X:=[]) (by rfl) (.tmp 14) (.tmp 19) 43 rfl 128 _ Tryz.underlying43 kh rfl (by decide) (L:=L) (.at ⟨kd,v,0,.c 0,ts0⟩) ((P.o.keep0 T.o).keep0 ((ad.refl [] Y).alloc _)) ((r.o.trans T.o).alloc _) (by rw[a.o];rfl) (V Y.heap.size) 1 (fmL (.at ⟨kd,v,0,.c 0,ts0⟩) none 0 none 0) rfl rfl aF (fI.2 ⟨none,0,none,0,rfl,uF rm⟩) (by rw[a.o];omega) (by rw[a.o];unfold maxLen;omega) ?_;intro N O w1 K M a2;rw[a.o]));go_roundw
   case rel=>exact⟨j+1,L++[.at ⟨kd,v,0,.c 0,ts0⟩],N,O,by omega,by first | rfl | simp,by go_num,bZ (by simp[a.o]),bZ (by rw[Dq,z.o,s.o];simp[ay]),K,M⟩
   case measure=>simp[intOf];omega
  obtain rfl:j=n:=by omega
  have t:Z (L=ay kd vs):=bZ (by rw[s.o,C6 (by rw[<-d.o];exact C9 _)]);have q:=bZ (P.o.mono (E:=fun g=>w.heap.size<=g) (fun g h=>by rw[p.o] at h;exact h));clear s;go_wp2_with fail;go_ret;rw[<-t.o];exact⟨k,m,by rw[a.o];rfl,q,r⟩
theorem zz (xs:List E) (w:World) (g l n c:Nat) (q:n=xs.length) (D:0<n) (b:n<=2) (F:g<w.heap.size)
 (A:∀(j:Nat) x,xs[j]? =some x->∃s r B m c,aC w g (l+j*8) x s r B m c/\∀W,ad [] w W->Calls Tryz.prog 58 #[exV x s r B m c] W (RoP W (.bool x.null))):
 Calls Tryz.prog 91 #[.slice (some (U g l)) n c,.func (.func 58) #[] #[]] w (RoP w (.bool (xs.any E.null))):=by
  have t:∀i:Fin n,∃cs:List Value,cs.length=8/\(∀j u,cs[j]? =some u->w.cell? (U g (l+i*8+j))=some u)/\∀W,ad [] w W->Calls Tryz.prog 58 #[.agg cs.toArray] W (RoP W (.bool (xs[i.1]'(by rw[<-q];exact i.2)).null)):=fun i=>by
   obtain⟨s,r,B,m,d,f,b⟩:=A i.1 _ (CT (by rw[<-q];exact i.2));obtain⟨J,K,L,M,N,O,P,Q⟩:=f;refine⟨xc _ _ _ s r B m d,rfl,fun j u a=>?_,b⟩
   match j,a with
   | 0,a=>simp[xc] at a;subst a;exact J
   | 1,a=>simp[xc] at a;subst a;exact K
   | 2,a=>simp[xc] at a;subst a;exact L
   | 3,a=>simp[xc] at a;subst a;exact M
   | 4,a=>simp[xc] at a;subst a;exact N
   | 5,a=>simp[xc] at a;subst a;exact O
   | 6,a=>simp[xc] at a;subst a;exact P
   | 7,a=>simp[xc] at a;subst a;exact Q
   | j+8,a=>simp[xc] at a
  obtain⟨enc,k⟩:=Classical.axiomOfChoice t
  haveI:Inhabited (Fin n):=⟨⟨0,D⟩⟩
  have p:(List.finRange n).length=n:=List.length_finRange;have:=Tryz.slices_ContainsFunc_f91 8 (fun _=>by kernel_rfl) (fun _=>by kernel_rfl) enc (fun i=>(k i).1) (fun i:Fin n=>(xs[i.1]'(by rw[<-q];exact i.2)).null) 58 #[] (enters_of Tryz.func58 (by kernel_rfl) rfl) g l n c (List.finRange n) w
   (fun W i y=>((k i).2.2 W (ad.of_below y (fun g f b=>absurd f (Nat.not_le.2 b)))).mono (fun e C ⟨f,b⟩=>⟨f,((ad.of_below y (fun g f b=>absurd f (Nat.not_le.2 b))).trans b.o).below⟩))
   (by rw[p];exact C9 _) (by omega) F (fun j a i v z=>by
    rw[p] at a;have e:(List.finRange n)[j]! =⟨j,a⟩:=by
     rw[getElem!_pos _ _ (by rw[p];exact a)];simp
    rw[e] at z;exact(k ⟨j,a⟩).2.1 i v z)
  refine this.mono (fun e C ⟨f,b⟩=>⟨?_,bZ (ad.of_below b (fun g f b=>absurd f (Nat.not_le.2 b)))⟩);rw[f,C6 (by rw[p];exact C9 _)]
  congr 2
  rw[Bool.eq_iff_iff,Fo,Fo];constructor
  ·rintro⟨i,_,h⟩;exact⟨_,List.getElem_mem _,h⟩
  rintro⟨x,H,h⟩;obtain⟨j,a,rfl⟩:=List.getElem_of_mem H;exact⟨⟨j,by rw[q];exact a⟩,List.mem_finRange _,h⟩
theorem xL (w:World) (A:Option Addr) (c:Nat):Calls Tryz.prog 91 #[.slice A 0 c,.func (.func 58) #[] #[]] w (RoP w (.bool false)):=by
 have b:=bZ (ad.refl [] w);have a:Z (∀W,Calls Tryz.prog 131 #[.slice A 0 c,.func (.func 58) #[] #[]] W fun e W'=>e=.returned (I (-1))/\W'=W):=bZ (fun W=>by
  have d:Z (W=W):=bZ rfl;go_enter Tryz.func131,Tryz.ntmps131;go_wp2_with fail;refine wp_loop_rounds 1 ?_;rw[rounds_succ];go_wp2_with fail;go_ret;exact⟨rfl,rfl⟩)
 go_enter Tryz.func91,Tryz.ntmps91;go_wp2_with (go_at_call 131;refine(a.o _).mono ?_;rintro e f ⟨rfl,rfl⟩);go_ret;exact⟨rfl,b⟩
theorem th (C:Nat->Prop):∀(e:E) (w:World) (f b:ByteArray) (A:Option Addr) (n c:Nat),e.ok2=true->aY w C e A n->n<=c->c<=maxLen->
 Calls Tryz.prog 58 #[exV e f b A n c] w (RoP w (.bool e.null)):=by
  refine E.ind (fun e M=>?_);intro w f b A n c z q X T;have y:=q.nlen z;have p:n<=2:=by rw[y];exact fP e
  have r:Z (ad [] w (w.alloc (.cells (exC e f b A n c) 26))):=bZ ((ad.refl [] w).alloc _);have t:Z (∀W,ad [] w W->Calls Tryz.prog 91 #[.slice A n c,.func (.func 58) #[] #[]] W (RoP W (.bool (e.args.any E.null)))):=bZ (fun W u=>by
   by_cases Q:n=0
   ·have:e.args=[]:=Dh (by omega);rw[this,Q];exact xL W A c
   obtain⟨g,H,a1,a0,B,m,d,rfl,S,J,h⟩:=q.get (CT (l:=e.args) (i:=0) (by omega));refine zz e.args W g H n c y (by omega) p (Dr J u.size) (fun j x L=>?_);obtain⟨g',O,f,b,B,m,c,R,S,J,h⟩:=q.get L;cases R;have K:=CW L;exact⟨f,b,B,m,c,(h.keep0 u).cells,fun P v=>M x K P f b B m c (cT z K) (h.ar.keep0 (u.trans v)) h.mc h.cm⟩)
  have a:Z (e.null=(((e.op==1) && (e.lit.k==0)) || e.args.any E.null)):=bZ (qG e);generalize e.args.any E.null=N' at*;generalize e.null=N at*;unfold exV;unfold exC at r;generalize e.op=o at*;generalize e.lit.k=lk at*;generalize e.lit.n=ln at*;generalize e.lit.s=ls at*;generalize e.ix=ix at*;clear M q z y p;cases D:(o==1)<;>cases F:(lk==0)
  all_goals
   rw[D,F] at a;go_enter Tryz.func58,Tryz.ntmps58;go_wp2_with (go_at_call 91;refine(t.o _ r.o).mono ?_;rintro e w5 ⟨rfl,Y⟩;have kk:=bZ (r.o.trans Y.o));go_ret
   first
    | exact⟨by rw[a.o];rfl,kk⟩
    | exact⟨by rw[a.o];rfl,r⟩
theorem qO:(Tryz.prog.info? 3).map (fun i=>(i.zero,i.size,i.bytes))=some (some (I 0),1,8):=by kernel_rfl
theorem ud {x:E} (d:x.ok2=true) {v:Int}:v∈ah x↔(x.op=2/\v=x.ix)\/v∈x.args.flatMap ah:=by
 have c:∀o i:Int,v∈(if o=2 then [i] else [])↔o=2/\v=i:=fun o i=>by split<;>simp[*]
 cases x with
 | z o i u=>simp only[ah,E.args,E.op,E.ix,c,List.flatMap_nil,Dw,or_false]
 | a o i u y=>simp only[ah,E.args,E.op,E.ix,c,List.flatMap_cons,List.flatMap_nil,DA,CX]
 | b o i u y z=>simp only[ah,E.args,E.op,E.ix,c,List.flatMap_cons,List.flatMap_nil,DA,CX]
 | many=>cases d
theorem ue:∀e:E,(ah e).length<=e.size:=by
 have c:∀o i:Int,(if o=2 then [i] else []:List Int).length<=1:=fun o i=>by split<;>simp
 intro e
 induction e with
 | z o i v=>simp only[ah,E.size];exact c o i
 | a o i v x ih=>simp only[ah,E.size,CU];have:=c o i;omega
 | b o i v x y ih1 ih2=>simp only[ah,E.size,CU];have:=c o i;omega
 | many=>simp[ah]
theorem lH (w:World) (xs:List E) (A:Option Addr) (n c:Nat) (hn:n=xs.length) (bb:n<=2) (hc:n<=c/\c<=maxLen)
 (HX:∀(j:Nat) x,xs[j]? =some x->x.ok2=true/\(sc (x.args.flatMap ah)).length<=10000/\∃g K tb nm B m R,A=some (U g K)/\aC w g (K+j*8) x tb nm B m R/\
  ∀W,ad [] w W->Calls Tryz.prog 62 #[.slice B m R] W (eZ W 3 1 (sc (x.args.flatMap ah)).length ((sc (x.args.flatMap ah)).map (Value.int .i64)))):
 Calls Tryz.prog 62 #[.slice A n c] w (eZ w 3 1 (sc (xs.flatMap ah)).length ((sc (xs.flatMap ah)).map (Value.int .i64))):=by
  have k0:=bZ (ad.refl [] w);have a3:=bZ hn;replace HX:=bZ HX;obtain⟨D,hD⟩:∃D:Nat->Prop,D=fun g=>w.heap.size<=g:=⟨_,rfl⟩;replace hD:=bZ hD;clear hn;go_enter Tryz.func62,Tryz.ntmps62;go_wp2_with fail;go_loopw [3,8] (fun s3 s8 wr=>∃(j m:Nat) (L:List Int) (t:Option Addr) (d:Nat),j<=n/\s3=.slice t m d/\s8=I j/\Z (L.length=m)/\m<=j*10001/\Z (∀v,v∈L↔∃x∈xs.take j,v∈ah x)/\Z (af a8 1 3 D w.heap.size wr t d L)/\Z (ad [] w wr)) (fun _ s8 _=>n - (intOf s8).toNat)
  case atStart=>exact⟨0,0,[],none,0,C3 _,rfl,rfl,bZ rfl,C3 _,bZ (by simp),bZ af.nil,k0⟩
  case round=>
   obtain⟨j,m,L,t,d,hj,rfl,rfl,a,hm,hL,hG,hK⟩:=hrel;obtain⟨u,ar⟩:∃x,x=wr:=⟨_,rfl⟩;subst ar;by_cases an:j<n
   ·obtain⟨x,hx⟩:=aI (l:=xs) (j:=j) (by rw[<-a3.o];exact an);obtain⟨a4,aq,g,K,tb,nm,B,p,R,rfl,hX,HC⟩:=HX.o j x hx;have a0:=bZ HC;have X1:=hX.keep hK.o (by simp);unfold aC at X1;obtain⟨x0,x1,x2,x3,x4,x5,x6,x7⟩:=X1;have gl:g<u.heap.size:=block_lt_of_cell x0;have ba:(j:Int)<(n:Int):=by omega
    have wj:IntKind.i64.wrap ((j:Int)+1)=(j:Int)+1:=C0 _ (by omega);have au:=bZ hx;have q:Z (∀v,v∈ah x↔(x.op=2/\v=x.ix)\/v∈sc (x.args.flatMap ah)):=bZ (fun v=>by rw[ud a4,aG]);have F:Z (Blk (u.alloc (.cells (exC x tb nm B p R) 26)) u.heap.size 26 (exC x tb nm B p R)):=bZ (Blk.new u 26 _);have a5:Z (∀y,(Value.slice t m d).ownBlock=some y->w.heap.size<=y/\y<u.heap.size):=bZ (fun y hy=>hG.o.own (by rw[a.o];exact hy));have b8:Z (w.heap.size<=u.heap.size):=bZ hK.o.size;clear hX HC hx a4;unfold exC at F;obtain⟨M,hM⟩:∃M,M=sc (x.args.flatMap ah):=⟨_,rfl⟩;rw[<-hM] at a0 q aq;replace hM:=bZ hM;obtain⟨cL,z⟩:∃cL,cL=ah x:=⟨_,rfl⟩;rw[<-z] at q;replace z:=bZ z;obtain⟨xo,aa⟩:∃o,o=x.op:=⟨_,rfl⟩;obtain⟨Q,a9⟩:∃o,o=x.ix:=⟨_,rfl⟩;rw[<-aa] at x0 q F;rw[<-a9] at x3 q F;generalize x.lit.k=xk at*;generalize x.lit.n=xn at*;generalize x.lit.s=xs_ at*;clear aa a9;obtain⟨W1,i⟩:∃W,W=u.alloc (.cells #[I xo,.string tb,.string nm,I Q,I xk,I xn,.string xs_,.slice B p R] 26):=⟨_,rfl⟩;obtain⟨gt,r⟩:∃g,g=u.heap.size:=⟨_,rfl⟩;rw[<-i,<-r] at F;have k1:Z (ad [] u W1):=bZ (by rw[i];exact(ad.refl [] u).alloc _);have b7:Z (gt=u.heap.size):=bZ r;have ak:Z ((Value.slice t m d).ownBlock≠some gt):=bZ (fun h=>by have:=(a5.o gt h).2;omega);by_cases C:xo=2
    case' pos=>
     have ap:(xo==2)=true:=by simp[C]
     have a6:Z (∀v,(v∈L++[Q]\/v∈M)↔(v∈L\/v∈cL)):=bZ (fun v=>by rw[q.o];simp[C,or_assoc]);clear C;go_upto_region 6 with fail;rw[<-i,<-r];clear i r x0 x1 x2 x3 x4 x5 x6 x7 gl;have y:=F.o.cell;have yl:=F.o.lt;go_upto_region 7 with (at_builtin;refine aw (f:=a8) (W0:=w) (X:=[]) (by rfl) (.tmp 15) (.tmp 18) 108 rfl 8 _ Tryz.underlying108 qO rfl (by decide) (L:=L) Q (((hG.o.keep0 k1.o)).keep0 ((ad.refl [] W1).alloc _)) (((hK.o.trans k1.o)).alloc _) (by rw[a.o];rfl) (V W1.heap.size) 1 [I Q] rfl rfl aF (cU.2 rfl) (by rw[a.o];omega) (by rw[a.o];unfold maxLen;omega) ?_;intro b3 b5 w1 O P N;rw[a.o] at N ⊢);have b1:=bZ (fH (F.o.alloc (.cells #[I Q] 3)) N.o ak.o);have ao:m+1<=j*10001+1:=by omega
     have b:Z ((L++[Q]).length=m+1):=bZ (by rw[CU,a.o];rfl);generalize L++[Q]=L1 at*;generalize m+1=m1 at*;clear y yl N
    case' neg=>
     have ap:(xo==2)=false:=beq_false_of_ne C;obtain⟨L1,a1⟩:∃l,l=L:=⟨_,rfl⟩;have a6:Z (∀v,(v∈L1\/v∈M)↔(v∈L\/v∈cL)):=bZ (fun v=>by rw[q.o,a1];simp[C]);clear C;go_upto_region 7 with fail;rw[<-i,<-r];clear i r x0 x1 x2 x3 x4 x5 x6 x7 gl;have b1:=F;have P:=bZ (hK.o.trans k1.o);have O:=bZ (hG.o.keep0 k1.o);have ao:m<=j*10001+1:=by omega
     have b:=a;rw[<-a1] at O b;generalize W1=w1 at*;generalize t=b3 at*;generalize d=b5 at*;generalize m=m1 at*
    all_goals
     have b9:=b.o;have yc:=b1.o.cell;have yl:=b1.o.lt;go_wp2_with (first | (go_at_call 62;clear yc yl;refine(a0.o _ P.o).mono ?_;intro e w2 T;obtain⟨A2,c2,rfl,m2,n2,o2,k2⟩:=T) | (at_builtin;refine da (f:=a8) (k:=1) (W0:=w) (X:=[]) (by rfl) (.tmp 20) (.tmp 23) 108 rfl 8 _ Tryz.underlying108 qO rfl (by decide) (L:=L1) M (O.o.keep0 k2.o) (P.o.trans k2.o) (by rw[b.o];rfl) A2 M.length c2 rfl (M.map (Value.int .i64)) rfl (by simp) ((dB o2.o).src (s:=1) (by simp) (by decide)) (du.2 rfl) (by rw[b.o];omega) (by rw[b.o];unfold maxLen;omega) ?_;intro b4 b6 w3 ax b2 bc;rw[b.o]));go_roundw
     case rel=>exact⟨j+1,m1+M.length,L1++M,b4,b6,by omega,rfl,by go_num,bZ (by simp[b.o]),by omega,bZ (fun v=>by
      rw[CX,a6.o,hL.o,Dq,au.o];simp only[Option.toList_some,CX,CZ];constructor
      ·rintro(⟨x,h1,T⟩ | h)
       ·exact⟨x,.inl h1,T⟩
       exact⟨_,.inr rfl,by rw[z.o] at h;exact h⟩
      rintro⟨y,h1 | rfl,T⟩
      ·exact .inl ⟨y,h1,T⟩
      exact .inr (by rw[z.o];exact T)),ax,b2⟩
     case measure=>simp[intOf];omega
   obtain rfl:j=n:=by omega
   have hS:Z (Lib.compact (L.mergeSort (fun x y=>decide (x<=y)))=sc (xs.flatMap ah)):=bZ (by
    rw[jw];exact mX (dn L) (fun v=>by
     rw[aG,hL.o,C6 (by rw[<-a3.o];exact C9 _),Ea])
    )
   obtain⟨⟨cs,C,hi⟩,J,a2⟩:=hG.o;obtain rfl:=du.1 hi;rw[a.o] at C J;have ab:=bZ (oR u w.heap.size m d t L a.o (by omega) C);have ac:Z (∀W,W.ownsRow w.heap.size 3 1 (.slice t m d) m ((L.mergeSort (fun x y=>decide (x<=y))).map (Value.int .i64))->Calls Tryz.prog 94 #[.slice t m d] W fun e w'=>e=.returned (.slice t (sc (xs.flatMap ah)).length d)/\Z (w'.ownsRow w.heap.size 3 1 (.slice t (sc (xs.flatMap ah)).length d) (sc (xs.flatMap ah)).length ((sc (xs.flatMap ah)).map (Value.int .i64)))/\Z (∃Y,ad Y W w'/\∀y∈Y,w.heap.size<=y)):=bZ (fun W hW=>by
    have:=jh W w.heap.size m d t _ (by rw[List.length_mergeSort,a.o]) (by omega) hW;rwa [hS.o] at this)
   have am:Z ((sc (xs.flatMap ah)).length<=m):=bZ (by
    rw[<-hS.o];refine Dc (fK _) ?_;rw[List.length_mergeSort,a.o];exact C9 _)
   have H:Z (m<=d/\d<=maxLen):=bZ ⟨J,a2⟩;generalize sc (xs.flatMap ah)=S at*;clear hL hS C hi J a2;go_wp2_with (first | (go_at_call 93;refine ab.o.mono ?_;rintro e w2 ⟨rfl,o2,k2⟩) | (go_at_call 94;refine(ac.o _ o2.o).mono ?_;rintro e w3 ⟨rfl,o3,k3⟩));go_ret;refine⟨t,d,rfl,by have:=am.o;have:=H.o;omega,H.o.2,o3,bZ ?_⟩;obtain⟨Y2,k2,y2⟩:=k2.o;obtain⟨Y3,k3,y3⟩:=k3.o;have av:ad [] w w2:=(hK.o.nil.trans k2).mono (fun y hy=>.inr (y2 y hy));exact(av.nil.trans k3).mono (fun y hy=>.inr (y3 y hy))
theorem pO (C:Nat->Prop):∀(d:Nat) (xs:List E) (w:World) (A:Option Addr) (n c:Nat),d<=12->n=xs.length->n<=2->n<=c->c<=maxLen->(∀x∈xs,x.short d=true)->
 (∀(j:Nat) x,xs[j]? =some x->∃g a o l B m p,A=some (U g a)/\XAt w C g (a+j*8) x o l B m p)->
 Calls Tryz.prog 62 #[.slice A n c] w (eZ w 3 1 (sc (xs.flatMap ah)).length ((sc (xs.flatMap ah)).map (Value.int .i64)))
 | 0,xs,w,A,n,c,_,hn,hn2,h,q,hs,_=>lH w xs A n c hn hn2 ⟨h,q⟩ (fun j x r=>absurd (hs x (CW r)) (by cases x<;>simp[E.short]))
 | d+1,xs,w,A,n,c,hd,hn,hn2,h,q,hs,hX=>lH w xs A n c hn hn2 ⟨h,q⟩ (fun j x r=>by
   have i:=hs x (CW r);have e:=cw i;have v:∀y∈x.args,y.short d=true:=fun y k=>dm i k;obtain⟨g,a,o,l,B,m,p,F,b⟩:=hX j x r;refine⟨e,?_,g,a,o,l,B,m,p,F,b.cells,fun W H=>?_⟩
   ·refine Dc (gu _) ?_;have f:∀y∈x.args,(ah y).length<=4096:=fun y k=>by
     have D:=ue y;have u:=E.size_short (v y k);have J:=E3 (n:=2) (by decide) (show d<=12 by omega);have:(2:Nat)^12=4096:=by decide
     omega
    have t:=fP x
    match hq:x.args,t,f with
    | [],_,_=>simp
    | [y],_,f=>simp;have:=f y (by simp);omega
    | [y,z],_,f=>simp;have:=f y (by simp);have:=f z (by simp);omega
    | _::_::_::_,t,_=>simp at t
   have s:=b.ar.keep0 H;exact pO C d x.args W B m p (by omega) (s.nlen e) (by rw[s.nlen e];exact fP x) b.mc b.cm v (fun j y k=>by
    obtain⟨g,a,o,l,B,m,c,h,q,D,u⟩:=s.get k;exact⟨g,a,o,l,B,m,c,h,u⟩))
end Go.Proofs.YtldmkbhgdbafhaaGreat
